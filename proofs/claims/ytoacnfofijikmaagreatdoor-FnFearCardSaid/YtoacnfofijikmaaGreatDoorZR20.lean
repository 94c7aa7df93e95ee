/- Texts of a proof, laid together: Move. -/
import Derived.Test.YtoacnfofijikmaaGreatDoorZR08
namespace Go.Proofs.YtoacnfofijikmaaGreatDoor
set_option linter.unusedSimpArgs false
set_option linter.unusedVariables false
open Go.RowKit
attribute [local go_sem] cell?_mk frozen?_mk

def moveFine (F : Fld) (xs : List Scarecrow) (i c : Int) : Bool := inB i 0 (xs.length - 1) && F.has c
def moveCode (F : Fld) (xs : List Scarecrow) (i c : Int) : Int := if scCode F xs (moveFine F xs i c) ≠ 0 then scCode F xs (moveFine F xs i c) else if taken F xs c.toNat = true then 4 else 0
def movedAt (xs : List Scarecrow) (j : Nat) (c : Int) : List Scarecrow := match xs[j]? with | some x => xs.set j ⟨c, x.power, 0⟩ | none => xs
def moveRes (F : Fld) (xs : List Scarecrow) (i c : Int) : List Scarecrow := if moveCode F xs i c = 0 then movedAt xs i.toNat c else []
theorem movedAt_len (xs : List Scarecrow) (j : Nat) (c : Int) : (movedAt xs j c).length = xs.length := by
  unfold movedAt
  split <;> simp
set_option maxRecDepth 100000 in
set_option maxHeartbeats 1000000 in
theorem moveIs_any (g h k l : Nat) {t t' t'' t3 : TypeId} (F : Fld) (hF : F.ok) (A : Option Addr) (n : Nat) (xs : List Scarecrow) (hl : xs.length ≤ 1048576) (i c : Int) (w : World) (hb : Blk w g t F.cells) (hi : Blk w h t' #[.int .i64 i]) (hs : Blk w k t'' #[.slice A xs.length n]) (hc : Blk w l t3 #[.int .i64 c]) :
    Calls Tryz.prog 82 #[.pointer (some ⟨h, 0, none⟩), .pointer (some ⟨k, 0, none⟩), .pointer (some ⟨g, 0, none⟩), .pointer (some ⟨l, 0, none⟩)] w fun e w' => e = .returned (.bool (moveFine F xs i c)) ∧ Mem w w' [] := by
  have M := Lib.hid (Mem.start w)
  have HB := Lib.hid hb
  have hi0 := hi.cellv (i := 0) rfl
  have hs0 := hs.cellv (i := 0) rfl
  have hc0 := hc.cellv (i := 0) rfl
  have e1 : IntKind.i64.wrap ((xs.length : Int) - 1) = (xs.length : Int) - 1 := IntWalk.i64_in _ (by omega)
  clear hb hi hs hc
  cases hq : inB i 0 (xs.length - 1) <;>
  · have HQ := Lib.hid hq
    clear hq
    go_enter Tryz.func82, Tryz.ntmps82
    go_wp2_with (first
      | (go_at_call 59; go_must (refine (within_any _ _ _ _).mono ?_); rintro e w_ ⟨rfl, rfl⟩; rw [HQ.out])
      | (go_at_call 47; go_must (refine (has_any g F hF c _ HB.out).mono ?_); rintro e w_ ⟨rfl, rfl⟩)
      )
    go_ret
    exact ⟨ret_bool (by simp [moveFine, HQ.out]), M.out⟩
set_option maxRecDepth 100000 in
set_option maxHeartbeats 2000000 in
theorem impl_MoveScare_any (F : Fld) (hF : F.ok) (A : Option Addr) (n : Nat) (xs : List Scarecrow) (hx : ∀ x ∈ xs, x.ok) (hl : xs.length ≤ 1048576) (hc : xs.length ≤ n) (hn : n ≤ 9223372036854775807) (hA : A = none → n = 0) (i c : Int) (w : World) (hs : Sl w 3 A xs.length (flat Scarecrow.vals xs)) :
    Calls Tryz.prog 32 #[.agg F.cells, .slice A xs.length n, .int .i64 i, .int .i64 c] w (RetRowC w 60 3 (moveRes F xs i c).length (flat Scarecrow.vals (moveRes F xs i c)) (moveCode F xs i c)) := by
  have M := Lib.hid (Mem.start w)
  have HX := Lib.hid hx
  have HS := Lib.hid hs
  have HF := Lib.hid hF
  have S1 := Lib.hid (Fld.size hF.toLen)
  have hm : xs.length ≤ 9223372036854775807 := by omega
  have el : IntKind.i64.wrap ((xs.length : Int) - 1) = (xs.length : Int) - 1 := IntWalk.i64_in _ (by omega)
  clear hx hs hF
  by_cases hd : scCode F xs (moveFine F xs i c) = 0
  · obtain ⟨h1, h2, h3⟩ := scCode_0 hd
    rw [moveFine, Bool.and_eq_true] at h3
    obtain ⟨⟨c0, c1⟩, _⟩ := Fld.has_iff.1 h3.2
    obtain ⟨p0, p1⟩ := inB_iff.1 h3.1
    have HQ := Lib.hid h3.2
    have HD := Lib.hid hd
    have hdd : (scCode F xs (moveFine F xs i c) != 0) = false := by simp [hd]
    obtain ⟨k, rfl⟩ : ∃ k : Nat, c = k := ⟨c.toNat, by omega⟩
    obtain ⟨j, rfl⟩ : ∃ j : Nat, i = j := ⟨i.toNat, by omega⟩
    have hk : k < 100 := by omega
    have hj : j < xs.length := by omega
    have i0 : (0 : Int) ≤ (j : Int) := by omega
    have i1 : (j : Int) < (xs.length : Int) := by omega
    have e1 : IntKind.i16.wrap (k : Int) = k := IntWalk.i16_in _ (by omega)
    have hpl : F.place k = !(F.kind k == 3) := by
      have := h3.2
      simp only [Fld.place, this, Bool.true_and, Int.toNat_natCast]
      rfl
    have hxj : xs[j]? = some xs[j] := List.getElem?_eq_getElem hj
    have HMV := Lib.hid (show movedAt xs j k = xs.set j ⟨k, xs[j].power, 0⟩ by simp [movedAt, hxj])
    have HXJ := Lib.hid hxj
    obtain ⟨b, off, rfl, _⟩ := HS.out.2 (by omega)
    have hln : j * 3 + 3 ≤ (flat Scarecrow.vals xs).length := by rw [flat_len Scarecrow.vl]; omega
    have HL := Lib.hid hln
    clear h1 h2 h3 hd hxj hln
    cases hst : standsAt xs k <;> cases hki : (F.kind k == 3)
    · have HST := Lib.hid hst
      have HPL := Lib.hid (show F.place k = true by rw [hpl, hki]; rfl)
      have HT := Lib.hid (show taken F xs k = false by rw [taken, hst, hki]; rfl)
      clear hst hki hpl
      go_enter Tryz.func32, Tryz.ntmps32
      go_wp2_with (first
        | ((with_reducible refine gate_dst (N := 4) rfl ?_); go_must (refine M.out.ev_new rfl (by first | (go_simp; done) | (go_simp; rfl)) ?_); intro g4 w4 m; simp only [List.cons_append, List.nil_append] at m; have M := Lib.hid m; clear m; try have q1_0 := M.out.cell (j := 0) 1 rfl (by first | assumption | rfl); try have q3_0 := M.out.cell (j := 0) 3 rfl (by first | assumption | rfl); try have q2_0 := M.out.cell (j := 0) 2 rfl (by first | assumption | rfl))
        | ((with_reducible refine gate_dst (N := 5) rfl ?_); go_must (refine M.out.ev_new rfl (by first | (go_simp; done) | (go_simp; rfl)) ?_); intro g5 w5 m; simp only [List.cons_append, List.nil_append] at m; have M := Lib.hid m; clear m; try have q1_0 := M.out.cell (j := 0) 1 rfl (by first | assumption | rfl); try have q3_0 := M.out.cell (j := 0) 3 rfl (by first | assumption | rfl); try have q2_0 := M.out.cell (j := 0) 2 rfl (by first | assumption | rfl))
        | ((with_reducible refine gate_dst (N := 6) rfl ?_); go_must (refine M.out.ev_new rfl (by first | (go_simp; done) | (go_simp; rfl)) ?_); intro g6 w6 m; simp only [List.cons_append, List.nil_append] at m; have M := Lib.hid m; clear m; try have q1_0 := M.out.cell (j := 0) 1 rfl (by first | assumption | rfl); try have q3_0 := M.out.cell (j := 0) 3 rfl (by first | assumption | rfl); try have q2_0 := M.out.cell (j := 0) 2 rfl (by first | assumption | rfl))
        | ((with_reducible refine gate_dst (N := 7) rfl ?_); go_must (refine M.out.ev_new rfl (by first | (go_simp; done) | (go_simp; rfl)) ?_); intro g7 w7 m; simp only [List.cons_append, List.nil_append] at m; have M := Lib.hid m; clear m; try have q1_0 := M.out.cell (j := 0) 1 rfl (by first | assumption | rfl); try have q3_0 := M.out.cell (j := 0) 3 rfl (by first | assumption | rfl); try have q2_0 := M.out.cell (j := 0) 2 rfl (by first | assumption | rfl))
        | ((with_reducible refine gate_dst (N := 12) rfl ?_); go_must (refine M.out.ev_ld 1 _ _ rfl rfl rfl Tryz.underlying31 rfl rfl (by first | assumption | rfl) ?_))
        | ((with_reducible refine gate_dst (N := 20) rfl ?_); go_must (refine M.out.ev_ld 3 _ _ rfl rfl rfl Tryz.underlying2 rfl rfl (by first | assumption | rfl) ?_))
        | ((with_reducible refine gate_dst (N := 28) rfl ?_); go_must (refine M.out.ev_ld 1 _ _ rfl rfl rfl Tryz.underlying31 rfl rfl (by first | assumption | rfl) ?_))
        | ((with_reducible refine gate_dst (N := 31) rfl ?_); go_must (refine M.out.ev_ld 2 _ _ rfl rfl rfl Tryz.underlying2 rfl rfl (by first | assumption | rfl) ?_))
        | ((with_reducible refine gate_dst (N := 32) rfl ?_); go_must (refine M.out.ev_ld 3 _ _ rfl rfl rfl Tryz.underlying2 rfl rfl (by first | assumption | rfl) ?_))
        | ((with_reducible refine gate_dst (N := 34) rfl ?_); go_must (refine M.out.ev_ld 1 _ _ rfl rfl rfl Tryz.underlying31 rfl rfl (by first | assumption | rfl) ?_))
        | ((with_reducible refine gate_dst (N := 35) rfl ?_); go_must (refine M.out.ev_ld 2 _ _ rfl rfl rfl Tryz.underlying2 rfl rfl (by first | assumption | rfl) ?_))
        | (go_at_call 45; go_must (refine (scaresCode_any _ F HF.out _ n xs HX.out hc hn 82 _ (moveFine F xs (j : Int) (k : Int)) _ (M.out.blk 0 rfl) (M.out.sl HS.out) (fun _ _ => by go_simp) (fun _ w1 m1 => moveIs_any _ _ _ _ F HF.out _ n xs hl (j : Int) (k : Int) w1 ((M.out.join m1).blk 0 rfl) ((M.out.join m1).blk 2 rfl) ((M.out.join m1).blk 1 rfl) ((M.out.join m1).blk 3 rfl))).mono ?_); rintro e w_ ⟨rfl, N_⟩; have m := M.out.join N_; clear N_; simp only [List.cons_append, List.nil_append, List.append_nil] at m; have M := Lib.hid m; clear m; have q1 := M.out.cell (j := 0) (v := .int .i64 (k : Int)) 3 rfl rfl; have q2 := M.out.cell (j := 0) 1 rfl rfl)
        | (go_at_call 79; go_must (refine (isPlace_any _ F HF.out _ _ (M.out.blk 0 rfl)).mono ?_); rintro e w_ ⟨rfl, rfl⟩; rw [HPL.out])
        | (go_at_call 80; go_must (refine (stands_any _ n xs HX.out hl _ _ (M.out.sl HS.out)).mono ?_); rintro e w_ ⟨rfl, N_⟩; have m := M.out.join N_; clear N_; simp only [List.cons_append, List.nil_append, List.append_nil] at m; have M := Lib.hid m; clear m; rw [HST.out])
        | (go_at_call 73; go_must (refine (cloneS_any _ n xs hl hc hA _ (M.out.sl HS.out)).mono ?_); rintro e w_ ⟨A_, c_, rfl, hc_, N_⟩; have m := M.out.join N_; clear N_; simp only [List.cons_append, List.nil_append, List.append_nil] at m; have M := Lib.hid m; clear m)
        )
      obtain ⟨g, cap, he, _⟩ := M.out.row_form 4 rfl (by omega)
      obtain ⟨rfl, rfl⟩ : A_ = some ⟨g, 0, none⟩ ∧ c_ = cap := by injection he with e1 _ e2; exact ⟨e1, e2⟩
      clear he
      have c5 := M.out.cell (j := 0) 1 rfl rfl
      have c6 := M.out.cell (j := 0) 2 rfl rfl
      have c7 := M.out.cell (j := 0) 3 rfl rfl
      obtain ⟨b', off', hbo, hr⟩ := (M.out.sl HS.out).2 (by omega)
      obtain ⟨rfl, rfl⟩ : b = b' ∧ off = off' := by injection hbo with hbo; injection hbo with h1 h2; exact ⟨h1, h2⟩
      clear hbo
      have x1 := range_at Scarecrow.vl hr HXJ.out 1 (.int .i16 xs[j].power) rfl
      clear hr
      go_still_tail 11, (by kernel_rfl)
      have M := Lib.hid M.out.drew
      go_wp2_with (first
        | ((with_reducible refine gate_store (x := .tmp 40) rfl ?_); go_must (refine M.out.ev_rput 4 _ _ _ rfl rfl rfl rfl (Scarecrow.vals ⟨k, xs[j].power, 0⟩) rfl HL.out sz60 (Scarecrow.one _) rfl ?_); intro wn m; simp only [List.set_cons_succ, List.set_cons_zero] at m; have M := Lib.hid m; clear m)
        )
      go_ret2
      have m := M.out.only [4] (K := [_]) rfl (by decide)
      rw [flat_set Scarecrow.vl _ _ _ hj] at m
      have hac : moveCode F xs j k = 0 := by simp [moveCode, HD.out, HT.out]
      rw [moveRes, hac, if_pos rfl, Int.toNat_natCast, HMV.out, List.length_set]
      exact ⟨_, _, rfl, by assumption, m⟩
    · have HST := Lib.hid hst
      have HPL := Lib.hid (show F.place k = false by rw [hpl, hki]; rfl)
      have HT := Lib.hid (show taken F xs k = true by rw [taken, hst, hki]; rfl)
      clear hst hki hpl
      go_enter Tryz.func32, Tryz.ntmps32
      go_wp2_with (first
        | ((with_reducible refine gate_dst (N := 4) rfl ?_); go_must (refine M.out.ev_new rfl (by first | (go_simp; done) | (go_simp; rfl)) ?_); intro g4 w4 m; simp only [List.cons_append, List.nil_append] at m; have M := Lib.hid m; clear m; try have q1_0 := M.out.cell (j := 0) 1 rfl (by first | assumption | rfl); try have q3_0 := M.out.cell (j := 0) 3 rfl (by first | assumption | rfl); try have q2_0 := M.out.cell (j := 0) 2 rfl (by first | assumption | rfl))
        | ((with_reducible refine gate_dst (N := 5) rfl ?_); go_must (refine M.out.ev_new rfl (by first | (go_simp; done) | (go_simp; rfl)) ?_); intro g5 w5 m; simp only [List.cons_append, List.nil_append] at m; have M := Lib.hid m; clear m; try have q1_0 := M.out.cell (j := 0) 1 rfl (by first | assumption | rfl); try have q3_0 := M.out.cell (j := 0) 3 rfl (by first | assumption | rfl); try have q2_0 := M.out.cell (j := 0) 2 rfl (by first | assumption | rfl))
        | ((with_reducible refine gate_dst (N := 6) rfl ?_); go_must (refine M.out.ev_new rfl (by first | (go_simp; done) | (go_simp; rfl)) ?_); intro g6 w6 m; simp only [List.cons_append, List.nil_append] at m; have M := Lib.hid m; clear m; try have q1_0 := M.out.cell (j := 0) 1 rfl (by first | assumption | rfl); try have q3_0 := M.out.cell (j := 0) 3 rfl (by first | assumption | rfl); try have q2_0 := M.out.cell (j := 0) 2 rfl (by first | assumption | rfl))
        | ((with_reducible refine gate_dst (N := 7) rfl ?_); go_must (refine M.out.ev_new rfl (by first | (go_simp; done) | (go_simp; rfl)) ?_); intro g7 w7 m; simp only [List.cons_append, List.nil_append] at m; have M := Lib.hid m; clear m; try have q1_0 := M.out.cell (j := 0) 1 rfl (by first | assumption | rfl); try have q3_0 := M.out.cell (j := 0) 3 rfl (by first | assumption | rfl); try have q2_0 := M.out.cell (j := 0) 2 rfl (by first | assumption | rfl))
        | ((with_reducible refine gate_dst (N := 12) rfl ?_); go_must (refine M.out.ev_ld 1 _ _ rfl rfl rfl Tryz.underlying31 rfl rfl (by first | assumption | rfl) ?_))
        | ((with_reducible refine gate_dst (N := 20) rfl ?_); go_must (refine M.out.ev_ld 3 _ _ rfl rfl rfl Tryz.underlying2 rfl rfl (by first | assumption | rfl) ?_))
        | ((with_reducible refine gate_dst (N := 28) rfl ?_); go_must (refine M.out.ev_ld 1 _ _ rfl rfl rfl Tryz.underlying31 rfl rfl (by first | assumption | rfl) ?_))
        | ((with_reducible refine gate_dst (N := 31) rfl ?_); go_must (refine M.out.ev_ld 2 _ _ rfl rfl rfl Tryz.underlying2 rfl rfl (by first | assumption | rfl) ?_))
        | ((with_reducible refine gate_dst (N := 32) rfl ?_); go_must (refine M.out.ev_ld 3 _ _ rfl rfl rfl Tryz.underlying2 rfl rfl (by first | assumption | rfl) ?_))
        | ((with_reducible refine gate_dst (N := 34) rfl ?_); go_must (refine M.out.ev_ld 1 _ _ rfl rfl rfl Tryz.underlying31 rfl rfl (by first | assumption | rfl) ?_))
        | ((with_reducible refine gate_dst (N := 35) rfl ?_); go_must (refine M.out.ev_ld 2 _ _ rfl rfl rfl Tryz.underlying2 rfl rfl (by first | assumption | rfl) ?_))
        | (go_at_call 45; go_must (refine (scaresCode_any _ F HF.out _ n xs HX.out hc hn 82 _ (moveFine F xs (j : Int) (k : Int)) _ (M.out.blk 0 rfl) (M.out.sl HS.out) (fun _ _ => by go_simp) (fun _ w1 m1 => moveIs_any _ _ _ _ F HF.out _ n xs hl (j : Int) (k : Int) w1 ((M.out.join m1).blk 0 rfl) ((M.out.join m1).blk 2 rfl) ((M.out.join m1).blk 1 rfl) ((M.out.join m1).blk 3 rfl))).mono ?_); rintro e w_ ⟨rfl, N_⟩; have m := M.out.join N_; clear N_; simp only [List.cons_append, List.nil_append, List.append_nil] at m; have M := Lib.hid m; clear m; have q1 := M.out.cell (j := 0) (v := .int .i64 (k : Int)) 3 rfl rfl; have q2 := M.out.cell (j := 0) 1 rfl rfl)
        | (go_at_call 79; go_must (refine (isPlace_any _ F HF.out _ _ (M.out.blk 0 rfl)).mono ?_); rintro e w_ ⟨rfl, rfl⟩; rw [HPL.out])
        | (go_at_call 80; go_must (refine (stands_any _ n xs HX.out hl _ _ (M.out.sl HS.out)).mono ?_); rintro e w_ ⟨rfl, N_⟩; have m := M.out.join N_; clear N_; simp only [List.cons_append, List.nil_append, List.append_nil] at m; have M := Lib.hid m; clear m; rw [HST.out])
        )
      go_ret2
      have m := (M.out.take 0).nilrow 60 3
      have hac : moveCode F xs j k = 4 := by simp [moveCode, HD.out, HT.out]
      rw [moveRes, hac]
      exact ⟨none, 0, rfl, Nat.le_refl _, m⟩
    · have HST := Lib.hid hst
      have HPL := Lib.hid (show F.place k = true by rw [hpl, hki]; rfl)
      have HT := Lib.hid (show taken F xs k = true by rw [taken, hst, hki]; rfl)
      clear hst hki hpl
      go_enter Tryz.func32, Tryz.ntmps32
      go_wp2_with (first
        | ((with_reducible refine gate_dst (N := 4) rfl ?_); go_must (refine M.out.ev_new rfl (by first | (go_simp; done) | (go_simp; rfl)) ?_); intro g4 w4 m; simp only [List.cons_append, List.nil_append] at m; have M := Lib.hid m; clear m; try have q1_0 := M.out.cell (j := 0) 1 rfl (by first | assumption | rfl); try have q3_0 := M.out.cell (j := 0) 3 rfl (by first | assumption | rfl); try have q2_0 := M.out.cell (j := 0) 2 rfl (by first | assumption | rfl))
        | ((with_reducible refine gate_dst (N := 5) rfl ?_); go_must (refine M.out.ev_new rfl (by first | (go_simp; done) | (go_simp; rfl)) ?_); intro g5 w5 m; simp only [List.cons_append, List.nil_append] at m; have M := Lib.hid m; clear m; try have q1_0 := M.out.cell (j := 0) 1 rfl (by first | assumption | rfl); try have q3_0 := M.out.cell (j := 0) 3 rfl (by first | assumption | rfl); try have q2_0 := M.out.cell (j := 0) 2 rfl (by first | assumption | rfl))
        | ((with_reducible refine gate_dst (N := 6) rfl ?_); go_must (refine M.out.ev_new rfl (by first | (go_simp; done) | (go_simp; rfl)) ?_); intro g6 w6 m; simp only [List.cons_append, List.nil_append] at m; have M := Lib.hid m; clear m; try have q1_0 := M.out.cell (j := 0) 1 rfl (by first | assumption | rfl); try have q3_0 := M.out.cell (j := 0) 3 rfl (by first | assumption | rfl); try have q2_0 := M.out.cell (j := 0) 2 rfl (by first | assumption | rfl))
        | ((with_reducible refine gate_dst (N := 7) rfl ?_); go_must (refine M.out.ev_new rfl (by first | (go_simp; done) | (go_simp; rfl)) ?_); intro g7 w7 m; simp only [List.cons_append, List.nil_append] at m; have M := Lib.hid m; clear m; try have q1_0 := M.out.cell (j := 0) 1 rfl (by first | assumption | rfl); try have q3_0 := M.out.cell (j := 0) 3 rfl (by first | assumption | rfl); try have q2_0 := M.out.cell (j := 0) 2 rfl (by first | assumption | rfl))
        | ((with_reducible refine gate_dst (N := 12) rfl ?_); go_must (refine M.out.ev_ld 1 _ _ rfl rfl rfl Tryz.underlying31 rfl rfl (by first | assumption | rfl) ?_))
        | ((with_reducible refine gate_dst (N := 20) rfl ?_); go_must (refine M.out.ev_ld 3 _ _ rfl rfl rfl Tryz.underlying2 rfl rfl (by first | assumption | rfl) ?_))
        | ((with_reducible refine gate_dst (N := 28) rfl ?_); go_must (refine M.out.ev_ld 1 _ _ rfl rfl rfl Tryz.underlying31 rfl rfl (by first | assumption | rfl) ?_))
        | ((with_reducible refine gate_dst (N := 31) rfl ?_); go_must (refine M.out.ev_ld 2 _ _ rfl rfl rfl Tryz.underlying2 rfl rfl (by first | assumption | rfl) ?_))
        | ((with_reducible refine gate_dst (N := 32) rfl ?_); go_must (refine M.out.ev_ld 3 _ _ rfl rfl rfl Tryz.underlying2 rfl rfl (by first | assumption | rfl) ?_))
        | ((with_reducible refine gate_dst (N := 34) rfl ?_); go_must (refine M.out.ev_ld 1 _ _ rfl rfl rfl Tryz.underlying31 rfl rfl (by first | assumption | rfl) ?_))
        | ((with_reducible refine gate_dst (N := 35) rfl ?_); go_must (refine M.out.ev_ld 2 _ _ rfl rfl rfl Tryz.underlying2 rfl rfl (by first | assumption | rfl) ?_))
        | (go_at_call 45; go_must (refine (scaresCode_any _ F HF.out _ n xs HX.out hc hn 82 _ (moveFine F xs (j : Int) (k : Int)) _ (M.out.blk 0 rfl) (M.out.sl HS.out) (fun _ _ => by go_simp) (fun _ w1 m1 => moveIs_any _ _ _ _ F HF.out _ n xs hl (j : Int) (k : Int) w1 ((M.out.join m1).blk 0 rfl) ((M.out.join m1).blk 2 rfl) ((M.out.join m1).blk 1 rfl) ((M.out.join m1).blk 3 rfl))).mono ?_); rintro e w_ ⟨rfl, N_⟩; have m := M.out.join N_; clear N_; simp only [List.cons_append, List.nil_append, List.append_nil] at m; have M := Lib.hid m; clear m; have q1 := M.out.cell (j := 0) (v := .int .i64 (k : Int)) 3 rfl rfl; have q2 := M.out.cell (j := 0) 1 rfl rfl)
        | (go_at_call 79; go_must (refine (isPlace_any _ F HF.out _ _ (M.out.blk 0 rfl)).mono ?_); rintro e w_ ⟨rfl, rfl⟩; rw [HPL.out])
        | (go_at_call 80; go_must (refine (stands_any _ n xs HX.out hl _ _ (M.out.sl HS.out)).mono ?_); rintro e w_ ⟨rfl, N_⟩; have m := M.out.join N_; clear N_; simp only [List.cons_append, List.nil_append, List.append_nil] at m; have M := Lib.hid m; clear m; rw [HST.out])
        )
      go_ret2
      have m := (M.out.take 0).nilrow 60 3
      have hac : moveCode F xs j k = 4 := by simp [moveCode, HD.out, HT.out]
      rw [moveRes, hac]
      exact ⟨none, 0, rfl, Nat.le_refl _, m⟩
    · have HST := Lib.hid hst
      have HPL := Lib.hid (show F.place k = false by rw [hpl, hki]; rfl)
      have HT := Lib.hid (show taken F xs k = true by rw [taken, hst, hki]; rfl)
      clear hst hki hpl
      go_enter Tryz.func32, Tryz.ntmps32
      go_wp2_with (first
        | ((with_reducible refine gate_dst (N := 4) rfl ?_); go_must (refine M.out.ev_new rfl (by first | (go_simp; done) | (go_simp; rfl)) ?_); intro g4 w4 m; simp only [List.cons_append, List.nil_append] at m; have M := Lib.hid m; clear m; try have q1_0 := M.out.cell (j := 0) 1 rfl (by first | assumption | rfl); try have q3_0 := M.out.cell (j := 0) 3 rfl (by first | assumption | rfl); try have q2_0 := M.out.cell (j := 0) 2 rfl (by first | assumption | rfl))
        | ((with_reducible refine gate_dst (N := 5) rfl ?_); go_must (refine M.out.ev_new rfl (by first | (go_simp; done) | (go_simp; rfl)) ?_); intro g5 w5 m; simp only [List.cons_append, List.nil_append] at m; have M := Lib.hid m; clear m; try have q1_0 := M.out.cell (j := 0) 1 rfl (by first | assumption | rfl); try have q3_0 := M.out.cell (j := 0) 3 rfl (by first | assumption | rfl); try have q2_0 := M.out.cell (j := 0) 2 rfl (by first | assumption | rfl))
        | ((with_reducible refine gate_dst (N := 6) rfl ?_); go_must (refine M.out.ev_new rfl (by first | (go_simp; done) | (go_simp; rfl)) ?_); intro g6 w6 m; simp only [List.cons_append, List.nil_append] at m; have M := Lib.hid m; clear m; try have q1_0 := M.out.cell (j := 0) 1 rfl (by first | assumption | rfl); try have q3_0 := M.out.cell (j := 0) 3 rfl (by first | assumption | rfl); try have q2_0 := M.out.cell (j := 0) 2 rfl (by first | assumption | rfl))
        | ((with_reducible refine gate_dst (N := 7) rfl ?_); go_must (refine M.out.ev_new rfl (by first | (go_simp; done) | (go_simp; rfl)) ?_); intro g7 w7 m; simp only [List.cons_append, List.nil_append] at m; have M := Lib.hid m; clear m; try have q1_0 := M.out.cell (j := 0) 1 rfl (by first | assumption | rfl); try have q3_0 := M.out.cell (j := 0) 3 rfl (by first | assumption | rfl); try have q2_0 := M.out.cell (j := 0) 2 rfl (by first | assumption | rfl))
        | ((with_reducible refine gate_dst (N := 12) rfl ?_); go_must (refine M.out.ev_ld 1 _ _ rfl rfl rfl Tryz.underlying31 rfl rfl (by first | assumption | rfl) ?_))
        | ((with_reducible refine gate_dst (N := 20) rfl ?_); go_must (refine M.out.ev_ld 3 _ _ rfl rfl rfl Tryz.underlying2 rfl rfl (by first | assumption | rfl) ?_))
        | ((with_reducible refine gate_dst (N := 28) rfl ?_); go_must (refine M.out.ev_ld 1 _ _ rfl rfl rfl Tryz.underlying31 rfl rfl (by first | assumption | rfl) ?_))
        | ((with_reducible refine gate_dst (N := 31) rfl ?_); go_must (refine M.out.ev_ld 2 _ _ rfl rfl rfl Tryz.underlying2 rfl rfl (by first | assumption | rfl) ?_))
        | ((with_reducible refine gate_dst (N := 32) rfl ?_); go_must (refine M.out.ev_ld 3 _ _ rfl rfl rfl Tryz.underlying2 rfl rfl (by first | assumption | rfl) ?_))
        | ((with_reducible refine gate_dst (N := 34) rfl ?_); go_must (refine M.out.ev_ld 1 _ _ rfl rfl rfl Tryz.underlying31 rfl rfl (by first | assumption | rfl) ?_))
        | ((with_reducible refine gate_dst (N := 35) rfl ?_); go_must (refine M.out.ev_ld 2 _ _ rfl rfl rfl Tryz.underlying2 rfl rfl (by first | assumption | rfl) ?_))
        | (go_at_call 45; go_must (refine (scaresCode_any _ F HF.out _ n xs HX.out hc hn 82 _ (moveFine F xs (j : Int) (k : Int)) _ (M.out.blk 0 rfl) (M.out.sl HS.out) (fun _ _ => by go_simp) (fun _ w1 m1 => moveIs_any _ _ _ _ F HF.out _ n xs hl (j : Int) (k : Int) w1 ((M.out.join m1).blk 0 rfl) ((M.out.join m1).blk 2 rfl) ((M.out.join m1).blk 1 rfl) ((M.out.join m1).blk 3 rfl))).mono ?_); rintro e w_ ⟨rfl, N_⟩; have m := M.out.join N_; clear N_; simp only [List.cons_append, List.nil_append, List.append_nil] at m; have M := Lib.hid m; clear m; have q1 := M.out.cell (j := 0) (v := .int .i64 (k : Int)) 3 rfl rfl; have q2 := M.out.cell (j := 0) 1 rfl rfl)
        | (go_at_call 79; go_must (refine (isPlace_any _ F HF.out _ _ (M.out.blk 0 rfl)).mono ?_); rintro e w_ ⟨rfl, rfl⟩; rw [HPL.out])
        | (go_at_call 80; go_must (refine (stands_any _ n xs HX.out hl _ _ (M.out.sl HS.out)).mono ?_); rintro e w_ ⟨rfl, N_⟩; have m := M.out.join N_; clear N_; simp only [List.cons_append, List.nil_append, List.append_nil] at m; have M := Lib.hid m; clear m; rw [HST.out])
        )
      go_ret2
      have m := (M.out.take 0).nilrow 60 3
      have hac : moveCode F xs j k = 4 := by simp [moveCode, HD.out, HT.out]
      rw [moveRes, hac]
      exact ⟨none, 0, rfl, Nat.le_refl _, m⟩
  · have HD := Lib.hid hd
    have hdd : (scCode F xs (moveFine F xs i c) != 0) = true := by simp [hd]
    have hac : moveCode F xs i c = scCode F xs (moveFine F xs i c) := by rw [moveCode, if_pos hd]
    have HAC := Lib.hid hac
    clear hd hac
    go_enter Tryz.func32, Tryz.ntmps32
    go_wp2_with (first
      | ((with_reducible refine gate_dst (N := 4) rfl ?_); go_must (refine M.out.ev_new rfl (by first | (go_simp; done) | (go_simp; rfl)) ?_); intro g4 w4 m; simp only [List.cons_append, List.nil_append] at m; have M := Lib.hid m; clear m; try have q1_0 := M.out.cell (j := 0) 1 rfl (by first | assumption | rfl); try have q3_0 := M.out.cell (j := 0) 3 rfl (by first | assumption | rfl); try have q2_0 := M.out.cell (j := 0) 2 rfl (by first | assumption | rfl))
      | ((with_reducible refine gate_dst (N := 5) rfl ?_); go_must (refine M.out.ev_new rfl (by first | (go_simp; done) | (go_simp; rfl)) ?_); intro g5 w5 m; simp only [List.cons_append, List.nil_append] at m; have M := Lib.hid m; clear m; try have q1_0 := M.out.cell (j := 0) 1 rfl (by first | assumption | rfl); try have q3_0 := M.out.cell (j := 0) 3 rfl (by first | assumption | rfl); try have q2_0 := M.out.cell (j := 0) 2 rfl (by first | assumption | rfl))
      | ((with_reducible refine gate_dst (N := 6) rfl ?_); go_must (refine M.out.ev_new rfl (by first | (go_simp; done) | (go_simp; rfl)) ?_); intro g6 w6 m; simp only [List.cons_append, List.nil_append] at m; have M := Lib.hid m; clear m; try have q1_0 := M.out.cell (j := 0) 1 rfl (by first | assumption | rfl); try have q3_0 := M.out.cell (j := 0) 3 rfl (by first | assumption | rfl); try have q2_0 := M.out.cell (j := 0) 2 rfl (by first | assumption | rfl))
      | ((with_reducible refine gate_dst (N := 7) rfl ?_); go_must (refine M.out.ev_new rfl (by first | (go_simp; done) | (go_simp; rfl)) ?_); intro g7 w7 m; simp only [List.cons_append, List.nil_append] at m; have M := Lib.hid m; clear m; try have q1_0 := M.out.cell (j := 0) 1 rfl (by first | assumption | rfl); try have q3_0 := M.out.cell (j := 0) 3 rfl (by first | assumption | rfl); try have q2_0 := M.out.cell (j := 0) 2 rfl (by first | assumption | rfl))
      | ((with_reducible refine gate_dst (N := 12) rfl ?_); go_must (refine M.out.ev_ld 1 _ _ rfl rfl rfl Tryz.underlying31 rfl rfl (by first | assumption | rfl) ?_))
      | ((with_reducible refine gate_dst (N := 20) rfl ?_); go_must (refine M.out.ev_ld 3 _ _ rfl rfl rfl Tryz.underlying2 rfl rfl (by first | assumption | rfl) ?_))
      | ((with_reducible refine gate_dst (N := 28) rfl ?_); go_must (refine M.out.ev_ld 1 _ _ rfl rfl rfl Tryz.underlying31 rfl rfl (by first | assumption | rfl) ?_))
      | ((with_reducible refine gate_dst (N := 31) rfl ?_); go_must (refine M.out.ev_ld 2 _ _ rfl rfl rfl Tryz.underlying2 rfl rfl (by first | assumption | rfl) ?_))
      | ((with_reducible refine gate_dst (N := 32) rfl ?_); go_must (refine M.out.ev_ld 3 _ _ rfl rfl rfl Tryz.underlying2 rfl rfl (by first | assumption | rfl) ?_))
      | ((with_reducible refine gate_dst (N := 34) rfl ?_); go_must (refine M.out.ev_ld 1 _ _ rfl rfl rfl Tryz.underlying31 rfl rfl (by first | assumption | rfl) ?_))
      | ((with_reducible refine gate_dst (N := 35) rfl ?_); go_must (refine M.out.ev_ld 2 _ _ rfl rfl rfl Tryz.underlying2 rfl rfl (by first | assumption | rfl) ?_))
      | (go_at_call 45; go_must (refine (scaresCode_any _ F HF.out _ n xs HX.out hc hn 82 _ (moveFine F xs i c) _ (M.out.blk 0 rfl) (M.out.sl HS.out) (fun _ _ => by go_simp) (fun _ w1 m1 => moveIs_any _ _ _ _ F HF.out _ n xs hl i c w1 ((M.out.join m1).blk 0 rfl) ((M.out.join m1).blk 2 rfl) ((M.out.join m1).blk 1 rfl) ((M.out.join m1).blk 3 rfl))).mono ?_); rintro e w_ ⟨rfl, N_⟩; have m := M.out.join N_; clear N_; simp only [List.cons_append, List.nil_append, List.append_nil] at m; have M := Lib.hid m; clear m; have q1 := M.out.cell (j := 0) (v := .int .i64 c) 3 rfl rfl; have q2 := M.out.cell (j := 0) 1 rfl rfl)
      )
    go_ret2
    have m := (M.out.take 0).nilrow 60 3
    rw [moveRes, HAC.out, if_neg HD.out]
    exact ⟨none, 0, rfl, Nat.le_refl _, m⟩
set_option maxRecDepth 100000 in
set_option maxHeartbeats 2000000 in
theorem spec_MoveScare_any (F : Fld) (hF : F.ok) (A : Option Addr) (n : Nat) (xs : List Scarecrow) (hx : ∀ x ∈ xs, x.ok) (hl : xs.length ≤ 1048576) (hc : xs.length ≤ n) (hn : n ≤ 9223372036854775807) (hA : A = none → n = 0) (i c : Int) (w : World) (hs : Sl w 3 A xs.length (flat Scarecrow.vals xs)) :
    Calls Tryz.prog 33 #[.agg F.cells, .slice A xs.length n, .int .i64 i, .int .i64 c] w (RetRowC w 60 3 (moveRes F xs i c).length (flat Scarecrow.vals (moveRes F xs i c)) (moveCode F xs i c)) := by
  have M := Lib.hid (Mem.start w)
  have HX := Lib.hid hx
  have HS := Lib.hid hs
  have HF := Lib.hid hF
  have S1 := Lib.hid (Fld.size hF.toLen)
  have hm : xs.length ≤ 9223372036854775807 := by omega
  have el : IntKind.i64.wrap ((xs.length : Int) - 1) = (xs.length : Int) - 1 := IntWalk.i64_in _ (by omega)
  clear hx hs hF
  by_cases hd : scCode F xs (moveFine F xs i c) = 0
  · obtain ⟨h1, h2, h3⟩ := scCode_0 hd
    rw [moveFine, Bool.and_eq_true] at h3
    obtain ⟨⟨c0, c1⟩, _⟩ := Fld.has_iff.1 h3.2
    obtain ⟨p0, p1⟩ := inB_iff.1 h3.1
    have HQ := Lib.hid h3.2
    have HD := Lib.hid hd
    have hdd : (scCode F xs (moveFine F xs i c) != 0) = false := by simp [hd]
    obtain ⟨k, rfl⟩ : ∃ k : Nat, c = k := ⟨c.toNat, by omega⟩
    obtain ⟨j, rfl⟩ : ∃ j : Nat, i = j := ⟨i.toNat, by omega⟩
    have hk : k < 100 := by omega
    have hj : j < xs.length := by omega
    have i0 : (0 : Int) ≤ (j : Int) := by omega
    have i1 : (j : Int) < (xs.length : Int) := by omega
    have e1 : IntKind.i16.wrap (k : Int) = k := IntWalk.i16_in _ (by omega)
    have hpl : F.place k = !(F.kind k == 3) := by
      have := h3.2
      simp only [Fld.place, this, Bool.true_and, Int.toNat_natCast]
      rfl
    have hxj : xs[j]? = some xs[j] := List.getElem?_eq_getElem hj
    have HMV := Lib.hid (show movedAt xs j k = xs.set j ⟨k, xs[j].power, 0⟩ by simp [movedAt, hxj])
    have HXJ := Lib.hid hxj
    obtain ⟨b, off, rfl, _⟩ := HS.out.2 (by omega)
    have hln : j * 3 + 3 ≤ (flat Scarecrow.vals xs).length := by rw [flat_len Scarecrow.vl]; omega
    have HL := Lib.hid hln
    clear h1 h2 h3 hd hxj hln
    cases ht : taken F xs k
    · have HT := Lib.hid ht
      clear ht
      go_enter Tryz.func33, Tryz.ntmps33
      go_wp2_with (first
        | ((with_reducible refine gate_dst (N := 4) rfl ?_); go_must (refine M.out.ev_new rfl (by first | (go_simp; done) | (go_simp; rfl)) ?_); intro g4 w4 m; simp only [List.cons_append, List.nil_append] at m; have M := Lib.hid m; clear m)
        | (go_at_call 50; go_must (refine (l01Is_any _ F HF.out (k : Int) _ (M.out.blk 0 rfl)).mono ?_); rintro e w_ ⟨rfl, rfl⟩; rw [HQ.out])
        | (go_at_call 61; go_must (refine (l00In_any _ _ _ _).mono ?_); rintro e w_ ⟨rfl, rfl⟩)
        | (go_at_call 49; go_must (refine (l03Asked_any _ F HF.out _ n xs HX.out hm _ _ (M.out.blk 0 rfl) (M.out.sl HS.out)).mono ?_); rintro e w_ ⟨rfl, N_⟩; have m := M.out.join N_; clear N_; simp only [List.cons_append, List.nil_append, List.append_nil] at m; have M := Lib.hid m; clear m; first | rw [show inB (j : Int) 0 ((xs.length : Int) - 1) = moveFine F xs (j : Int) (k : Int) by rw [moveFine, HQ.out, Bool.and_true]] | rw [show false = moveFine F xs (j : Int) (k : Int) by rw [moveFine, HQ.out, Bool.and_false]])
        | (go_at_call 81; go_must (refine (l03Taken_any _ F HF.out _ n xs HX.out hl k hk _ (M.out.blk 0 rfl) (M.out.sl HS.out)).mono ?_); rintro e w_ ⟨rfl, rfl⟩; rw [HT.out])
        | ((with_reducible refine gate_dst (N := 31) rfl ?_); go_must (refine M.out.ev_bs0 elem_Scarecrow rfl rfl ?_); intro g31 w31 m; simp only [List.cons_append, List.nil_append] at m; have M := Lib.hid m; clear m)
        | ((with_reducible refine gate_dst (N := 33) rfl ?_); go_must (refine M.out.ev_appends 1 elem_Scarecrow rfl _ _ rfl rfl rfl rfl (M.out.sl HS.out) hA hc (flat_one Scarecrow.ones xs) (by omega) (by decide) ?_); intro v33 w33 m; simp only [List.set_cons_succ, List.set_cons_zero, List.nil_append, Nat.zero_add] at m; obtain ⟨g, cap, rfl, hcap⟩ := m.row_form 1 rfl (by omega); have M := Lib.hid m; clear m)
        | ((with_reducible refine gate_store (x := .tmp 39) rfl ?_); go_must (refine M.out.ev_rput1 1 _ _ _ rfl rfl rfl rfl (.int .i16 k) rfl (by have := HL.out; omega) sz26 rfl rfl ?_); intro wn m; simp only [List.set_cons_succ, List.set_cons_zero] at m; have M := Lib.hid m; clear m)
        | ((with_reducible refine gate_store (x := .tmp 43) rfl ?_); go_must (refine M.out.ev_rput1 1 _ _ _ rfl rfl rfl rfl (.int .i8 0) rfl (by have := HL.out; rw [List.length_set]; omega) sz24 rfl rfl ?_); intro wn m; simp only [List.set_cons_succ, List.set_cons_zero] at m; have M := Lib.hid m; clear m)
        )
      go_ret2
      have m := M.out.only [1] (K := [_]) rfl (by decide)
      have h1 := flat_put Scarecrow.vl (by decide : 0 < 3) (v := .int .i16 k) xs j xs[j] ⟨k, xs[j].power, xs[j].age⟩ HXJ.out rfl
      have h2 := flat_put Scarecrow.vl (by decide : 2 < 3) (v := .int .i8 0) (xs.set j ⟨k, xs[j].power, xs[j].age⟩) j ⟨k, xs[j].power, xs[j].age⟩ ⟨k, xs[j].power, 0⟩ (by rw [List.getElem?_set_self hj]) rfl
      rw [Nat.add_zero] at h1
      rw [List.set_set] at h2
      rw [h1, h2] at m
      have hac : moveCode F xs j k = 0 := by simp [moveCode, HD.out, HT.out]
      rw [moveRes, hac, if_pos rfl, Int.toNat_natCast, HMV.out, List.length_set]
      exact ⟨_, _, rfl, hcap, m⟩
    · have HT := Lib.hid ht
      clear ht
      go_enter Tryz.func33, Tryz.ntmps33
      go_wp2_with (first
        | ((with_reducible refine gate_dst (N := 4) rfl ?_); go_must (refine M.out.ev_new rfl (by first | (go_simp; done) | (go_simp; rfl)) ?_); intro g4 w4 m; simp only [List.cons_append, List.nil_append] at m; have M := Lib.hid m; clear m)
        | (go_at_call 50; go_must (refine (l01Is_any _ F HF.out (k : Int) _ (M.out.blk 0 rfl)).mono ?_); rintro e w_ ⟨rfl, rfl⟩; rw [HQ.out])
        | (go_at_call 61; go_must (refine (l00In_any _ _ _ _).mono ?_); rintro e w_ ⟨rfl, rfl⟩)
        | (go_at_call 49; go_must (refine (l03Asked_any _ F HF.out _ n xs HX.out hm _ _ (M.out.blk 0 rfl) (M.out.sl HS.out)).mono ?_); rintro e w_ ⟨rfl, N_⟩; have m := M.out.join N_; clear N_; simp only [List.cons_append, List.nil_append, List.append_nil] at m; have M := Lib.hid m; clear m; first | rw [show inB (j : Int) 0 ((xs.length : Int) - 1) = moveFine F xs (j : Int) (k : Int) by rw [moveFine, HQ.out, Bool.and_true]] | rw [show false = moveFine F xs (j : Int) (k : Int) by rw [moveFine, HQ.out, Bool.and_false]])
        | (go_at_call 81; go_must (refine (l03Taken_any _ F HF.out _ n xs HX.out hl k hk _ (M.out.blk 0 rfl) (M.out.sl HS.out)).mono ?_); rintro e w_ ⟨rfl, rfl⟩; rw [HT.out])
        | ((with_reducible refine gate_dst (N := 30) rfl ?_); go_must (refine M.out.ev_bs0 elem_Scarecrow rfl rfl ?_); intro g30 w30 m; simp only [List.cons_append, List.nil_append] at m; have M := Lib.hid m; clear m)
        )
      go_ret2
      have m := M.out.only [1] (K := [_]) rfl (by decide)
      have hac : moveCode F xs j k = 4 := by simp [moveCode, HD.out, HT.out]
      rw [moveRes, hac]
      exact ⟨_, 0, rfl, Nat.le_refl _, m⟩
  · have HD := Lib.hid hd
    have hdd : (scCode F xs (moveFine F xs i c) != 0) = true := by simp [hd]
    have hac : moveCode F xs i c = scCode F xs (moveFine F xs i c) := by rw [moveCode, if_pos hd]
    have HAC := Lib.hid hac
    clear hd hac
    cases hq : F.has c <;>
    · have HQ := Lib.hid hq
      clear hq
      go_enter Tryz.func33, Tryz.ntmps33
      go_wp2_with (first
        | ((with_reducible refine gate_dst (N := 4) rfl ?_); go_must (refine M.out.ev_new rfl (by first | (go_simp; done) | (go_simp; rfl)) ?_); intro g4 w4 m; simp only [List.cons_append, List.nil_append] at m; have M := Lib.hid m; clear m)
        | (go_at_call 50; go_must (refine (l01Is_any _ F HF.out c _ (M.out.blk 0 rfl)).mono ?_); rintro e w_ ⟨rfl, rfl⟩; rw [HQ.out])
        | (go_at_call 61; go_must (refine (l00In_any _ _ _ _).mono ?_); rintro e w_ ⟨rfl, rfl⟩)
        | (go_at_call 49; go_must (refine (l03Asked_any _ F HF.out _ n xs HX.out hm _ _ (M.out.blk 0 rfl) (M.out.sl HS.out)).mono ?_); rintro e w_ ⟨rfl, N_⟩; have m := M.out.join N_; clear N_; simp only [List.cons_append, List.nil_append, List.append_nil] at m; have M := Lib.hid m; clear m; first | rw [show inB i 0 ((xs.length : Int) - 1) = moveFine F xs i c by rw [moveFine, HQ.out, Bool.and_true]] | rw [show false = moveFine F xs i c by rw [moveFine, HQ.out, Bool.and_false]])
        | ((with_reducible refine gate_dst (N := 25) rfl ?_); go_must (refine M.out.ev_bs0 elem_Scarecrow rfl rfl ?_); intro g25 w25 m; simp only [List.cons_append, List.nil_append] at m; have M := Lib.hid m; clear m)
        )
      go_ret2
      have m := M.out.only [1] (K := [_]) rfl (by decide)
      rw [moveRes, HAC.out, if_neg HD.out]
      exact ⟨_, 0, rfl, Nat.le_refl _, m⟩
end Go.Proofs.YtoacnfofijikmaaGreatDoor
