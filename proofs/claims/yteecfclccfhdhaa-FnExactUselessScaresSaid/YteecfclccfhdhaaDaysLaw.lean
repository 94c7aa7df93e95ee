/- How many days a cell stays safe: the walks of the whole functions, and of the law. -/
import Derived.Test.YteecfclccfhdhaaDays
namespace Go.Proofs.Yteecfclccfhdhaa
set_option linter.unusedSimpArgs false
set_option linter.unusedVariables false
open Go.RowKit
attribute [local go_sem] cell?_mk frozen?_mk

def daysRes (F : Fld) (xs : List Scarecrow) (c least : Int) : Int × Int := if scCode F xs (F.has c && inB least 1 1000) = 0 then ((daysOf xs c least : Int), 0) else (0, scCode F xs (F.has c && inB least 1 1000))
set_option maxRecDepth 100000 in
set_option maxHeartbeats 1000000 in
theorem cellPower_any (g h k : Nat) {t t' t'' : TypeId} (F : Fld) (hF : F.ok) (c p : Int) (w : World) (hb : Blk w g t F.cells) (hc : Blk w h t' #[.int .i64 c]) (hp : Blk w k t'' #[.int .i64 p]) :
    Calls Try.prog 84 #[.pointer (some ⟨g, 0, none⟩), .pointer (some ⟨h, 0, none⟩), .pointer (some ⟨k, 0, none⟩)] w fun e w' => e = .returned (.bool (F.has c && inB p 1 1000)) ∧ Mem w w' [] := by
  have M := Lib.hid (Mem.start w)
  have HB := Lib.hid hb
  have hc0 := hc.cellv (i := 0) rfl
  have hp0 := hp.cellv (i := 0) rfl
  clear hb hc hp
  cases hq : F.has c <;>
  · have HQ := Lib.hid hq
    clear hq
    go_enter Try.func84, Try.ntmps84
    go_wp2_with (first
      | (go_at_call 65; go_must (refine (has_any g F hF c _ HB.out).mono ?_); rintro e w_ ⟨rfl, rfl⟩; rw [HQ.out])
      | (go_at_call 78; go_must (refine (isPower_any _ _).mono ?_); rintro e w_ ⟨rfl, rfl⟩)
      )
    go_ret
    exact ⟨rfl, M.out⟩
set_option maxRecDepth 100000 in
set_option maxHeartbeats 2000000 in
theorem impl_DaysSafe_any (F : Fld) (hF : F.ok) (A : Option Addr) (n : Nat) (xs : List Scarecrow) (hx : ∀ x ∈ xs, x.ok) (hl : xs.length ≤ 1048576) (hc : xs.length ≤ n) (hn : n ≤ 9223372036854775807) (hA : A = none → n = 0) (c least : Int) (w : World) (hs : Sl w 3 A xs.length (flat Scarecrow.vals xs)) :
    Calls Try.prog 32 #[.agg F.cells, .slice A xs.length n, .int .i64 c, .int .i64 least] w fun e w' =>
      e = .returned (.tuple #[.int .i64 (daysRes F xs c least).1, .int .i64 (daysRes F xs c least).2]) ∧ Mem w w' [] := by
  have M := Lib.hid (Mem.start w)
  have HX := Lib.hid hx
  have HS := Lib.hid hs
  have HF := Lib.hid hF
  have S1 := Lib.hid (Fld.size hF.toLen)
  have hm : xs.length ≤ 9223372036854775807 := by omega
  clear hx hs hF
  obtain ⟨p, hp⟩ : ∃ p, p = (F.has c && inB least 1 1000) := ⟨_, rfl⟩
  have HPP := Lib.hid hp
  by_cases hd : scCode F xs p = 0
  · obtain ⟨h1, h2, h3⟩ := scCode_0 hd
    rw [hp, Bool.and_eq_true] at h3
    have HP := Lib.hid (scOk_plain h2)
    obtain ⟨c0, c1⟩ := (Fld.has_iff.1 h3.1).1
    obtain ⟨l0, l1⟩ := inB_iff.1 h3.2
    have HD := Lib.hid hd
    have hdd : (scCode F xs p != 0) = false := by simp [hd]
    clear h1 h2 h3 hd hp
    go_enter Try.func32, Try.ntmps32
    go_wp2_with (first
      | ((with_reducible refine gate_dst (N := 4) rfl ?_); go_must (refine M.out.ev_new rfl (by first | (go_simp; done) | (go_simp; rfl)) ?_); intro g4 w4 m; simp only [List.cons_append, List.nil_append] at m; have M := Lib.hid m; clear m)
      | ((with_reducible refine gate_dst (N := 6) rfl ?_); go_must (refine M.out.ev_new rfl (by first | (go_simp; done) | (go_simp; rfl)) ?_); intro g6 w6 m; simp only [List.cons_append, List.nil_append] at m; have M := Lib.hid m; clear m)
      | ((with_reducible refine gate_dst (N := 7) rfl ?_); go_must (refine M.out.ev_new rfl (by first | (go_simp; done) | (go_simp; rfl)) ?_); intro g7 w7 m; simp only [List.cons_append, List.nil_append] at m; have M := Lib.hid m; clear m)
      | ((with_reducible refine gate_dst (N := 18) rfl ?_); go_must (refine M.out.ev_ld 1 _ _ rfl rfl rfl Try.underlying2 rfl rfl (by first | assumption | rfl) ?_))
      | ((with_reducible refine gate_dst (N := 19) rfl ?_); go_must (refine M.out.ev_ld 2 _ _ rfl rfl rfl Try.underlying2 rfl rfl (by first | assumption | rfl) ?_))
      | (go_at_call 63; go_must (refine (scaresCode_any _ F HF.out A n xs HX.out hc hn 84 _ p _ (M.out.blk 0 rfl) (M.out.sl HS.out) (fun _ _ => by go_simp) (fun _ w1 m1 => by rw [HPP.out]; exact cellPower_any _ _ _ F HF.out c least w1 ((M.out.join m1).blk 0 rfl) ((M.out.join m1).blk 1 rfl) ((M.out.join m1).blk 2 rfl))).mono ?_); rintro e w_ ⟨rfl, N_⟩; have m := M.out.join N_; clear N_; simp only [List.cons_append, List.nil_append, List.append_nil] at m; have M := Lib.hid m; clear m)
      | (go_at_call 85; go_must (refine (daysSafe_any A n xs HP.out hl hc hA c least c0 c1 l0 _ (M.out.sl HS.out)).mono ?_); rintro e w_ ⟨rfl, N_⟩; have m := M.out.join N_; clear N_; simp only [List.cons_append, List.nil_append, List.append_nil] at m; have M := Lib.hid m; clear m)
      )
    go_ret2
    refine ⟨?_, M.out.take 0⟩
    simp only [daysRes, ← HPP.out]
    simp only [HD.out]
    rfl
  · have HD := Lib.hid hd
    have hdd : (scCode F xs p != 0) = true := by simp [hd]
    clear hd hp
    go_enter Try.func32, Try.ntmps32
    go_wp2_with (first
      | ((with_reducible refine gate_dst (N := 4) rfl ?_); go_must (refine M.out.ev_new rfl (by first | (go_simp; done) | (go_simp; rfl)) ?_); intro g4 w4 m; simp only [List.cons_append, List.nil_append] at m; have M := Lib.hid m; clear m)
      | ((with_reducible refine gate_dst (N := 6) rfl ?_); go_must (refine M.out.ev_new rfl (by first | (go_simp; done) | (go_simp; rfl)) ?_); intro g6 w6 m; simp only [List.cons_append, List.nil_append] at m; have M := Lib.hid m; clear m)
      | ((with_reducible refine gate_dst (N := 7) rfl ?_); go_must (refine M.out.ev_new rfl (by first | (go_simp; done) | (go_simp; rfl)) ?_); intro g7 w7 m; simp only [List.cons_append, List.nil_append] at m; have M := Lib.hid m; clear m)
      | ((with_reducible refine gate_dst (N := 18) rfl ?_); go_must (refine M.out.ev_ld 1 _ _ rfl rfl rfl Try.underlying2 rfl rfl (by first | assumption | rfl) ?_))
      | ((with_reducible refine gate_dst (N := 19) rfl ?_); go_must (refine M.out.ev_ld 2 _ _ rfl rfl rfl Try.underlying2 rfl rfl (by first | assumption | rfl) ?_))
      | (go_at_call 63; go_must (refine (scaresCode_any _ F HF.out A n xs HX.out hc hn 84 _ p _ (M.out.blk 0 rfl) (M.out.sl HS.out) (fun _ _ => by go_simp) (fun _ w1 m1 => by rw [HPP.out]; exact cellPower_any _ _ _ F HF.out c least w1 ((M.out.join m1).blk 0 rfl) ((M.out.join m1).blk 1 rfl) ((M.out.join m1).blk 2 rfl))).mono ?_); rintro e w_ ⟨rfl, N_⟩; have m := M.out.join N_; clear N_; simp only [List.cons_append, List.nil_append, List.append_nil] at m; have M := Lib.hid m; clear m)
      )
    go_ret2
    refine ⟨?_, M.out.take 0⟩
    simp only [daysRes, ← HPP.out]
    simp only [if_neg HD.out]
    rfl
set_option maxRecDepth 100000 in
set_option maxHeartbeats 2000000 in
theorem spec_DaysSafe_any (F : Fld) (hF : F.ok) (A : Option Addr) (n : Nat) (xs : List Scarecrow) (hx : ∀ x ∈ xs, x.ok) (hl : xs.length ≤ 1048576) (hc : xs.length ≤ n) (hn : n ≤ 9223372036854775807) (hA : A = none → n = 0) (c least : Int) (w : World) (hs : Sl w 3 A xs.length (flat Scarecrow.vals xs)) :
    Calls Try.prog 31 #[.agg F.cells, .slice A xs.length n, .int .i64 c, .int .i64 least] w fun e w' =>
      e = .returned (.tuple #[.int .i64 (daysRes F xs c least).1, .int .i64 (daysRes F xs c least).2]) ∧ Mem w w' [] := by
  have M := Lib.hid (Mem.start w)
  have HX := Lib.hid hx
  have HS := Lib.hid hs
  have HF := Lib.hid hF
  have S1 := Lib.hid (Fld.size hF.toLen)
  have hm : xs.length ≤ 9223372036854775807 := by omega
  clear hx hs hF
  obtain ⟨p, hp⟩ : ∃ p, p = (F.has c && inB least 1 1000) := ⟨_, rfl⟩
  have HPP := Lib.hid hp
  by_cases hd : scCode F xs p = 0
  · obtain ⟨h1, h2, h3⟩ := scCode_0 hd
    rw [hp, Bool.and_eq_true] at h3
    have HP := Lib.hid (scOk_plain h2)
    obtain ⟨c0, c1⟩ := (Fld.has_iff.1 h3.1).1
    obtain ⟨l0, l1⟩ := inB_iff.1 h3.2
    have HD := Lib.hid hd
    have hdd : (scCode F xs p != 0) = false := by simp [hd]
    clear h1 h2 h3 hd hp
    cases hq : F.has c <;>
    · have HQ := Lib.hid hq
      clear hq
      go_enter Try.func31, Try.ntmps31
      go_wp2_with (first
        | ((with_reducible refine gate_dst (N := 4) rfl ?_); go_must (refine M.out.ev_new rfl (by first | (go_simp; done) | (go_simp; rfl)) ?_); intro g4 w4 m; simp only [List.cons_append, List.nil_append] at m; have M := Lib.hid m; clear m)
        | (go_at_call 58; go_must (refine (l01Is_any _ F HF.out c _ (M.out.blk 0 rfl)).mono ?_); rintro e w_ ⟨rfl, rfl⟩; rw [HQ.out])
        | (go_at_call 75; go_must (refine (l03Power_any _ _).mono ?_); rintro e w_ ⟨rfl, rfl⟩)
        | (go_at_call 57; go_must (refine (l03Asked_any _ F HF.out A n xs HX.out hm _ _ (M.out.blk 0 rfl) (M.out.sl HS.out)).mono ?_); rintro e w_ ⟨rfl, N_⟩; have m := M.out.join N_; clear N_; simp only [List.cons_append, List.nil_append, List.append_nil] at m; have M := Lib.hid m; clear m; first | rw [show inB least 1 1000 = p by rw [HPP.out, HQ.out]; rfl] | rw [show false = p by rw [HPP.out, HQ.out]; rfl])
        | (go_at_call 83; go_must (refine (l03Days_any A n xs HP.out hl hc hA c least c0 c1 l0 _ (M.out.sl HS.out)).mono ?_); rintro e w_ ⟨rfl, N_⟩; have m := M.out.join N_; clear N_; simp only [List.cons_append, List.nil_append, List.append_nil] at m; have M := Lib.hid m; clear m)
        )
      go_ret2
      refine ⟨?_, M.out.take 0⟩
      simp only [daysRes, ← HPP.out]
      simp only [HD.out]
      rfl
  · have HD := Lib.hid hd
    have hdd : (scCode F xs p != 0) = true := by simp [hd]
    clear hd hp
    cases hq : F.has c <;>
    · have HQ := Lib.hid hq
      clear hq
      go_enter Try.func31, Try.ntmps31
      go_wp2_with (first
        | ((with_reducible refine gate_dst (N := 4) rfl ?_); go_must (refine M.out.ev_new rfl (by first | (go_simp; done) | (go_simp; rfl)) ?_); intro g4 w4 m; simp only [List.cons_append, List.nil_append] at m; have M := Lib.hid m; clear m)
        | (go_at_call 58; go_must (refine (l01Is_any _ F HF.out c _ (M.out.blk 0 rfl)).mono ?_); rintro e w_ ⟨rfl, rfl⟩; rw [HQ.out])
        | (go_at_call 75; go_must (refine (l03Power_any _ _).mono ?_); rintro e w_ ⟨rfl, rfl⟩)
        | (go_at_call 57; go_must (refine (l03Asked_any _ F HF.out A n xs HX.out hm _ _ (M.out.blk 0 rfl) (M.out.sl HS.out)).mono ?_); rintro e w_ ⟨rfl, N_⟩; have m := M.out.join N_; clear N_; simp only [List.cons_append, List.nil_append, List.append_nil] at m; have M := Lib.hid m; clear m; first | rw [show inB least 1 1000 = p by rw [HPP.out, HQ.out]; rfl] | rw [show false = p by rw [HPP.out, HQ.out]; rfl])
        )
      go_ret2
      refine ⟨?_, M.out.take 0⟩
      simp only [daysRes, ← HPP.out]
      simp only [if_neg HD.out]
      rfl
set_option maxRecDepth 100000 in
set_option maxHeartbeats 4000000 in
theorem lawDaysSafe_any (F : Fld) (hF : F.ok) (A : Option Addr) (n : Nat) (xs : List Scarecrow) (hx : ∀ x ∈ xs, x.ok) (hm : xs.length ≤ 9223372036854775807) (c : Int) (least : Int) (w : World) (hs : Sl w 3 A xs.length (flat Scarecrow.vals xs)) :
    Calls Try.prog 8 #[.agg F.cells, .slice A xs.length n, .int .i64 c, .int .i64 least] w fun e w' => e = .returned (.bool true) ∧ Mem w w' [] := by
  have M := Lib.hid (Mem.start w)
  have HX := Lib.hid hx
  have HS := Lib.hid hs
  have S1 := Lib.hid (Fld.size hF.toLen)
  clear hx hs
  by_cases hl : xs.length ≤ 1048576
  · have hz : ¬ ((1048576 : Int) < xs.length) := by omega
    have hz2 : ¬ ((1048576 : Int) - xs.length < 0) := by omega
    go_enter Try.func8, Try.ntmps8
    go_wp2_with (first
      | ((with_reducible refine gate_dst (N := 4) rfl ?_); go_must (refine M.out.ev_new rfl (by first | (go_simp; done) | (go_simp; rfl)) ?_); intro g4 w4 m; simp only [List.cons_append, List.nil_append] at m; have M := Lib.hid m; clear m)
      | ((with_reducible refine gate_dst (N := 21) rfl ?_); go_must (refine M.out.ev_ldw 0 _ _ rfl rfl rfl Try.underlying27 rfl (by first | exact sz27 | (rw [S1.out]; exact sz27) | (rw [S2.out]; exact sz27) | (rw [S3.out]; exact sz27)) rfl ?_))
      | ((with_reducible refine gate_dst (N := 33) rfl ?_); go_must (refine M.out.ev_ldw 0 _ _ rfl rfl rfl Try.underlying27 rfl (by first | exact sz27 | (rw [S1.out]; exact sz27) | (rw [S2.out]; exact sz27) | (rw [S3.out]; exact sz27)) rfl ?_))
      | (go_at_call 14; go_must (refine (szScarecrowS_any A xs.length n 1048576 _ (by omega) (by omega) hm).mono ?_); rintro e w_ ⟨rfl, rfl⟩; rw [if_neg hz])
      | (go_at_call 16; go_must (refine (toField_any F hF.toLen _).mono ?_); rintro e w_ ⟨rfl, hB_⟩; have M := Lib.hid (M.out.kept hB_); clear hB_)
      | (go_at_call 17; go_must (refine (toScarecrowS_any A n xs _ hl (M.out.sl HS.out)).mono ?_); rintro e w_ ⟨A_, c_, rfl, hc_, N_⟩; have m := M.out.join N_; clear N_; simp only [List.cons_append, List.nil_append, List.append_nil] at m; have M := Lib.hid m; clear m)
      | (go_at_call 31; go_must (refine (spec_DaysSafe_any F hF _ _ xs HX.out hl hc_ (M.out.row_cap 1 rfl) (M.out.row_none 1 rfl) c least _ (M.out.slof 1 rfl)).mono ?_); rintro e w_ ⟨rfl, N_⟩; have m := M.out.join N_; clear N_; simp only [List.cons_append, List.nil_append, List.append_nil] at m; have M := Lib.hid m; clear m)
      | (go_at_call 32; go_must (refine (impl_DaysSafe_any F hF _ _ xs HX.out hl hc_ (M.out.row_cap 2 rfl) (M.out.row_none 2 rfl) c least _ (M.out.slof 2 rfl)).mono ?_); rintro e w_ ⟨rfl, N_⟩; have m := M.out.join N_; clear N_; simp only [List.cons_append, List.nil_append, List.append_nil] at m; have M := Lib.hid m; clear m)
      | (go_at_call 19; go_must (refine (eqScarecrowS_any _ _ _ _ xs xs _ hl (M.out.slof 2 rfl) (M.out.slof 3 rfl)).mono ?_); rintro e w_ ⟨rfl, N_⟩; have m := M.out.join N_; clear N_; simp only [List.cons_append, List.nil_append, List.append_nil] at m; have M := Lib.hid m; clear m; rw [decide_eq_true rfl]))
    go_ret
    exact ⟨ret_bool rfl, M.out.take 0⟩
  · have hz : (1048576 : Int) < xs.length := by omega
    go_enter Try.func8, Try.ntmps8
    go_wp2_with (first
      | ((with_reducible refine gate_dst (N := 4) rfl ?_); go_must (refine M.out.ev_new rfl (by first | (go_simp; done) | (go_simp; rfl)) ?_); intro g4 w4 m; simp only [List.cons_append, List.nil_append] at m; have M := Lib.hid m; clear m)
      | ((with_reducible refine gate_dst (N := 21) rfl ?_); go_must (refine M.out.ev_ldw 0 _ _ rfl rfl rfl Try.underlying27 rfl (by first | exact sz27 | (rw [S1.out]; exact sz27) | (rw [S2.out]; exact sz27) | (rw [S3.out]; exact sz27)) rfl ?_))
      | ((with_reducible refine gate_dst (N := 33) rfl ?_); go_must (refine M.out.ev_ldw 0 _ _ rfl rfl rfl Try.underlying27 rfl (by first | exact sz27 | (rw [S1.out]; exact sz27) | (rw [S2.out]; exact sz27) | (rw [S3.out]; exact sz27)) rfl ?_))
      | (go_at_call 14; go_must (refine (szScarecrowS_any A xs.length n 1048576 _ (by omega) (by omega) hm).mono ?_); rintro e w_ ⟨rfl, rfl⟩; rw [if_pos hz]))
    go_ret
    exact ⟨ret_bool rfl, M.out.take 0⟩
end Go.Proofs.Yteecfclccfhdhaa
