/- Two fields compared: the walks. -/
import Derived.Test.YtbjcajhbhicokaaDrawn3
import Derived.Test.YtbjcajhbhicokaaRets
import Derived.Test.YtbjcajhbhicokaaBase
namespace Go.Proofs.Ytbjcajhbhicokaa
set_option linter.unusedSimpArgs false
set_option linter.unusedVariables false
open Go.RowKit
attribute [local go_sem] cell?_mk frozen?_mk

set_option maxRecDepth 100000 in
set_option maxHeartbeats 1000000 in
theorem eqByteA100_any (xs : List Int) (hs : xs.length = 100) (w : World) :
    Calls Try.prog 106 #[.agg (ints .u8 xs), .agg (ints .u8 xs)] w fun e w' => e = .returned (.bool true) ∧ Mem w w' [] := by
  have M := Lib.hid (Mem.start w)
  have HS := Lib.hid hs
  clear hs
  go_enter Try.func106, Try.ntmps106
  go_wp2_with (first
    | ((with_reducible refine gate_dst (N := 2) rfl ?_); go_must (refine M.out.ev_new rfl (by first | (go_simp; done) | (go_simp; rfl)) ?_); intro g2 w2 m; simp only [List.cons_append, List.nil_append] at m; have M := Lib.hid m; clear m)
    | ((with_reducible refine gate_dst (N := 3) rfl ?_); go_must (refine M.out.ev_new rfl (by first | (go_simp; done) | (go_simp; rfl)) ?_); intro g3 w3 m; simp only [List.cons_append, List.nil_append] at m; have M := Lib.hid m; clear m)
    | ((with_reducible refine gate_dst (N := 12) rfl ?_); go_must (refine M.out.ev_ld 0 _ _ rfl rfl rfl Try.underlying5 rfl rfl (by first | assumption | rfl) ?_))
    | ((with_reducible refine gate_dst (N := 15) rfl ?_); go_must (refine M.out.ev_ld 1 _ _ rfl rfl rfl Try.underlying5 rfl rfl (by first | assumption | rfl) ?_))
    )
  go_loopw [5] (fun v wr => ∃ k : Nat, k ≤ 100 ∧ v = .int .i64 k ∧ Mem w wr [.blk g2 23 (ints .u8 xs), .blk g3 23 (ints .u8 xs)])
    (fun v _ => 100 - (intOf v).toNat)
  case atStart => exact ⟨0, by omega, rfl, M.out⟩
  case round =>
    clear M
    obtain ⟨k, hk, rfl, m⟩ := hrel
    have M := Lib.hid m
    clear m
    by_cases hlt : k < 100
    · have x1 := M.out.cell (j := k) 0 rfl (ints_at (by rw [HS.out]; omega))
      have x2 := M.out.cell (j := k) 1 rfl (ints_at (by rw [HS.out]; omega))
      have i0 : (0 : Int) ≤ (k : Int) := by omega
      have i1 : (k : Int) < 100 := by omega
      go_wp2_with fail
      go_quiet (fail)
      have M := Lib.hid (M.out.drewN nq)
      go_wp2
      exact ⟨⟨k + 1, by omega, by go_num, M.out⟩, by simp [intOf]; omega⟩
    · obtain rfl : k = 100 := by omega
      go_wp2
      go_ret
      exact ⟨rfl, M.out.take 0⟩
set_option maxRecDepth 100000 in
set_option maxHeartbeats 1000000 in
theorem eqInt16A100_any (xs : List Int) (hs : xs.length = 100) (w : World) :
    Calls Try.prog 107 #[.agg (ints .i16 xs), .agg (ints .i16 xs)] w fun e w' => e = .returned (.bool true) ∧ Mem w w' [] := by
  have M := Lib.hid (Mem.start w)
  have HS := Lib.hid hs
  clear hs
  go_enter Try.func107, Try.ntmps107
  go_wp2_with (first
    | ((with_reducible refine gate_dst (N := 2) rfl ?_); go_must (refine M.out.ev_new rfl (by first | (go_simp; done) | (go_simp; rfl)) ?_); intro g2 w2 m; simp only [List.cons_append, List.nil_append] at m; have M := Lib.hid m; clear m)
    | ((with_reducible refine gate_dst (N := 3) rfl ?_); go_must (refine M.out.ev_new rfl (by first | (go_simp; done) | (go_simp; rfl)) ?_); intro g3 w3 m; simp only [List.cons_append, List.nil_append] at m; have M := Lib.hid m; clear m)
    | ((with_reducible refine gate_dst (N := 12) rfl ?_); go_must (refine M.out.ev_ld 0 _ _ rfl rfl rfl Try.underlying24 rfl rfl (by first | assumption | rfl) ?_))
    | ((with_reducible refine gate_dst (N := 15) rfl ?_); go_must (refine M.out.ev_ld 1 _ _ rfl rfl rfl Try.underlying24 rfl rfl (by first | assumption | rfl) ?_))
    )
  go_loopw [5] (fun v wr => ∃ k : Nat, k ≤ 100 ∧ v = .int .i64 k ∧ Mem w wr [.blk g2 25 (ints .i16 xs), .blk g3 25 (ints .i16 xs)])
    (fun v _ => 100 - (intOf v).toNat)
  case atStart => exact ⟨0, by omega, rfl, M.out⟩
  case round =>
    clear M
    obtain ⟨k, hk, rfl, m⟩ := hrel
    have M := Lib.hid m
    clear m
    by_cases hlt : k < 100
    · have x1 := M.out.cell (j := k) 0 rfl (ints_at (by rw [HS.out]; omega))
      have x2 := M.out.cell (j := k) 1 rfl (ints_at (by rw [HS.out]; omega))
      have i0 : (0 : Int) ≤ (k : Int) := by omega
      have i1 : (k : Int) < 100 := by omega
      go_wp2_with fail
      go_quiet (fail)
      have M := Lib.hid (M.out.drewN nq)
      go_wp2
      exact ⟨⟨k + 1, by omega, by go_num, M.out⟩, by simp [intOf]; omega⟩
    · obtain rfl : k = 100 := by omega
      go_wp2
      go_ret
      exact ⟨rfl, M.out.take 0⟩
set_option maxRecDepth 100000 in
set_option maxHeartbeats 1000000 in
theorem eqField_any (F : Fld) (hF : F.len) (w : World) :
    Calls Try.prog 52 #[.agg F.cells, .agg F.cells] w fun e w' => e = .returned (.bool true) ∧ Mem w w' [] := by
  have M := Lib.hid (Mem.start w)
  have S1 := Lib.hid (Fld.size hF)
  have LF := Lib.hid hF
  have c0 := F.cell0
  have c1 := F.cell1
  go_enter Try.func52, Try.ntmps52
  go_wp2_with (first
    | ((with_reducible refine gate_dst (N := 2) rfl ?_); go_must (refine M.out.ev_new rfl (by first | (go_simp; done) | (go_simp; rfl)) ?_); intro g2 w2 m; simp only [List.cons_append, List.nil_append] at m; have M := Lib.hid m; clear m)
    | ((with_reducible refine gate_dst (N := 3) rfl ?_); go_must (refine M.out.ev_new rfl (by first | (go_simp; done) | (go_simp; rfl)) ?_); intro g3 w3 m; simp only [List.cons_append, List.nil_append] at m; have M := Lib.hid m; clear m)
    | ((with_reducible refine gate_dst (N := 6) rfl ?_); go_must (refine M.out.ev_ld 0 _ _ rfl rfl rfl Try.underlying22 rfl rfl (by first | assumption | rfl) ?_))
    | ((with_reducible refine gate_dst (N := 8) rfl ?_); go_must (refine M.out.ev_ld 1 _ _ rfl rfl rfl Try.underlying22 rfl rfl (by first | assumption | rfl) ?_))
    | ((with_reducible refine gate_dst (N := 11) rfl ?_); go_must (refine M.out.ev_ld 0 _ _ rfl rfl rfl Try.underlying22 rfl rfl (by first | assumption | rfl) ?_))
    | ((with_reducible refine gate_dst (N := 13) rfl ?_); go_must (refine M.out.ev_ld 1 _ _ rfl rfl rfl Try.underlying22 rfl rfl (by first | assumption | rfl) ?_))
    | ((with_reducible refine gate_dst (N := 16) rfl ?_); go_must (refine M.out.ev_ldm 0 _ _ rfl rfl rfl _ _ (by first | exact Fld.cellsK LF.out | exact Fld.cellsS LF.out | assumption) Try.underlying23 rfl (by first | (rw [List.length_map, LF.out.kl]; exact sz23) | (rw [List.length_map, LF.out.sl]; exact sz23) | exact sz23) rfl ?_))
    | ((with_reducible refine gate_dst (N := 18) rfl ?_); go_must (refine M.out.ev_ldm 1 _ _ rfl rfl rfl _ _ (by first | exact Fld.cellsK LF.out | exact Fld.cellsS LF.out | assumption) Try.underlying23 rfl (by first | (rw [List.length_map, LF.out.kl]; exact sz23) | (rw [List.length_map, LF.out.sl]; exact sz23) | exact sz23) rfl ?_))
    | ((with_reducible refine gate_dst (N := 22) rfl ?_); go_must (refine M.out.ev_ldm 0 _ _ rfl rfl rfl _ _ (by first | exact Fld.cellsK LF.out | exact Fld.cellsS LF.out | assumption) Try.underlying25 rfl (by first | (rw [List.length_map, LF.out.kl]; exact sz25) | (rw [List.length_map, LF.out.sl]; exact sz25) | exact sz25) rfl ?_))
    | ((with_reducible refine gate_dst (N := 24) rfl ?_); go_must (refine M.out.ev_ldm 1 _ _ rfl rfl rfl _ _ (by first | exact Fld.cellsK LF.out | exact Fld.cellsS LF.out | assumption) Try.underlying25 rfl (by first | (rw [List.length_map, LF.out.kl]; exact sz25) | (rw [List.length_map, LF.out.sl]; exact sz25) | exact sz25) rfl ?_))
    | (go_at_call 106; go_must (refine (eqByteA100_any F.kinds hF.kl _).mono ?_); rintro e w_ ⟨rfl, N_⟩; have m := M.out.join N_; clear N_; simp only [List.cons_append, List.nil_append, List.append_nil] at m; have M := Lib.hid m; clear m)
    | (go_at_call 107; go_must (refine (eqInt16A100_any F.seeds hF.sl _).mono ?_); rintro e w_ ⟨rfl, N_⟩; have m := M.out.join N_; clear N_; simp only [List.cons_append, List.nil_append, List.append_nil] at m; have M := Lib.hid m; clear m)
    )
  go_ret
  exact ⟨rfl, M.out.take 0⟩
end Go.Proofs.Ytbjcajhbhicokaa
