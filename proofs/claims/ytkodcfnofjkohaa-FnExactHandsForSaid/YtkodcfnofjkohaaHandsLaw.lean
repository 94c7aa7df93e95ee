/- The law of the least number of hands: its walk. -/
import Derived.Test.YtkodcfnofjkohaaHands
namespace Go.Proofs.Ytkodcfnofjkohaa
set_option linter.unusedSimpArgs false
set_option linter.unusedVariables false
open Go.RowKit
attribute [local go_sem] cell?_mk frozen?_mk

set_option maxRecDepth 100000 in
set_option maxHeartbeats 8000000 in
theorem lawHandsFor_any (A : Option Addr) (n : Nat) (xs : List Plot) (hx : ∀ x ∈ xs, x.ok) (hm : xs.length ≤ 9223372036854775807) (d v : Int) (w : World) (hs : Sl w 4 A xs.length (flat Plot.vals xs)) :
    Calls Try.prog 3 #[.slice A xs.length n, .int .i64 d, .int .i64 v] w fun e w' => e = .returned (.bool true) ∧ Mem w w' [] := by
  have M := Lib.hid (Mem.start w)
  have HX := Lib.hid hx
  have HS := Lib.hid hs
  clear hx hs
  by_cases hl : xs.length ≤ 1048576
  · have hz : ¬ ((1048576 : Int) < xs.length) := by omega
    have HZ := Lib.hid hz
    have hz0 : ¬ ((1048576 : Int) - xs.length < 0) := by omega
    have IM := Lib.hid (fun A n hn hA w hs => impl_HandsFor_any A n xs HX.out hl hn hA d v w hs)
    have SP := Lib.hid (fun A n hn hA w hs => spec_HandsFor_any A n xs HX.out hl hn hA d v w hs)
    obtain ⟨S, hS⟩ : ∃ S, S = hfRes xs d v := ⟨_, rfl⟩
    obtain ⟨C, hC⟩ : ∃ C, C = hfCode xs d v := ⟨_, rfl⟩
    rw [← hS, ← hC] at IM SP
    clear hS hC
    go_enter Try.func3, Try.ntmps3
    go_wp2_with (first
      | (go_at_call 8; go_must (refine (szPlotS_any A xs.length n 1048576 _ (by omega) (by omega) hm).mono ?_); rintro e w_ ⟨rfl, rfl⟩; rw [if_neg (by have := HZ.out; omega)])
      | (go_at_call 10; go_must (refine (toPlotS_any A n xs _ hl (M.out.sl HS.out)).mono ?_); rintro e w_ ⟨A_, c_, rfl, hc_, N_⟩; have m := M.out.join N_; clear N_; simp only [List.cons_append, List.nil_append, List.append_nil] at m; have M := Lib.hid m; clear m)
      | (go_at_call 9; go_must (refine (SP.out _ _ (M.out.row_le 0 rfl).1 (M.out.row_ok 0 rfl) _ (M.out.slof 0 rfl)).mono ?_); rintro e w_ ⟨rfl, N_⟩; have m := M.out.join N_; clear N_; simp only [List.cons_append, List.nil_append, List.append_nil] at m; have M := Lib.hid m; clear m)
      | (go_at_call 11; go_must (refine (IM.out _ _ (M.out.row_le 1 rfl).1 (M.out.row_ok 1 rfl) _ (M.out.slof 1 rfl)).mono ?_); rintro e w_ ⟨rfl, N_⟩; have m := M.out.join N_; clear N_; simp only [List.cons_append, List.nil_append, List.append_nil] at m; have M := Lib.hid m; clear m)
      | (go_at_call 12; go_must (refine (eqPlotS_any _ _ _ _ xs xs _ hl (M.out.slof 1 rfl) (M.out.slof 2 rfl)).mono ?_); rintro e w_ ⟨rfl, N_⟩; have m := M.out.join N_; clear N_; simp only [List.cons_append, List.nil_append, List.append_nil] at m; have M := Lib.hid m; clear m; rw [decide_eq_true rfl]))
    go_ret
    exact ⟨ret_bool rfl, M.out.take 0⟩
  · have hz : (1048576 : Int) < xs.length := by omega
    have HZ := Lib.hid hz
    go_enter Try.func3, Try.ntmps3
    go_wp2_with (first
      | (go_at_call 8; go_must (refine (szPlotS_any A xs.length n 1048576 _ (by omega) (by omega) hm).mono ?_); rintro e w_ ⟨rfl, rfl⟩; rw [if_pos HZ.out]))
    go_ret
    exact ⟨ret_bool rfl, M.out.take 0⟩
end Go.Proofs.Ytkodcfnofjkohaa
