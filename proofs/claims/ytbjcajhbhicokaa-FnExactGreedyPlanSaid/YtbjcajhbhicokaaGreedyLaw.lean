/- The law of the greedy plan of harvest: its walk. -/
import Derived.Test.YtbjcajhbhicokaaGreedy
namespace Go.Proofs.Ytbjcajhbhicokaa
set_option linter.unusedSimpArgs false
set_option linter.unusedVariables false
open Go.RowKit
attribute [local go_sem] cell?_mk frozen?_mk

set_option maxRecDepth 100000 in
set_option maxHeartbeats 8000000 in
theorem lawGreedyPlan_any (A : Option Addr) (n : Nat) (xs : List Plot) (hx : ∀ x ∈ xs, x.ok) (hm : xs.length ≤ 9223372036854775807) (h d : Int) (w : World) (hs : Sl w 4 A xs.length (flat Plot.vals xs)) :
    Calls Try.prog 5 #[.slice A xs.length n, .int .i64 h, .int .i64 d] w fun e w' => e = .returned (.bool true) ∧ Mem w w' [] := by
  have M := Lib.hid (Mem.start w)
  have HX := Lib.hid hx
  have HS := Lib.hid hs
  clear hx hs
  by_cases hl : xs.length ≤ 1048576
  · have hz : ¬ ((1048576 : Int) < xs.length) := by omega
    have HZ := Lib.hid hz
    have hz0 : ¬ ((1048576 : Int) - xs.length < 0) := by omega
    have hr := grRes_len xs h d
    have hk1 : ¬ (1 + 4 * (xs.length : Int) < 0) := by omega
    have IM := Lib.hid (fun A n w hs => impl_GreedyPlan_any A n xs HX.out hl h d w hs)
    have SP := Lib.hid (fun A n w hs => spec_GreedyPlan_any A n xs HX.out hl h d w hs)
    obtain ⟨R, hR⟩ : ∃ R, R = grRes xs h d := ⟨_, rfl⟩
    obtain ⟨S, hS⟩ : ∃ S, S = grSum xs h d := ⟨_, rfl⟩
    obtain ⟨C, hC⟩ : ∃ C, C = grCode xs h d := ⟨_, rfl⟩
    rw [← hR, ← hS, ← hC] at IM SP
    rw [← hR] at hr
    have hk2 : ¬ (1 + (R.length : Int) < 0) := by omega
    clear hR hS hC
    go_enter Try.func5, Try.ntmps5
    go_wp2_with (first
      | (go_at_call 21; go_must (refine (szPlotS_any A xs.length n 1048576 _ (by omega) (by omega) hm).mono ?_); rintro e w_ ⟨rfl, rfl⟩; rw [if_neg (by have := HZ.out; omega)])
      | (go_at_call 23; go_must (refine (toPlotS_any A n xs _ hl (M.out.sl HS.out)).mono ?_); rintro e w_ ⟨A_, c_, rfl, hc_, N_⟩; have m := M.out.join N_; clear N_; simp only [List.cons_append, List.nil_append, List.append_nil] at m; have M := Lib.hid m; clear m)
      | (go_at_call 31; go_must (refine (SP.out _ _ _ (M.out.slof 0 rfl)).mono ?_); rintro e w_ ⟨A_, c_, rfl, hc_, N_⟩; have m := M.out.join N_; clear N_; simp only [List.cons_append, List.nil_append, List.append_nil] at m; have M := Lib.hid m; clear m)
      | (go_at_call 32; go_must (first | (refine Calls.mono (calls_args (by with_reducible rfl) (IM.out _ _ _ (M.out.slof 2 rfl))) ?_) | (refine Calls.mono (calls_args (by with_reducible rfl) (IM.out _ _ _ (M.out.slof 5 rfl))) ?_)); rintro e w_ ⟨A_, c_, rfl, hc_, N_⟩; have m := M.out.join N_; clear N_; simp only [List.cons_append, List.nil_append, List.append_nil] at m; have M := Lib.hid m; clear m)
      | (go_at_call 27; go_must (refine (eqPlotS_any _ _ _ _ xs xs _ hl (M.out.slof 2 rfl) (M.out.slof 4 rfl)).mono ?_); rintro e w_ ⟨rfl, N_⟩; have m := M.out.join N_; clear N_; simp only [List.cons_append, List.nil_append, List.append_nil] at m; have M := Lib.hid m; clear m; rw [decide_eq_true rfl])
      | (go_at_call 26; go_must (first | (refine Calls.mono (calls_args (by with_reducible rfl) (eqI_any _ _ _ _ R _ hr (M.out.slof 3 rfl) (M.out.slof 1 rfl))) ?_) | (refine Calls.mono (calls_args (by with_reducible rfl) (eqI_any _ _ _ _ R _ hr (M.out.slof 6 rfl) (M.out.slof 1 rfl))) ?_)); rintro e w_ ⟨rfl, N_⟩; have m := M.out.join N_; clear N_; simp only [List.cons_append, List.nil_append, List.append_nil] at m; have M := Lib.hid m; clear m)
      | (go_at_call 28; go_must (refine (markPlot_any 2 M.out _ _ xs rfl hl).mono ?_); rintro e w_ ⟨rfl, m⟩; simp only [List.set_cons_succ, List.set_cons_zero] at m; have M := Lib.hid m; clear m)
      | (go_at_call 29; go_must (refine (mark64_any 3 M.out _ _ _ _ rfl hr).mono ?_); rintro e w_ ⟨rfl, m⟩; simp only [List.set_cons_succ, List.set_cons_zero] at m; have M := Lib.hid m; clear m)
      | (go_at_call 30; go_must (refine (held64_any _ _ R.length hr _ (M.out.slof 3 rfl)).mono ?_); rintro e w_ ⟨rfl, rfl⟩))
    go_ret
    exact ⟨ret_bool rfl, M.out.take 0⟩
  · have hz : (1048576 : Int) < xs.length := by omega
    have HZ := Lib.hid hz
    go_enter Try.func5, Try.ntmps5
    go_wp2_with (first
      | (go_at_call 21; go_must (refine (szPlotS_any A xs.length n 1048576 _ (by omega) (by omega) hm).mono ?_); rintro e w_ ⟨rfl, rfl⟩; rw [if_pos HZ.out]))
    go_ret
    exact ⟨ret_bool rfl, M.out.take 0⟩
end Go.Proofs.Ytbjcajhbhicokaa
