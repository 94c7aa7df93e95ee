/- The law of what a plan loses of each plot: its walk. -/
import Derived.Test.YtbjcajhbhicokaaLost
import Derived.Test.YtbjcajhbhicokaaI64
namespace Go.Proofs.Ytbjcajhbhicokaa
set_option linter.unusedSimpArgs false
set_option linter.unusedVariables false
open Go.RowKit
attribute [local go_sem] cell?_mk frozen?_mk

set_option maxRecDepth 100000 in
set_option maxHeartbeats 8000000 in
theorem lawLostBy_any (A : Option Addr) (n : Nat) (xs : List Plot) (hx : ∀ x ∈ xs, x.ok) (hm : xs.length ≤ 9223372036854775807) (h : Int) (B : Option Addr) (c : Nat) (p : List Int) (w : World) (hs : Sl w 4 A xs.length (flat Plot.vals xs)) (ht : Sl w 1 B p.length (flat oneI p)) :
    Calls Try.prog 4 #[.slice A xs.length n, .int .i64 h, .slice B p.length c] w fun e w' => e = .returned (.bool true) ∧ Mem w w' [] := by
  have M := Lib.hid (Mem.start w)
  have HX := Lib.hid hx
  have HS := Lib.hid hs
  have HT := Lib.hid ht
  clear hx hs ht
  by_cases hl2 : p.length ≤ 1048576
  · have hy : ¬ ((1048576 : Int) < p.length) := by omega
    by_cases hl : xs.length ≤ 1048576
    · have hz : ¬ ((1048576 : Int) < xs.length) := by omega
      have HZ := Lib.hid hz
      have hz0 : ¬ ((1048576 : Int) - xs.length < 0) := by omega
      have hr := loRes_len xs h p
      have hk1 : ¬ (1 + 4 * (xs.length : Int) + (p.length : Int) < 0) := by omega
      have IM := Lib.hid (fun A n B c w hs ht => impl_LostBy_any A n xs HX.out hl h B c p hl2 w hs ht)
      have SP := Lib.hid (fun A n B c w hs ht => spec_LostBy_any A n xs HX.out hl h B c p hl2 w hs ht)
      obtain ⟨R, hR⟩ : ∃ R, R = loRes xs h p := ⟨_, rfl⟩
      obtain ⟨C, hC⟩ : ∃ C, C = loCode xs h p := ⟨_, rfl⟩
      rw [← hR, ← hC] at IM SP
      rw [← hR] at hr
      have hk2 : ¬ (1 + (R.length : Int) < 0) := by omega
      clear hR hC
      go_enter Try.func4, Try.ntmps4
      go_wp2_with (first
        | (go_at_call 21; go_must (refine (szPlotS_any A xs.length n 1048576 _ (by omega) (by omega) hm).mono ?_); rintro e w_ ⟨rfl, rfl⟩; rw [if_neg (by have := HZ.out; omega)])
        | (go_at_call 23; go_must (refine (toPlotS_any A n xs _ hl (M.out.sl HS.out)).mono ?_); rintro e w_ ⟨A_, c_, rfl, hc_, N_⟩; have m := M.out.join N_; clear N_; simp only [List.cons_append, List.nil_append, List.append_nil] at m; have M := Lib.hid m; clear m)
        | (go_at_call 24; go_must (refine (toInt64S_any B c p _ hl2 (M.out.sl HT.out)).mono ?_); rintro e w_ ⟨A_, c_, rfl, hc_, N_⟩; have m := M.out.join N_; clear N_; simp only [List.cons_append, List.nil_append, List.append_nil] at m; have M := Lib.hid m; clear m)
        | (go_at_call 22; go_must (refine (SP.out _ _ _ _ _ (M.out.slof 0 rfl) (M.out.slof 1 rfl)).mono ?_); rintro e w_ ⟨A_, c_, rfl, hc_, N_⟩; have m := M.out.join N_; clear N_; simp only [List.cons_append, List.nil_append, List.append_nil] at m; have M := Lib.hid m; clear m)
        | (go_at_call 25; go_must (first | (refine Calls.mono (calls_args (by with_reducible rfl) (IM.out _ _ _ _ _ (M.out.slof 3 rfl) (M.out.slof 4 rfl))) ?_) | (refine Calls.mono (calls_args (by with_reducible rfl) (IM.out _ _ _ _ _ (M.out.slof 8 rfl) (M.out.slof 9 rfl))) ?_)); rintro e w_ ⟨A_, c_, rfl, hc_, N_⟩; have m := M.out.join N_; clear N_; simp only [List.cons_append, List.nil_append, List.append_nil] at m; have M := Lib.hid m; clear m)
        | (go_at_call 27; go_must (refine (eqPlotS_any _ _ _ _ xs xs _ hl (M.out.slof 3 rfl) (M.out.slof 6 rfl)).mono ?_); rintro e w_ ⟨rfl, N_⟩; have m := M.out.join N_; clear N_; simp only [List.cons_append, List.nil_append, List.append_nil] at m; have M := Lib.hid m; clear m; rw [decide_eq_true rfl])
        | (go_at_call 26; go_must (first | (refine Calls.mono (calls_args (by with_reducible rfl) (eqI_any _ _ _ _ R _ hr (M.out.slof 5 rfl) (M.out.slof 2 rfl))) ?_) | (refine Calls.mono (calls_args (by with_reducible rfl) (eqI_any _ _ _ _ p _ hl2 (M.out.slof 4 rfl) (M.out.slof 7 rfl))) ?_) | (refine Calls.mono (calls_args (by with_reducible rfl) (eqI_any _ _ _ _ R _ hr (M.out.slof 10 rfl) (M.out.slof 2 rfl))) ?_)); rintro e w_ ⟨rfl, N_⟩; have m := M.out.join N_; clear N_; simp only [List.cons_append, List.nil_append, List.append_nil] at m; have M := Lib.hid m; clear m)
        | (go_at_call 28; go_must (refine (markPlot_any 3 M.out _ _ xs rfl hl).mono ?_); rintro e w_ ⟨rfl, m⟩; simp only [List.set_cons_succ, List.set_cons_zero] at m; have M := Lib.hid m; clear m)
        | (go_at_call 29; go_must (first | (refine Calls.mono (calls_args (by with_reducible rfl) (mark64_any 5 M.out _ _ _ _ rfl hr)) ?_) | (refine Calls.mono (calls_args (by with_reducible rfl) (mark64K_any 4 M.out _ _ _ _ rfl hl2 _ (by omega) (by omega))) ?_)); rintro e w_ ⟨rfl, m⟩; simp only [List.set_cons_succ, List.set_cons_zero] at m; have M := Lib.hid m; clear m)
        | (go_at_call 30; go_must (refine (held64_any _ _ R.length hr _ (M.out.slof 5 rfl)).mono ?_); rintro e w_ ⟨rfl, rfl⟩))
      go_ret
      exact ⟨ret_bool rfl, M.out.take 0⟩
    · have hz : (1048576 : Int) < xs.length := by omega
      have HZ := Lib.hid hz
      go_enter Try.func4, Try.ntmps4
      go_wp2_with (first
        | (go_at_call 21; go_must (refine (szPlotS_any A xs.length n 1048576 _ (by omega) (by omega) hm).mono ?_); rintro e w_ ⟨rfl, rfl⟩; rw [if_pos HZ.out]))
      go_ret
      exact ⟨ret_bool rfl, M.out.take 0⟩
  · have hy : ((1048576 : Int) < p.length) := by omega
    go_enter Try.func4, Try.ntmps4
    go_wp2
    go_ret
    exact ⟨ret_bool rfl, M.out.take 0⟩
end Go.Proofs.Ytbjcajhbhicokaa
