/- The law of a text: its walk. -/
import Derived.Test.YtifacledmmpnkaaDoorNetsT
namespace Go.Proofs.YtifacledmmpnkaaDoor
set_option linter.unusedSimpArgs false
set_option linter.unusedVariables false
open Go.RowKit
attribute [local go_sem] cell?_mk frozen?_mk

set_option maxRecDepth 100000 in
set_option maxHeartbeats 4000000 in
theorem lawNetsText_any (A : Option Addr) (n : Nat) (xs : List Net) (hx : ∀ x ∈ xs, x.ok) (hm : xs.length ≤ 9223372036854775807) (w : World) (ht : Tab w) (hs : Sl w 4 A xs.length (flat Net.vals xs)) :
    Calls Tryd.prog 5 #[.slice A xs.length n] w fun e w' => e = .returned (.bool true) ∧ Mem w w' [] := by
  have M := Lib.hid (Mem.start w)
  have HX := Lib.hid hx
  have HS := Lib.hid hs
  have HT := Lib.hid ht
  clear hx hs ht
  by_cases hl : xs.length ≤ 1048576
  · have hz : ¬ ((1048576 : Int) < xs.length) := by omega
    have hz2 : ¬ ((1048576 : Int) - xs.length < 0) := by omega
    obtain ⟨R, hR⟩ : ∃ R, R = netsT xs := ⟨_, rfl⟩
    have IM := Lib.hid (fun A n w ht hs => impl_NetsText_any A n xs HX.out hl w ht hs)
    have SP := Lib.hid (fun A n w hs => spec_NetsText_any A n xs HX.out hl w hs)
    rw [← hR] at IM SP
    clear hR
    go_enter Tryd.func5, Tryd.ntmps5
    go_wp2_with (first
      | (go_at_call 18; go_must (refine (szNetS_any A xs.length n 1048576 _ (by omega) (by omega) hm).mono ?_); rintro e w_ ⟨rfl, rfl⟩; rw [if_neg hz])
      | (go_at_call 20; go_must (refine (toNetS_any A n xs _ hl (M.out.sl HS.out)).mono ?_); rintro e w_ ⟨A_, c_, rfl, hc_, N_⟩; have m := M.out.join N_; clear N_; simp only [List.cons_append, List.nil_append, List.append_nil] at m; have M := Lib.hid m; clear m)
      | (go_at_call 19; go_must (refine (SP.out _ _ _ (M.out.slof 0 rfl)).mono ?_); rintro e w_ ⟨rfl, N_⟩; have m := M.out.join N_; clear N_; simp only [List.cons_append, List.nil_append, List.append_nil] at m; have M := Lib.hid m; clear m)
      | (go_at_call 21; go_must (refine (IM.out _ _ _ (M.out.tab HT.out) (M.out.slof 1 rfl)).mono ?_); rintro e w_ ⟨rfl, N_⟩; have m := M.out.join N_; clear N_; simp only [List.cons_append, List.nil_append, List.append_nil] at m; have M := Lib.hid m; clear m)
      | (go_at_call 22; go_must (refine (eqNetS_any _ _ _ _ xs xs _ hl (M.out.slof 1 rfl) (M.out.slof 2 rfl)).mono ?_); rintro e w_ ⟨rfl, N_⟩; have m := M.out.join N_; clear N_; simp only [List.cons_append, List.nil_append, List.append_nil] at m; have M := Lib.hid m; clear m; rw [decide_eq_true rfl]))
    go_ret
    exact ⟨ret_bool rfl, M.out.take 0⟩
  · have hz : (1048576 : Int) < xs.length := by omega
    go_enter Tryd.func5, Tryd.ntmps5
    go_wp2_with (first
      | (go_at_call 18; go_must (refine (szNetS_any A xs.length n 1048576 _ (by omega) (by omega) hm).mono ?_); rintro e w_ ⟨rfl, rfl⟩; rw [if_pos hz]))
    go_ret
    exact ⟨ret_bool rfl, M.out.take 0⟩
end Go.Proofs.YtifacledmmpnkaaDoor
