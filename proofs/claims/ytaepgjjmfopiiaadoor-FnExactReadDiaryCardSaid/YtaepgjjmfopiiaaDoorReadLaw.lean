/- ReadDiary: the walk of its law. -/
import Derived.Test.YtaepgjjmfopiiaaDoorReadS
import Derived.Test.YtaepgjjmfopiiaaDoorEntryM
namespace Go.Proofs.YtaepgjjmfopiiaaDoor
set_option linter.unusedSimpArgs false
set_option linter.unusedVariables false
open Go.RowKit
attribute [local go_sem] cell?_mk frozen?_mk

theorem readE_len : ∀ (ls : List (List UInt8)) (out es : List Entry), readE ls out = some es → es.length = out.length + ls.length
  | [], out, es, h => by injection h with h; rw [h]; rfl
  | w :: r, out, es, h => by
    rw [readE] at h
    cases hw : entryOf w with
    | none => rw [hw] at h; cases h
    | some x =>
      rw [hw] at h
      have := readE_len r (out ++ [x]) es h
      simp only [List.length_append, List.length_cons, List.length_nil] at this ⊢
      omega
theorem rdList_len (l : List UInt8) : (rdList l).length ≤ 1048576 := by
  unfold rdList
  cases h : readD l with
  | none => simp
  | some es =>
    rw [readD_eq] at h
    split at h
    · rename_i hc
      have := readE_len _ _ _ h
      rw [List.length_dropLast] at this
      simp only [List.length_nil] at this
      show es.length ≤ _
      omega
    · cases h
set_option maxRecDepth 100000 in
set_option maxHeartbeats 4000000 in
theorem lawReadDiary_any (l : List UInt8) (hm : l.length ≤ 9223372036854775807) (w : World) (ht : Tabs w) :
    Calls Tryd.prog 3 #[.string ⟨l.toArray⟩] w fun e w' => e = .returned (.bool true) ∧ Mem w w' [] := by
  have M := Lib.hid (Mem.start w)
  have HT := Lib.hid ht
  have hsz : (⟨l.toArray⟩ : ByteArray).size = l.length := rfl
  clear ht
  by_cases hl : l.length ≤ 1048576
  · have hz : ¬ ((1048576 : Int) < l.length) := by omega
    have hr := rdList_len l
    have IM0 := fun w ht => impl_ReadDiary_any l hl w ht
    have SP0 := fun w => spec_ReadDiary_any l hl w
    generalize rdList l = R at hr IM0 SP0
    generalize rdCode l = C at IM0 SP0
    have IM := Lib.hid IM0
    have SP := Lib.hid SP0
    have hk2 : ¬ (1 + 3 * (R.length : Int) < 0) := by omega
    clear IM0 SP0
    go_enter Tryd.func3, Tryd.ntmps3
    go_wp2_with (first
      | (go_at_call 4; go_must (refine (SP.out _).mono ?_); rintro e w_ ⟨A_, c_, rfl, hc_, N_⟩; have m := M.out.join N_; clear N_; simp only [List.cons_append, List.nil_append, List.append_nil] at m; have M := Lib.hid m; clear m)
      | (go_at_call 5; go_must (refine (IM.out _ (M.out.tabs HT.out)).mono ?_); rintro e w_ ⟨A_, c_, rfl, hc_, N_⟩; have m := M.out.join N_; clear N_; simp only [List.cons_append, List.nil_append, List.append_nil] at m; have M := Lib.hid m; clear m)
      | (go_at_call 6; go_must (first | (refine Calls.mono (calls_args (by with_reducible rfl) (eqEntryS_any _ _ _ _ R R _ hr (M.out.slof 1 rfl) (M.out.slof 0 rfl))) ?_) | (refine Calls.mono (calls_args (by with_reducible rfl) (eqEntryS_any _ _ _ _ R R _ hr (M.out.slof 2 rfl) (M.out.slof 0 rfl))) ?_)); rintro e w_ ⟨rfl, N_⟩; have m := M.out.join N_; clear N_; simp only [List.cons_append, List.nil_append, List.append_nil] at m; have M := Lib.hid m; clear m; rw [decide_eq_true rfl])
      | (go_at_call 7; go_must (refine (markEntry_any 1 M.out _ _ R rfl hr).mono ?_); rintro e w_ ⟨rfl, m⟩; simp only [List.set_cons_succ, List.set_cons_zero] at m; have M := Lib.hid m; clear m)
      | (go_at_call 8; go_must (refine (heldEntry_any _ _ R.length hr _ (M.out.slof 1 rfl)).mono ?_); rintro e w_ ⟨rfl, rfl⟩))
    go_ret
    exact ⟨ret_bool rfl, M.out.take 0⟩
  · have hz : (1048576 : Int) < l.length := by omega
    go_enter Tryd.func3, Tryd.ntmps3
    go_wp2
    go_ret
    exact ⟨ret_bool rfl, M.out.take 0⟩
end Go.Proofs.YtaepgjjmfopiiaaDoor
