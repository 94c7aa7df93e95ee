/- Texts of a proof, laid together: BestA. -/
import Derived.Test.YtdnofkngljjbmaaZP24
namespace Go.Proofs.Ytdnofkngljjbmaa
set_option linter.unusedSimpArgs false
set_option linter.unusedVariables false
open Go.RowKit
attribute [local go_sem] cell?_mk frozen?_mk

def bpRes (xs : List Plot) (h d : Int) : List Int := if grCode xs h d = 0 then bpTo xs h d.toNat xs.length else []
def bpSum (xs : List Plot) (h d : Int) : Int := if grCode xs h d = 0 then mostOf xs h d.toNat [] else 0
theorem bpRes_len (xs : List Plot) (h d : Int) : (bpRes xs h d).length ≤ 1048576 := by
  unfold bpRes
  split
  · rename_i hg
    have := (plotsOk_iff.1 (grCode_0 hg).1).2
    rw [bpTo_len]; omega
  · exact Nat.zero_le _
set_option maxRecDepth 100000 in
set_option maxHeartbeats 4000000 in
theorem impl_BestPlan_any (A : Option Addr) (n : Nat) (xs : List Plot) (hx : ∀ x ∈ xs, x.ok) (hl : xs.length ≤ 1048576) (hn : xs.length ≤ n) (hA : SlOk A n) (h d : Int) (w : World) (hs : Sl w 4 A xs.length (flat Plot.vals xs)) :
    Calls Try.prog 9 #[.slice A xs.length n, .int .i64 h, .int .i64 d] w (RetIS w (bpRes xs h d) (bpSum xs h d) (grCode xs h d)) := by
  have M := Lib.hid (Mem.start w)
  have HX := Lib.hid hx
  have HS := Lib.hid hs
  clear hx hs
  by_cases hg : grCode xs h d = 0
  · obtain ⟨hpo, hh, hd⟩ := grCode_0 hg
    obtain ⟨hf, h6⟩ := plotsOk_iff.1 hpo
    obtain ⟨h0, h1⟩ := hh
    obtain ⟨d0, d1⟩ := hd
    have HH := Lib.hid (show inB h 1 3 = true from inB_iff.2 ⟨h0, h1⟩)
    have HDD := Lib.hid (show inB d 1 20 = true from inB_iff.2 ⟨d0, d1⟩)
    have HG0 := Lib.hid hg
    have HG := Lib.hid (show plCode xs true = 0 by simp [plCode, hpo])
    have HGQ := Lib.hid (show plCode xs (inB h 1 3 && inB d 1 20) = 0 by exact hg)
    obtain ⟨q, rfl⟩ : ∃ q : Nat, d = q := ⟨d.toNat, by omega⟩
    have HR := Lib.hid (show bpRes xs h (q : Int) = bpTo xs h q xs.length by rw [bpRes, if_pos HG0.out, Int.toNat_natCast])
    have HSM := Lib.hid (show bpSum xs h (q : Int) = mostOf xs h q [] by rw [bpSum, if_pos HG0.out, Int.toNat_natCast])
    have BP := Lib.hid (fun (w : World) hs => impl_bestPlan_any A n xs hf h6 hn hA h (by omega) h1 q (by omega) w hs)
    have HBL := Lib.hid (show xs.length = (bpTo xs h q xs.length).length from (bpTo_len _ _ _ _).symm)
    have HDY := Lib.hid (bp_ok hf h6 (by omega : 0 ≤ h) (by omega : q ≤ 20) xs.length (Nat.le_refl _)).days
    have SU := Lib.hid (fun B c (w : World) hs (ht : Sl w 1 B xs.length (flat oneI (bpTo xs h q xs.length))) => (show Calls Try.prog 59 #[.slice A xs.length n, .slice B xs.length c] w fun e w' => e = .returned (.int .i64 (mostOf xs h q [])) ∧ Mem w w' [] by
      have hlen := bpTo_len xs h q xs.length
      have := l07Sum_any A n xs hf h6 B c (bpTo xs h q xs.length) hlen (fun e he => by have := HDY.out e he; omega) w hs (by rw [hlen]; exact ht)
      have hb := bp_sum hf h6 (by omega : 0 ≤ h) (by omega : q ≤ 20)
      unfold baseOf at hb
      rw [hlen, List.take_length] at hb
      rw [hlen, ← hb] at this
      exact this))
    clear hg hpo hf
    go_enter Try.func9, Try.ntmps9
    go_wp2_with (first
      | (go_at_call 54; go_must (refine (areHands_any _ _).mono ?_); rintro e w_ ⟨rfl, rfl⟩; rw [HH.out])
      | (go_at_call 55; go_must (refine (areDays_any _ _).mono ?_); rintro e w_ ⟨rfl, rfl⟩; rw [HDD.out])
      | (go_at_call 53; go_must (refine (plotsCode_any A n xs HX.out hl _ _ (M.out.sl HS.out)).mono ?_); rintro e w_ ⟨rfl, N_⟩; have m := M.out.join N_; clear N_; simp only [List.cons_append, List.nil_append, List.append_nil] at m; have M := Lib.hid m; clear m; rw [HG.out])
      | (go_at_call 56; go_must (refine (BP.out _ (M.out.sl HS.out)).mono ?_); rintro e w_ ⟨BB, cB, rfl, hcB, N_⟩; have m := M.out.join N_; clear N_; simp only [List.cons_append, List.nil_append, List.append_nil] at m; have M := Lib.hid m; clear m)
      )
    go_ret3
    rw [HR.out, HSM.out, HG0.out]
    unfold RetIS
    rw [← HBL.out]
    exact ⟨_, _, rfl, hcB, M.out.take 1⟩
  · have HG0 := Lib.hid hg
    have hgb : (grCode xs h d != 0) = true := by simp [hg]
    have HR := Lib.hid (show bpRes xs h d = [] by rw [bpRes, if_neg hg])
    have HSM := Lib.hid (show bpSum xs h d = 0 by rw [bpSum, if_neg hg])
    have HGC := Lib.hid (show plCode xs (inB h 1 3 && inB d 1 20) = grCode xs h d from rfl)
    obtain ⟨C, hC⟩ : ∃ C, C = grCode xs h d := ⟨_, rfl⟩
    rw [← hC] at hgb HGC HG0 ⊢
    clear hg hC
    have HGQ := Lib.hid HGC.out
    cases hh : inB h 1 3 <;> cases hd : inB d 1 20
    all_goals
      have HH := Lib.hid hh
      have HDD := Lib.hid hd
      have HG := Lib.hid HGC.out
      rw [hh, hd] at HG
      simp only [Bool.and_true, Bool.and_false, Bool.false_and, Bool.true_and] at HG
      clear hh hd
      go_enter Try.func9, Try.ntmps9
      go_wp2_with (first
        | (go_at_call 54; go_must (refine (areHands_any _ _).mono ?_); rintro e w_ ⟨rfl, rfl⟩; rw [HH.out])
        | (go_at_call 55; go_must (refine (areDays_any _ _).mono ?_); rintro e w_ ⟨rfl, rfl⟩; rw [HDD.out])
        | (go_at_call 53; go_must (refine (plotsCode_any A n xs HX.out hl _ _ (M.out.sl HS.out)).mono ?_); rintro e w_ ⟨rfl, N_⟩; have m := M.out.join N_; clear N_; simp only [List.cons_append, List.nil_append, List.append_nil] at m; have M := Lib.hid m; clear m; rw [HG.out])
        )
      go_ret3
      rw [HR.out, HSM.out]
      exact ⟨none, 0, rfl, Nat.le_refl _, (M.out.take 0).nilrow 2 1⟩
set_option maxRecDepth 100000 in
set_option maxHeartbeats 4000000 in
theorem spec_BestPlan_any (A : Option Addr) (n : Nat) (xs : List Plot) (hx : ∀ x ∈ xs, x.ok) (hl : xs.length ≤ 1048576) (hn : xs.length ≤ n) (hA : SlOk A n) (h d : Int) (w : World) (hs : Sl w 4 A xs.length (flat Plot.vals xs)) :
    Calls Try.prog 10 #[.slice A xs.length n, .int .i64 h, .int .i64 d] w (RetIS w (bpRes xs h d) (bpSum xs h d) (grCode xs h d)) := by
  have M := Lib.hid (Mem.start w)
  have HX := Lib.hid hx
  have HS := Lib.hid hs
  clear hx hs
  by_cases hg : grCode xs h d = 0
  · obtain ⟨hpo, hh, hd⟩ := grCode_0 hg
    obtain ⟨hf, h6⟩ := plotsOk_iff.1 hpo
    obtain ⟨h0, h1⟩ := hh
    obtain ⟨d0, d1⟩ := hd
    have HH := Lib.hid (show inB h 1 3 = true from inB_iff.2 ⟨h0, h1⟩)
    have HDD := Lib.hid (show inB d 1 20 = true from inB_iff.2 ⟨d0, d1⟩)
    have HG0 := Lib.hid hg
    have HG := Lib.hid (show plCode xs true = 0 by simp [plCode, hpo])
    have HGQ := Lib.hid (show plCode xs (inB h 1 3 && inB d 1 20) = 0 by exact hg)
    obtain ⟨q, rfl⟩ : ∃ q : Nat, d = q := ⟨d.toNat, by omega⟩
    have HR := Lib.hid (show bpRes xs h (q : Int) = bpTo xs h q xs.length by rw [bpRes, if_pos HG0.out, Int.toNat_natCast])
    have HSM := Lib.hid (show bpSum xs h (q : Int) = mostOf xs h q [] by rw [bpSum, if_pos HG0.out, Int.toNat_natCast])
    have BP := Lib.hid (fun (w : World) hs => l07Planned_any A n xs hf h6 hn hA h (by omega) h1 q (by omega) w hs)
    have HBL := Lib.hid (show xs.length = (bpTo xs h q xs.length).length from (bpTo_len _ _ _ _).symm)
    have HDY := Lib.hid (bp_ok hf h6 (by omega : 0 ≤ h) (by omega : q ≤ 20) xs.length (Nat.le_refl _)).days
    have SU := Lib.hid (fun B c (w : World) hs (ht : Sl w 1 B xs.length (flat oneI (bpTo xs h q xs.length))) => (show Calls Try.prog 59 #[.slice A xs.length n, .slice B xs.length c] w fun e w' => e = .returned (.int .i64 (mostOf xs h q [])) ∧ Mem w w' [] by
      have hlen := bpTo_len xs h q xs.length
      have := l07Sum_any A n xs hf h6 B c (bpTo xs h q xs.length) hlen (fun e he => by have := HDY.out e he; omega) w hs (by rw [hlen]; exact ht)
      have hb := bp_sum hf h6 (by omega : 0 ≤ h) (by omega : q ≤ 20)
      unfold baseOf at hb
      rw [hlen, List.take_length] at hb
      rw [hlen, ← hb] at this
      exact this))
    clear hg hpo hf
    go_enter Try.func10, Try.ntmps10
    go_wp2_with (first
      | (go_at_call 57; go_must (refine (l07Game_any A n xs HX.out hl _ _ _ (M.out.sl HS.out)).mono ?_); rintro e w_ ⟨rfl, N_⟩; have m := M.out.join N_; clear N_; simp only [List.cons_append, List.nil_append, List.append_nil] at m; have M := Lib.hid m; clear m; rw [HGQ.out])
      | (go_at_call 58; go_must (refine (BP.out _ (M.out.sl HS.out)).mono ?_); rintro e w_ ⟨BB, cB, rfl, hcB, N_⟩; have m := M.out.join N_; clear N_; simp only [List.cons_append, List.nil_append, List.append_nil] at m; have M := Lib.hid m; clear m)
      | (go_at_call 59; go_must (refine (SU.out _ _ _ (M.out.sl HS.out) (M.out.slof 0 rfl)).mono ?_); rintro e w_ ⟨rfl, N_⟩; have m := M.out.join N_; clear N_; simp only [List.cons_append, List.nil_append, List.append_nil] at m; have M := Lib.hid m; clear m)
      )
    go_ret3
    rw [HR.out, HSM.out, HG0.out]
    unfold RetIS
    rw [← HBL.out]
    exact ⟨_, _, rfl, hcB, M.out.take 1⟩
  · have HG0 := Lib.hid hg
    have hgb : (grCode xs h d != 0) = true := by simp [hg]
    have HR := Lib.hid (show bpRes xs h d = [] by rw [bpRes, if_neg hg])
    have HSM := Lib.hid (show bpSum xs h d = 0 by rw [bpSum, if_neg hg])
    have HGC := Lib.hid (show plCode xs (inB h 1 3 && inB d 1 20) = grCode xs h d from rfl)
    obtain ⟨C, hC⟩ : ∃ C, C = grCode xs h d := ⟨_, rfl⟩
    rw [← hC] at hgb HGC HG0 ⊢
    clear hg hC
    have HGQ := Lib.hid HGC.out
    cases hh : inB h 1 3 <;> cases hd : inB d 1 20
    all_goals
      have HH := Lib.hid hh
      have HDD := Lib.hid hd
      have HG := Lib.hid HGC.out
      rw [hh, hd] at HG
      simp only [Bool.and_true, Bool.and_false, Bool.false_and, Bool.true_and] at HG
      clear hh hd
      go_enter Try.func10, Try.ntmps10
      go_wp2_with (first
        | (go_at_call 57; go_must (refine (l07Game_any A n xs HX.out hl _ _ _ (M.out.sl HS.out)).mono ?_); rintro e w_ ⟨rfl, N_⟩; have m := M.out.join N_; clear N_; simp only [List.cons_append, List.nil_append, List.append_nil] at m; have M := Lib.hid m; clear m; rw [HGQ.out])
        | ((with_reducible refine gate_dst (N := 17) rfl ?_); go_must (refine M.out.ev_bs0 elem_int64 rfl rfl ?_); intro gv17 wv17 m; simp only [List.cons_append, List.nil_append] at m; have M := Lib.hid m; clear m)
        )
      go_ret3
      rw [HR.out, HSM.out]
      exact ⟨_, _, rfl, Nat.le_refl _, M.out.take 1⟩
end Go.Proofs.Ytdnofkngljjbmaa
