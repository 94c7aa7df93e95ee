/- The best plan: the walks of both. -/
import Derived.Test.YtkodcfnofjkohaaBestP
import Derived.Test.YtkodcfnofjkohaaHands
namespace Go.Proofs.Ytkodcfnofjkohaa
set_option linter.unusedSimpArgs false
set_option linter.unusedVariables false
open Go.RowKit
attribute [local go_sem] cell?_mk frozen?_mk

theorem bday_uniq {xs : List Plot} {h : Int} {D : Nat} {p : List Int} {j0 j : Nat} (H : mostOf xs h D (p ++ [(j0 : Int) - 1]) = mostOf xs h D []) (hb : ∀ i : Nat, i < j → mostOf xs h D (p ++ [(i : Int) - 1]) < mostOf xs h D []) : j ≤ j0 := by
  rcases Nat.lt_or_ge j0 j with h9 | h9
  · have := hb j0 h9; omega
  · exact h9
set_option maxRecDepth 100000 in
set_option maxHeartbeats 8000000 in
theorem impl_bestPlan_any (A : Option Addr) (n : Nat) (xs : List Plot) (hx : ∀ x ∈ xs, x.fine = true) (hl : xs.length ≤ 6) (hn : xs.length ≤ n) (hA : SlOk A n) (h : Int) (h0 : 0 ≤ h) (h1 : h ≤ 3) (D : Nat) (hD : D ≤ 20) (w : World) (hs : Sl w 4 A xs.length (flat Plot.vals xs)) :
    Calls Try.prog 44 #[.slice A xs.length n, .int .i64 h, .int .i64 D] w fun e w' => ∃ B c, e = .returned (.tuple #[.slice B xs.length c, .int .i64 (mostOf xs h D [])]) ∧ xs.length ≤ c ∧ Mem w w' [.row (.slice B xs.length c) 2 1 xs.length (flat oneI (bpTo xs h D xs.length))] := by
  have M := Lib.hid (Mem.start w)
  have HS := Lib.hid hs
  have BD := Lib.hid (fun k (hk : k < xs.length) => bp_day hx hl (bp_ok hx hl h0 hD k (by omega)) hD (by rw [bpTo_len]; omega))
  have BK := Lib.hid (fun k (hk : k ≤ xs.length) => bp_ok hx hl h0 hD k hk)
  have HV0 := Lib.hid (bp_shut hx hl (bp_ok hx hl h0 hD 0 (by omega)))
  have CA0 := Lib.hid (fun (w : World) hs => most1_any A n xs hx hl hn hA h h0 h1 D hD none 0 [] (by simp) (fun _ h => absurd h (by simp)) w hs Sl.nil_)
  have CAP := Lib.hid (fun k (hk : k < xs.length) (d : Int) (hd : -1 ≤ d ∧ d ≤ 20) B nb (w : World) hs (ht : Sl w 1 B (k + 1) (flat oneI (bpTo xs h D k) ++ [.int .i64 d])) => (show Calls Try.prog 38 #[.slice A xs.length n, .int .i64 h, .int .i64 D, .slice B (k + 1) nb] w fun e w' => e = .returned (.int .i64 (mostOf xs h D (bpTo xs h D k ++ [d]))) ∧ Mem w w' [] by
    have hlk : (bpTo xs h D k ++ [d]).length = k + 1 := by rw [List.length_append, bpTo_len]; rfl
    have := most1_any A n xs hx hl hn hA h h0 h1 D hD B nb (bpTo xs h D k ++ [d]) (by omega) (fun e he => by
      rcases List.mem_append.1 he with h | h
      · have := (bp_ok hx hl h0 hD k (by omega)).days e h; omega
      · rw [List.mem_singleton] at h; omega) w hs (by rw [hlk, flat_snoc]; exact ht)
    rwa [hlk] at this))
  have HBT := Lib.hid (fun k => show bpTo xs h D (k + 1) = bpTo xs h D k ++ [bday xs h D (mostOf xs h D []) (bpTo xs h D k)] from rfl)
  have HB0 := Lib.hid (show bpTo xs h D 0 = [] from rfl)
  have HBL := Lib.hid (bpTo_len xs h D)
  clear hx hs
  obtain ⟨V, hV⟩ : ∃ V, V = mostOf xs h D [] := ⟨_, rfl⟩
  have HVE := Lib.hid hV
  rw [← hV] at CA0 HBT BD
  rw [← hV]
  clear hV
  go_enter Try.func44, Try.ntmps44
  go_wp2_with (first
    | ((with_reducible refine gate_dst (N := 11) rfl ?_); go_must (refine M.out.ev_bs0 elem_int64 rfl rfl ?_); intro gv11 wv11 m; simp only [List.cons_append, List.nil_append] at m; have M := Lib.hid m; clear m)
    | (go_at_call 38; go_must (refine (CA0.out _ (M.out.sl HS.out)).mono ?_); rintro e w_ ⟨rfl, N_⟩; have m := M.out.join N_; clear N_; simp only [List.cons_append, List.nil_append, List.append_nil] at m; have M := Lib.hid m; clear m)
    )
  go_loopw [8, 18] (fun s v wr => ∃ k : Nat, k ≤ xs.length ∧ v = .int .i64 k ∧ Mem w wr [.row s 2 1 k (flat oneI (bpTo xs h D k))])
    (fun _ v _ => xs.length - (intOf v).toNat)
  case atStart => exact ⟨0, by omega, rfl, M.out⟩
  case round =>
    clear M
    obtain ⟨k, hk, rfl, m⟩ := hrel
    have M := Lib.hid m
    clear m
    by_cases hlt : k < xs.length
    · obtain ⟨B, c, rfl, hc, _⟩ := M.out.row_slice 0 rfl
      have i1 : (k : Int) < (xs.length : Int) := by omega
      obtain ⟨j0, hj0, hb0, H0, hl0⟩ := BD.out k hlt
      have HB1 := Lib.hid (HBT.out k)
      rw [hb0] at HB1
      have HL0 := Lib.hid hl0
      have CAK := Lib.hid (CAP.out k hlt)
      have HE0 := Lib.hid H0.val
      rw [← HVE.out] at HE0
      have HLK := Lib.hid (HBL.out k)
      obtain ⟨p, hp⟩ : ∃ p, p = bpTo xs h D k := ⟨_, rfl⟩
      rw [← hp] at HB1 HL0 CAK HE0 M HLK
      clear hb0 H0 hl0 hp
      go_wp2
      go_loopw [10] (fun v wr => ∃ j : Nat, j ≤ j0 ∧ v = .int .i64 ((j : Int) - 1) ∧ Mem w wr [.row (.slice B k c) 2 1 k (flat oneI p)])
        (fun v _ => j0 + 1 - (intOf v + 1).toNat)
      case atStart => exact ⟨0, by omega, rfl, M.out⟩
      case round =>
        clear M
        obtain ⟨j, hj, rfl, m⟩ := hrel
        have M := Lib.hid m
        clear m
        have CAJ := Lib.hid (CAK.out ((j : Int) - 1) (by omega))
        have CLO := Lib.hid (fun A n hc hA (w : World) hs => cloneI_any A n p (by have := HLK.out; omega) hc hA w hs)
        rw [HLK.out] at CLO
        have hq : (mostOf xs h D (p ++ [(j : Int) - 1]) < V ∧ j < j0) ∨ (¬ mostOf xs h D (p ++ [(j : Int) - 1]) < V ∧ j = j0) := by
          rcases Nat.lt_or_ge j j0 with h9 | h9
          · exact .inl ⟨HL0.out j h9, h9⟩
          · have : j = j0 := by omega
            subst this
            exact .inr ⟨by have := HE0.out; omega, rfl⟩
        obtain ⟨q, hqe⟩ : ∃ q, q = mostOf xs h D (p ++ [(j : Int) - 1]) := ⟨_, rfl⟩
        rw [← hqe] at CAJ hq
        have w1 : IntKind.i64.wrap ((j : Int) - 1 + 1) = (j : Int) - 1 + 1 := IntWalk.i64_in _ (by omega)
        clear hqe
        rcases hq with ⟨hq, hjj⟩ | ⟨hq, hjj⟩
        · have HJ := Lib.hid hjj
          clear hjj
          go_wp2_with (first
            | (go_at_call 74; go_must (refine (CLO.out _ _ hc (M.out.row_none 0 rfl) _ (M.out.slof 0 rfl)).mono ?_); rintro e w_ ⟨A26, c26, rfl, hc26, N_⟩; have m := M.out.join N_; clear N_; simp only [List.cons_append, List.nil_append, List.append_nil] at m; have M := Lib.hid m; clear m)
            | ((with_reducible refine gate_dst (N := 26) rfl ?_); go_must (refine M.out.ev_bs1 elem_int64 rfl _ rfl #[.int .i64 ((j : Int) - 1)] rfl rfl (by decide) ?_); intro g26 w26 m; simp only [List.cons_append, List.nil_append] at m; have M := Lib.hid m; clear m)
            | ((with_reducible refine gate_dst (N := 27) rfl ?_); go_must (refine M.out.ev_append1 1 2 elem_int64 rfl _ _ rfl rfl rfl rfl rfl rfl (by simp [Value.oneCell']) (by omega) (by decide) ?_); intro v27 w27 m; simp only [List.set_cons_succ, List.set_cons_zero] at m; have M := Lib.hid m; clear m; obtain ⟨B27, c27, rfl, hc27, _⟩ := M.out.row_slice 1 rfl)
            | (go_at_call 38; go_must (refine (CAJ.out _ _ _ (M.out.sl HS.out) (M.out.slof 1 rfl)).mono ?_); rintro e w_ ⟨rfl, N_⟩; have m := M.out.join N_; clear N_; simp only [List.cons_append, List.nil_append, List.append_nil] at m; have M := Lib.hid m; clear m)
            )
          have hjj := HJ.out
          exact ⟨⟨j + 1, by omega, by go_num, M.out.take 1⟩, by simp [intOf]; try omega⟩
        · have HJ := Lib.hid hjj
          clear hjj
          go_wp2_with (first
            | (go_at_call 74; go_must (refine (CLO.out _ _ hc (M.out.row_none 0 rfl) _ (M.out.slof 0 rfl)).mono ?_); rintro e w_ ⟨A26, c26, rfl, hc26, N_⟩; have m := M.out.join N_; clear N_; simp only [List.cons_append, List.nil_append, List.append_nil] at m; have M := Lib.hid m; clear m)
            | ((with_reducible refine gate_dst (N := 26) rfl ?_); go_must (refine M.out.ev_bs1 elem_int64 rfl _ rfl #[.int .i64 ((j : Int) - 1)] rfl rfl (by decide) ?_); intro g26 w26 m; simp only [List.cons_append, List.nil_append] at m; have M := Lib.hid m; clear m)
            | ((with_reducible refine gate_dst (N := 27) rfl ?_); go_must (refine M.out.ev_append1 1 2 elem_int64 rfl _ _ rfl rfl rfl rfl rfl rfl (by simp [Value.oneCell']) (by omega) (by decide) ?_); intro v27 w27 m; simp only [List.set_cons_succ, List.set_cons_zero] at m; have M := Lib.hid m; clear m; obtain ⟨B27, c27, rfl, hc27, _⟩ := M.out.row_slice 1 rfl)
            | (go_at_call 38; go_must (refine (CAJ.out _ _ _ (M.out.sl HS.out) (M.out.slof 1 rfl)).mono ?_); rintro e w_ ⟨rfl, N_⟩; have m := M.out.join N_; clear N_; simp only [List.cons_append, List.nil_append, List.append_nil] at m; have M := Lib.hid m; clear m)
            | ((with_reducible refine gate_dst (N := 35) rfl ?_); go_must (refine M.out.ev_bs1 elem_int64 rfl _ rfl #[.int .i64 ((j : Int) - 1)] rfl rfl (by decide) ?_); intro g35 w35 m; simp only [List.cons_append, List.nil_append] at m; have M := Lib.hid m; clear m)
            | ((with_reducible refine gate_dst (N := 36) rfl ?_); go_must (refine M.out.ev_append1 0 3 elem_int64 rfl _ _ rfl rfl rfl rfl rfl rfl (by simp [Value.oneCell']) (by omega) (by decide) ?_); intro v36 w36 m; simp only [List.set_cons_succ, List.set_cons_zero] at m; have M := Lib.hid m; clear m)
            )
          have hjj := HJ.out
          subst hjj
          refine ⟨⟨k + 1, by omega, by go_num, ?_⟩, by simp [intOf]; try omega⟩
          have m := M.out.take 1
          rw [HB1.out, flat_snoc]
          exact m
    · obtain rfl : k = xs.length := by omega
      obtain ⟨B, c, rfl, hc, _⟩ := M.out.row_slice 0 rfl
      have i1 : ¬ ((xs.length : Int) < (xs.length : Int)) := by omega
      go_wp2
      go_ret2
      exact ⟨_, _, rfl, hc, M.out.take 1⟩
end Go.Proofs.Ytkodcfnofjkohaa
