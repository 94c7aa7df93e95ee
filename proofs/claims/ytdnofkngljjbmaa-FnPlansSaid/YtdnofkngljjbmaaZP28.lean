/- Texts of a proof, laid together: PlansLaw, PlansWalk, Entry. -/
import Derived.Test.YtdnofkngljjbmaaZP23
import Derived.Test.YtdnofkngljjbmaaZP25
import Derived.Test.YtdnofkngljjbmaaZP26
import Derived.Test.YtdnofkngljjbmaaZP27
import Derived.Test.YtdnofkngljjbmaaZP10
import Derived.Test.YtdnofkngljjbmaaZP02
import Derived.Test.YtdnofkngljjbmaaZP04
import Derived.Test.YtdnofkngljjbmaaZP06
namespace Go.Proofs.Ytdnofkngljjbmaa
set_option linter.unusedSimpArgs false
set_option linter.unusedVariables false
open Go.RowKit
attribute [local go_sem] cell?_mk frozen?_mk

theorem lostOf_len (xs : List Plot) (p : List Int) : (lostOf xs p).length = xs.length := by simp [lostOf]
theorem lostOf_gi {xs : List Plot} (p : List Int) {i : Nat} (h : i < xs.length) : gi (lostOf xs p) i = sdOf xs i - wOf xs p i := by
  unfold gi lostOf
  rw [List.getD_eq_getElem?_getD, List.getElem?_map, List.getElem?_range h]
  rfl
/-- What the law asks about plots, hands and days. -/
structure PlansSay (xs : List Plot) (h D : Nat) (P G L : List Int) (v f b v2 r : Int) : Prop where
  pl : P.length = xs.length
  gl : G.length = xs.length
  ll : L.length = xs.length
  vb : v ≤ b
  fv : f ≤ v
  b0 : 0 ≤ b ∧ b ≤ 6000
  v0 : 0 ≤ v
  v2 : h < 3 → v ≤ v2
  rh : r ≤ h
  lv : sumTo (gi L) xs.length + v = sumTo (sdOf xs) xs.length
  tb : sumTo (topAt xs D) xs.length = b
  lb : ∀ i, 0 ≤ gi L i ∧ gi L i ≤ 1000
  sb : ∀ i, 0 ≤ sdOf xs i ∧ sdOf xs i ≤ 1000
  hb : ∀ i, 0 ≤ topAt xs D i ∧ topAt xs D i ≤ 1000
set_option maxRecDepth 100000 in
theorem plansSay {xs : List Plot} (hf : ∀ x ∈ xs, x.fine = true) (h4 : xs.length ≤ 4) {h D : Nat} (h1 : 1 ≤ h) (h3 : h ≤ 3) (d0 : 1 ≤ D) (d1 : D ≤ 8) :
    PlansSay xs h D (bpTo xs h D xs.length) (greedyTo xs h D) (lostOf xs (bpTo xs h D xs.length)) (mostOf xs h D []) (sumTo (wOf xs (greedyTo xs h D)) xs.length) (boundOf xs D) (mostOf xs ((h : Int) + 1) D []) (hfRes xs D (mostOf xs h D [])) := by
  have hp : plotsOk xs = true := plotsOk_iff.2 ⟨hf, by omega⟩
  have hb : ∀ i, 0 ≤ topAt xs D i ∧ topAt xs D i ≤ 1000 := fun i => by
    unfold topAt
    split
    · next x hx' => exact topTo_b (hf _ (List.mem_of_getElem? hx')) D
    · exact ⟨by omega, by omega⟩
  have hw := wOf_b hf (bpTo xs h D xs.length)
  have hsd : ∀ i, 0 ≤ sdOf xs i ∧ sdOf xs i ≤ 1000 := fun i => by
    unfold sdOf
    split
    · next x hx' => exact (Plot.fine_iff.1 (hf _ (List.mem_of_getElem? hx'))).1
    · exact ⟨by omega, by omega⟩
  have hwle : ∀ i, wOf xs (bpTo xs h D xs.length) i ≤ sdOf xs i := fun i => by
    unfold wOf sdOf
    cases hx : xs[i]? with
    | none => simp
    | some x =>
      have hfx := hf x (List.mem_of_getElem? hx)
      have := (Plot.fine_iff.1 hfx).1
      cases hq : (bpTo xs h D xs.length)[i]? with
      | none => simp; omega
      | some d =>
        simp only
        split
        · exact (Plot.worth_b hfx d).2.1
        · omega
  have bs := sumTo_b hb xs.length
  exact {
    pl := bpTo_len _ _ _ _
    gl := (greedyTo_in xs h D (by omega)).1
    ll := lostOf_len _ _
    vb := most_bound hf (by omega) (by omega)
    fv := greedy_le hp (by omega)
    b0 := ⟨bs.1, by have := bs.2; unfold boundOf; omega⟩
    v0 := most_nonneg hp (by omega) D
    v2 := fun _ => most_mono hf (by omega) (by omega) (by omega)
    rh := (hf_known hp h1 h3 d0 (by omega)).2
    lv := by
      rw [sumTo_congr xs.length fun i hi => lostOf_gi _ hi, ← bp_worth hp (by omega : (1 : Int) ≤ h) (by omega)]
      exact lost_sum _
    tb := rfl
    lb := fun i => by
      rcases Nat.lt_or_ge i xs.length with hi | hi
      · rw [lostOf_gi _ hi]
        have := hw i; have := hsd i; have := hwle i
        omega
      · unfold gi
        rw [List.getD_eq_getElem?_getD, List.getElem?_eq_none (by rw [lostOf_len]; omega)]
        exact ⟨Int.le_refl _, by decide⟩
    sb := hsd
    hb := hb }
theorem Plot.fine_ok {x : Plot} (h : x.fine = true) : x.ok := by
  obtain ⟨a, b, c, d⟩ := Plot.fine_iff.1 h
  exact ⟨⟨by omega, by omega⟩, ⟨by omega, by omega⟩, ⟨by omega, by omega⟩, ⟨by omega, by omega⟩⟩
def dayAt (xs : List Plot) (D i : Nat) : Nat := match xs[i]? with | some x => (bestD x D).1 | none => 0
theorem dayAt_at {xs : List Plot} {i : Nat} (h : i < xs.length) (D : Nat) : dayAt xs D i = (bestD xs[i] D).1 := by
  unfold dayAt; rw [List.getElem?_eq_getElem h]
theorem dayAt_le (xs : List Plot) (D i : Nat) : dayAt xs D i ≤ D := by
  unfold dayAt
  split
  · exact Nat.le_of_lt_succ (bestD_b _ D)
  · exact Nat.zero_le _
/-- What the law calls, at plots, hands and days that are as told. -/
structure PlansCalls (A : Option Addr) (n : Nat) (xs : List Plot) (h D : Nat) (P G L P2 : List Int) (v f b v2 r x : Int) : Prop where
  ib : ∀ w, Sl w 4 A xs.length (flat Plot.vals xs) → Calls Try.prog 9 #[.slice A xs.length n, .int .i64 h, .int .i64 D] w (RetIS w P v 0)
  sb : ∀ w, Sl w 4 A xs.length (flat Plot.vals xs) → Calls Try.prog 10 #[.slice A xs.length n, .int .i64 h, .int .i64 D] w (RetIS w P v 0)
  ib2 : h < 3 → ∀ w, Sl w 4 A xs.length (flat Plot.vals xs) → Calls Try.prog 9 #[.slice A xs.length n, .int .i64 ((h : Int) + 1), .int .i64 D] w (RetIS w P2 v2 0)
  ig : ∀ w, Sl w 4 A xs.length (flat Plot.vals xs) → Calls Try.prog 11 #[.slice A xs.length n, .int .i64 h, .int .i64 D] w (RetIS w G f 0)
  sg : ∀ w, Sl w 4 A xs.length (flat Plot.vals xs) → Calls Try.prog 12 #[.slice A xs.length n, .int .i64 h, .int .i64 D] w (RetIS w G f 0)
  wb : ∀ w, Sl w 4 A xs.length (flat Plot.vals xs) → Calls Try.prog 13 #[.slice A xs.length n, .int .i64 D] w fun e w' => e = .returned (.tuple #[.int .i64 b, .int .i64 0]) ∧ Mem w w' []
  wp : ∀ B c w, Sl w 4 A xs.length (flat Plot.vals xs) → Sl w 1 B P.length (flat oneI P) → Calls Try.prog 14 #[.slice A xs.length n, .int .i64 h, .slice B P.length c] w fun e w' => e = .returned (.tuple #[.int .i64 v, .int .i64 0]) ∧ Mem w w' []
  wg : ∀ B c w, Sl w 4 A xs.length (flat Plot.vals xs) → Sl w 1 B G.length (flat oneI G) → Calls Try.prog 14 #[.slice A xs.length n, .int .i64 h, .slice B G.length c] w fun e w' => e = .returned (.tuple #[.int .i64 f, .int .i64 0]) ∧ Mem w w' []
  lo : ∀ B c w, Sl w 4 A xs.length (flat Plot.vals xs) → Sl w 1 B P.length (flat oneI P) → Calls Try.prog 15 #[.slice A xs.length n, .int .i64 h, .slice B P.length c] w (RetRowC w 2 1 xs.length (flat oneI L) 0)
  vp : ∀ B c w, Sl w 4 A xs.length (flat Plot.vals xs) → Sl w 1 B P.length (flat oneI P) → Calls Try.prog 17 #[.slice A xs.length n, .int .i64 h, .slice B P.length c] w fun e w' => e = .returned (.bool true) ∧ Mem w w' []
  vg : ∀ B c w, Sl w 4 A xs.length (flat Plot.vals xs) → Sl w 1 B G.length (flat oneI G) → Calls Try.prog 17 #[.slice A xs.length n, .int .i64 h, .slice B G.length c] w fun e w' => e = .returned (.bool true) ∧ Mem w w' []
  vs : ∀ w, Sl w 4 A xs.length (flat Plot.vals xs) → Calls Try.prog 18 #[.slice A xs.length n] w fun e w' => e = .returned (.bool true) ∧ Mem w w' []
  ibd : ∀ (k : Nat), k < xs.length → ∀ w, Sl w 4 A xs.length (flat Plot.vals xs) → Calls Try.prog 19 #[.slice A xs.length n, .int .i64 k, .int .i64 D] w fun e w' => e = .returned (.tuple #[.int .i64 (dayAt xs D k), .int .i64 (topAt xs D k), .int .i64 0]) ∧ Mem w w' []
  sbd : ∀ (k : Nat), k < xs.length → ∀ w, Sl w 4 A xs.length (flat Plot.vals xs) → Calls Try.prog 20 #[.slice A xs.length n, .int .i64 k, .int .i64 D] w fun e w' => e = .returned (.tuple #[.int .i64 (dayAt xs D k), .int .i64 (topAt xs D k), .int .i64 0]) ∧ Mem w w' []
  won : ∀ (k : Nat), k < xs.length → ∀ w, Sl w 4 A xs.length (flat Plot.vals xs) → Calls Try.prog 21 #[.slice A xs.length n, .int .i64 k, .int .i64 (dayAt xs D k)] w fun e w' => e = .returned (.tuple #[.int .i64 (topAt xs D k), .int .i64 0]) ∧ Mem w w' []
  ih : ∀ w, Sl w 4 A xs.length (flat Plot.vals xs) → Calls Try.prog 22 #[.slice A xs.length n, .int .i64 D, .int .i64 v] w fun e w' => e = .returned (.tuple #[.int .i64 r, .int .i64 0]) ∧ Mem w w' []
  sh : ∀ w, Sl w 4 A xs.length (flat Plot.vals xs) → Calls Try.prog 23 #[.slice A xs.length n, .int .i64 D, .int .i64 v] w fun e w' => e = .returned (.tuple #[.int .i64 r, .int .i64 0]) ∧ Mem w w' []
  ih2 : ∀ w, Sl w 4 A xs.length (flat Plot.vals xs) → Calls Try.prog 22 #[.slice A xs.length n, .int .i64 D, .int .i64 (b + 1)] w fun e w' => e = .returned (.tuple #[.int .i64 x, .int .i64 6]) ∧ Mem w w' []
theorem gr0 {xs : List Plot} (hp : plotsOk xs = true) {h d : Int} (h1 : 1 ≤ h) (h3 : h ≤ 3) (d0 : 1 ≤ d) (d1 : d ≤ 20) : grCode xs h d = 0 := by
  unfold grCode
  rw [inB_iff.2 ⟨h1, h3⟩, inB_iff.2 ⟨d0, d1⟩]
  exact plCode_ok hp
set_option maxRecDepth 100000 in
theorem plansCalls (A : Option Addr) (n : Nat) {xs : List Plot} (hf : ∀ x ∈ xs, x.fine = true) (h4 : xs.length ≤ 4) (hn : xs.length ≤ n) (hA : SlOk A n) {h D : Nat} (h1 : 1 ≤ h) (h3 : h ≤ 3) (d0 : 1 ≤ D) (d1 : D ≤ 8) :
    PlansCalls A n xs h D (bpTo xs h D xs.length) (greedyTo xs h D) (lostOf xs (bpTo xs h D xs.length)) (bpTo xs ((h : Int) + 1) D xs.length) (mostOf xs h D []) (sumTo (wOf xs (greedyTo xs h D)) xs.length) (boundOf xs D) (mostOf xs ((h : Int) + 1) D []) (hfRes xs D (mostOf xs h D [])) (hfRes xs D (boundOf xs D + 1)) := by
  have hp : plotsOk xs = true := plotsOk_iff.2 ⟨hf, by omega⟩
  have hx : ∀ x ∈ xs, x.ok := fun x hx => Plot.fine_ok (hf x hx)
  have hg : grCode xs h D = 0 := gr0 hp (by omega) (by omega) (by omega) (by omega)
  have hl : xs.length ≤ 1048576 := by omega
  have okP := bp_planOk hp (h := (h : Int)) (by omega) (by omega) (by omega : D ≤ 20)
  have okG := greedy_planOk hp h1 h3 (by omega : D ≤ 20)
  have lP : (bpTo xs h D xs.length).length ≤ 1048576 := by rw [bpTo_len]; exact hl
  have lG : (greedyTo xs h D).length ≤ 1048576 := by rw [(greedyTo_in xs h D (by omega)).1]; exact hl
  have bP := bp_worth hp (by omega : (1 : Int) ≤ h) (by omega : D ≤ 20)
  have hk := hf_known hp h1 h3 d0 (by omega : D ≤ 20)
  have hk2 := hf_none hp d0 (by omega : D ≤ 20)
  have e1 : bpRes xs h D = bpTo xs h D xs.length := by rw [bpRes, if_pos hg]; rfl
  have e2 : bpSum xs h D = mostOf xs h D [] := by rw [bpSum, if_pos hg]; rfl
  have e3 : grRes xs h D = greedyTo xs h D := by rw [grRes, if_pos hg]; rfl
  have e4 : grSum xs h D = sumTo (wOf xs (greedyTo xs h D)) xs.length := by rw [grSum, if_pos hg]; rfl
  exact {
    ib := fun w hs => by have := impl_BestPlan_any A n xs hx hl hn hA h D w hs; rwa [e1, e2, hg] at this
    sb := fun w hs => by have := spec_BestPlan_any A n xs hx hl hn hA h D w hs; rwa [e1, e2, hg] at this
    ib2 := fun h9 w hs => by
      have hg2 : grCode xs ((h : Int) + 1) D = 0 := gr0 hp (by omega) (by omega) (by omega) (by omega)
      have := impl_BestPlan_any A n xs hx hl hn hA ((h : Int) + 1) D w hs
      rwa [show bpRes xs ((h : Int) + 1) D = bpTo xs ((h : Int) + 1) D xs.length by rw [bpRes, if_pos hg2]; rfl, show bpSum xs ((h : Int) + 1) D = mostOf xs ((h : Int) + 1) D [] by rw [bpSum, if_pos hg2]; rfl, hg2] at this
    ig := fun w hs => by have := impl_GreedyPlan_any A n xs hx hl h D w hs; rwa [e3, e4, hg] at this
    sg := fun w hs => by have := spec_GreedyPlan_any A n xs hx hl h D w hs; rwa [e3, e4, hg] at this
    wb := fun w hs => WorthBound_any A n xs hx hp w hs D d0 (by omega)
    wp := fun B c w hs ht => by have := WorthOf_any A n xs hx h B c _ okP w hs ht; rwa [bP] at this
    wg := fun B c w hs ht => WorthOf_any A n xs hx h B c _ okG w hs ht
    lo := fun B c w hs ht => by
      have := impl_LostBy_any A n xs hx hl h B c _ lP w hs ht
      rwa [show loRes xs h (bpTo xs h D xs.length) = lostOf xs (bpTo xs h D xs.length) by rw [loRes, if_pos okP], show loCode xs h (bpTo xs h D xs.length) = 0 by rw [loCode, if_pos okP], lostOf_len] at this
    vp := fun B c w hs ht => by have := ValidPlan_any A n xs hx hl h B c _ lP w hs ht; rwa [okP] at this
    vg := fun B c w hs ht => by have := ValidPlan_any A n xs hx hl h B c _ lG w hs ht; rwa [okG] at this
    vs := fun w hs => by have := ValidPlots_any A n xs hx hl w hs; rwa [hp] at this
    ibd := fun k hk w hs => by have := impl_BestDay_any A n xs hx hp k hk w hs D d0 (by omega); rwa [← dayAt_at hk, bestD_top, ← topAt_at hk] at this
    sbd := fun k hk w hs => by have := spec_BestDay_any A n xs hx hp k hk w hs D d0 (by omega); rwa [← dayAt_at hk, bestD_top, ← topAt_at hk] at this
    won := fun k hk w hs => by
      have := WorthOn_any A n xs hx hp k hk w hs (dayAt xs D k) (by have := dayAt_le xs D k; omega)
      rwa [dayAt_at hk, ← bestD_worth, bestD_top, ← topAt_at hk, ← dayAt_at hk] at this
    ih := fun w hs => by have := impl_HandsFor_any A n xs hx hl hn hA D (mostOf xs h D []) w hs; rwa [hk.1] at this
    sh := fun w hs => by have := spec_HandsFor_any A n xs hx hl hn hA D (mostOf xs h D []) w hs; rwa [hk.1] at this
    ih2 := fun w hs => by have := impl_HandsFor_any A n xs hx hl hn hA D (boundOf xs D + 1) w hs; rwa [hk2] at this }
theorem plans_all (A : Option Addr) (n : Nat) {xs : List Plot} (hf : ∀ x ∈ xs, x.fine = true) (h4 : xs.length ≤ 4) (hn : xs.length ≤ n) (hA : SlOk A n) {h D : Nat} (h1 : 1 ≤ h) (h3 : h ≤ 3) (d0 : 1 ≤ D) (d1 : D ≤ 8) :
    ∃ P G L P2 v f b v2 r x, PlansSay xs h D P G L v f b v2 r ∧ PlansCalls A n xs h D P G L P2 v f b v2 r x :=
  ⟨_, _, _, _, _, _, _, _, _, _, plansSay hf h4 h1 h3 d0 d1, plansCalls A n hf h4 hn hA h1 h3 d0 d1⟩
end Go.Proofs.Ytdnofkngljjbmaa
namespace Go.Proofs.Ytdnofkngljjbmaa
set_option linter.unusedSimpArgs false
set_option linter.unusedVariables false
open Go.RowKit
attribute [local go_sem] cell?_mk frozen?_mk

set_option maxRecDepth 100000 in
set_option maxHeartbeats 8000000 in
theorem FnPlans_any (A B : Option Addr) (na nb : Nat) (bs cs : List Int) (hb : ∀ x ∈ bs, U8.ok x) (hc : ∀ x ∈ cs, U8.ok x) (hbl : bs.length ≤ 4096) (hcl : cs.length ≤ 4096) (w : World) (hs : Sl w 1 A bs.length (flat oneB bs)) (ht : Sl w 1 B cs.length (flat oneB cs)) :
    Calls Try.prog 3 #[.slice A bs.length na, .slice B cs.length nb] w fun e w' => e = .returned (.bool true) ∧ Mem w w' [] := by
  have M := Lib.hid (Mem.start w)
  have HS := Lib.hid hs
  have HT := Lib.hid ht
  have YB := Lib.hid (U8.bytes hb hbl)
  have YC := Lib.hid (U8.bytes hc hcl)
  have G1 := Lib.hid (decide_eq_false (by omega) : decide (4096 < bs.length) = false)
  have G2 := Lib.hid (decide_eq_false (by omega) : decide (4096 < cs.length) = false)
  clear hs ht hb hc hbl hcl
  go_enter Try.func3, Try.ntmps3
  go_wp2_with (first
    | (go_at_call 6; go_must (first | (refine Calls.mono (calls_args (by with_reducible rfl) (f6big_any A bs.length na _)) ?_; rintro e w_ ⟨rfl, rfl⟩; rw [G1.out]) | (refine Calls.mono (calls_args (by with_reducible rfl) (f6big_any B cs.length nb _)) ?_; rintro e w_ ⟨rfl, rfl⟩; rw [G2.out])))
    | (go_at_call 7; go_must (refine (P6Plots_any A na bs YB.out _ (M.out.sl HS.out)).mono ?_); rintro e w_ ⟨xs, B1, cp, rfl, hf, h4, hcp, N_⟩; have m := M.out.join N_; clear N_; simp only [List.cons_append, List.nil_append, List.append_nil] at m; have M := Lib.hid m; clear m; have HF := Lib.hid hf; clear hf)
    | (go_at_call 8; go_must (first
      | (refine Calls.mono (calls_args (by with_reducible rfl) (P6Pick_any B nb cs YC.out 3 (by decide) _ (M.out.sl HT.out))) ?_; rintro e w_ ⟨r1, rfl, hr0, hr1, N_⟩; rw [show max (1 : Int) 3 = 3 from rfl] at hr1; have m := M.out.join N_; clear N_; simp only [List.cons_append, List.nil_append, List.append_nil] at m; have M := Lib.hid m; clear m; obtain ⟨h, hh⟩ := Int.eq_ofNat_of_zero_le (show 0 ≤ 1 + r1 by omega); have h1 : 1 ≤ h := (by omega); have h3 : h ≤ 3 := (by omega))
      | (refine Calls.mono (calls_args (by with_reducible rfl) (P6Pick_any A na bs YB.out 8 (by decide) _ (M.out.sl HS.out))) ?_; rintro e w_ ⟨r2, rfl, hr2, hr3, N_⟩; rw [show max (1 : Int) 8 = 8 from rfl] at hr3; have m := M.out.join N_; clear N_; simp only [List.cons_append, List.nil_append, List.append_nil] at m; have M := Lib.hid m; clear m; obtain ⟨D, hd⟩ := Int.eq_ofNat_of_zero_le (show 0 ≤ 1 + r2 by omega); have d0 : 1 ≤ D := (by omega); have d1 : D ≤ 8 := (by omega); obtain ⟨P, G, L, P2, v, f, b, v2, r, x, S_, C_⟩ := plans_all B1 cp HF.out h4 hcp (M.out.row_ok 0 rfl) h1 h3 d0 d1; have S := Lib.hid S_; have C := Lib.hid C_; have vb : ¬ (b < v) := (by have := S_.vb; omega); have fv : ¬ (v < f) := (by have := S_.fv; omega); have b0 := S_.b0.1; have b1 := S_.b0.2; have rh := S_.rh; have v0 := S_.v0; clear S_ C_)))
    | (go_at_call 9; go_must (refine (C.out.ib _ (M.out.slof 0 rfl)).mono ?_); rintro e w_ ⟨A1, c1, rfl, hc1, N_⟩; have m := M.out.join N_; clear N_; simp only [List.cons_append, List.nil_append, List.append_nil] at m; have M := Lib.hid m; clear m)
    | (go_at_call 10; go_must (refine (C.out.sb _ (M.out.slof 0 rfl)).mono ?_); rintro e w_ ⟨A2, c2, rfl, hc2, N_⟩; have m := M.out.join N_; clear N_; simp only [List.cons_append, List.nil_append, List.append_nil] at m; have M := Lib.hid m; clear m)
    | (go_at_call 11; go_must (refine (C.out.ig _ (M.out.slof 0 rfl)).mono ?_); rintro e w_ ⟨A3, c3, rfl, hc3, N_⟩; have m := M.out.join N_; clear N_; simp only [List.cons_append, List.nil_append, List.append_nil] at m; have M := Lib.hid m; clear m)
    | (go_at_call 12; go_must (refine (C.out.sg _ (M.out.slof 0 rfl)).mono ?_); rintro e w_ ⟨A4, c4, rfl, hc4, N_⟩; have m := M.out.join N_; clear N_; simp only [List.cons_append, List.nil_append, List.append_nil] at m; have M := Lib.hid m; clear m)
    | (go_at_call 13; go_must (refine (C.out.wb _ (M.out.slof 0 rfl)).mono ?_); rintro e w_ ⟨rfl, N_⟩; have m := M.out.join N_; clear N_; simp only [List.cons_append, List.nil_append, List.append_nil] at m; have M := Lib.hid m; clear m)
    | (go_at_call 14; go_must (first | (refine Calls.mono (calls_args (by with_reducible rfl) (C.out.wp _ _ _ (M.out.slof 0 rfl) (M.out.slof 2 rfl))) ?_) | (refine Calls.mono (calls_args (by with_reducible rfl) (C.out.wg _ _ _ (M.out.slof 0 rfl) (M.out.slof 4 rfl))) ?_)); rintro e w_ ⟨rfl, N_⟩; have m := M.out.join N_; clear N_; simp only [List.cons_append, List.nil_append, List.append_nil] at m; have M := Lib.hid m; clear m)
    | (go_at_call 15; go_must (refine (C.out.lo _ _ _ (M.out.slof 0 rfl) (M.out.slof 2 rfl)).mono ?_); rintro e w_ ⟨A5, c5, rfl, hc5, N_⟩; have m := M.out.join N_; clear N_; simp only [List.cons_append, List.nil_append, List.append_nil] at m; have M := Lib.hid m; clear m)
    | (go_at_call 16; go_must (first | (refine Calls.mono (calls_args (by with_reducible rfl) (SameNumbers_any _ _ _ _ P _ (by have := S.out.pl; omega) (M.out.slof 1 rfl) (M.out.slof 2 rfl))) ?_) | (refine Calls.mono (calls_args (by with_reducible rfl) (SameNumbers_any _ _ _ _ G _ (by have := S.out.gl; omega) (M.out.slof 3 rfl) (M.out.slof 4 rfl))) ?_)); rintro e w_ ⟨rfl, N_⟩; have m := M.out.join N_; clear N_; simp only [List.cons_append, List.nil_append, List.append_nil] at m; have M := Lib.hid m; clear m)
    | (go_at_call 17; go_must (first | (refine Calls.mono (calls_args (by with_reducible rfl) (C.out.vp _ _ _ (M.out.slof 0 rfl) (M.out.slof 2 rfl))) ?_) | (refine Calls.mono (calls_args (by with_reducible rfl) (C.out.vg _ _ _ (M.out.slof 0 rfl) (M.out.slof 4 rfl))) ?_)); rintro e w_ ⟨rfl, N_⟩; have m := M.out.join N_; clear N_; simp only [List.cons_append, List.nil_append, List.append_nil] at m; have M := Lib.hid m; clear m)
    | (go_at_call 18; go_must (refine (C.out.vs _ (M.out.slof 0 rfl)).mono ?_); rintro e w_ ⟨rfl, N_⟩; have m := M.out.join N_; clear N_; simp only [List.cons_append, List.nil_append, List.append_nil] at m; have M := Lib.hid m; clear m)
    )
  go_loopw [28, 29, 30, 31] (fun s a t i wr => ∃ k : Nat, k ≤ xs.length ∧ i = .int .i64 k ∧ s = .int .i64 (sumTo (gi L) k) ∧ a = .int .i64 (sumTo (sdOf xs) k) ∧ t = .int .i64 (sumTo (topAt xs D) k) ∧ Mem w wr [.row (.slice B1 xs.length cp) 40 4 xs.length (flat Plot.vals xs), .row (.slice A5 xs.length c5) 2 1 xs.length (flat oneI L)])
    (fun _ _ _ i _ => xs.length - (intOf i).toNat)
  case atStart => exact ⟨0, by omega, rfl, rfl, rfl, rfl, M.out.only [0, 5] (K := [_, _]) rfl (by decide)⟩
  case round =>
    clear M
    obtain ⟨k, hk, rfl, rfl, rfl, rfl, m⟩ := hrel
    have M := Lib.hid m
    clear m
    by_cases hlt : k < xs.length
    · obtain ⟨b1_, off1, hB1, hr1⟩ := (M.out.slof 0 rfl).2 (by omega)
      obtain ⟨b2_, off2, hB2, hr2⟩ := (M.out.slof 1 rfl).2 (by omega)
      have R1 := Lib.hid (range_at Plot.vl hr1 (List.getElem?_eq_getElem hlt))
      have lk : L[k]? = some (gi L k) := by
        have := S.out.ll
        unfold gi
        rw [List.getD_eq_getElem?_getD, List.getElem?_eq_getElem (by omega)]
        rfl
      have y0 : wr.cell? ⟨b2_, off2 + k, none⟩ = some (.int .i64 (gi L k)) := by simpa [oneI] using range_at oneI_len hr2 lk 0 _ rfl
      have x0 : wr.cell? ⟨b1_, off1 + k * 4, none⟩ = some (.int .i16 xs[k].seeds) := R1.out 0 _ rfl
      rw [show xs[k].seeds = sdOf xs k by unfold sdOf; rw [List.getElem?_eq_getElem hlt]] at x0
      have i0 : (0 : Int) ≤ (k : Int) := by omega
      have i1 : (k : Int) < (xs.length : Int) := by omega
      have la := sumTo_b S.out.lb k
      have sa := sumTo_b S.out.sb k
      have ta := sumTo_b S.out.hb k
      have lb := S.out.lb k
      have sb := S.out.sb k
      have tb := S.out.hb k
      have E1 := Lib.hid (show sumTo (gi L) (k + 1) = sumTo (gi L) k + gi L k from rfl)
      have E2 := Lib.hid (show sumTo (sdOf xs) (k + 1) = sumTo (sdOf xs) k + sdOf xs k from rfl)
      have E3 := Lib.hid (show sumTo (topAt xs D) (k + 1) = sumTo (topAt xs D) k + topAt xs D k from rfl)
      have hS1 := Lib.hid hB1
      have hS2 := Lib.hid hB2
      have BD := Lib.hid (C.out.ibd k hlt)
      have SD := Lib.hid (C.out.sbd k hlt)
      have WN := Lib.hid (C.out.won k hlt)
      obtain ⟨la1, hla⟩ : ∃ z, z = sumTo (gi L) k := ⟨_, rfl⟩
      obtain ⟨sa1, hsa⟩ : ∃ z, z = sumTo (sdOf xs) k := ⟨_, rfl⟩
      obtain ⟨ta1, hta⟩ : ∃ z, z = sumTo (topAt xs D) k := ⟨_, rfl⟩
      obtain ⟨lk1, hlk⟩ : ∃ z, z = gi L k := ⟨_, rfl⟩
      obtain ⟨sk1, hsk⟩ : ∃ z, z = sdOf xs k := ⟨_, rfl⟩
      obtain ⟨tk1, htk⟩ : ∃ z, z = topAt xs D k := ⟨_, rfl⟩
      obtain ⟨dk1, hdk⟩ : ∃ z, z = dayAt xs D k := ⟨_, rfl⟩
      rw [← hla, ← hlk] at E1
      rw [← hsa, ← hsk] at E2
      rw [← hta, ← htk] at E3
      rw [← hla] at la ⊢
      rw [← hsa] at sa ⊢
      rw [← hta] at ta ⊢
      rw [← hlk] at lb y0
      rw [← hsk] at sb x0
      rw [← htk] at tb BD SD WN
      rw [← hdk] at BD SD WN
      subst hB1 hB2
      clear hr1 hr2 lk hla hsa hta hlk hsk htk hdk hS1 hS2
      have e1 : IntKind.i64.wrap (la1 + lk1) = la1 + lk1 := IntWalk.i64_in _ (by omega)
      have e2 : IntKind.i64.wrap (sa1 + sk1) = sa1 + sk1 := IntWalk.i64_in _ (by omega)
      have e3 : IntKind.i64.wrap (ta1 + tk1) = ta1 + tk1 := IntWalk.i64_in _ (by omega)
      have e4 : IntKind.i64.wrap sk1 = sk1 := IntWalk.i64_in _ (by omega)
      go_wp2_with (first
        | (go_at_call 19; go_must (refine (BD.out _ (M.out.slof 0 rfl)).mono ?_); rintro e w_ ⟨rfl, N_⟩; have m := M.out.join N_; clear N_; simp only [List.cons_append, List.nil_append, List.append_nil] at m; have M := Lib.hid m; clear m)
        | (go_at_call 20; go_must (refine (SD.out _ (M.out.slof 0 rfl)).mono ?_); rintro e w_ ⟨rfl, N_⟩; have m := M.out.join N_; clear N_; simp only [List.cons_append, List.nil_append, List.append_nil] at m; have M := Lib.hid m; clear m)
        | (go_at_call 21; go_must (refine (WN.out _ (M.out.slof 0 rfl)).mono ?_); rintro e w_ ⟨rfl, N_⟩; have m := M.out.join N_; clear N_; simp only [List.cons_append, List.nil_append, List.append_nil] at m; have M := Lib.hid m; clear m)
        )
      exact ⟨⟨k + 1, by omega, by go_num, by rw [E1.out], by rw [E2.out], by rw [E3.out], M.out.take 2⟩, by simp [intOf]; omega⟩
    · obtain rfl : k = xs.length := by omega
      have la := sumTo_b S.out.lb xs.length
      have hlv := S.out.lv
      rw [S.out.tb, ← hlv]
      obtain ⟨z, hz⟩ : ∃ z, z = sumTo (gi L) xs.length := ⟨_, rfl⟩
      rw [← hz] at la ⊢
      clear hz hlv
      have i9 : ¬ ((xs.length : Int) < (xs.length : Int)) := by omega
      have e1 : IntKind.i64.wrap (z + v) = z + v := IntWalk.i64_in _ (by omega)
      have e2 : IntKind.i64.wrap (b + 1) = b + 1 := IntWalk.i64_in _ (by omega)
      have e3 : IntKind.i64.wrap ((h : Int) + 1) = (h : Int) + 1 := IntWalk.i64_in _ (by omega)
      by_cases h9 : h < 3
      · have h9i : (h : Int) < 3 := by omega
        have v2i : ¬ (v2 < v) := by have := S.out.v2 h9; omega
        have IB2 := Lib.hid (C.out.ib2 h9)
        go_wp2_with (first
          | (go_at_call 9; go_must (refine (IB2.out _ (M.out.slof 0 rfl)).mono ?_); rintro e w_ ⟨A6, c6, rfl, hc6, N_⟩; have m := M.out.join N_; clear N_; simp only [List.cons_append, List.nil_append, List.append_nil] at m; have M := Lib.hid m; clear m)
          | (go_at_call 22; go_must (first | (refine Calls.mono (calls_args (by with_reducible rfl) (C.out.ih _ (M.out.slof 0 rfl))) ?_) | (refine Calls.mono (calls_args (by with_reducible rfl) (C.out.ih2 _ (M.out.slof 0 rfl))) ?_)); rintro e w_ ⟨rfl, N_⟩; have m := M.out.join N_; clear N_; simp only [List.cons_append, List.nil_append, List.append_nil] at m; have M := Lib.hid m; clear m)
          | (go_at_call 23; go_must (refine (C.out.sh _ (M.out.slof 0 rfl)).mono ?_); rintro e w_ ⟨rfl, N_⟩; have m := M.out.join N_; clear N_; simp only [List.cons_append, List.nil_append, List.append_nil] at m; have M := Lib.hid m; clear m)
          )
        go_ret
        exact ⟨rfl, M.out.take 0⟩
      · have h9i : ¬ ((h : Int) < 3) := by omega
        go_wp2_with (first
          | (go_at_call 22; go_must (first | (refine Calls.mono (calls_args (by with_reducible rfl) (C.out.ih _ (M.out.slof 0 rfl))) ?_) | (refine Calls.mono (calls_args (by with_reducible rfl) (C.out.ih2 _ (M.out.slof 0 rfl))) ?_)); rintro e w_ ⟨rfl, N_⟩; have m := M.out.join N_; clear N_; simp only [List.cons_append, List.nil_append, List.append_nil] at m; have M := Lib.hid m; clear m)
          | (go_at_call 23; go_must (refine (C.out.sh _ (M.out.slof 0 rfl)).mono ?_); rintro e w_ ⟨rfl, N_⟩; have m := M.out.join N_; clear N_; simp only [List.cons_append, List.nil_append, List.append_nil] at m; have M := Lib.hid m; clear m)
          )
        go_ret
        exact ⟨rfl, M.out.take 0⟩
set_option maxRecDepth 100000 in
set_option maxHeartbeats 8000000 in
theorem lawPlans_any (A B : Option Addr) (na nb : Nat) (bs cs : List Int) (hb : ∀ x ∈ bs, U8.ok x) (hc : ∀ x ∈ cs, U8.ok x) (w : World) (hs : Sl w 1 A bs.length (flat oneB bs)) (ht : Sl w 1 B cs.length (flat oneB cs)) :
    Calls Try.prog 3 #[.slice A bs.length na, .slice B cs.length nb] w fun e w' => e = .returned (.bool true) ∧ Mem w w' [] := by
  by_cases hbl : bs.length ≤ 4096
  · by_cases hcl : cs.length ≤ 4096
    · exact FnPlans_any A B na nb bs cs hb hc hbl hcl w hs ht
    · have M := Lib.hid (Mem.start w)
      have G1 := Lib.hid (decide_eq_false (by omega) : decide (4096 < bs.length) = false)
      have G2 := Lib.hid (decide_eq_true (by omega) : decide (4096 < cs.length) = true)
      clear hs ht hb hc hbl hcl
      go_enter Try.func3, Try.ntmps3
      go_wp2_with (first
        | (go_at_call 6; go_must (first | (refine Calls.mono (calls_args (by with_reducible rfl) (f6big_any A bs.length na _)) ?_; rintro e w_ ⟨rfl, rfl⟩; rw [G1.out]) | (refine Calls.mono (calls_args (by with_reducible rfl) (f6big_any B cs.length nb _)) ?_; rintro e w_ ⟨rfl, rfl⟩; rw [G2.out])))
        )
      go_ret
      exact ⟨rfl, M.out⟩
  · have M := Lib.hid (Mem.start w)
    have G1 := Lib.hid (decide_eq_true (by omega) : decide (4096 < bs.length) = true)
    clear hs ht hb hc hbl
    go_enter Try.func3, Try.ntmps3
    go_wp2_with (first
      | (go_at_call 6; go_must (refine Calls.mono (calls_args (by with_reducible rfl) (f6big_any A bs.length na _)) ?_; rintro e w_ ⟨rfl, rfl⟩; rw [G1.out]))
      )
    go_ret
    exact ⟨rfl, M.out⟩
end Go.Proofs.Ytdnofkngljjbmaa
namespace Go.Proofs.Ytdnofkngljjbmaa
set_option linter.unusedSimpArgs false
set_option linter.unusedVariables false
open Go.RowKit
structure Entry where
  what : Int
  cell : Int
  amount : Int
  deriving DecidableEq
def Entry.vals (x : Entry) : List Value := [.int .i8 x.what, .int .i16 x.cell, .int .i16 x.amount]
theorem Entry.vl (x : Entry) : x.vals.length = 3 := rfl
theorem Entry.one (x : Entry) : x.vals.toArray.all (·.oneCell') = true := by simp [Entry.vals, Value.oneCell']
def Entry.z : Entry := ⟨0, 0, 0⟩
end Go.Proofs.Ytdnofkngljjbmaa
