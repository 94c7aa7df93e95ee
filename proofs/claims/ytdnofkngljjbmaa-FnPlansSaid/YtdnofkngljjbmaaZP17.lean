/- Texts of a proof, laid together: MostW. -/
import Derived.Test.YtdnofkngljjbmaaZP16
import Derived.Test.YtdnofkngljjbmaaZP12
import Derived.Test.YtdnofkngljjbmaaZP15
namespace Go.Proofs.Ytdnofkngljjbmaa
set_option linter.unusedSimpArgs false
set_option linter.unusedVariables false
open Go.RowKit
attribute [local go_sem] cell?_mk frozen?_mk
--ONES exact Plot.one _
theorem Sl.takeP {α : Type} {en : α → List Value} {w : World} {sz : Nat} {A : Option Addr} {xs : List α} (hen : ∀ x, (en x).length = sz) (h : Sl w sz A xs.length (flat en xs)) (k : Nat) (hk : k ≤ xs.length) : Sl w sz A k (flat en (xs.take k)) := by
  refine ⟨by rw [flat_len hen, List.length_take, Nat.min_eq_left hk], fun hn => ?_⟩
  obtain ⟨b, off, he, hr⟩ := h.2 (by omega)
  refine ⟨b, off, he, fun j v hv => hr j v ?_⟩
  have h3 : flat en xs = flat en (xs.take k) ++ flat en (xs.drop k) := by rw [← flat_append, List.take_append_drop]
  rw [h3, List.getElem?_append_left (List.getElem?_eq_some_iff.1 hv).1]
  exact hv
theorem Sl.dropP {α : Type} {en : α → List Value} {w : World} {sz b off : Nat} {xs : List α} (hen : ∀ x, (en x).length = sz) (h : Sl w sz (some ⟨b, off, none⟩) xs.length (flat en xs)) (k : Nat) (hk : k ≤ xs.length) : Sl w sz (some ⟨b, off + k * sz, none⟩) (xs.length - k) (flat en (xs.drop k)) := by
  refine ⟨by rw [flat_len hen, List.length_drop], fun hn => ⟨b, off + k * sz, rfl, fun j v hv => ?_⟩⟩
  obtain ⟨b', off', he, hr⟩ := h.2 (by omega)
  injection he with he
  injection he with h1 h2
  subst h1 h2
  have h3 : flat en xs = flat en (xs.take k) ++ flat en (xs.drop k) := by rw [← flat_append, List.take_append_drop]
  have h4 : (flat en (xs.take k)).length = k * sz := by rw [flat_len hen, List.length_take, Nat.min_eq_left hk]
  have := hr (k * sz + j) v (by rw [h3, List.getElem?_append_right (by omega), h4, Nat.add_sub_cancel_left]; exact hv)
  rwa [← Nat.add_assoc] at this
theorem Sl.rangeP {w : World} {sz b off n : Nat} {cs : List Value} (h : Sl w sz (some ⟨b, off, none⟩) n cs) (hn : 0 < n) : w.rangeAt b off cs := by
  obtain ⟨b', off', he, hr⟩ := h.2 hn
  injection he with he
  injection he with h1 h2
  subst h1 h2
  exact hr
theorem Sl.atP {w : World} {b off : Nat} {ks : List Int} (h : Sl w 1 (some ⟨b, off, none⟩) ks.length (flat oneI ks)) {i : Nat} (hi : i < ks.length) : w.cell? ⟨b, off + i, none⟩ = some (.int .i64 (gi ks i)) := by
  have R := range_at oneI_len (h.rangeP (by omega)) (getElem?_gi hi)
  simpa using R 0 _ rfl
set_option maxRecDepth 100000 in
set_option maxHeartbeats 8000000 in
theorem most_none (n : Nat) (xs : List Plot) (hx : ∀ x ∈ xs, x.fine = true) (k m : Nat) (hl : k + m ≤ 6) (hxl : xs.length = k + m) (hn : k + m ≤ n) (hn0 : n = 0) (h : Int) (h0 : 0 ≤ h) (h1 : h ≤ 3) (D : Nat) (hD : D ≤ 20) (B : Option Addr) (nb : Nat) (p : List Int) (hp : p.length = k) (hd : ∀ d ∈ p, -1 ≤ d ∧ d ≤ 1000) (w : World) (hs : Sl w 4 (Option.none : Option Addr) xs.length (flat Plot.vals xs)) (ht : Sl w 1 B p.length (flat oneI p)) :
    Calls Try.prog 73 #[.slice (Option.none : Option Addr) (k + m) n, .int .i64 h, .int .i64 D, .slice B k nb] w fun e w' => e = .returned (.int .i64 (mostOf xs h D p)) ∧ Mem w w' [] := by
  have h64 : 2 ^ m ≤ 64 := Nat.le_trans (Nat.pow_le_pow_right (by omega) (by omega : m ≤ 6)) (by decide : 2 ^ 6 ≤ 64)
  have hpw := Nat.two_pow_pos m
  have hwt : ∀ i d, 0 ≤ wtOf xs k i d ∧ wtOf xs k i d ≤ 1000 := fun i d => worthAt_b hx (k + i) d
  have hba := baseOf_b hx p
  rw [hp] at hba
  have HWT := Lib.hid hwt
  have HFW := Lib.hid (fun d hc s hs => fwTo_b (m := m) (wt := wtOf xs k) (cap := capOf h p) (base := baseOf xs p) (D := d) hwt hba.1 hc (s := s) hs)
  have HMO := Lib.hid (show mostOf xs h D p = if shut h p D = true then -1 else maxL (fwTo m (wtOf xs k) (capOf h p) (baseOf xs p) D) by unfold mostOf; rw [hp, show xs.length - k = m by omega])
  have HX := Lib.hid hx
  have HP := Lib.hid hp
  have HTL := Lib.hid (show (xs.take k).length = k by rw [List.length_take]; omega)
  have HST := Lib.hid (show Sl w 4 (Option.none : Option Addr) k (flat Plot.vals (xs.take k)) from hs.takeP Plot.vl k (by omega))
  have HT := Lib.hid (show Sl w 1 B k (flat oneI p) by rw [← hp]; exact ht)
  have HTP := Lib.hid ht
  have HFL := Lib.hid (fwTo_len (m := m) (wt := wtOf xs k) (capOf h p) (baseOf xs p))
  have HWO := Lib.hid (show baseOf xs p = sumTo (gi (worthsOf (xs.take k) p)) k by have := baseOf_eq xs p (by omega); rwa [hp] at this)
  have WOR := Lib.hid (fun (w : World) hs ht => worths_any (Option.none : Option Addr) n (xs.take k) (fun x hx' => hx x (List.mem_of_mem_take hx')) (by rw [List.length_take]; omega) B nb p (by rw [List.length_take]; omega) hd w hs ht)
  rw [HTL.out, hp] at WOR
  have TOT := Lib.hid (fun (A : Option Addr) (c : Nat) (w : World) hs => total_any A c (worthsOf (xs.take k) p) (by rw [worthsOf_len, List.length_take]; omega) (fun i => worthsOf_b hx k p i) w hs)
  rw [worthsOf_len, HTL.out, ← HWO.out] at TOT
  have HKL := Lib.hid (show ∀ i, i < m → ∃ x : Plot, (xs.drop k)[i]? = some x ∧ x.fine = true ∧ ∀ d : Nat, wtOf xs k i d = x.worth d from fun i hi => by
    have e1 : i < (xs.drop k).length := by rw [List.length_drop]; omega
    have e2 : (xs.drop k)[i]? = some (xs.drop k)[i] := List.getElem?_eq_getElem e1
    have e3 : xs[k + i]? = some (xs.drop k)[i] := by rw [← e2, List.getElem?_drop]
    exact ⟨_, e2, hx _ (List.mem_of_getElem? e3), fun d => by unfold wtOf worthAt; rw [e3]⟩)
  have hcp : ((2 ^ m : Nat) : Int) = (2 : Int) ^ m := by rw [Int.natCast_pow]; rfl
  have hsh : IntKind.i64.wrap ((2 : Int) ^ m) = (2 : Int) ^ m := IntWalk.i64_in _ (by omega)
  clear hx hd ht hwt hp
  have hC := fun d => cap_len h p d
  have HCL := Lib.hid (fun d => show h - k ≤ capOf h p d ∧ capOf h p d ≤ h by have := hC d; rw [HP.out] at this; exact this)
  clear hC
  have M := Lib.hid (Mem.start w)
  obtain ⟨N, hN⟩ : ∃ N, N = 2 ^ m := ⟨_, rfl⟩
  have HN := Lib.hid hN
  rw [← hN] at h64 hpw hcp
  rw [← hcp] at hsh
  have hsh3 : (2 : Int) ^ m = (N : Int) := hcp.symm
  have hsh2 : IntKind.i64.wrap ((N : Int) - 1) = (N : Int) - 1 := IntWalk.i64_in _ (by omega)
  have hk0 : (0 : Int) ≤ (k : Int) := by omega
  have hkn : k ≤ n := by omega
  have hkl : (k : Int) ≤ ((k + m : Nat) : Int) := by omega
  have hkl2 : (k : Int) ≤ (k : Int) + (m : Int) := by omega
  have hkm : k + m - k = m := by omega
  clear hN hcp
  have HFR := Lib.hid (show Sl w 4 (Option.none : Option Addr) m (flat Plot.vals (xs.drop k)) by
    have h9 : xs = [] := List.length_eq_zero_iff.1 (by omega)
    obtain rfl : m = 0 := by omega
    subst h9
    rw [List.drop_nil]
    exact Sl.nil_)
  clear hn0
  go_enter Try.func73, Try.ntmps73
  go_wp2
  refine region_anyH (fun w' => Mem w w' []) (by kernel_rfl) ?_
  have m := M.out.drew
  clear M
  have M := Lib.hid m
  clear m
  apply takeH (i := 0) 22 rfl (by kernel_rfl) (by kernel_rfl) (by kernel_rfl) (fun _ _ _ h => h) rfl (by first | exact M.out | exact M.out.take 0)
  case' hy =>
    refine Or.inl ⟨by first | rfl | (go_simp; done), ?_⟩
    intro w hS
    clear hS
    go_simp
    try with_reducible rfl
  try simp only [Act.put, List.getElem_toArray, List.getElem_cons_succ, List.getElem_cons_zero, List.setIfInBounds_toArray, List.set_cons_succ, List.set_cons_zero]
  apply takeH (i := 1) 23 rfl (by kernel_rfl) (by kernel_rfl) (by kernel_rfl) (fun _ _ _ h => h) rfl (by first | exact M.out | exact M.out.take 0)
  case' hy =>
    refine Or.inl ⟨by first | rfl | (go_simp; done), ?_⟩
    intro w hS
    clear hS
    go_simp
    try with_reducible rfl
  try simp only [Act.put, List.getElem_toArray, List.getElem_cons_succ, List.getElem_cons_zero, List.setIfInBounds_toArray, List.set_cons_succ, List.set_cons_zero]
  apply takeH (i := 2) 24 rfl (by kernel_rfl) (by kernel_rfl) (by kernel_rfl) (fun _ _ _ h => h) rfl (by first | exact M.out | exact M.out.take 0)
  case' hy =>
    refine Or.inl ⟨by first | rfl | (go_simp; done), ?_⟩
    intro w hS
    clear hS
    go_simp
    try with_reducible rfl
  try simp only [Act.put, List.getElem_toArray, List.getElem_cons_succ, List.getElem_cons_zero, List.setIfInBounds_toArray, List.set_cons_succ, List.set_cons_zero]
  apply takeH (i := 3) 25 rfl (by kernel_rfl) (by kernel_rfl) (by kernel_rfl) (fun _ _ _ h => h) rfl (by first | exact M.out | exact M.out.take 0)
  case' hy =>
    refine Or.inl ⟨by first | rfl | (go_simp; done), ?_⟩
    intro w hS
    clear hS
    go_simp
    try with_reducible rfl
  try simp only [Act.put, List.getElem_toArray, List.getElem_cons_succ, List.getElem_cons_zero, List.setIfInBounds_toArray, List.set_cons_succ, List.set_cons_zero]
  apply takeH (i := 4) 26 rfl (by kernel_rfl) (by kernel_rfl) (by kernel_rfl) (fun _ _ _ h => h) rfl (by first | exact M.out | exact M.out.take 0)
  case' hy =>
    refine Or.inl ⟨by first | rfl | (go_simp; done), ?_⟩
    intro w hS
    clear hS
    go_simp
    try with_reducible rfl
  try simp only [Act.put, List.getElem_toArray, List.getElem_cons_succ, List.getElem_cons_zero, List.setIfInBounds_toArray, List.set_cons_succ, List.set_cons_zero]
  apply takeH (i := 5) 27 rfl (by kernel_rfl) (by kernel_rfl) (by kernel_rfl) (fun _ _ _ h => h) rfl (by first | exact M.out | exact M.out.take 0)
  case' hy =>
    refine Or.inl ⟨by first | rfl | (go_simp; done), ?_⟩
    intro w hS
    clear hS
    go_simp
    try with_reducible rfl
  try simp only [Act.put, List.getElem_toArray, List.getElem_cons_succ, List.getElem_cons_zero, List.setIfInBounds_toArray, List.set_cons_succ, List.set_cons_zero]
  apply takeH (i := 6) 28 rfl (by kernel_rfl) (by kernel_rfl) (by kernel_rfl) (fun _ _ _ h => h) rfl (by first | exact M.out | exact M.out.take 0)
  case' hy =>
    refine Or.inl ⟨by first | rfl | (go_simp; done), ?_⟩
    intro w hS
    clear hS
    go_simp
    try with_reducible rfl
  try simp only [Act.put, List.getElem_toArray, List.getElem_cons_succ, List.getElem_cons_zero, List.setIfInBounds_toArray, List.set_cons_succ, List.set_cons_zero]
  apply takeH (i := 7) 29 rfl (by kernel_rfl) (by kernel_rfl) (by kernel_rfl) (fun _ _ _ h => h) rfl (by first | exact M.out | exact M.out.take 0)
  case' hy =>
    refine Or.inl ⟨by first | rfl | (go_simp; done), ?_⟩
    intro w hS
    clear hS
    go_simp
    try with_reducible rfl
  try simp only [Act.put, List.getElem_toArray, List.getElem_cons_succ, List.getElem_cons_zero, List.setIfInBounds_toArray, List.set_cons_succ, List.set_cons_zero]
  apply takeH (i := 8) 30 rfl (by kernel_rfl) (by kernel_rfl) (by kernel_rfl) (fun _ _ _ h => h) rfl (by first | exact M.out | exact M.out.take 0)
  case' hy =>
    refine Or.inl ⟨by first | rfl | (go_simp; done), ?_⟩
    intro w hS
    clear hS
    go_simp
    try with_reducible rfl
  try simp only [Act.put, List.getElem_toArray, List.getElem_cons_succ, List.getElem_cons_zero, List.setIfInBounds_toArray, List.set_cons_succ, List.set_cons_zero]
  refine any1H 9 (by kernel_rfl) rfl (fun K hK => ?_)
  go_wp2_with (first | (go_at_call 62; go_must (refine (WOR.out _ (M.out.sl HST.out) (M.out.sl HT.out)).mono ?_); rintro e w_ ⟨A_, c_, rfl, hc_, N_⟩; have m := M.out.join N_; clear N_; simp only [List.cons_append, List.nil_append, List.append_nil] at m; have M := Lib.hid m; clear m) | (go_at_call 61; go_must (refine (TOT.out _ _ _ (M.out.slof 0 rfl)).mono ?_); rintro e w_ ⟨rfl, rfl⟩) | ((with_reducible refine gate_dst (N := 33) rfl ?_); go_must (refine M.out.ev_bs1r elem_int64 rfl _ rfl (.int .i64 (baseOf xs p)) rfl rfl ?_); intro g33 w33 m; simp only [List.cons_append, List.nil_append] at m; have M := Lib.hid m; clear m))
  refine onward_normal (hK _ _ ⟨(by first | exact M.out | exact M.out.take 0), ?_⟩)
  clear hK K
  try simp only [Act.put, List.getElem_toArray, List.getElem_cons_succ, List.getElem_cons_zero, List.setIfInBounds_toArray, List.set_cons_succ, List.set_cons_zero]
  refine any1H 10 (by kernel_rfl) rfl (fun K hK => ?_)
  go_wp2_with (first | (go_at_call 62; go_must (refine (WOR.out _ (M.out.sl HST.out) (M.out.sl HT.out)).mono ?_); rintro e w_ ⟨A_, c_, rfl, hc_, N_⟩; have m := M.out.join N_; clear N_; simp only [List.cons_append, List.nil_append, List.append_nil] at m; have M := Lib.hid m; clear m) | (go_at_call 61; go_must (refine (TOT.out _ _ _ (M.out.slof 0 rfl)).mono ?_); rintro e w_ ⟨rfl, rfl⟩) | ((with_reducible refine gate_dst (N := 33) rfl ?_); go_must (refine M.out.ev_bs1r elem_int64 rfl _ rfl (.int .i64 (baseOf xs p)) rfl rfl ?_); intro g33 w33 m; simp only [List.cons_append, List.nil_append] at m; have M := Lib.hid m; clear m))
  refine onward_normal (hK _ _ ⟨(by first | exact M.out | exact M.out.take 0), ?_⟩)
  clear hK K
  try simp only [Act.put, List.getElem_toArray, List.getElem_cons_succ, List.getElem_cons_zero, List.setIfInBounds_toArray, List.set_cons_succ, List.set_cons_zero]
  apply takeH (i := 12) 9 rfl (by kernel_rfl) (by kernel_rfl) (by kernel_rfl) (fun _ _ _ h => h) rfl (by first | exact M.out | exact M.out.take 0)
  case' hy =>
    refine Or.inl ⟨by first | rfl | (go_simp; done), ?_⟩
    intro w hS
    clear hS
    go_simp
    try with_reducible rfl
  try simp only [Act.put, List.getElem_toArray, List.getElem_cons_succ, List.getElem_cons_zero, List.setIfInBounds_toArray, List.set_cons_succ, List.set_cons_zero]
  refine any1H 11 (by kernel_rfl) rfl (fun K hK => ?_)
  go_wp2_with (first | (go_at_call 62; go_must (refine (WOR.out _ (M.out.sl HST.out) (M.out.sl HT.out)).mono ?_); rintro e w_ ⟨A_, c_, rfl, hc_, N_⟩; have m := M.out.join N_; clear N_; simp only [List.cons_append, List.nil_append, List.append_nil] at m; have M := Lib.hid m; clear m) | (go_at_call 61; go_must (refine (TOT.out _ _ _ (M.out.slof 0 rfl)).mono ?_); rintro e w_ ⟨rfl, rfl⟩) | ((with_reducible refine gate_dst (N := 33) rfl ?_); go_must (refine M.out.ev_bs1r elem_int64 rfl _ rfl (.int .i64 (baseOf xs p)) rfl rfl ?_); intro g33 w33 m; simp only [List.cons_append, List.nil_append] at m; have M := Lib.hid m; clear m))
  refine onward_normal (hK _ _ ⟨(by first | exact M.out | exact M.out.take 0), ?_⟩)
  clear hK K
  try simp only [Act.put, List.getElem_toArray, List.getElem_cons_succ, List.getElem_cons_zero, List.setIfInBounds_toArray, List.set_cons_succ, List.set_cons_zero]
  apply takeH (i := 13) 10 rfl (by kernel_rfl) (by kernel_rfl) (by kernel_rfl) (fun _ _ _ h => h) rfl (by first | exact M.out | exact M.out.take 0)
  case' hy =>
    refine Or.inl ⟨by first | rfl | (go_simp; done), ?_⟩
    intro w hS
    clear hS
    go_simp
    try with_reducible rfl
  try simp only [Act.put, List.getElem_toArray, List.getElem_cons_succ, List.getElem_cons_zero, List.setIfInBounds_toArray, List.set_cons_succ, List.set_cons_zero]
  refine wpAnyH_done (by kernel_rfl) ?_ _
  go_wp2
  obtain ⟨C, hC⟩ : ∃ C, C = capOf h p := ⟨_, rfl⟩
  obtain ⟨W, hW⟩ : ∃ W, W = wtOf xs k := ⟨_, rfl⟩
  obtain ⟨bs, hbs⟩ : ∃ bs, bs = baseOf xs p := ⟨_, rfl⟩
  rw [← hC, ← hW, ← hbs] at HFW HMO HFL
  rw [← hW] at HWT HKL
  rw [← hC] at HCL
  rw [← hbs] at hba M ⊢
  have HCE := Lib.hid hC
  clear hC hW hbs
  obtain ⟨F, hF⟩ : ∃ F, F = fwTo m W C bs := ⟨_, rfl⟩
  have HF0 := Lib.hid (show F 0 = bs :: List.replicate (N - 1) (-1) by rw [hF, HN.out]; rfl)
  have HFS := Lib.hid (show ∀ d, F (d + 1) = fwOut m W d (C d) (F d) N from fun d => by rw [hF, HN.out]; rfl)
  rw [← hF] at HFW HMO HFL
  rw [← HN.out] at HFW HFL
  clear hF
  have m := M.out.only [1] (K := [_]) rfl (by decide)
  clear M
  have M := Lib.hid m
  clear m
  go_loopw [10, 38] (fun s v wr => ∃ j : Nat, j ≤ N - 1 ∧ v = .int .i64 j ∧ Mem w wr [.row s 2 1 (j + 1) (flat oneI (bs :: List.replicate j (-1)))])
    (fun _ v _ => N - (intOf v).toNat)
  case atStart => exact ⟨0, by omega, rfl, M.out⟩
  case round =>
    clear M
    obtain ⟨j, hj, rfl, m⟩ := hrel
    have M := Lib.hid m
    clear m
    by_cases hjt : j < N - 1
    · have i1 : (j : Int) < ((N : Nat) : Int) - 1 := by omega
      go_wp2_with (first
        | ((with_reducible refine gate_dst (N := 41) rfl ?_); go_must (refine M.out.ev_bs1 elem_int64 rfl _ rfl #[.int .i64 (-1)] rfl rfl (by decide) ?_); intro g41 w41 m; simp only [List.cons_append, List.nil_append] at m; have M := Lib.hid m; clear m)
        | ((with_reducible refine gate_dst (N := 42) rfl ?_); go_must (refine M.out.ev_append1 0 1 elem_int64 rfl _ _ rfl rfl rfl rfl rfl rfl (by simp [Value.oneCell']) (by omega) (by decide) ?_); intro v42 w42 m; simp only [List.set_cons_succ, List.set_cons_zero] at m; have M := Lib.hid m; clear m)
        )
      refine ⟨⟨j + 1, by omega, by go_num, ?_⟩, by simp [intOf]; try omega⟩
      have mm := M.out.take 1
      rw [show bs :: List.replicate (j + 1) (-1) = (bs :: List.replicate j (-1)) ++ [-1] by rw [List.replicate_succ']; rfl, flat_snoc]
      exact mm
    · obtain rfl : j = N - 1 := by omega
      have i1 : ¬ (((N - 1 : Nat) : Int) < ((N : Nat) : Int) - 1) := by omega
      rw [← HF0.out, show N - 1 + 1 = N by omega] at M
      go_wp2
      go_loopw [10, 45] (fun s v wr => ∃ d : Nat, d ≤ D ∧ v = .int .i64 d ∧ (∀ e, e < d → 0 ≤ C e) ∧ Mem w wr [.row s 2 1 N (flat oneI (F d))])
        (fun _ v _ => D - (intOf v).toNat)
      case atStart => exact ⟨0, by omega, rfl, fun e he => absurd he (Nat.not_lt_zero _), M.out⟩
      case round =>
        clear M i1
        obtain ⟨d, hd, rfl, hcd, m⟩ := hrel
        have M := Lib.hid m
        have HCD := Lib.hid hcd
        clear m hcd
        by_cases hdt : d < D
        · have i1 : (d : Int) < (D : Int) := by omega
          obtain ⟨sg, sc, rfl, hsc⟩ := M.out.row_form 0 rfl (by omega)
          go_wp2
          go_loopw [12, 51] (fun u v wr => ∃ i : Nat, i ≤ k ∧ v = .int .i64 i ∧ u = .int .i64 (h - (((p.take i).count (d : Int) : Nat) : Int)) ∧ Mem w wr [.row (.slice (some ⟨sg, 0, none⟩) N sc) 2 1 N (flat oneI (F d))])
            (fun _ v _ => k - (intOf v).toNat)
          case atStart => exact ⟨0, by omega, rfl, by simp, M.out⟩
          case round =>
            clear M
            obtain ⟨i, hi, rfl, rfl, m⟩ := hrel
            have M := Lib.hid m
            clear m
            by_cases hit : i < k
            · have hip : i < p.length := by rw [HP.out]; exact hit
              obtain ⟨pb, poff, rfl, _⟩ := HT.out.2 (by omega)
              have x0 : wr.cell? ⟨pb, poff + i, none⟩ = some (.int .i64 (gi p i)) := (M.out.sl HTP.out).atP hip
              have hgp : p[i] = gi p i := by unfold gi; rw [List.getD_eq_getElem?_getD, List.getElem?_eq_getElem hip]; rfl
              have HCT := Lib.hid (show (p.take (i + 1)).count (d : Int) = (p.take i).count (d : Int) + if gi p i = (d : Int) then 1 else 0 by
                rw [List.take_succ_eq_append_getElem hip, List.count_append, List.count_singleton, hgp]
                simp only [beq_iff_eq])
              have hcl := List.count_le_length (a := (d : Int)) (l := p.take i)
              rw [List.length_take] at hcl
              have i0 : (0 : Int) ≤ (i : Int) := by omega
              have i2 : (i : Int) < ((k : Nat) : Int) := by omega
              obtain ⟨cc, hcc⟩ : ∃ cc : Nat, cc = (p.take i).count (d : Int) := ⟨_, rfl⟩
              obtain ⟨y, hy⟩ : ∃ y, y = gi p i := ⟨_, rfl⟩
              rw [← hcc] at HCT hcl
              rw [← hy] at HCT x0
              rw [← hcc]
              clear hy hgp hip hcc
              have w1 : IntKind.i64.wrap (h - (cc : Int) - 1) = h - (cc : Int) - 1 := IntWalk.i64_in _ (by omega)
              by_cases hq : y = (d : Int)
              · have hq2 : (y == (d : Int)) = true := beq_iff_eq.2 hq
                have HQ := Lib.hid hq
                clear hq
                go_wp2
                refine ⟨⟨i + 1, by omega, by go_num, ?_, M.out⟩, by simp [intOf]; try omega⟩
                rw [HCT.out, if_pos HQ.out]
                congr 1
                omega
              · have hq2 : (y == (d : Int)) = false := beq_eq_false_iff_ne.2 hq
                have HQ := Lib.hid hq
                clear hq
                go_wp2
                refine ⟨⟨i + 1, by omega, by go_num, ?_, M.out⟩, by simp [intOf]; try omega⟩
                rw [HCT.out, if_neg HQ.out]
                rfl
            · obtain rfl : k = i := by omega
              have i2 : ¬ (((k : Nat) : Int) < ((k : Nat) : Int)) := by omega
              have hcap : h - (((p.take k).count (d : Int) : Nat) : Int) = C d := by rw [show p.take k = p from List.take_of_length_le (by rw [HP.out]; exact Nat.le_refl _), HCE.out]; rfl
              rw [hcap]
              clear hcap
              have hcb := HCL.out d
              by_cases hneg : C d < 0
              · have HNEG := Lib.hid hneg
                go_wp2
                go_ret
                refine ⟨ret_int ?_, M.out.take 0⟩
                symm
                rw [HMO.out, if_pos]
                rw [shut, List.any_eq_true]
                exact ⟨d, List.mem_range.2 hdt, decide_eq_true (by rw [← HCE.out]; exact HNEG.out)⟩
              · have hcd0 : 0 ≤ C d := by omega
                have HLN := Lib.hid (show (F d).length = N from HFL.out d)
                have CLO := Lib.hid (fun A n w (hc : (F d).length ≤ n) hA hs => cloneI_any A n (F d) (by rw [HLN.out]; omega) hc hA w hs)
                rw [HLN.out] at CLO
                go_wp2_with (first
                  | (go_at_call 113; go_must (refine (CLO.out _ _ _ hsc (M.out.row_none 0 rfl) (M.out.slof 0 rfl)).mono ?_); rintro e w_ ⟨A_, c_, rfl, hc_, N_⟩; have m := M.out.join N_; clear N_; simp only [List.cons_append, List.nil_append, List.append_nil] at m; have M := Lib.hid m; clear m)
                  )
                obtain ⟨ng, nc, he, hnc⟩ := M.out.row_form 1 rfl (by omega)
                injection he with he1 _ he2
                subst he1 he2
                go_loopw [67] (fun v wr => ∃ s : Nat, s ≤ N ∧ v = .int .i64 s ∧ Mem w wr [.row (.slice (some ⟨sg, 0, none⟩) N sc) 2 1 N (flat oneI (F d)), .row (.slice (some ⟨ng, 0, none⟩) N c_) 2 1 N (flat oneI (fwOut m W d (C d) (F d) s))])
                  (fun v _ => N - (intOf v).toNat)
                case atStart => exact ⟨0, by omega, rfl, M.out⟩
                case round =>
                  clear M
                  obtain ⟨s, hs', rfl, m⟩ := hrel
                  have M := Lib.hid m
                  clear m
                  by_cases hst : s < N
                  · have x1 : wr.cell? ⟨sg, s, none⟩ = some (.int .i64 (gi (F d) s)) := by
                      have h9 := (M.out.slof 0 rfl)
                      rw [← HLN.out] at h9
                      have := h9.atP (i := s) (by rw [HLN.out]; exact hst)
                      rwa [Nat.zero_add] at this
                    have s0 : (0 : Int) ≤ (s : Int) := by omega
                    have s1 : (s : Int) < ((N : Nat) : Int) := by omega
                    have HSU := Lib.hid (show fwOut m W d (C d) (F d) (s + 1) = if gi (F d) s < 0 then fwOut m W d (C d) (F d) s else fwIn m W d (C d) (F d) s (fwOut m W d (C d) (F d) s) N by rw [fwOut, HN.out])
                    have HSB := Lib.hid (HFW.out d HCD.out s hst)
                    have HOL := Lib.hid (show (fwOut m W d (C d) (F d) s).length = N by rw [fwOut_len, HLN.out])
                    obtain ⟨sum, hsum⟩ : ∃ sum, sum = gi (F d) s := ⟨_, rfl⟩
                    rw [← hsum] at x1 HSU HSB
                    have HSM := Lib.hid hsum
                    clear hsum
                    by_cases hsn : sum < 0
                    · have HSN := Lib.hid hsn
                      go_wp2
                      refine ⟨⟨s + 1, by omega, by go_num, ?_⟩, by simp [intOf]; try omega⟩
                      rw [HSU.out, if_pos (by have := HSN.out; omega)]
                      exact M.out
                    · have hsb := HSB.out (by omega)
                      have HSN := Lib.hid hsn
                      go_wp2
                      obtain ⟨O, hO⟩ : ∃ O, O = fwOut m W d (C d) (F d) s := ⟨_, rfl⟩
                      rw [← hO] at M HOL
                      rw [← hO] at HSU
                      clear hO
                      go_loopw [76] (fun v wr => ∃ t : Nat, t ≤ N ∧ v = .int .i64 t ∧ Mem w wr [.row (.slice (some ⟨sg, 0, none⟩) N sc) 2 1 N (flat oneI (F d)), .row (.slice (some ⟨ng, 0, none⟩) N c_) 2 1 N (flat oneI (fwIn m W d (C d) (F d) s O t))])
                        (fun v _ => N - (intOf v).toNat)
                      case atStart => exact ⟨0, by omega, rfl, M.out⟩
                      case round =>
                        clear M x1
                        obtain ⟨t, ht', rfl, m⟩ := hrel
                        have M := Lib.hid m
                        clear m
                        by_cases htt : t < N
                        · have t0 : (0 : Int) ≤ (t : Int) := by omega
                          have t1 : (t : Int) < ((N : Nat) : Int) := by omega
                          have b1 := and6 (a := s) (b := t) (by omega) (by omega)
                          have b2 := or6 (a := s) (b := t) (by omega) (by omega)
                          have u1 : IntKind.u64.wrap (t : Int) = t := IntWalk.u64_in _ (by omega)
                          have HPO := Lib.hid (show popN t 64 = popM m t from pop6 (by omega) (by rw [← HN.out]; exact htt))
                          have HIU := Lib.hid (show fwIn m W d (C d) (F d) s O (t + 1) = if s &&& t = 0 ∧ (popM m t : Int) ≤ C d then upMax (fwIn m W d (C d) (F d) s O t) (s ||| t) (gi (F d) s + wsOf m W d t) else fwIn m W d (C d) (F d) s O t from rfl)
                          rw [← HSM.out] at HIU
                          have hpl : popM m t ≤ m := cntN_le _ _
                          have HOR := Lib.hid (show s ||| t < N by rw [HN.out]; exact Nat.or_lt_two_pow (by rw [← HN.out]; exact hst) (by rw [← HN.out]; exact htt))
                          have ONC := Lib.hid (fun w => OnesCount_any t (by omega) w)
                          rw [HPO.out] at ONC
                          obtain ⟨pp, hpp⟩ : ∃ pp, pp = popM m t := ⟨_, rfl⟩
                          rw [← hpp] at HIU hpl ONC
                          obtain ⟨an, han⟩ : ∃ an, an = s &&& t := ⟨_, rfl⟩
                          rw [← han] at b1 HIU
                          clear han hpp HPO
                          by_cases hand : an = 0
                          · have hand2 : ((an : Int) != 0) = false := by rw [bne_eq_false_iff_eq]; omega
                            by_cases hpc : (pp : Int) ≤ C d
                            · have hpc2 : ¬ (C d < (pp : Int)) := by omega
                              have HC2 := Lib.hid (And.intro hand hpc)
                              clear hand hpc
                              go_wp2_with (first
                                | (go_at_call 117; go_must (refine (ONC.out _).mono ?_); rintro e w_ ⟨rfl, rfl⟩)
                                )
                              go_loopw [19, 93] (fun u v wr => ∃ i : Nat, i ≤ m ∧ v = .int .i64 i ∧ u = .int .i64 (sum + sumN i fun j => if t.testBit j = true then W j d else 0) ∧ Mem w wr [.row (.slice (some ⟨sg, 0, none⟩) N sc) 2 1 N (flat oneI (F d)), .row (.slice (some ⟨ng, 0, none⟩) N c_) 2 1 N (flat oneI (fwIn m W d (C d) (F d) s O t))])
                                (fun _ v _ => m - (intOf v).toNat)
                              case atStart => exact ⟨0, by omega, rfl, by simp [sumN], M.out⟩
                              case round =>
                                clear M
                                obtain ⟨i, hi, rfl, rfl, m⟩ := hrel
                                have M := Lib.hid m
                                clear m
                                by_cases hit : i < m
                                · obtain ⟨_, _, he, _⟩ := HFR.out.2 (by omega)
                                  cases he
                                · obtain rfl : m = i := by omega
                                  have i2 : ¬ (((m : Nat) : Int) < ((m : Nat) : Int)) := by omega
                                  have HIL := Lib.hid (show (fwIn m W d (C d) (F d) s O t).length = N by rw [fwIn_len, HOL.out])
                                  have hws := wsOf_b HWT.out (m := m) d t
                                  have HWS := Lib.hid (show sumN m (fun j => if t.testBit j = true then W j d else 0) = wsOf m W d t from rfl)
                                  rw [HWS.out]
                                  rw [if_pos (by have := HC2.out; omega)] at HIU
                                  obtain ⟨I, hI⟩ : ∃ I, I = fwIn m W d (C d) (F d) s O t := ⟨_, rfl⟩
                                  rw [← hI] at HIL HIU M
                                  obtain ⟨o', ho'⟩ : ∃ o', o' = s ||| t := ⟨_, rfl⟩
                                  rw [← ho'] at HOR HIU b2
                                  obtain ⟨ws, hws'⟩ : ∃ ws, ws = wsOf m W d t := ⟨_, rfl⟩
                                  rw [← hws'] at hws HIU
                                  rw [← hws']
                                  have hoN := HOR.out
                                  have x1 : wr.cell? ⟨ng, o', none⟩ = some (.int .i64 (gi I o')) := by
                                    have h9 := (M.out.slof 1 rfl)
                                    rw [← HIL.out] at h9
                                    have := h9.atP (i := o') (by rw [HIL.out]; exact hoN)
                                    rwa [Nat.zero_add] at this
                                  have HLL := Lib.hid (show o' < (flat oneI I).length by rw [flat_len oneI_len, HIL.out]; omega)
                                  have HPU := Lib.hid (show (flat oneI I).set o' (.int .i64 (max (gi I o') (sum + ws))) = flat oneI (upMax I o' (sum + ws)) by rw [flat_oneI, flat_oneI, upMax, List.map_set])
                                  have o0 : (0 : Int) ≤ (o' : Int) := by omega
                                  have o1 : (o' : Int) < ((N : Nat) : Int) := by omega
                                  have z3 := hws.1
                                  have z4 := hws.2
                                  have w2 : IntKind.i64.wrap (sum + ws) = sum + ws := IntWalk.i64_in _ (by omega)
                                  clear hI ho' hws' hoN hws z3 z4
                                  rcases Int.lt_trichotomy (gi I o') (sum + ws) with hz | hz | hz
                                  all_goals
                                    have HZ := Lib.hid hz
                                    clear hz
                                    try (have z1 : gi I o' < sum + ws := by have := HZ.out; omega)
                                    try (have z2 : ¬ (gi I o' < sum + ws) := by have := HZ.out; omega)
                                    try (have z3 : ¬ (sum + ws < gi I o') := by have := HZ.out; omega)
                                    try (have z4 : sum + ws < gi I o' := by have := HZ.out; omega)
                                    try (have HP1 := Lib.hid (show (flat oneI I).set o' (.int .i64 (gi I o')) = flat oneI (upMax I o' (sum + ws)) by rw [← HPU.out, show max (gi I o') (sum + ws) = gi I o' by have := HZ.out; omega]))
                                    try (have HP2 := Lib.hid (show (flat oneI I).set o' (.int .i64 (sum + ws)) = flat oneI (upMax I o' (sum + ws)) by rw [← HPU.out, show max (gi I o') (sum + ws) = sum + ws by have := HZ.out; omega]))
                                    go_wp2_with (first
                                      | ((with_reducible refine gate_store (x := .tmp 121) rfl ?_); go_must (first | (refine M.out.ev_rput1 1 _ _ _ rfl rfl rfl rfl (.int .i64 (gi I o')) rfl HLL.out sz2 rfl rfl ?_; intro wn m; simp only [List.set_cons_succ, List.set_cons_zero, HP1.out] at m) | (refine M.out.ev_rput1 1 _ _ _ rfl rfl rfl rfl (.int .i64 (sum + ws)) rfl HLL.out sz2 rfl rfl ?_; intro wn m; simp only [List.set_cons_succ, List.set_cons_zero, HP2.out] at m)); have M := Lib.hid m; clear m)
                                      )
                                    refine ⟨⟨t + 1, by omega, by go_num, ?_⟩, by simp [intOf]; try omega⟩
                                    rw [HIU.out]
                                    exact M.out
                            · have hpc2 : C d < (pp : Int) := by omega
                              rw [if_neg (fun hh => hpc hh.2)] at HIU
                              clear hand hpc
                              go_wp2_with (first
                                | (go_at_call 117; go_must (refine (ONC.out _).mono ?_); rintro e w_ ⟨rfl, rfl⟩)
                                )
                              refine ⟨⟨t + 1, by omega, by go_num, ?_⟩, by simp [intOf]; try omega⟩
                              rw [HIU.out]
                              exact M.out
                          · have hand2 : ((an : Int) != 0) = true := by rw [bne_iff_ne]; omega
                            rw [if_neg (fun hh => hand hh.1)] at HIU
                            clear hand
                            go_wp2
                            refine ⟨⟨t + 1, by omega, by go_num, ?_⟩, by simp [intOf]; try omega⟩
                            rw [HIU.out]
                            exact M.out
                        · obtain rfl : N = t := by omega
                          have t1 : ¬ (((N : Nat) : Int) < ((N : Nat) : Int)) := by omega
                          go_wp2
                          refine ⟨⟨s + 1, by omega, by go_num, ?_⟩, by simp [intOf]; try omega⟩
                          rw [HSU.out, if_neg (by have := HSN.out; omega)]
                          exact M.out
                  · obtain rfl : N = s := by omega
                    have s1 : ¬ (((N : Nat) : Int) < ((N : Nat) : Int)) := by omega
                    rw [← HFS.out] at M
                    go_wp2
                    refine ⟨⟨d + 1, by omega, by go_num, fun e he => ?_, M.out.only [1] (K := [_]) rfl (by decide)⟩, by simp [intOf]; try omega⟩
                    rcases Nat.lt_or_ge e d with h9 | h9
                    · exact HCD.out e h9
                    · rw [show e = d by omega]
                      exact hcd0
        · obtain rfl : d = D := by omega
          have i1 : ¬ ((d : Int) < (d : Int)) := by omega
          have HLN := Lib.hid (show (F d).length = N from HFL.out d)
          have MX := Lib.hid (fun A c w hs => maxS_any A c (F d) (by rw [HLN.out]; omega) (by rw [HLN.out]; omega) w hs)
          rw [HLN.out] at MX
          obtain ⟨A9, c9, rfl, _, _⟩ := M.out.row_slice 0 rfl
          go_wp2_with (first
            | (go_at_call 67; go_must (refine (MX.out _ _ _ (M.out.slof 0 rfl)).mono ?_); rintro e w_ ⟨rfl, rfl⟩)
            )
          go_ret
          refine ⟨ret_int ?_, M.out.take 0⟩
          rw [HMO.out, if_neg]
          rw [shut, List.any_eq_true]
          rintro ⟨e, he1, he2⟩
          have h8 := HCD.out e (List.mem_range.1 he1)
          rw [HCE.out] at h8
          have h9 := of_decide_eq_true he2
          omega
end Go.Proofs.Ytdnofkngljjbmaa
