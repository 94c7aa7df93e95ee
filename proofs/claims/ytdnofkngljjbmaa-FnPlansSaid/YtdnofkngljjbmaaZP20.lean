/- Texts of a proof, laid together: Try. -/
import Derived.Test.YtdnofkngljjbmaaZP12
import Derived.Test.YtdnofkngljjbmaaZP17
import Derived.Test.YtdnofkngljjbmaaZP07
namespace Go.Proofs.Ytdnofkngljjbmaa
set_option linter.unusedSimpArgs false
set_option linter.unusedVariables false
open Go.RowKit
attribute [local go_sem] cell?_mk frozen?_mk
--ONES exact Plot.one _
theorem andn6 {a b : Nat} (ha : a < 64) (hb : b < 64) : bits .andNot .i64 (a : Int) (b : Int) = ((wo a b : Nat) : Int) := by
  have : ∀ a : Fin 64, ∀ b : Fin 64, bits .andNot .i64 ((a.val : Nat) : Int) ((b.val : Nat) : Int) = ((wo a.val b.val : Nat) : Int) := by decide +kernel
  exact this ⟨a, ha⟩ ⟨b, hb⟩
theorem low6 {x i : Nat} (hx : x < 64) (hi : i < 7) : bits .and .i64 ((x >>> i : Nat) : Int) 1 = if x.testBit i = true then 1 else 0 := by
  have : ∀ a : Fin 64, ∀ i : Fin 7, bits .and .i64 ((a.val >>> i.val : Nat) : Int) 1 = if a.val.testBit i.val = true then 1 else 0 := by decide +kernel
  exact this ⟨x, hx⟩ ⟨i, hi⟩
theorem bits6 {m x i : Nat} (hm : m ≤ 6) (hx : x < 2 ^ m) (hi : i ≤ 6) (h0 : x >>> i = 0) : cntN i x.testBit = popM m x := by
  have h64 : 2 ^ m ≤ 64 := Nat.le_trans (Nat.pow_le_pow_right (by omega) hm) (by decide : 2 ^ 6 ≤ 64)
  have : ∀ m : Fin 7, ∀ x : Fin 64, ∀ i : Fin 7, x.val < 2 ^ m.val → x.val >>> i.val = 0 → cntN i.val x.val.testBit = popM m.val x.val := by decide +kernel
  exact this ⟨m, by omega⟩ ⟨x, by omega⟩ ⟨i, by omega⟩ hx h0
set_option maxRecDepth 100000 in
set_option maxHeartbeats 1000000 in
theorem l07Bits_any {m : Nat} (x : Nat) (hm : m ≤ 6) (hx : x < 2 ^ m) (w : World) :
    Calls Try.prog 118 #[.int .i64 x] w fun e w' => e = .returned (.int .i64 (popM m x : Nat)) ∧ w = w' := by
  have h64 : 2 ^ m ≤ 64 := Nat.le_trans (Nat.pow_le_pow_right (by omega) hm) (by decide : 2 ^ 6 ≤ 64)
  go_enter Try.func118, Try.ntmps118
  go_wp2
  go_loop [0, 3] (fun u v => ∃ i y : Nat, i ≤ 6 ∧ y = x >>> i ∧ u = .int .i64 y ∧ v = .int .i64 (cntN i x.testBit : Nat))
    (fun u _ => (intOf u).toNat)
  case atStart => exact ⟨0, x, by omega, rfl, rfl, rfl⟩
  case round =>
    obtain ⟨i, y, hi, hy, rfl, rfl⟩ := hrel
    have HY := Lib.hid hy
    by_cases hy0 : 0 < y
    · have hi6 : i < 6 := by
        rcases Nat.lt_or_ge i 6 with h | h
        · exact h
        · have : x >>> i = 0 := by rw [show i = 6 by omega, Nat.shiftRight_eq_div_pow]; exact Nat.div_eq_of_lt (by omega)
          omega
      have b1 := low6 (x := x) (i := i) (by omega) (by omega)
      rw [← hy] at b1
      obtain ⟨z, hz⟩ : ∃ z : Nat, z = y / 2 := ⟨_, rfl⟩
      have y2 : z = x >>> (i + 1) := by rw [hz, hy, Nat.shiftRight_add]; rfl
      have Y2 := Lib.hid y2
      have s2 : (y : Int).fdiv (2 ^ min (Int.toNat 1) IntKind.i64.bits) = (z : Int) := by
        rw [show min (Int.toNat 1) IntKind.i64.bits = 1 from rfl, show (2 : Int) ^ 1 = 2 from rfl, Int.fdiv_eq_ediv_of_nonneg _ (by omega)]
        omega
      have s1 : (y : Int) / 2 = (z : Int) := by omega
      have HZ := Lib.hid (show z < y by omega)
      have i0 : (0 : Int) < (y : Int) := by omega
      have hcl := cntN_le x.testBit i
      have HCS := Lib.hid (show cntN (i + 1) x.testBit = cntN i x.testBit + if x.testBit i = true then 1 else 0 from rfl)
      obtain ⟨c, hc⟩ : ∃ c, c = cntN i x.testBit := ⟨_, rfl⟩
      rw [← hc] at hcl HCS
      rw [← hc]
      have w1 : IntKind.i64.wrap ((c : Int) + 1) = (c : Int) + 1 := IntWalk.i64_in _ (by omega)
      have w0 : IntKind.i64.wrap (c : Int) = (c : Int) := IntWalk.i64_in _ (by omega)
      clear hc hy y2 hz
      cases hq : x.testBit i
      all_goals
        have HQ := Lib.hid hq
        rw [hq] at b1
        first
          | rw [if_neg (by decide)] at b1
          | rw [if_pos rfl] at b1
        clear hq
        go_wp2
        refine ⟨⟨i + 1, z, by omega, Y2.out, by first | rfl | go_num, ?_⟩, by have := HZ.out; simp [intOf]; try omega⟩
        rw [HCS.out, HQ.out]
        first
          | rfl
          | (congr 1; push_cast; omega)
          | simp
    · have hxz : x >>> i = 0 := by omega
      have HB := Lib.hid (bits6 hm hx hi hxz)
      have i0 : ¬ ((0 : Int) < (y : Int)) := by omega
      clear hy
      go_wp2
      go_ret
      exact ⟨ret_int (by rw [HB.out]), rfl⟩
set_option maxRecDepth 100000 in
set_option maxHeartbeats 8000000 in
theorem try_none (n : Nat) (xs : List Plot) (hx : ∀ x ∈ xs, x.fine = true) (k m : Nat) (hl : k + m ≤ 6) (hxl : xs.length = k + m) (hn : k + m ≤ n) (hn0 : n = 0) (h : Int) (h0 : 0 ≤ h) (h1 : h ≤ 3) (D : Nat) (hD : D ≤ 20) (B : Option Addr) (nb : Nat) (p : List Int) (hp : p.length = k) (hd : ∀ d ∈ p, -1 ≤ d ∧ d ≤ 19) (hcp : ∀ e, e < D → 0 ≤ capOf h p e) (w : World) (hs : Sl w 4 (Option.none : Option Addr) xs.length (flat Plot.vals xs)) (ht : Sl w 1 B p.length (flat oneI p)) :
    Calls Try.prog 74 #[.slice (Option.none : Option Addr) (k + m) n, .int .i64 h, .int .i64 D, .slice B k nb] w fun e w' => e = .returned (.int .i64 (mostOf xs h D p)) ∧ Mem w w' [] := by
  have h64 : 2 ^ m ≤ 64 := Nat.le_trans (Nat.pow_le_pow_right (by omega) (by omega : m ≤ 6)) (by decide : 2 ^ 6 ≤ 64)
  have hpw := Nat.two_pow_pos m
  have hwt : ∀ i d, 0 ≤ wtOf xs k i d ∧ wtOf xs k i d ≤ 1000 := fun i d => worthAt_b hx (k + i) d
  have hba := baseOf_b hx p
  rw [hp] at hba
  have HWT := Lib.hid hwt
  have HBB := Lib.hid (fun e (he : e ≤ D) s (hs : s < 2 ^ m) => bwTo_b hx (k := k) (m := m) (by omega) hcp he hs)
  have HTR := Lib.hid (show mostOf xs h D p = gi (bwTo m (wtOf xs k) (capOf h p) D D) (2 ^ m - 1) + baseOf xs p by have := most_try hx (p := p) (m := m) (by omega) (by omega) hcp; rwa [hp] at this)
  have HCP := Lib.hid (fun d => show h - k ≤ capOf h p d ∧ capOf h p d ≤ h by have := cap_len h p d; rw [hp] at this; exact this)
  have HP := Lib.hid hp
  have HDD := Lib.hid hd
  have HTL := Lib.hid (show (xs.take k).length = k by rw [List.length_take]; omega)
  have HST := Lib.hid (show Sl w 4 (Option.none : Option Addr) k (flat Plot.vals (xs.take k)) from hs.takeP Plot.vl k (by omega))
  have HT := Lib.hid (show Sl w 1 B k (flat oneI p) by rw [← hp]; exact ht)
  have HTP := Lib.hid ht
  have SUM := Lib.hid (fun (w : World) hs ht => l07Sum_any (Option.none : Option Addr) n (xs.take k) (fun x hx' => hx x (List.mem_of_mem_take hx')) (by rw [List.length_take]; omega) B nb p (by rw [List.length_take]; omega) (fun d hd' => by have := hd d hd'; omega) w hs ht)
  rw [HTL.out, show sumTo (wOf (xs.take k) p) p.length = baseOf xs p by unfold baseOf; rw [hp], hp] at SUM
  have HKL := Lib.hid (show ∀ i, i < m → ∃ x : Plot, (xs.drop k)[i]? = some x ∧ x.fine = true ∧ ∀ d : Nat, wtOf xs k i d = x.worth d from fun i hi => by
    have e1 : i < (xs.drop k).length := by rw [List.length_drop]; omega
    have e2 : (xs.drop k)[i]? = some (xs.drop k)[i] := List.getElem?_eq_getElem e1
    have e3 : xs[k + i]? = some (xs.drop k)[i] := by rw [← e2, List.getElem?_drop]
    exact ⟨_, e2, hx _ (List.mem_of_getElem? e3), fun d => by unfold wtOf worthAt; rw [e3]⟩)
  have hcq : ((2 ^ m : Nat) : Int) = (2 : Int) ^ m := by rw [Int.natCast_pow]; rfl
  have hsh : IntKind.i64.wrap ((2 : Int) ^ m) = (2 : Int) ^ m := IntWalk.i64_in _ (by omega)
  have hu1 : IntKind.u64.wrap (m : Int) = m := IntWalk.u64_in _ (by omega)
  clear hx hd ht hwt hp hcp
  have M := Lib.hid (Mem.start w)
  obtain ⟨N, hN⟩ : ∃ N, N = 2 ^ m := ⟨_, rfl⟩
  have HN := Lib.hid hN
  rw [← hN] at h64 hpw hcq HBB HTR
  rw [← hcq] at hsh
  have hsh3 : (2 : Int) ^ m = (N : Int) := hcq.symm
  have hsh2 : IntKind.i64.wrap ((N : Int) - 1) = (N : Int) - 1 := IntWalk.i64_in _ (by omega)
  have hk0 : (0 : Int) ≤ (k : Int) := by omega
  have hkn : k ≤ n := by omega
  have hkl : (k : Int) ≤ ((k + m : Nat) : Int) := by omega
  have hkl2 : (k : Int) ≤ (k : Int) + (m : Int) := by omega
  have hkm : k + m - k = m := by omega
  clear hN hcq
  have HFR := Lib.hid (show Sl w 4 (Option.none : Option Addr) m (flat Plot.vals (xs.drop k)) by
    have h9 : xs = [] := List.length_eq_zero_iff.1 (by omega)
    obtain rfl : m = 0 := by omega
    subst h9
    rw [List.drop_nil]
    exact Sl.nil_)
  have HNZ := Lib.hid (show n - k = 0 by omega)
  clear hn0
  go_enter Try.func74, Try.ntmps74
  go_wp2_with (first
    | ((with_reducible refine gate_dst (N := 22) rfl ?_); go_must (refine M.out.ev_bs0 elem_Plot rfl rfl ?_); intro gv22 wv22 m; simp only [List.cons_append, List.nil_append] at m; have M := Lib.hid m; clear m)
    | ((with_reducible refine gate_dst (N := 27) rfl ?_); go_must (refine M.out.ev_appends 0 elem_Plot rfl _ _ rfl rfl rfl rfl (M.out.sl HFR.out) (fun _ => HNZ.out) (by omega) (flat_one Plot.ones _) (by omega) (by decide) ?_); intro v27 w27 m; simp only [List.set_cons_succ, List.set_cons_zero, List.nil_append, Nat.zero_add] at m; have M := Lib.hid m; clear m)
    | ((with_reducible refine gate_dst (N := 10) rfl ?_); go_must (refine M.out.ev_new rfl (by first | (go_simp; done) | (go_simp; rfl)) ?_); intro g10 w10 m; simp only [List.cons_append, List.nil_append] at m; have M := Lib.hid m; clear m)
    | ((with_reducible refine gate_store (x := .tmp 10) rfl ?_); go_must (refine M.out.ev_stw 1 _ _ _ rfl rfl rfl rfl _ rfl (by first | rfl | (simp only [S1.out]; rfl) | (simp only [S1.out, S2.out]; rfl) | (simp only [S3.out]; rfl) | (simp only [S1.out, S2.out, S3.out]; rfl)) (by first | exact sz98 | (rw [S1.out]; exact sz98) | (rw [S2.out]; exact sz98) | (rw [S3.out]; exact sz98)) (by first | exact ints_one _ _ | exact Fld.one _ | exact O1.out | exact Plot.one _ | rfl | (simp [Value.oneCell']; done)) rfl ?_); intro wn m; simp only [List.set_cons_succ, List.set_cons_zero, List.setIfInBounds_toArray] at m; have M := Lib.hid m; clear m)
    | ((with_reducible refine gate_store (x := .tmp 36) rfl ?_); go_must (refine M.out.ev_put 1 _ _ _ rfl rfl rfl rfl (.int _ _) rfl (by first | assumption | exact Fld.lt0 _ | exact Fld.lt1 _ | (simp; done) | (simp only [ints_size]; omega)) sz2 rfl rfl ?_); intro wn m; simp only [List.set_cons_succ, List.set_cons_zero, List.setIfInBounds_toArray] at m; have M := Lib.hid m; clear m)
    | ((with_reducible refine gate_dst (N := 53) rfl ?_); go_must (refine M.out.ev_ld 1 _ _ rfl rfl rfl Try.underlying2 rfl rfl (by first | assumption | rfl) ?_))
    | ((with_reducible refine gate_store (x := .tmp 55) rfl ?_); go_must (refine M.out.ev_put 1 _ _ _ rfl rfl rfl rfl (.int _ _) rfl (by first | assumption | exact Fld.lt0 _ | exact Fld.lt1 _ | (simp; done) | (simp only [ints_size]; omega)) sz2 rfl rfl ?_); intro wn m; simp only [List.set_cons_succ, List.set_cons_zero, List.setIfInBounds_toArray] at m; have M := Lib.hid m; clear m)
    | ((with_reducible refine gate_dst (N := 13) rfl ?_); go_must (refine M.out.ev_new rfl (by first | (go_simp; done) | (go_simp; rfl)) ?_); intro g13 w13 m; simp only [List.cons_append, List.nil_append] at m; have M := Lib.hid m; clear m)
    | ((with_reducible refine gate_store (x := .tmp 13) rfl ?_); go_must (refine M.out.ev_stw 2 _ _ _ rfl rfl rfl rfl _ rfl (by first | rfl | (simp only [S1.out]; rfl) | (simp only [S1.out, S2.out]; rfl) | (simp only [S3.out]; rfl) | (simp only [S1.out, S2.out, S3.out]; rfl)) (by first | exact sz157 | (rw [S1.out]; exact sz157) | (rw [S2.out]; exact sz157) | (rw [S3.out]; exact sz157)) (by first | exact ints_one _ _ | exact Fld.one _ | exact O1.out | exact Plot.one _ | rfl | (simp [Value.oneCell']; done)) rfl ?_); intro wn m; simp only [List.set_cons_succ, List.set_cons_zero, List.setIfInBounds_toArray] at m; have M := Lib.hid m; clear m)
    | ((with_reducible refine gate_dst (N := 16) rfl ?_); go_must (refine M.out.ev_new rfl (by first | (go_simp; done) | (go_simp; rfl)) ?_); intro g16 w16 m; simp only [List.cons_append, List.nil_append] at m; have M := Lib.hid m; clear m)
    | ((with_reducible refine gate_store (x := .tmp 16) rfl ?_); go_must (refine M.out.ev_stw 3 _ _ _ rfl rfl rfl rfl _ rfl (by first | rfl | (simp only [S1.out]; rfl) | (simp only [S1.out, S2.out]; rfl) | (simp only [S3.out]; rfl) | (simp only [S1.out, S2.out, S3.out]; rfl)) (by first | exact sz157 | (rw [S1.out]; exact sz157) | (rw [S2.out]; exact sz157) | (rw [S3.out]; exact sz157)) (by first | exact ints_one _ _ | exact Fld.one _ | exact O1.out | exact Plot.one _ | rfl | (simp [Value.oneCell']; done)) rfl ?_); intro wn m; simp only [List.set_cons_succ, List.set_cons_zero, List.setIfInBounds_toArray] at m; have M := Lib.hid m; clear m)
    | ((with_reducible refine gate_dst (N := 87) rfl ?_); go_must (refine M.out.ev_ld 3 _ _ rfl rfl rfl Try.underlying2 rfl rfl (by first | assumption | rfl) ?_))
    | ((with_reducible refine gate_store (x := .tmp 95) rfl ?_); go_must (refine M.out.ev_put 3 _ _ _ rfl rfl rfl rfl (.int _ _) rfl (by first | assumption | exact Fld.lt0 _ | exact Fld.lt1 _ | (simp; done) | (simp only [ints_size]; omega)) sz2 rfl rfl ?_); intro wn m; simp only [List.set_cons_succ, List.set_cons_zero, List.setIfInBounds_toArray] at m; have M := Lib.hid m; clear m)
    | ((with_reducible refine gate_dst (N := 96) rfl ?_); go_must (refine M.out.ev_ldw 2 _ _ rfl rfl rfl Try.underlying157 rfl (by first | exact sz157 | (rw [S1.out]; exact sz157) | (rw [S2.out]; exact sz157) | (rw [S3.out]; exact sz157)) rfl ?_))
    | ((with_reducible refine gate_dst (N := 19) rfl ?_); go_must (refine M.out.ev_new rfl (by first | (go_simp; done) | (go_simp; rfl)) ?_); intro g19 w19 m; simp only [List.cons_append, List.nil_append] at m; have M := Lib.hid m; clear m)
    | ((with_reducible refine gate_store (x := .tmp 19) rfl ?_); go_must (refine M.out.ev_stw 4 _ _ _ rfl rfl rfl rfl _ rfl (by first | rfl | (simp only [S1.out]; rfl) | (simp only [S1.out, S2.out]; rfl) | (simp only [S3.out]; rfl) | (simp only [S1.out, S2.out, S3.out]; rfl)) (by first | exact sz157 | (rw [S1.out]; exact sz157) | (rw [S2.out]; exact sz157) | (rw [S3.out]; exact sz157)) (by first | exact ints_one _ _ | exact Fld.one _ | exact O1.out | exact Plot.one _ | rfl | (simp [Value.oneCell']; done)) rfl ?_); intro wn m; simp only [List.set_cons_succ, List.set_cons_zero, List.setIfInBounds_toArray] at m; have M := Lib.hid m; clear m)
    | ((with_reducible refine gate_dst (N := 106) rfl ?_); go_must (refine M.out.ev_ld 1 _ _ rfl rfl rfl Try.underlying2 rfl rfl (by first | assumption | rfl) ?_))
    | ((with_reducible refine gate_dst (N := 127) rfl ?_); go_must (refine M.out.ev_ld 2 _ _ rfl rfl rfl Try.underlying2 rfl rfl (by first | assumption | rfl) ?_))
    | ((with_reducible refine gate_dst (N := 130) rfl ?_); go_must (refine M.out.ev_ld 3 _ _ rfl rfl rfl Try.underlying2 rfl rfl (by first | assumption | rfl) ?_))
    | ((with_reducible refine gate_dst (N := 135) rfl ?_); go_must (refine M.out.ev_ld 4 _ _ rfl rfl rfl Try.underlying2 rfl rfl (by first | assumption | rfl) ?_))
    | ((with_reducible refine gate_store (x := .tmp 138) rfl ?_); go_must (refine M.out.ev_put 2 _ _ _ rfl rfl rfl rfl (.int _ _) rfl (by first | assumption | exact Fld.lt0 _ | exact Fld.lt1 _ | (simp; done) | (simp only [ints_size]; omega)) sz2 rfl rfl ?_); intro wn m; simp only [List.set_cons_succ, List.set_cons_zero, List.setIfInBounds_toArray] at m; have M := Lib.hid m; clear m)
    | ((with_reducible refine gate_dst (N := 142) rfl ?_); go_must (refine M.out.ev_ld 2 _ _ rfl rfl rfl Try.underlying2 rfl rfl (by first | assumption | rfl) ?_))
    )
  obtain ⟨RA, rc, rfl, hrc, _⟩ := M.out.row_slice 0 rfl
  go_loopw [11] (fun v wr => ∃ d : Nat, d ≤ D ∧ v = .int .i64 d ∧ Mem w wr [.row (.slice RA m rc) 40 4 m (flat Plot.vals (xs.drop k)), .blk g10 98 (ints .i64 (updTo (fun _ => h) (fun _ => 0) 20 d))])
    (fun v _ => D - (intOf v).toNat)
  case atStart => exact ⟨0, by omega, rfl, M.out⟩
  case round =>
    clear M
    obtain ⟨d, hd, rfl, m⟩ := hrel
    have M := Lib.hid m
    clear m
    by_cases hdt : d < D
    · have i0 : (0 : Int) ≤ (d : Int) := by omega
      have i1 : (d : Int) < (D : Int) := by omega
      have i2 : (d : Int) < 20 := by omega
      have HUS := Lib.hid (updTo_succ (fun _ => h) (fun _ => (0 : Int)) (n := 20) (k := d) (by omega))
      have hsz : d < (ints .i64 (updTo (fun _ => h) (fun _ => (0 : Int)) 20 d)).size := by rw [ints_size, updTo_len]; omega
      go_wp2_with (first
        | ((with_reducible refine gate_dst (N := 10) rfl ?_); go_must (refine M.out.ev_new rfl (by first | (go_simp; done) | (go_simp; rfl)) ?_); intro g10 w10 m; simp only [List.cons_append, List.nil_append] at m; have M := Lib.hid m; clear m)
        | ((with_reducible refine gate_store (x := .tmp 10) rfl ?_); go_must (refine M.out.ev_stw 1 _ _ _ rfl rfl rfl rfl _ rfl (by first | rfl | (simp only [S1.out]; rfl) | (simp only [S1.out, S2.out]; rfl) | (simp only [S3.out]; rfl) | (simp only [S1.out, S2.out, S3.out]; rfl)) (by first | exact sz98 | (rw [S1.out]; exact sz98) | (rw [S2.out]; exact sz98) | (rw [S3.out]; exact sz98)) (by first | exact ints_one _ _ | exact Fld.one _ | exact O1.out | exact Plot.one _ | rfl | (simp [Value.oneCell']; done)) rfl ?_); intro wn m; simp only [List.set_cons_succ, List.set_cons_zero, List.setIfInBounds_toArray] at m; have M := Lib.hid m; clear m)
        | ((with_reducible refine gate_store (x := .tmp 36) rfl ?_); go_must (refine M.out.ev_put 1 _ _ _ rfl rfl rfl rfl (.int _ _) rfl (by first | assumption | exact Fld.lt0 _ | exact Fld.lt1 _ | (simp; done) | (simp only [ints_size]; omega)) sz2 rfl rfl ?_); intro wn m; simp only [List.set_cons_succ, List.set_cons_zero, List.setIfInBounds_toArray] at m; have M := Lib.hid m; clear m)
        | ((with_reducible refine gate_dst (N := 53) rfl ?_); go_must (refine M.out.ev_ld 1 _ _ rfl rfl rfl Try.underlying2 rfl rfl (by first | assumption | rfl) ?_))
        | ((with_reducible refine gate_store (x := .tmp 55) rfl ?_); go_must (refine M.out.ev_put 1 _ _ _ rfl rfl rfl rfl (.int _ _) rfl (by first | assumption | exact Fld.lt0 _ | exact Fld.lt1 _ | (simp; done) | (simp only [ints_size]; omega)) sz2 rfl rfl ?_); intro wn m; simp only [List.set_cons_succ, List.set_cons_zero, List.setIfInBounds_toArray] at m; have M := Lib.hid m; clear m)
        | ((with_reducible refine gate_dst (N := 13) rfl ?_); go_must (refine M.out.ev_new rfl (by first | (go_simp; done) | (go_simp; rfl)) ?_); intro g13 w13 m; simp only [List.cons_append, List.nil_append] at m; have M := Lib.hid m; clear m)
        | ((with_reducible refine gate_store (x := .tmp 13) rfl ?_); go_must (refine M.out.ev_stw 1 _ _ _ rfl rfl rfl rfl _ rfl (by first | rfl | (simp only [S1.out]; rfl) | (simp only [S1.out, S2.out]; rfl) | (simp only [S3.out]; rfl) | (simp only [S1.out, S2.out, S3.out]; rfl)) (by first | exact sz157 | (rw [S1.out]; exact sz157) | (rw [S2.out]; exact sz157) | (rw [S3.out]; exact sz157)) (by first | exact ints_one _ _ | exact Fld.one _ | exact O1.out | exact Plot.one _ | rfl | (simp [Value.oneCell']; done)) rfl ?_); intro wn m; simp only [List.set_cons_succ, List.set_cons_zero, List.setIfInBounds_toArray] at m; have M := Lib.hid m; clear m)
        | ((with_reducible refine gate_dst (N := 16) rfl ?_); go_must (refine M.out.ev_new rfl (by first | (go_simp; done) | (go_simp; rfl)) ?_); intro g16 w16 m; simp only [List.cons_append, List.nil_append] at m; have M := Lib.hid m; clear m)
        | ((with_reducible refine gate_store (x := .tmp 16) rfl ?_); go_must (refine M.out.ev_stw 2 _ _ _ rfl rfl rfl rfl _ rfl (by first | rfl | (simp only [S1.out]; rfl) | (simp only [S1.out, S2.out]; rfl) | (simp only [S3.out]; rfl) | (simp only [S1.out, S2.out, S3.out]; rfl)) (by first | exact sz157 | (rw [S1.out]; exact sz157) | (rw [S2.out]; exact sz157) | (rw [S3.out]; exact sz157)) (by first | exact ints_one _ _ | exact Fld.one _ | exact O1.out | exact Plot.one _ | rfl | (simp [Value.oneCell']; done)) rfl ?_); intro wn m; simp only [List.set_cons_succ, List.set_cons_zero, List.setIfInBounds_toArray] at m; have M := Lib.hid m; clear m)
        | ((with_reducible refine gate_dst (N := 87) rfl ?_); go_must (refine M.out.ev_ld 2 _ _ rfl rfl rfl Try.underlying2 rfl rfl (by first | assumption | rfl) ?_))
        | ((with_reducible refine gate_store (x := .tmp 95) rfl ?_); go_must (refine M.out.ev_put 2 _ _ _ rfl rfl rfl rfl (.int _ _) rfl (by first | assumption | exact Fld.lt0 _ | exact Fld.lt1 _ | (simp; done) | (simp only [ints_size]; omega)) sz2 rfl rfl ?_); intro wn m; simp only [List.set_cons_succ, List.set_cons_zero, List.setIfInBounds_toArray] at m; have M := Lib.hid m; clear m)
        | ((with_reducible refine gate_dst (N := 96) rfl ?_); go_must (refine M.out.ev_ldw 1 _ _ rfl rfl rfl Try.underlying157 rfl (by first | exact sz157 | (rw [S1.out]; exact sz157) | (rw [S2.out]; exact sz157) | (rw [S3.out]; exact sz157)) rfl ?_))
        | ((with_reducible refine gate_dst (N := 19) rfl ?_); go_must (refine M.out.ev_new rfl (by first | (go_simp; done) | (go_simp; rfl)) ?_); intro g19 w19 m; simp only [List.cons_append, List.nil_append] at m; have M := Lib.hid m; clear m)
        | ((with_reducible refine gate_store (x := .tmp 19) rfl ?_); go_must (refine M.out.ev_stw 3 _ _ _ rfl rfl rfl rfl _ rfl (by first | rfl | (simp only [S1.out]; rfl) | (simp only [S1.out, S2.out]; rfl) | (simp only [S3.out]; rfl) | (simp only [S1.out, S2.out, S3.out]; rfl)) (by first | exact sz157 | (rw [S1.out]; exact sz157) | (rw [S2.out]; exact sz157) | (rw [S3.out]; exact sz157)) (by first | exact ints_one _ _ | exact Fld.one _ | exact O1.out | exact Plot.one _ | rfl | (simp [Value.oneCell']; done)) rfl ?_); intro wn m; simp only [List.set_cons_succ, List.set_cons_zero, List.setIfInBounds_toArray] at m; have M := Lib.hid m; clear m)
        | ((with_reducible refine gate_dst (N := 106) rfl ?_); go_must (refine M.out.ev_ld 1 _ _ rfl rfl rfl Try.underlying2 rfl rfl (by first | assumption | rfl) ?_))
        | ((with_reducible refine gate_dst (N := 127) rfl ?_); go_must (refine M.out.ev_ld 1 _ _ rfl rfl rfl Try.underlying2 rfl rfl (by first | assumption | rfl) ?_))
        | ((with_reducible refine gate_dst (N := 130) rfl ?_); go_must (refine M.out.ev_ld 2 _ _ rfl rfl rfl Try.underlying2 rfl rfl (by first | assumption | rfl) ?_))
        | ((with_reducible refine gate_dst (N := 135) rfl ?_); go_must (refine M.out.ev_ld 3 _ _ rfl rfl rfl Try.underlying2 rfl rfl (by first | assumption | rfl) ?_))
        | ((with_reducible refine gate_store (x := .tmp 138) rfl ?_); go_must (refine M.out.ev_put 1 _ _ _ rfl rfl rfl rfl (.int _ _) rfl (by first | assumption | exact Fld.lt0 _ | exact Fld.lt1 _ | (simp; done) | (simp only [ints_size]; omega)) sz2 rfl rfl ?_); intro wn m; simp only [List.set_cons_succ, List.set_cons_zero, List.setIfInBounds_toArray] at m; have M := Lib.hid m; clear m)
        | ((with_reducible refine gate_dst (N := 142) rfl ?_); go_must (refine M.out.ev_ld 1 _ _ rfl rfl rfl Try.underlying2 rfl rfl (by first | assumption | rfl) ?_))
        )
      refine ⟨⟨d + 1, by omega, by go_num, ?_⟩, by simp [intOf]; try omega⟩
      rw [HUS.out, ← ints_set]
      exact M.out
    · obtain rfl : D = d := by omega
      have i1 : ¬ ((D : Int) < (D : Int)) := by omega
      have HFR0 := Lib.hid (show updTo (fun _ => h) (fun _ => (0 : Int)) 20 D = freeTo h D p 0 from List.map_congr_left fun e _ => by simp)
      rw [HFR0.out] at M
      go_wp2
      go_loopw [12] (fun v wr => ∃ i : Nat, i ≤ k ∧ v = .int .i64 i ∧ Mem w wr [.row (.slice RA m rc) 40 4 m (flat Plot.vals (xs.drop k)), .blk g10 98 (ints .i64 (freeTo h D p i))])
        (fun v _ => k - (intOf v).toNat)
      case atStart => exact ⟨0, by omega, rfl, M.out⟩
      case round =>
        clear M
        obtain ⟨i, hi, rfl, m⟩ := hrel
        have M := Lib.hid m
        clear m
        by_cases hit : i < k
        · have hip : i < p.length := by rw [HP.out]; exact hit
          obtain ⟨pb, poff, rfl, _⟩ := HT.out.2 (by omega)
          have x0 : wr.cell? ⟨pb, poff + i, none⟩ = some (.int .i64 (gi p i)) := (M.out.sl HTP.out).atP hip
          have i0 : (0 : Int) ≤ (i : Int) := by omega
          have i2 : (i : Int) < (k : Int) := by omega
          have hgb := HDD.out (gi p i) (gi_mem hip)
          by_cases hy0 : 0 ≤ gi p i
          · obtain ⟨y, hy⟩ : ∃ y : Nat, gi p i = y := ⟨(gi p i).toNat, by omega⟩
            have HFU := Lib.hid (freeTo_succ h D p hip hy (by omega))
            rw [hy] at x0 hgb
            have j0 : (0 : Int) ≤ (y : Int) := by omega
            have j1 : (y : Int) < 20 := by omega
            have q53 : (ints .i64 (freeTo h D p i))[y]? = some (.int .i64 (gi (freeTo h D p i) y)) := ints_at (by rw [freeTo_len]; omega)
            have hfb := freeTo_b (D := D) (p := p) h0 h1 (i := i) (by omega) y
            have hsz : y < (ints .i64 (freeTo h D p i)).size := by rw [ints_size, freeTo_len]; omega
            obtain ⟨fv, hfv⟩ : ∃ fv, fv = gi (freeTo h D p i) y := ⟨_, rfl⟩
            rw [← hfv] at q53 HFU hfb
            have w1 : IntKind.i64.wrap (fv - 1) = fv - 1 := IntWalk.i64_in _ (by omega)
            clear hy hfv hip hy0
            go_wp2_with (first
              | ((with_reducible refine gate_dst (N := 10) rfl ?_); go_must (refine M.out.ev_new rfl (by first | (go_simp; done) | (go_simp; rfl)) ?_); intro g10 w10 m; simp only [List.cons_append, List.nil_append] at m; have M := Lib.hid m; clear m)
              | ((with_reducible refine gate_store (x := .tmp 10) rfl ?_); go_must (refine M.out.ev_stw 1 _ _ _ rfl rfl rfl rfl _ rfl (by first | rfl | (simp only [S1.out]; rfl) | (simp only [S1.out, S2.out]; rfl) | (simp only [S3.out]; rfl) | (simp only [S1.out, S2.out, S3.out]; rfl)) (by first | exact sz98 | (rw [S1.out]; exact sz98) | (rw [S2.out]; exact sz98) | (rw [S3.out]; exact sz98)) (by first | exact ints_one _ _ | exact Fld.one _ | exact O1.out | exact Plot.one _ | rfl | (simp [Value.oneCell']; done)) rfl ?_); intro wn m; simp only [List.set_cons_succ, List.set_cons_zero, List.setIfInBounds_toArray] at m; have M := Lib.hid m; clear m)
              | ((with_reducible refine gate_store (x := .tmp 36) rfl ?_); go_must (refine M.out.ev_put 1 _ _ _ rfl rfl rfl rfl (.int _ _) rfl (by first | assumption | exact Fld.lt0 _ | exact Fld.lt1 _ | (simp; done) | (simp only [ints_size]; omega)) sz2 rfl rfl ?_); intro wn m; simp only [List.set_cons_succ, List.set_cons_zero, List.setIfInBounds_toArray] at m; have M := Lib.hid m; clear m)
              | ((with_reducible refine gate_dst (N := 53) rfl ?_); go_must (refine M.out.ev_ld 1 _ _ rfl rfl rfl Try.underlying2 rfl rfl (by first | assumption | rfl) ?_))
              | ((with_reducible refine gate_store (x := .tmp 55) rfl ?_); go_must (refine M.out.ev_put 1 _ _ _ rfl rfl rfl rfl (.int _ _) rfl (by first | assumption | exact Fld.lt0 _ | exact Fld.lt1 _ | (simp; done) | (simp only [ints_size]; omega)) sz2 rfl rfl ?_); intro wn m; simp only [List.set_cons_succ, List.set_cons_zero, List.setIfInBounds_toArray] at m; have M := Lib.hid m; clear m)
              | ((with_reducible refine gate_dst (N := 13) rfl ?_); go_must (refine M.out.ev_new rfl (by first | (go_simp; done) | (go_simp; rfl)) ?_); intro g13 w13 m; simp only [List.cons_append, List.nil_append] at m; have M := Lib.hid m; clear m)
              | ((with_reducible refine gate_store (x := .tmp 13) rfl ?_); go_must (refine M.out.ev_stw 1 _ _ _ rfl rfl rfl rfl _ rfl (by first | rfl | (simp only [S1.out]; rfl) | (simp only [S1.out, S2.out]; rfl) | (simp only [S3.out]; rfl) | (simp only [S1.out, S2.out, S3.out]; rfl)) (by first | exact sz157 | (rw [S1.out]; exact sz157) | (rw [S2.out]; exact sz157) | (rw [S3.out]; exact sz157)) (by first | exact ints_one _ _ | exact Fld.one _ | exact O1.out | exact Plot.one _ | rfl | (simp [Value.oneCell']; done)) rfl ?_); intro wn m; simp only [List.set_cons_succ, List.set_cons_zero, List.setIfInBounds_toArray] at m; have M := Lib.hid m; clear m)
              | ((with_reducible refine gate_dst (N := 16) rfl ?_); go_must (refine M.out.ev_new rfl (by first | (go_simp; done) | (go_simp; rfl)) ?_); intro g16 w16 m; simp only [List.cons_append, List.nil_append] at m; have M := Lib.hid m; clear m)
              | ((with_reducible refine gate_store (x := .tmp 16) rfl ?_); go_must (refine M.out.ev_stw 2 _ _ _ rfl rfl rfl rfl _ rfl (by first | rfl | (simp only [S1.out]; rfl) | (simp only [S1.out, S2.out]; rfl) | (simp only [S3.out]; rfl) | (simp only [S1.out, S2.out, S3.out]; rfl)) (by first | exact sz157 | (rw [S1.out]; exact sz157) | (rw [S2.out]; exact sz157) | (rw [S3.out]; exact sz157)) (by first | exact ints_one _ _ | exact Fld.one _ | exact O1.out | exact Plot.one _ | rfl | (simp [Value.oneCell']; done)) rfl ?_); intro wn m; simp only [List.set_cons_succ, List.set_cons_zero, List.setIfInBounds_toArray] at m; have M := Lib.hid m; clear m)
              | ((with_reducible refine gate_dst (N := 87) rfl ?_); go_must (refine M.out.ev_ld 2 _ _ rfl rfl rfl Try.underlying2 rfl rfl (by first | assumption | rfl) ?_))
              | ((with_reducible refine gate_store (x := .tmp 95) rfl ?_); go_must (refine M.out.ev_put 2 _ _ _ rfl rfl rfl rfl (.int _ _) rfl (by first | assumption | exact Fld.lt0 _ | exact Fld.lt1 _ | (simp; done) | (simp only [ints_size]; omega)) sz2 rfl rfl ?_); intro wn m; simp only [List.set_cons_succ, List.set_cons_zero, List.setIfInBounds_toArray] at m; have M := Lib.hid m; clear m)
              | ((with_reducible refine gate_dst (N := 96) rfl ?_); go_must (refine M.out.ev_ldw 1 _ _ rfl rfl rfl Try.underlying157 rfl (by first | exact sz157 | (rw [S1.out]; exact sz157) | (rw [S2.out]; exact sz157) | (rw [S3.out]; exact sz157)) rfl ?_))
              | ((with_reducible refine gate_dst (N := 19) rfl ?_); go_must (refine M.out.ev_new rfl (by first | (go_simp; done) | (go_simp; rfl)) ?_); intro g19 w19 m; simp only [List.cons_append, List.nil_append] at m; have M := Lib.hid m; clear m)
              | ((with_reducible refine gate_store (x := .tmp 19) rfl ?_); go_must (refine M.out.ev_stw 3 _ _ _ rfl rfl rfl rfl _ rfl (by first | rfl | (simp only [S1.out]; rfl) | (simp only [S1.out, S2.out]; rfl) | (simp only [S3.out]; rfl) | (simp only [S1.out, S2.out, S3.out]; rfl)) (by first | exact sz157 | (rw [S1.out]; exact sz157) | (rw [S2.out]; exact sz157) | (rw [S3.out]; exact sz157)) (by first | exact ints_one _ _ | exact Fld.one _ | exact O1.out | exact Plot.one _ | rfl | (simp [Value.oneCell']; done)) rfl ?_); intro wn m; simp only [List.set_cons_succ, List.set_cons_zero, List.setIfInBounds_toArray] at m; have M := Lib.hid m; clear m)
              | ((with_reducible refine gate_dst (N := 106) rfl ?_); go_must (refine M.out.ev_ld 1 _ _ rfl rfl rfl Try.underlying2 rfl rfl (by first | assumption | rfl) ?_))
              | ((with_reducible refine gate_dst (N := 127) rfl ?_); go_must (refine M.out.ev_ld 1 _ _ rfl rfl rfl Try.underlying2 rfl rfl (by first | assumption | rfl) ?_))
              | ((with_reducible refine gate_dst (N := 130) rfl ?_); go_must (refine M.out.ev_ld 2 _ _ rfl rfl rfl Try.underlying2 rfl rfl (by first | assumption | rfl) ?_))
              | ((with_reducible refine gate_dst (N := 135) rfl ?_); go_must (refine M.out.ev_ld 3 _ _ rfl rfl rfl Try.underlying2 rfl rfl (by first | assumption | rfl) ?_))
              | ((with_reducible refine gate_store (x := .tmp 138) rfl ?_); go_must (refine M.out.ev_put 1 _ _ _ rfl rfl rfl rfl (.int _ _) rfl (by first | assumption | exact Fld.lt0 _ | exact Fld.lt1 _ | (simp; done) | (simp only [ints_size]; omega)) sz2 rfl rfl ?_); intro wn m; simp only [List.set_cons_succ, List.set_cons_zero, List.setIfInBounds_toArray] at m; have M := Lib.hid m; clear m)
              | ((with_reducible refine gate_dst (N := 142) rfl ?_); go_must (refine M.out.ev_ld 1 _ _ rfl rfl rfl Try.underlying2 rfl rfl (by first | assumption | rfl) ?_))
              )
            refine ⟨⟨i + 1, by omega, by go_num, ?_⟩, by simp [intOf]; try omega⟩
            rw [HFU.out, ← ints_set]
            exact M.out
          · have HFN := Lib.hid (freeTo_neg h D p hip (by omega : gi p i < 0))
            obtain ⟨y, hy⟩ : ∃ y, y = gi p i := ⟨_, rfl⟩
            rw [← hy] at x0 hy0
            clear hy hip hgb
            go_wp2
            refine ⟨⟨i + 1, by omega, by go_num, ?_⟩, by simp [intOf]; try omega⟩
            rw [HFN.out]
            exact M.out
        · obtain rfl : k = i := by omega
          have i2 : ¬ ((k : Int) < (k : Int)) := by omega
          have HFC := Lib.hid (fun e (he : e < D) => show gi (freeTo h D p k) e = capOf h p e by have := freeTo_all h (D := D) (p := p) (by omega : D ≤ 20) he; rwa [HP.out] at this)
          have HFLN := Lib.hid (freeTo_len h D p k)
          obtain ⟨FR, hFR⟩ : ∃ FR, FR = freeTo h D p k := ⟨_, rfl⟩
          rw [← hFR] at HFC HFLN M
          clear hFR
          go_wp2_with (first
            | ((with_reducible refine gate_dst (N := 10) rfl ?_); go_must (refine M.out.ev_new rfl (by first | (go_simp; done) | (go_simp; rfl)) ?_); intro g10 w10 m; simp only [List.cons_append, List.nil_append] at m; have M := Lib.hid m; clear m)
            | ((with_reducible refine gate_store (x := .tmp 10) rfl ?_); go_must (refine M.out.ev_stw 1 _ _ _ rfl rfl rfl rfl _ rfl (by first | rfl | (simp only [S1.out]; rfl) | (simp only [S1.out, S2.out]; rfl) | (simp only [S3.out]; rfl) | (simp only [S1.out, S2.out, S3.out]; rfl)) (by first | exact sz98 | (rw [S1.out]; exact sz98) | (rw [S2.out]; exact sz98) | (rw [S3.out]; exact sz98)) (by first | exact ints_one _ _ | exact Fld.one _ | exact O1.out | exact Plot.one _ | rfl | (simp [Value.oneCell']; done)) rfl ?_); intro wn m; simp only [List.set_cons_succ, List.set_cons_zero, List.setIfInBounds_toArray] at m; have M := Lib.hid m; clear m)
            | ((with_reducible refine gate_store (x := .tmp 36) rfl ?_); go_must (refine M.out.ev_put 1 _ _ _ rfl rfl rfl rfl (.int _ _) rfl (by first | assumption | exact Fld.lt0 _ | exact Fld.lt1 _ | (simp; done) | (simp only [ints_size]; omega)) sz2 rfl rfl ?_); intro wn m; simp only [List.set_cons_succ, List.set_cons_zero, List.setIfInBounds_toArray] at m; have M := Lib.hid m; clear m)
            | ((with_reducible refine gate_dst (N := 53) rfl ?_); go_must (refine M.out.ev_ld 1 _ _ rfl rfl rfl Try.underlying2 rfl rfl (by first | assumption | rfl) ?_))
            | ((with_reducible refine gate_store (x := .tmp 55) rfl ?_); go_must (refine M.out.ev_put 1 _ _ _ rfl rfl rfl rfl (.int _ _) rfl (by first | assumption | exact Fld.lt0 _ | exact Fld.lt1 _ | (simp; done) | (simp only [ints_size]; omega)) sz2 rfl rfl ?_); intro wn m; simp only [List.set_cons_succ, List.set_cons_zero, List.setIfInBounds_toArray] at m; have M := Lib.hid m; clear m)
            | ((with_reducible refine gate_dst (N := 13) rfl ?_); go_must (refine M.out.ev_new rfl (by first | (go_simp; done) | (go_simp; rfl)) ?_); intro g13 w13 m; simp only [List.cons_append, List.nil_append] at m; have M := Lib.hid m; clear m)
            | ((with_reducible refine gate_store (x := .tmp 13) rfl ?_); go_must (refine M.out.ev_stw 2 _ _ _ rfl rfl rfl rfl _ rfl (by first | rfl | (simp only [S1.out]; rfl) | (simp only [S1.out, S2.out]; rfl) | (simp only [S3.out]; rfl) | (simp only [S1.out, S2.out, S3.out]; rfl)) (by first | exact sz157 | (rw [S1.out]; exact sz157) | (rw [S2.out]; exact sz157) | (rw [S3.out]; exact sz157)) (by first | exact ints_one _ _ | exact Fld.one _ | exact O1.out | exact Plot.one _ | rfl | (simp [Value.oneCell']; done)) rfl ?_); intro wn m; simp only [List.set_cons_succ, List.set_cons_zero, List.setIfInBounds_toArray] at m; have M := Lib.hid m; clear m)
            | ((with_reducible refine gate_dst (N := 16) rfl ?_); go_must (refine M.out.ev_new rfl (by first | (go_simp; done) | (go_simp; rfl)) ?_); intro g16 w16 m; simp only [List.cons_append, List.nil_append] at m; have M := Lib.hid m; clear m)
            | ((with_reducible refine gate_store (x := .tmp 16) rfl ?_); go_must (refine M.out.ev_stw 3 _ _ _ rfl rfl rfl rfl _ rfl (by first | rfl | (simp only [S1.out]; rfl) | (simp only [S1.out, S2.out]; rfl) | (simp only [S3.out]; rfl) | (simp only [S1.out, S2.out, S3.out]; rfl)) (by first | exact sz157 | (rw [S1.out]; exact sz157) | (rw [S2.out]; exact sz157) | (rw [S3.out]; exact sz157)) (by first | exact ints_one _ _ | exact Fld.one _ | exact O1.out | exact Plot.one _ | rfl | (simp [Value.oneCell']; done)) rfl ?_); intro wn m; simp only [List.set_cons_succ, List.set_cons_zero, List.setIfInBounds_toArray] at m; have M := Lib.hid m; clear m)
            | ((with_reducible refine gate_dst (N := 87) rfl ?_); go_must (refine M.out.ev_ld 3 _ _ rfl rfl rfl Try.underlying2 rfl rfl (by first | assumption | rfl) ?_))
            | ((with_reducible refine gate_store (x := .tmp 95) rfl ?_); go_must (refine M.out.ev_put 3 _ _ _ rfl rfl rfl rfl (.int _ _) rfl (by first | assumption | exact Fld.lt0 _ | exact Fld.lt1 _ | (simp; done) | (simp only [ints_size]; omega)) sz2 rfl rfl ?_); intro wn m; simp only [List.set_cons_succ, List.set_cons_zero, List.setIfInBounds_toArray] at m; have M := Lib.hid m; clear m)
            | ((with_reducible refine gate_dst (N := 96) rfl ?_); go_must (refine M.out.ev_ldw 2 _ _ rfl rfl rfl Try.underlying157 rfl (by first | exact sz157 | (rw [S1.out]; exact sz157) | (rw [S2.out]; exact sz157) | (rw [S3.out]; exact sz157)) rfl ?_))
            | ((with_reducible refine gate_dst (N := 19) rfl ?_); go_must (refine M.out.ev_new rfl (by first | (go_simp; done) | (go_simp; rfl)) ?_); intro g19 w19 m; simp only [List.cons_append, List.nil_append] at m; have M := Lib.hid m; clear m)
            | ((with_reducible refine gate_store (x := .tmp 19) rfl ?_); go_must (refine M.out.ev_stw 4 _ _ _ rfl rfl rfl rfl _ rfl (by first | rfl | (simp only [S1.out]; rfl) | (simp only [S1.out, S2.out]; rfl) | (simp only [S3.out]; rfl) | (simp only [S1.out, S2.out, S3.out]; rfl)) (by first | exact sz157 | (rw [S1.out]; exact sz157) | (rw [S2.out]; exact sz157) | (rw [S3.out]; exact sz157)) (by first | exact ints_one _ _ | exact Fld.one _ | exact O1.out | exact Plot.one _ | rfl | (simp [Value.oneCell']; done)) rfl ?_); intro wn m; simp only [List.set_cons_succ, List.set_cons_zero, List.setIfInBounds_toArray] at m; have M := Lib.hid m; clear m)
            | ((with_reducible refine gate_dst (N := 106) rfl ?_); go_must (refine M.out.ev_ld 1 _ _ rfl rfl rfl Try.underlying2 rfl rfl (by first | assumption | rfl) ?_))
            | ((with_reducible refine gate_dst (N := 127) rfl ?_); go_must (refine M.out.ev_ld 2 _ _ rfl rfl rfl Try.underlying2 rfl rfl (by first | assumption | rfl) ?_))
            | ((with_reducible refine gate_dst (N := 130) rfl ?_); go_must (refine M.out.ev_ld 3 _ _ rfl rfl rfl Try.underlying2 rfl rfl (by first | assumption | rfl) ?_))
            | ((with_reducible refine gate_dst (N := 135) rfl ?_); go_must (refine M.out.ev_ld 4 _ _ rfl rfl rfl Try.underlying2 rfl rfl (by first | assumption | rfl) ?_))
            | ((with_reducible refine gate_store (x := .tmp 138) rfl ?_); go_must (refine M.out.ev_put 2 _ _ _ rfl rfl rfl rfl (.int _ _) rfl (by first | assumption | exact Fld.lt0 _ | exact Fld.lt1 _ | (simp; done) | (simp only [ints_size]; omega)) sz2 rfl rfl ?_); intro wn m; simp only [List.set_cons_succ, List.set_cons_zero, List.setIfInBounds_toArray] at m; have M := Lib.hid m; clear m)
            | ((with_reducible refine gate_dst (N := 142) rfl ?_); go_must (refine M.out.ev_ld 2 _ _ rfl rfl rfl Try.underlying2 rfl rfl (by first | assumption | rfl) ?_))
            )
          obtain ⟨C, hC⟩ : ∃ C, C = capOf h p := ⟨_, rfl⟩
          obtain ⟨W, hW⟩ : ∃ W, W = wtOf xs k := ⟨_, rfl⟩
          rw [← hC, ← hW] at HBB HTR
          rw [← hW] at HWT HKL
          rw [← hC] at HFC HCP
          clear hC hW
          have HB0 := Lib.hid (show bwTo m W C D 0 = zs 64 from rfl)
          have HBS := Lib.hid (fun e => show bwTo m W C D (e + 1) = bwOut m W (D - (e + 1)) (C (D - (e + 1))) (bwTo m W C D e) (N - 1) by rw [HN.out]; rfl)
          have HBL := Lib.hid (bwTo_len (m := m) (wt := W) C D)
          obtain ⟨F, hF⟩ : ∃ F, F = bwTo m W C D := ⟨_, rfl⟩
          rw [← hF] at HBB HTR HB0 HBS HBL
          clear hF
          go_loopw [15] (fun v wr => ∃ e : Nat, e ≤ D ∧ v = .int .i64 ((D : Int) - 1 - e) ∧ Mem w wr [.row (.slice RA m rc) 40 4 m (flat Plot.vals (xs.drop k)), .blk g10 98 (ints .i64 FR), .blk g13 157 (ints .i64 (F e))])
            (fun v _ => (intOf v + 1).toNat)
          case atStart => exact ⟨0, by omega, by first | rfl | go_num, by rw [HB0.out]; exact M.out⟩
          case round =>
            clear M
            obtain ⟨e, he, rfl, m⟩ := hrel
            have M := Lib.hid m
            clear m
            by_cases het : e < D
            · obtain ⟨day, hday⟩ : ∃ day : Nat, day = D - (e + 1) := ⟨_, rfl⟩
              have hdd : (D : Int) - 1 - (e : Int) = (day : Int) := by omega
              have hdd2 : (D : Int) - 1 - ((e : Int) + 1) = (day : Int) - 1 := by omega
              rw [hdd]
              have d0 : (0 : Int) ≤ (day : Int) := by omega
              have d1 : (day : Int) < 20 := by omega
              have HBSe := Lib.hid (show F (e + 1) = bwOut m W day (C day) (F e) (N - 1) by rw [hday]; exact HBS.out e)
              have HFCd := Lib.hid (HFC.out day (by omega))
              have hcb := HCP.out day
              have HBBe := Lib.hid (HBB.out e (by omega))
              have HBLe := Lib.hid (HBL.out e)
              have HDT := Lib.hid (show day < D ∧ D = day + 1 + e by omega)
              have d2 : (day : Int) ≤ 1000 := by omega
              obtain ⟨B0, hB0⟩ : ∃ B0, B0 = F e := ⟨_, rfl⟩
              rw [← hB0] at HBSe HBBe HBLe M
              have HB0e := Lib.hid hB0
              have S1 := Lib.hid (show (ints .i64 B0).size = 64 by rw [ints_size, HBLe.out])
              clear hdd hdd2 hday hB0
              go_wp2_with (first
                | ((with_reducible refine gate_dst (N := 10) rfl ?_); go_must (refine M.out.ev_new rfl (by first | (go_simp; done) | (go_simp; rfl)) ?_); intro g10 w10 m; simp only [List.cons_append, List.nil_append] at m; have M := Lib.hid m; clear m)
                | ((with_reducible refine gate_store (x := .tmp 10) rfl ?_); go_must (refine M.out.ev_stw 1 _ _ _ rfl rfl rfl rfl _ rfl (by first | rfl | (simp only [S1.out]; rfl) | (simp only [S1.out, S2.out]; rfl) | (simp only [S3.out]; rfl) | (simp only [S1.out, S2.out, S3.out]; rfl)) (by first | exact sz98 | (rw [S1.out]; exact sz98) | (rw [S2.out]; exact sz98) | (rw [S3.out]; exact sz98)) (by first | exact ints_one _ _ | exact Fld.one _ | exact O1.out | exact Plot.one _ | rfl | (simp [Value.oneCell']; done)) rfl ?_); intro wn m; simp only [List.set_cons_succ, List.set_cons_zero, List.setIfInBounds_toArray] at m; have M := Lib.hid m; clear m)
                | ((with_reducible refine gate_store (x := .tmp 36) rfl ?_); go_must (refine M.out.ev_put 1 _ _ _ rfl rfl rfl rfl (.int _ _) rfl (by first | assumption | exact Fld.lt0 _ | exact Fld.lt1 _ | (simp; done) | (simp only [ints_size]; omega)) sz2 rfl rfl ?_); intro wn m; simp only [List.set_cons_succ, List.set_cons_zero, List.setIfInBounds_toArray] at m; have M := Lib.hid m; clear m)
                | ((with_reducible refine gate_dst (N := 53) rfl ?_); go_must (refine M.out.ev_ld 1 _ _ rfl rfl rfl Try.underlying2 rfl rfl (by first | assumption | rfl) ?_))
                | ((with_reducible refine gate_store (x := .tmp 55) rfl ?_); go_must (refine M.out.ev_put 1 _ _ _ rfl rfl rfl rfl (.int _ _) rfl (by first | assumption | exact Fld.lt0 _ | exact Fld.lt1 _ | (simp; done) | (simp only [ints_size]; omega)) sz2 rfl rfl ?_); intro wn m; simp only [List.set_cons_succ, List.set_cons_zero, List.setIfInBounds_toArray] at m; have M := Lib.hid m; clear m)
                | ((with_reducible refine gate_dst (N := 13) rfl ?_); go_must (refine M.out.ev_new rfl (by first | (go_simp; done) | (go_simp; rfl)) ?_); intro g13 w13 m; simp only [List.cons_append, List.nil_append] at m; have M := Lib.hid m; clear m)
                | ((with_reducible refine gate_store (x := .tmp 13) rfl ?_); go_must (refine M.out.ev_stw 2 _ _ _ rfl rfl rfl rfl _ rfl (by first | rfl | (simp only [S1.out]; rfl) | (simp only [S1.out, S2.out]; rfl) | (simp only [S3.out]; rfl) | (simp only [S1.out, S2.out, S3.out]; rfl)) (by first | exact sz157 | (rw [S1.out]; exact sz157) | (rw [S2.out]; exact sz157) | (rw [S3.out]; exact sz157)) (by first | exact ints_one _ _ | exact Fld.one _ | exact O1.out | exact Plot.one _ | rfl | (simp [Value.oneCell']; done)) rfl ?_); intro wn m; simp only [List.set_cons_succ, List.set_cons_zero, List.setIfInBounds_toArray] at m; have M := Lib.hid m; clear m)
                | ((with_reducible refine gate_dst (N := 16) rfl ?_); go_must (refine M.out.ev_new rfl (by first | (go_simp; done) | (go_simp; rfl)) ?_); intro g16 w16 m; simp only [List.cons_append, List.nil_append] at m; have M := Lib.hid m; clear m)
                | ((with_reducible refine gate_store (x := .tmp 16) rfl ?_); go_must (refine M.out.ev_stw 3 _ _ _ rfl rfl rfl rfl _ rfl (by first | rfl | (simp only [S1.out]; rfl) | (simp only [S1.out, S2.out]; rfl) | (simp only [S3.out]; rfl) | (simp only [S1.out, S2.out, S3.out]; rfl)) (by first | exact sz157 | (rw [S1.out]; exact sz157) | (rw [S2.out]; exact sz157) | (rw [S3.out]; exact sz157)) (by first | exact ints_one _ _ | exact Fld.one _ | exact O1.out | exact Plot.one _ | rfl | (simp [Value.oneCell']; done)) rfl ?_); intro wn m; simp only [List.set_cons_succ, List.set_cons_zero, List.setIfInBounds_toArray] at m; have M := Lib.hid m; clear m)
                | ((with_reducible refine gate_dst (N := 87) rfl ?_); go_must (refine M.out.ev_ld 3 _ _ rfl rfl rfl Try.underlying2 rfl rfl (by first | assumption | rfl) ?_))
                | ((with_reducible refine gate_store (x := .tmp 95) rfl ?_); go_must (refine M.out.ev_put 3 _ _ _ rfl rfl rfl rfl (.int _ _) rfl (by first | assumption | exact Fld.lt0 _ | exact Fld.lt1 _ | (simp; done) | (simp only [ints_size]; omega)) sz2 rfl rfl ?_); intro wn m; simp only [List.set_cons_succ, List.set_cons_zero, List.setIfInBounds_toArray] at m; have M := Lib.hid m; clear m)
                | ((with_reducible refine gate_dst (N := 96) rfl ?_); go_must (refine M.out.ev_ldw 2 _ _ rfl rfl rfl Try.underlying157 rfl (by first | exact sz157 | (rw [S1.out]; exact sz157) | (rw [S2.out]; exact sz157) | (rw [S3.out]; exact sz157)) rfl ?_))
                | ((with_reducible refine gate_dst (N := 19) rfl ?_); go_must (refine M.out.ev_new rfl (by first | (go_simp; done) | (go_simp; rfl)) ?_); intro g19 w19 m; simp only [List.cons_append, List.nil_append] at m; have M := Lib.hid m; clear m)
                | ((with_reducible refine gate_store (x := .tmp 19) rfl ?_); go_must (refine M.out.ev_stw 4 _ _ _ rfl rfl rfl rfl _ rfl (by first | rfl | (simp only [S1.out]; rfl) | (simp only [S1.out, S2.out]; rfl) | (simp only [S3.out]; rfl) | (simp only [S1.out, S2.out, S3.out]; rfl)) (by first | exact sz157 | (rw [S1.out]; exact sz157) | (rw [S2.out]; exact sz157) | (rw [S3.out]; exact sz157)) (by first | exact ints_one _ _ | exact Fld.one _ | exact O1.out | exact Plot.one _ | rfl | (simp [Value.oneCell']; done)) rfl ?_); intro wn m; simp only [List.set_cons_succ, List.set_cons_zero, List.setIfInBounds_toArray] at m; have M := Lib.hid m; clear m)
                | ((with_reducible refine gate_dst (N := 106) rfl ?_); go_must (refine M.out.ev_ld 1 _ _ rfl rfl rfl Try.underlying2 rfl rfl (by first | assumption | rfl) ?_))
                | ((with_reducible refine gate_dst (N := 127) rfl ?_); go_must (refine M.out.ev_ld 2 _ _ rfl rfl rfl Try.underlying2 rfl rfl (by first | assumption | rfl) ?_))
                | ((with_reducible refine gate_dst (N := 130) rfl ?_); go_must (refine M.out.ev_ld 3 _ _ rfl rfl rfl Try.underlying2 rfl rfl (by first | assumption | rfl) ?_))
                | ((with_reducible refine gate_dst (N := 135) rfl ?_); go_must (refine M.out.ev_ld 4 _ _ rfl rfl rfl Try.underlying2 rfl rfl (by first | assumption | rfl) ?_))
                | ((with_reducible refine gate_store (x := .tmp 138) rfl ?_); go_must (refine M.out.ev_put 2 _ _ _ rfl rfl rfl rfl (.int _ _) rfl (by first | assumption | exact Fld.lt0 _ | exact Fld.lt1 _ | (simp; done) | (simp only [ints_size]; omega)) sz2 rfl rfl ?_); intro wn m; simp only [List.set_cons_succ, List.set_cons_zero, List.setIfInBounds_toArray] at m; have M := Lib.hid m; clear m)
                | ((with_reducible refine gate_dst (N := 142) rfl ?_); go_must (refine M.out.ev_ld 2 _ _ rfl rfl rfl Try.underlying2 rfl rfl (by first | assumption | rfl) ?_))
                )
              have HW0 := Lib.hid (show zs 64 = wArr m W day 1 0 from (wArr_start m W day).symm)
              go_loopw [17] (fun v wr => ∃ T : Nat, 1 ≤ T ∧ T ≤ N ∧ v = .int .i64 T ∧ Mem w wr [.row (.slice RA m rc) 40 4 m (flat Plot.vals (xs.drop k)), .blk g10 98 (ints .i64 FR), .blk g13 157 (ints .i64 B0), .blk g16 157 (ints .i64 (wArr m W day T 0))])
                (fun v _ => N - (intOf v).toNat)
              case atStart => exact ⟨1, by omega, by omega, rfl, by rw [← HW0.out]; exact M.out⟩
              case round =>
                clear M
                obtain ⟨T, hT1, hT, rfl, m⟩ := hrel
                have M := Lib.hid m
                clear m
                by_cases hTt : T < N
                · have t0 : (0 : Int) ≤ (T : Int) := by omega
                  have t1 : (T : Int) < (N : Int) := by omega
                  have t2 : (T : Int) < 64 := by omega
                  go_wp2
                  go_loopw [18] (fun v wr => ∃ i : Nat, i ≤ m ∧ v = .int .i64 i ∧ Mem w wr [.row (.slice RA m rc) 40 4 m (flat Plot.vals (xs.drop k)), .blk g10 98 (ints .i64 FR), .blk g13 157 (ints .i64 B0), .blk g16 157 (ints .i64 (wArr m W day T i))])
                    (fun v _ => m - (intOf v).toNat)
                  case atStart => exact ⟨0, by omega, rfl, M.out⟩
                  case round =>
                    clear M
                    obtain ⟨i, hi, rfl, mm⟩ := hrel
                    have M := Lib.hid mm
                    clear mm
                    by_cases hit : i < m
                    · have i0 : (0 : Int) ≤ (i : Int) := by omega
                      have i2' : (i : Int) < (m : Int) := by omega
                      have u1 : IntKind.u64.wrap (i : Int) = i := IntWalk.u64_in _ (by omega)
                      have b3 := bit6 (a := T) (i := i) (by omega) (by omega)
                      cases hq : T.testBit i
                      · have HWA := Lib.hid (wArr_off m W day (T := T) (i := i) hq)
                        rw [hq, if_neg (by decide)] at b3
                        clear hq
                        go_wp2
                        refine ⟨⟨i + 1, by omega, by go_num, ?_⟩, by simp [intOf]; try omega⟩
                        rw [HWA.out]
                        exact M.out
                      · obtain ⟨_, _, he, _⟩ := HFR.out.2 (by omega)
                        cases he
                    · obtain rfl : m = i := by omega
                      have i2' : ¬ ((m : Int) < (m : Int)) := by omega
                      have HWN := Lib.hid (wArr_next m W day T)
                      go_wp2
                      refine ⟨⟨T + 1, by omega, by omega, by go_num, ?_⟩, by simp [intOf]; try omega⟩
                      rw [← HWN.out]
                      exact M.out
                · obtain rfl : N = T := by omega
                  have t1 : ¬ ((N : Int) < (N : Int)) := by omega
                  have HWG := Lib.hid (fun s (hs' : s < N) => wArr_gi m W day (T := N) (i := 0) hs' (by omega))
                  have HWL := Lib.hid (wArr_len m W day N 0)
                  obtain ⟨WS, hWS⟩ : ∃ WS, WS = wArr m W day N 0 := ⟨_, rfl⟩
                  rw [← hWS] at HWG HWL M
                  clear hWS
                  go_wp2_with (first
                    | ((with_reducible refine gate_dst (N := 10) rfl ?_); go_must (refine M.out.ev_new rfl (by first | (go_simp; done) | (go_simp; rfl)) ?_); intro g10 w10 m; simp only [List.cons_append, List.nil_append] at m; have M := Lib.hid m; clear m)
                    | ((with_reducible refine gate_store (x := .tmp 10) rfl ?_); go_must (refine M.out.ev_stw 1 _ _ _ rfl rfl rfl rfl _ rfl (by first | rfl | (simp only [S1.out]; rfl) | (simp only [S1.out, S2.out]; rfl) | (simp only [S3.out]; rfl) | (simp only [S1.out, S2.out, S3.out]; rfl)) (by first | exact sz98 | (rw [S1.out]; exact sz98) | (rw [S2.out]; exact sz98) | (rw [S3.out]; exact sz98)) (by first | exact ints_one _ _ | exact Fld.one _ | exact O1.out | exact Plot.one _ | rfl | (simp [Value.oneCell']; done)) rfl ?_); intro wn m; simp only [List.set_cons_succ, List.set_cons_zero, List.setIfInBounds_toArray] at m; have M := Lib.hid m; clear m)
                    | ((with_reducible refine gate_store (x := .tmp 36) rfl ?_); go_must (refine M.out.ev_put 1 _ _ _ rfl rfl rfl rfl (.int _ _) rfl (by first | assumption | exact Fld.lt0 _ | exact Fld.lt1 _ | (simp; done) | (simp only [ints_size]; omega)) sz2 rfl rfl ?_); intro wn m; simp only [List.set_cons_succ, List.set_cons_zero, List.setIfInBounds_toArray] at m; have M := Lib.hid m; clear m)
                    | ((with_reducible refine gate_dst (N := 53) rfl ?_); go_must (refine M.out.ev_ld 1 _ _ rfl rfl rfl Try.underlying2 rfl rfl (by first | assumption | rfl) ?_))
                    | ((with_reducible refine gate_store (x := .tmp 55) rfl ?_); go_must (refine M.out.ev_put 1 _ _ _ rfl rfl rfl rfl (.int _ _) rfl (by first | assumption | exact Fld.lt0 _ | exact Fld.lt1 _ | (simp; done) | (simp only [ints_size]; omega)) sz2 rfl rfl ?_); intro wn m; simp only [List.set_cons_succ, List.set_cons_zero, List.setIfInBounds_toArray] at m; have M := Lib.hid m; clear m)
                    | ((with_reducible refine gate_dst (N := 13) rfl ?_); go_must (refine M.out.ev_new rfl (by first | (go_simp; done) | (go_simp; rfl)) ?_); intro g13 w13 m; simp only [List.cons_append, List.nil_append] at m; have M := Lib.hid m; clear m)
                    | ((with_reducible refine gate_store (x := .tmp 13) rfl ?_); go_must (refine M.out.ev_stw 2 _ _ _ rfl rfl rfl rfl _ rfl (by first | rfl | (simp only [S1.out]; rfl) | (simp only [S1.out, S2.out]; rfl) | (simp only [S3.out]; rfl) | (simp only [S1.out, S2.out, S3.out]; rfl)) (by first | exact sz157 | (rw [S1.out]; exact sz157) | (rw [S2.out]; exact sz157) | (rw [S3.out]; exact sz157)) (by first | exact ints_one _ _ | exact Fld.one _ | exact O1.out | exact Plot.one _ | rfl | (simp [Value.oneCell']; done)) rfl ?_); intro wn m; simp only [List.set_cons_succ, List.set_cons_zero, List.setIfInBounds_toArray] at m; have M := Lib.hid m; clear m)
                    | ((with_reducible refine gate_dst (N := 16) rfl ?_); go_must (refine M.out.ev_new rfl (by first | (go_simp; done) | (go_simp; rfl)) ?_); intro g16 w16 m; simp only [List.cons_append, List.nil_append] at m; have M := Lib.hid m; clear m)
                    | ((with_reducible refine gate_store (x := .tmp 16) rfl ?_); go_must (refine M.out.ev_stw 3 _ _ _ rfl rfl rfl rfl _ rfl (by first | rfl | (simp only [S1.out]; rfl) | (simp only [S1.out, S2.out]; rfl) | (simp only [S3.out]; rfl) | (simp only [S1.out, S2.out, S3.out]; rfl)) (by first | exact sz157 | (rw [S1.out]; exact sz157) | (rw [S2.out]; exact sz157) | (rw [S3.out]; exact sz157)) (by first | exact ints_one _ _ | exact Fld.one _ | exact O1.out | exact Plot.one _ | rfl | (simp [Value.oneCell']; done)) rfl ?_); intro wn m; simp only [List.set_cons_succ, List.set_cons_zero, List.setIfInBounds_toArray] at m; have M := Lib.hid m; clear m)
                    | ((with_reducible refine gate_dst (N := 87) rfl ?_); go_must (refine M.out.ev_ld 3 _ _ rfl rfl rfl Try.underlying2 rfl rfl (by first | assumption | rfl) ?_))
                    | ((with_reducible refine gate_store (x := .tmp 95) rfl ?_); go_must (refine M.out.ev_put 3 _ _ _ rfl rfl rfl rfl (.int _ _) rfl (by first | assumption | exact Fld.lt0 _ | exact Fld.lt1 _ | (simp; done) | (simp only [ints_size]; omega)) sz2 rfl rfl ?_); intro wn m; simp only [List.set_cons_succ, List.set_cons_zero, List.setIfInBounds_toArray] at m; have M := Lib.hid m; clear m)
                    | ((with_reducible refine gate_dst (N := 96) rfl ?_); go_must (refine M.out.ev_ldw 2 _ _ rfl rfl rfl Try.underlying157 rfl (by first | exact sz157 | (rw [S1.out]; exact sz157) | (rw [S2.out]; exact sz157) | (rw [S3.out]; exact sz157)) rfl ?_))
                    | ((with_reducible refine gate_dst (N := 19) rfl ?_); go_must (refine M.out.ev_new rfl (by first | (go_simp; done) | (go_simp; rfl)) ?_); intro g19 w19 m; simp only [List.cons_append, List.nil_append] at m; have M := Lib.hid m; clear m)
                    | ((with_reducible refine gate_store (x := .tmp 19) rfl ?_); go_must (refine M.out.ev_stw 4 _ _ _ rfl rfl rfl rfl _ rfl (by first | rfl | (simp only [S1.out]; rfl) | (simp only [S1.out, S2.out]; rfl) | (simp only [S3.out]; rfl) | (simp only [S1.out, S2.out, S3.out]; rfl)) (by first | exact sz157 | (rw [S1.out]; exact sz157) | (rw [S2.out]; exact sz157) | (rw [S3.out]; exact sz157)) (by first | exact ints_one _ _ | exact Fld.one _ | exact O1.out | exact Plot.one _ | rfl | (simp [Value.oneCell']; done)) rfl ?_); intro wn m; simp only [List.set_cons_succ, List.set_cons_zero, List.setIfInBounds_toArray] at m; have M := Lib.hid m; clear m)
                    | ((with_reducible refine gate_dst (N := 106) rfl ?_); go_must (refine M.out.ev_ld 1 _ _ rfl rfl rfl Try.underlying2 rfl rfl (by first | assumption | rfl) ?_))
                    | ((with_reducible refine gate_dst (N := 127) rfl ?_); go_must (refine M.out.ev_ld 2 _ _ rfl rfl rfl Try.underlying2 rfl rfl (by first | assumption | rfl) ?_))
                    | ((with_reducible refine gate_dst (N := 130) rfl ?_); go_must (refine M.out.ev_ld 3 _ _ rfl rfl rfl Try.underlying2 rfl rfl (by first | assumption | rfl) ?_))
                    | ((with_reducible refine gate_dst (N := 135) rfl ?_); go_must (refine M.out.ev_ld 4 _ _ rfl rfl rfl Try.underlying2 rfl rfl (by first | assumption | rfl) ?_))
                    | ((with_reducible refine gate_store (x := .tmp 138) rfl ?_); go_must (refine M.out.ev_put 2 _ _ _ rfl rfl rfl rfl (.int _ _) rfl (by first | assumption | exact Fld.lt0 _ | exact Fld.lt1 _ | (simp; done) | (simp only [ints_size]; omega)) sz2 rfl rfl ?_); intro wn m; simp only [List.set_cons_succ, List.set_cons_zero, List.setIfInBounds_toArray] at m; have M := Lib.hid m; clear m)
                    | ((with_reducible refine gate_dst (N := 142) rfl ?_); go_must (refine M.out.ev_ld 2 _ _ rfl rfl rfl Try.underlying2 rfl rfl (by first | assumption | rfl) ?_))
                    )
                  go_loopw [20] (fun v wr => ∃ n' : Nat, n' + 1 ≤ N ∧ v = .int .i64 ((n' : Int) + 1) ∧ Mem w wr [.row (.slice RA m rc) 40 4 m (flat Plot.vals (xs.drop k)), .blk g10 98 (ints .i64 FR), .blk g13 157 (ints .i64 (bwOut m W day (C day) B0 n')), .blk g16 157 (ints .i64 WS), .blk g19 157 (ints .i64 B0)])
                    (fun v _ => N - (intOf v).toNat)
                  case atStart => exact ⟨0, by omega, rfl, M.out⟩
                  case round =>
                    clear M
                    obtain ⟨n', hn', rfl, mm⟩ := hrel
                    have M := Lib.hid mm
                    clear mm
                    by_cases hnt : n' + 1 < N
                    · have HOU := Lib.hid (show bwOut m W day (C day) B0 (n' + 1) = if C day < (popM m (n' + 1) : Int) ∨ wsOf m W day (n' + 1) = 0 then bwOut m W day (C day) B0 n' else bwIn (wsOf m W day (n' + 1)) B0 (n' + 1) (bwOut m W day (C day) B0 n') (N - (n' + 1)) by rw [HN.out]; rfl)
                      have HOL := Lib.hid (show (bwOut m W day (C day) B0 n').length = 64 by rw [bwOut_len, HBLe.out])
                      obtain ⟨t, ht'⟩ : ∃ t : Nat, t = n' + 1 := ⟨_, rfl⟩
                      have hti : (n' : Int) + 1 = (t : Int) := by omega
                      rw [hti]
                      have hti2 : ((n' : Int) + 1 : Int) + 1 = (t : Int) + 1 := by omega
                      rw [← ht'] at HOU
                      have HTN := Lib.hid (show n' + 1 = t ∧ t < N ∧ 0 < t by omega)
                      have t0 : (0 : Int) ≤ (t : Int) := by omega
                      have t1 : (t : Int) < (N : Int) := by omega
                      have t2 : (t : Int) < 64 := by omega
                      have HWSt := Lib.hid (HWG.out t (by omega))
                      have HBT := Lib.hid (fun w => l07Bits_any (m := m) t (by omega) (by rw [← HN.out]; omega) w)
                      have hpl : popM m t ≤ m := cntN_le _ _
                      have hws := wsOf_b HWT.out (m := m) day t
                      obtain ⟨O, hO⟩ : ∃ O, O = bwOut m W day (C day) B0 n' := ⟨_, rfl⟩
                      obtain ⟨pp, hpp⟩ : ∃ pp, pp = popM m t := ⟨_, rfl⟩
                      obtain ⟨ws, hws'⟩ : ∃ ws, ws = wsOf m W day t := ⟨_, rfl⟩
                      rw [← hO] at HOL HOU M
                      rw [← hpp] at HBT hpl HOU
                      rw [← hws'] at hws HOU HWSt
                      clear hti hti2 ht' hO hpp hws'
                      by_cases hpc : C day < (pp : Int)
                      · have HC2 := Lib.hid hpc
                        clear hpc
                        have hpc2 : C day < (pp : Int) := HC2.out
                        go_wp2
                        refine region_anyH (fun w' => Mem w w' [.blk g10 98 (ints .i64 FR), .blk g16 157 (ints .i64 WS)]) (by kernel_rfl) ?_
                        have m := M.out.drew
                        clear M
                        have M := Lib.hid m
                        clear m
                        apply takeH (i := 0) 102 rfl (by kernel_rfl) (by kernel_rfl) (by kernel_rfl) (fun _ _ _ h => h) rfl (M.out.only [1, 3] (K := [_, _]) rfl (by decide))
                        case' hy =>
                          refine Or.inl ⟨by first | rfl | (go_simp; done), ?_⟩
                          intro w hS
                          clear hS
                          go_simp
                          try with_reducible rfl
                        try simp only [Act.put, List.getElem_toArray, List.getElem_cons_succ, List.getElem_cons_zero, List.setIfInBounds_toArray, List.set_cons_succ, List.set_cons_zero]
                        apply takeH (i := 2) 104 rfl (by kernel_rfl) (by kernel_rfl) (by kernel_rfl) (fun _ _ _ h => h) rfl (M.out.only [1, 3] (K := [_, _]) rfl (by decide))
                        case' hy =>
                          refine Or.inl ⟨by first | rfl | (go_simp; done), ?_⟩
                          intro w hS
                          clear hS
                          go_simp
                          try with_reducible rfl
                        try simp only [Act.put, List.getElem_toArray, List.getElem_cons_succ, List.getElem_cons_zero, List.setIfInBounds_toArray, List.set_cons_succ, List.set_cons_zero]
                        apply takeH (i := 3) 105 rfl (by kernel_rfl) (by kernel_rfl) (by kernel_rfl) (fun _ _ _ h => h) rfl (M.out.only [1, 3] (K := [_, _]) rfl (by decide))
                        case' hy =>
                          refine Or.inl ⟨by first | rfl | (go_simp; done), ?_⟩
                          intro w hS
                          clear hS
                          go_simp
                          try with_reducible rfl
                        try simp only [Act.put, List.getElem_toArray, List.getElem_cons_succ, List.getElem_cons_zero, List.setIfInBounds_toArray, List.set_cons_succ, List.set_cons_zero]
                        apply takeH (i := 4) 106 rfl (by kernel_rfl) (by kernel_rfl) (by kernel_rfl) (fun _ _ _ h => h) rfl (M.out.only [1, 3] (K := [_, _]) rfl (by decide))
                        case' hy => exact ylds _ _ rfl rfl Try.underlying2 rfl rfl (fun w' hS => hS.cell 0 rfl (by rw [ints_at (by rw [HFLN.out]; omega), HFCd.out]))
                        try simp only [Act.put, List.getElem_toArray, List.getElem_cons_succ, List.getElem_cons_zero, List.setIfInBounds_toArray, List.set_cons_succ, List.set_cons_zero]
                        refine any1H 1 (by kernel_rfl) rfl (fun K hK => ?_)
                        go_wp2_with (first | ((with_reducible refine gate_dst (N := 106) rfl ?_); go_must (refine M.out.ev_ld 1 _ _ rfl rfl rfl Try.underlying2 rfl rfl (by first | assumption | rfl) ?_)) | (go_at_call 118; go_must (refine (HBT.out _).mono ?_); rintro e w_ ⟨rfl, rfl⟩))
                        refine onward_normal (hK _ _ ⟨(M.out.only [1, 3] (K := [_, _]) rfl (by decide)), ?_⟩)
                        clear hK K
                        try simp only [Act.put, List.getElem_toArray, List.getElem_cons_succ, List.getElem_cons_zero, List.setIfInBounds_toArray, List.set_cons_succ, List.set_cons_zero]
                        apply takeH (i := 5) 107 rfl (by kernel_rfl) (by kernel_rfl) (by kernel_rfl) (fun _ _ _ h => h) rfl (M.out.only [1, 3] (K := [_, _]) rfl (by decide))
                        case' hy =>
                          refine Or.inl ⟨by first | rfl | (go_simp; done), ?_⟩
                          intro w hS
                          clear hS
                          go_simp
                          try with_reducible rfl
                        try simp only [Act.put, List.getElem_toArray, List.getElem_cons_succ, List.getElem_cons_zero, List.setIfInBounds_toArray, List.set_cons_succ, List.set_cons_zero]
                        apply takeH (i := 6) 108 rfl (by kernel_rfl) (by kernel_rfl) (by kernel_rfl) (fun _ _ _ h => h) rfl (M.out.only [1, 3] (K := [_, _]) rfl (by decide))
                        case' hy =>
                          refine Or.inl ⟨by first | rfl | (go_simp; done), ?_⟩
                          intro w hS
                          clear hS
                          go_simp
                          try with_reducible rfl
                        try simp only [Act.put, List.getElem_toArray, List.getElem_cons_succ, List.getElem_cons_zero, List.setIfInBounds_toArray, List.set_cons_succ, List.set_cons_zero]
                        refine wpAnyH_take (i := 7) (v := undef) rfl (by kernel_rfl) (by kernel_rfl) (by kernel_rfl) (fun _ _ _ h => h) (Or.inr ⟨by kernel_rfl, rfl⟩) (M.out.only [1, 3] (K := [_, _]) rfl (by decide)) ?_
                        try simp only [Act.put, List.getElem_toArray, List.getElem_cons_succ, List.getElem_cons_zero, List.setIfInBounds_toArray, List.set_cons_succ, List.set_cons_zero]
                        refine wpAnyH_take (i := 8) (v := undef) rfl (by kernel_rfl) (by kernel_rfl) (by kernel_rfl) (fun _ _ _ h => h) (Or.inr ⟨by kernel_rfl, rfl⟩) (M.out.only [1, 3] (K := [_, _]) rfl (by decide)) ?_
                        try simp only [Act.put, List.getElem_toArray, List.getElem_cons_succ, List.getElem_cons_zero, List.setIfInBounds_toArray, List.set_cons_succ, List.set_cons_zero]
                        refine wpAnyH_take (i := 9) (v := undef) rfl (by kernel_rfl) (by kernel_rfl) (by kernel_rfl) (fun _ _ _ h => h) (Or.inr ⟨by kernel_rfl, rfl⟩) (M.out.only [1, 3] (K := [_, _]) rfl (by decide)) ?_
                        try simp only [Act.put, List.getElem_toArray, List.getElem_cons_succ, List.getElem_cons_zero, List.setIfInBounds_toArray, List.set_cons_succ, List.set_cons_zero]
                        refine wpAnyH_take (i := 10) (v := undef) rfl (by kernel_rfl) (by kernel_rfl) (by kernel_rfl) (fun _ _ _ h => h) (Or.inr ⟨by kernel_rfl, rfl⟩) (M.out.only [1, 3] (K := [_, _]) rfl (by decide)) ?_
                        try simp only [Act.put, List.getElem_toArray, List.getElem_cons_succ, List.getElem_cons_zero, List.setIfInBounds_toArray, List.set_cons_succ, List.set_cons_zero]
                        apply takeH (i := 11) 113 rfl (by kernel_rfl) (by kernel_rfl) (by kernel_rfl) (fun _ _ _ h => h) rfl (M.out.only [1, 3] (K := [_, _]) rfl (by decide))
                        case' hy =>
                          refine Or.inl ⟨by first | rfl | (go_simp; done), ?_⟩
                          intro w hS
                          clear hS
                          go_simp
                          try with_reducible rfl
                        try simp only [Act.put, List.getElem_toArray, List.getElem_cons_succ, List.getElem_cons_zero, List.setIfInBounds_toArray, List.set_cons_succ, List.set_cons_zero]
                        refine wpAnyH_done (by kernel_rfl) ?_ _
                        all_goals
                          go_wp2
                          refine ⟨⟨t, by have := HTN.out; omega, by go_num, ?_⟩, by simp [intOf]; have := HTN.out; try omega⟩
                          rw [← HTN.out.1]
                          rw [← HTN.out.1] at HOU
                          rw [HOU.out, if_pos (.inl HC2.out)]
                          exact M.out
                      · have hpc2 : ¬ (C day < (pp : Int)) := hpc
                        have HC2 := Lib.hid hpc
                        clear hpc
                        by_cases hw0 : ws = 0
                        · have hw2 : (ws == 0) = true := by rw [beq_iff_eq]; exact hw0
                          have HW0' := Lib.hid hw0
                          clear hw0
                          go_wp2
                          refine region_anyH (fun w' => Mem w w' [.blk g10 98 (ints .i64 FR), .blk g16 157 (ints .i64 WS)]) (by kernel_rfl) ?_
                          have m := M.out.drew
                          clear M
                          have M := Lib.hid m
                          clear m
                          apply takeH (i := 0) 102 rfl (by kernel_rfl) (by kernel_rfl) (by kernel_rfl) (fun _ _ _ h => h) rfl (M.out.only [1, 3] (K := [_, _]) rfl (by decide))
                          case' hy =>
                            refine Or.inl ⟨by first | rfl | (go_simp; done), ?_⟩
                            intro w hS
                            clear hS
                            go_simp
                            try with_reducible rfl
                          try simp only [Act.put, List.getElem_toArray, List.getElem_cons_succ, List.getElem_cons_zero, List.setIfInBounds_toArray, List.set_cons_succ, List.set_cons_zero]
                          apply takeH (i := 2) 104 rfl (by kernel_rfl) (by kernel_rfl) (by kernel_rfl) (fun _ _ _ h => h) rfl (M.out.only [1, 3] (K := [_, _]) rfl (by decide))
                          case' hy =>
                            refine Or.inl ⟨by first | rfl | (go_simp; done), ?_⟩
                            intro w hS
                            clear hS
                            go_simp
                            try with_reducible rfl
                          try simp only [Act.put, List.getElem_toArray, List.getElem_cons_succ, List.getElem_cons_zero, List.setIfInBounds_toArray, List.set_cons_succ, List.set_cons_zero]
                          apply takeH (i := 3) 105 rfl (by kernel_rfl) (by kernel_rfl) (by kernel_rfl) (fun _ _ _ h => h) rfl (M.out.only [1, 3] (K := [_, _]) rfl (by decide))
                          case' hy =>
                            refine Or.inl ⟨by first | rfl | (go_simp; done), ?_⟩
                            intro w hS
                            clear hS
                            go_simp
                            try with_reducible rfl
                          try simp only [Act.put, List.getElem_toArray, List.getElem_cons_succ, List.getElem_cons_zero, List.setIfInBounds_toArray, List.set_cons_succ, List.set_cons_zero]
                          apply takeH (i := 4) 106 rfl (by kernel_rfl) (by kernel_rfl) (by kernel_rfl) (fun _ _ _ h => h) rfl (M.out.only [1, 3] (K := [_, _]) rfl (by decide))
                          case' hy => exact ylds _ _ rfl rfl Try.underlying2 rfl rfl (fun w' hS => hS.cell 0 rfl (by rw [ints_at (by rw [HFLN.out]; omega), HFCd.out]))
                          try simp only [Act.put, List.getElem_toArray, List.getElem_cons_succ, List.getElem_cons_zero, List.setIfInBounds_toArray, List.set_cons_succ, List.set_cons_zero]
                          refine any1H 1 (by kernel_rfl) rfl (fun K hK => ?_)
                          go_wp2_with (first | ((with_reducible refine gate_dst (N := 106) rfl ?_); go_must (refine M.out.ev_ld 1 _ _ rfl rfl rfl Try.underlying2 rfl rfl (by first | assumption | rfl) ?_)) | (go_at_call 118; go_must (refine (HBT.out _).mono ?_); rintro e w_ ⟨rfl, rfl⟩))
                          refine onward_normal (hK _ _ ⟨(M.out.only [1, 3] (K := [_, _]) rfl (by decide)), ?_⟩)
                          clear hK K
                          try simp only [Act.put, List.getElem_toArray, List.getElem_cons_succ, List.getElem_cons_zero, List.setIfInBounds_toArray, List.set_cons_succ, List.set_cons_zero]
                          apply takeH (i := 5) 107 rfl (by kernel_rfl) (by kernel_rfl) (by kernel_rfl) (fun _ _ _ h => h) rfl (M.out.only [1, 3] (K := [_, _]) rfl (by decide))
                          case' hy =>
                            refine Or.inl ⟨by first | rfl | (go_simp; done), ?_⟩
                            intro w hS
                            clear hS
                            go_simp
                            try with_reducible rfl
                          try simp only [Act.put, List.getElem_toArray, List.getElem_cons_succ, List.getElem_cons_zero, List.setIfInBounds_toArray, List.set_cons_succ, List.set_cons_zero]
                          apply takeH (i := 6) 108 rfl (by kernel_rfl) (by kernel_rfl) (by kernel_rfl) (fun _ _ _ h => h) rfl (M.out.only [1, 3] (K := [_, _]) rfl (by decide))
                          case' hy =>
                            refine Or.inl ⟨by first | rfl | (go_simp; done), ?_⟩
                            intro w hS
                            clear hS
                            go_simp
                            try with_reducible rfl
                          try simp only [Act.put, List.getElem_toArray, List.getElem_cons_succ, List.getElem_cons_zero, List.setIfInBounds_toArray, List.set_cons_succ, List.set_cons_zero]
                          apply takeH (i := 7) 109 rfl (by kernel_rfl) (by kernel_rfl) (by kernel_rfl) (fun _ _ _ h => h) rfl (M.out.only [1, 3] (K := [_, _]) rfl (by decide))
                          case' hy =>
                            refine Or.inl ⟨by first | rfl | (go_simp; done), ?_⟩
                            intro w hS
                            clear hS
                            go_simp
                            try with_reducible rfl
                          try simp only [Act.put, List.getElem_toArray, List.getElem_cons_succ, List.getElem_cons_zero, List.setIfInBounds_toArray, List.set_cons_succ, List.set_cons_zero]
                          apply takeH (i := 8) 110 rfl (by kernel_rfl) (by kernel_rfl) (by kernel_rfl) (fun _ _ _ h => h) rfl (M.out.only [1, 3] (K := [_, _]) rfl (by decide))
                          case' hy =>
                            refine Or.inl ⟨by first | rfl | (go_simp; done), ?_⟩
                            intro w hS
                            clear hS
                            go_simp
                            try with_reducible rfl
                          try simp only [Act.put, List.getElem_toArray, List.getElem_cons_succ, List.getElem_cons_zero, List.setIfInBounds_toArray, List.set_cons_succ, List.set_cons_zero]
                          apply takeH (i := 9) 111 rfl (by kernel_rfl) (by kernel_rfl) (by kernel_rfl) (fun _ _ _ h => h) rfl (M.out.only [1, 3] (K := [_, _]) rfl (by decide))
                          case' hy => exact yldsW _ _ rfl (by first | rfl | (go_simp; done)) Try.underlying2 rfl rfl (fun w' hS => hS.cell 1 rfl (by rw [ints_at (by rw [HWL.out]; omega), HWSt.out]))
                          try simp only [Act.put, List.getElem_toArray, List.getElem_cons_succ, List.getElem_cons_zero, List.setIfInBounds_toArray, List.set_cons_succ, List.set_cons_zero]
                          apply takeH (i := 10) 112 rfl (by kernel_rfl) (by kernel_rfl) (by kernel_rfl) (fun _ _ _ h => h) rfl (M.out.only [1, 3] (K := [_, _]) rfl (by decide))
                          case' hy =>
                            refine Or.inl ⟨by first | rfl | (go_simp; done), ?_⟩
                            intro w hS
                            clear hS
                            go_simp
                            try with_reducible rfl
                          try simp only [Act.put, List.getElem_toArray, List.getElem_cons_succ, List.getElem_cons_zero, List.setIfInBounds_toArray, List.set_cons_succ, List.set_cons_zero]
                          apply takeH (i := 11) 113 rfl (by kernel_rfl) (by kernel_rfl) (by kernel_rfl) (fun _ _ _ h => h) rfl (M.out.only [1, 3] (K := [_, _]) rfl (by decide))
                          case' hy =>
                            refine Or.inl ⟨by first | rfl | (go_simp; done), ?_⟩
                            intro w hS
                            clear hS
                            go_simp
                            try with_reducible rfl
                          try simp only [Act.put, List.getElem_toArray, List.getElem_cons_succ, List.getElem_cons_zero, List.setIfInBounds_toArray, List.set_cons_succ, List.set_cons_zero]
                          refine wpAnyH_done (by kernel_rfl) ?_ _
                          all_goals
                            go_wp2
                            refine ⟨⟨t, by have := HTN.out; omega, by go_num, ?_⟩, by simp [intOf]; have := HTN.out; try omega⟩
                            rw [← HTN.out.1]
                            rw [← HTN.out.1] at HOU
                            rw [HOU.out, if_pos (.inr HW0'.out)]
                            exact M.out
                        · have hw2 : (ws == 0) = false := by rw [beq_eq_false_iff_ne]; exact hw0
                          have HW0' := Lib.hid hw0
                          clear hw0
                          go_wp2
                          refine region_anyH (fun w' => Mem w w' [.blk g10 98 (ints .i64 FR), .blk g16 157 (ints .i64 WS)]) (by kernel_rfl) ?_
                          have m := M.out.drew
                          clear M
                          have M := Lib.hid m
                          clear m
                          apply takeH (i := 0) 102 rfl (by kernel_rfl) (by kernel_rfl) (by kernel_rfl) (fun _ _ _ h => h) rfl (M.out.only [1, 3] (K := [_, _]) rfl (by decide))
                          case' hy =>
                            refine Or.inl ⟨by first | rfl | (go_simp; done), ?_⟩
                            intro w hS
                            clear hS
                            go_simp
                            try with_reducible rfl
                          try simp only [Act.put, List.getElem_toArray, List.getElem_cons_succ, List.getElem_cons_zero, List.setIfInBounds_toArray, List.set_cons_succ, List.set_cons_zero]
                          apply takeH (i := 2) 104 rfl (by kernel_rfl) (by kernel_rfl) (by kernel_rfl) (fun _ _ _ h => h) rfl (M.out.only [1, 3] (K := [_, _]) rfl (by decide))
                          case' hy =>
                            refine Or.inl ⟨by first | rfl | (go_simp; done), ?_⟩
                            intro w hS
                            clear hS
                            go_simp
                            try with_reducible rfl
                          try simp only [Act.put, List.getElem_toArray, List.getElem_cons_succ, List.getElem_cons_zero, List.setIfInBounds_toArray, List.set_cons_succ, List.set_cons_zero]
                          apply takeH (i := 3) 105 rfl (by kernel_rfl) (by kernel_rfl) (by kernel_rfl) (fun _ _ _ h => h) rfl (M.out.only [1, 3] (K := [_, _]) rfl (by decide))
                          case' hy =>
                            refine Or.inl ⟨by first | rfl | (go_simp; done), ?_⟩
                            intro w hS
                            clear hS
                            go_simp
                            try with_reducible rfl
                          try simp only [Act.put, List.getElem_toArray, List.getElem_cons_succ, List.getElem_cons_zero, List.setIfInBounds_toArray, List.set_cons_succ, List.set_cons_zero]
                          apply takeH (i := 4) 106 rfl (by kernel_rfl) (by kernel_rfl) (by kernel_rfl) (fun _ _ _ h => h) rfl (M.out.only [1, 3] (K := [_, _]) rfl (by decide))
                          case' hy => exact ylds _ _ rfl rfl Try.underlying2 rfl rfl (fun w' hS => hS.cell 0 rfl (by rw [ints_at (by rw [HFLN.out]; omega), HFCd.out]))
                          try simp only [Act.put, List.getElem_toArray, List.getElem_cons_succ, List.getElem_cons_zero, List.setIfInBounds_toArray, List.set_cons_succ, List.set_cons_zero]
                          refine any1H 1 (by kernel_rfl) rfl (fun K hK => ?_)
                          go_wp2_with (first | ((with_reducible refine gate_dst (N := 106) rfl ?_); go_must (refine M.out.ev_ld 1 _ _ rfl rfl rfl Try.underlying2 rfl rfl (by first | assumption | rfl) ?_)) | (go_at_call 118; go_must (refine (HBT.out _).mono ?_); rintro e w_ ⟨rfl, rfl⟩))
                          refine onward_normal (hK _ _ ⟨(M.out.only [1, 3] (K := [_, _]) rfl (by decide)), ?_⟩)
                          clear hK K
                          try simp only [Act.put, List.getElem_toArray, List.getElem_cons_succ, List.getElem_cons_zero, List.setIfInBounds_toArray, List.set_cons_succ, List.set_cons_zero]
                          apply takeH (i := 5) 107 rfl (by kernel_rfl) (by kernel_rfl) (by kernel_rfl) (fun _ _ _ h => h) rfl (M.out.only [1, 3] (K := [_, _]) rfl (by decide))
                          case' hy =>
                            refine Or.inl ⟨by first | rfl | (go_simp; done), ?_⟩
                            intro w hS
                            clear hS
                            go_simp
                            try with_reducible rfl
                          try simp only [Act.put, List.getElem_toArray, List.getElem_cons_succ, List.getElem_cons_zero, List.setIfInBounds_toArray, List.set_cons_succ, List.set_cons_zero]
                          apply takeH (i := 6) 108 rfl (by kernel_rfl) (by kernel_rfl) (by kernel_rfl) (fun _ _ _ h => h) rfl (M.out.only [1, 3] (K := [_, _]) rfl (by decide))
                          case' hy =>
                            refine Or.inl ⟨by first | rfl | (go_simp; done), ?_⟩
                            intro w hS
                            clear hS
                            go_simp
                            try with_reducible rfl
                          try simp only [Act.put, List.getElem_toArray, List.getElem_cons_succ, List.getElem_cons_zero, List.setIfInBounds_toArray, List.set_cons_succ, List.set_cons_zero]
                          apply takeH (i := 7) 109 rfl (by kernel_rfl) (by kernel_rfl) (by kernel_rfl) (fun _ _ _ h => h) rfl (M.out.only [1, 3] (K := [_, _]) rfl (by decide))
                          case' hy =>
                            refine Or.inl ⟨by first | rfl | (go_simp; done), ?_⟩
                            intro w hS
                            clear hS
                            go_simp
                            try with_reducible rfl
                          try simp only [Act.put, List.getElem_toArray, List.getElem_cons_succ, List.getElem_cons_zero, List.setIfInBounds_toArray, List.set_cons_succ, List.set_cons_zero]
                          apply takeH (i := 8) 110 rfl (by kernel_rfl) (by kernel_rfl) (by kernel_rfl) (fun _ _ _ h => h) rfl (M.out.only [1, 3] (K := [_, _]) rfl (by decide))
                          case' hy =>
                            refine Or.inl ⟨by first | rfl | (go_simp; done), ?_⟩
                            intro w hS
                            clear hS
                            go_simp
                            try with_reducible rfl
                          try simp only [Act.put, List.getElem_toArray, List.getElem_cons_succ, List.getElem_cons_zero, List.setIfInBounds_toArray, List.set_cons_succ, List.set_cons_zero]
                          apply takeH (i := 9) 111 rfl (by kernel_rfl) (by kernel_rfl) (by kernel_rfl) (fun _ _ _ h => h) rfl (M.out.only [1, 3] (K := [_, _]) rfl (by decide))
                          case' hy => exact yldsW _ _ rfl (by first | rfl | (go_simp; done)) Try.underlying2 rfl rfl (fun w' hS => hS.cell 1 rfl (by rw [ints_at (by rw [HWL.out]; omega), HWSt.out]))
                          try simp only [Act.put, List.getElem_toArray, List.getElem_cons_succ, List.getElem_cons_zero, List.setIfInBounds_toArray, List.set_cons_succ, List.set_cons_zero]
                          apply takeH (i := 10) 112 rfl (by kernel_rfl) (by kernel_rfl) (by kernel_rfl) (fun _ _ _ h => h) rfl (M.out.only [1, 3] (K := [_, _]) rfl (by decide))
                          case' hy =>
                            refine Or.inl ⟨by first | rfl | (go_simp; done), ?_⟩
                            intro w hS
                            clear hS
                            go_simp
                            try with_reducible rfl
                          try simp only [Act.put, List.getElem_toArray, List.getElem_cons_succ, List.getElem_cons_zero, List.setIfInBounds_toArray, List.set_cons_succ, List.set_cons_zero]
                          apply takeH (i := 11) 113 rfl (by kernel_rfl) (by kernel_rfl) (by kernel_rfl) (fun _ _ _ h => h) rfl (M.out.only [1, 3] (K := [_, _]) rfl (by decide))
                          case' hy =>
                            refine Or.inl ⟨by first | rfl | (go_simp; done), ?_⟩
                            intro w hS
                            clear hS
                            go_simp
                            try with_reducible rfl
                          try simp only [Act.put, List.getElem_toArray, List.getElem_cons_succ, List.getElem_cons_zero, List.setIfInBounds_toArray, List.set_cons_succ, List.set_cons_zero]
                          refine wpAnyH_done (by kernel_rfl) ?_ _
                          all_goals
                            go_wp2
                            go_loopw [21] (fun v wr => ∃ q s : Nat, s = t + q ∧ s ≤ N ∧ v = .int .i64 s ∧ Mem w wr [.row (.slice RA m rc) 40 4 m (flat Plot.vals (xs.drop k)), .blk g10 98 (ints .i64 FR), .blk g13 157 (ints .i64 (bwIn ws B0 t O q)), .blk g16 157 (ints .i64 WS), .blk g19 157 (ints .i64 B0)])
                              (fun v _ => N - (intOf v).toNat)
                            case atStart => exact ⟨0, t, rfl, by have := HTN.out; omega, rfl, M.out⟩
                            case round =>
                              clear M
                              obtain ⟨q, s, hsq, hsN, rfl, mm⟩ := hrel
                              have M := Lib.hid mm
                              clear mm
                              have HSQ := Lib.hid hsq
                              clear hsq
                              by_cases hst : s < N
                              · have s0 : (0 : Int) ≤ (s : Int) := by omega
                                have s1 : (s : Int) < (N : Int) := by omega
                                have s2 : (s : Int) < 64 := by omega
                                have HIU := Lib.hid (show bwIn ws B0 t O (q + 1) = if wo t s = 0 then upMax (bwIn ws B0 t O q) s (ws + gi B0 (wo s t)) else bwIn ws B0 t O q by rw [bwIn, ← HSQ.out])
                                have b4 := andn6 (a := t) (b := s) (by omega) (by omega)
                                have b5 := andn6 (a := s) (b := t) (by omega) (by omega)
                                have hwo := wo_lt (s := s) t (by rw [← HN.out]; exact hst)
                                rw [← HN.out] at hwo
                                by_cases hwz : wo t s = 0
                                · have HWZ := Lib.hid hwz
                                  rw [if_pos hwz] at HIU
                                  rw [hwz] at b4
                                  have HIL := Lib.hid (show (bwIn ws B0 t O q).length = 64 by rw [bwIn_len, HOL.out])
                                  have hbb := HBBe.out (wo s t) (by omega)
                                  obtain ⟨I, hI⟩ : ∃ I, I = bwIn ws B0 t O q := ⟨_, rfl⟩
                                  obtain ⟨r, hr⟩ : ∃ r, r = wo s t := ⟨_, rfl⟩
                                  rw [← hI] at HIU HIL M
                                  rw [← hr] at HIU b5 hwo hbb
                                  have q127 : (ints .i64 I)[s]? = some (.int .i64 (gi I s)) := ints_at (by rw [HIL.out]; omega)
                                  have r0 : (0 : Int) ≤ (r : Int) := by omega
                                  have r1 : (r : Int) < 64 := by omega
                                  have hsz : s < (ints .i64 I).size := by rw [ints_size, HIL.out]; omega
                                  have HPU := Lib.hid (show (ints .i64 I).setIfInBounds s (.int .i64 (max (gi I s) (ws + gi B0 r))) = ints .i64 (upMax I s (ws + gi B0 r)) by rw [ints_set]; rfl)
                                  have HBR := Lib.hid (show (ints .i64 B0)[r]? = some (.int .i64 (gi B0 r)) from ints_at (by rw [HBLe.out]; omega))
                                  obtain ⟨bv, hbv⟩ : ∃ bv, bv = gi B0 r := ⟨_, rfl⟩
                                  rw [← hbv] at HIU HPU HBR hbb
                                  obtain ⟨iv, hiv⟩ : ∃ iv, iv = gi I s := ⟨_, rfl⟩
                                  rw [← hiv] at q127 HPU
                                  have w1 : IntKind.i64.wrap (ws + bv) = ws + bv := IntWalk.i64_in _ (by omega)
                                  clear hwz hI hr hbv hiv hbb
                                  go_wp2
                                  refine region_anyH (fun w' => Mem w w' [.blk g16 157 (ints .i64 WS), .blk g19 157 (ints .i64 B0)]) (by kernel_rfl) ?_
                                  have m := M.out.drew
                                  clear M
                                  have M := Lib.hid m
                                  clear m
                                  apply takeH (i := 0) 124 rfl (by kernel_rfl) (by kernel_rfl) (by kernel_rfl) (fun _ _ _ h => h) rfl (M.out.only [3, 4] (K := [_, _]) rfl (by decide))
                                  case' hy =>
                                    refine Or.inl ⟨by first | rfl | (go_simp; done), ?_⟩
                                    intro w hS
                                    clear hS
                                    go_simp
                                    try with_reducible rfl
                                  try simp only [Act.put, List.getElem_toArray, List.getElem_cons_succ, List.getElem_cons_zero, List.setIfInBounds_toArray, List.set_cons_succ, List.set_cons_zero]
                                  apply takeH (i := 1) 125 rfl (by kernel_rfl) (by kernel_rfl) (by kernel_rfl) (fun _ _ _ h => h) rfl (M.out.only [3, 4] (K := [_, _]) rfl (by decide))
                                  case' hy =>
                                    refine Or.inl ⟨by first | rfl | (go_simp; done), ?_⟩
                                    intro w hS
                                    clear hS
                                    go_simp
                                    try with_reducible rfl
                                  try simp only [Act.put, List.getElem_toArray, List.getElem_cons_succ, List.getElem_cons_zero, List.setIfInBounds_toArray, List.set_cons_succ, List.set_cons_zero]
                                  apply takeH (i := 2) 126 rfl (by kernel_rfl) (by kernel_rfl) (by kernel_rfl) (fun _ _ _ h => h) rfl (M.out.only [3, 4] (K := [_, _]) rfl (by decide))
                                  case' hy =>
                                    refine Or.inl ⟨by first | rfl | (go_simp; done), ?_⟩
                                    intro w hS
                                    clear hS
                                    go_simp
                                    try with_reducible rfl
                                  try simp only [Act.put, List.getElem_toArray, List.getElem_cons_succ, List.getElem_cons_zero, List.setIfInBounds_toArray, List.set_cons_succ, List.set_cons_zero]
                                  apply takeH (i := 4) 128 rfl (by kernel_rfl) (by kernel_rfl) (by kernel_rfl) (fun _ _ _ h => h) rfl (M.out.only [3, 4] (K := [_, _]) rfl (by decide))
                                  case' hy =>
                                    refine Or.inl ⟨by first | rfl | (go_simp; done), ?_⟩
                                    intro w hS
                                    clear hS
                                    go_simp
                                    try with_reducible rfl
                                  try simp only [Act.put, List.getElem_toArray, List.getElem_cons_succ, List.getElem_cons_zero, List.setIfInBounds_toArray, List.set_cons_succ, List.set_cons_zero]
                                  apply takeH (i := 5) 129 rfl (by kernel_rfl) (by kernel_rfl) (by kernel_rfl) (fun _ _ _ h => h) rfl (M.out.only [3, 4] (K := [_, _]) rfl (by decide))
                                  case' hy =>
                                    refine Or.inl ⟨by first | rfl | (go_simp; done), ?_⟩
                                    intro w hS
                                    clear hS
                                    go_simp
                                    try with_reducible rfl
                                  try simp only [Act.put, List.getElem_toArray, List.getElem_cons_succ, List.getElem_cons_zero, List.setIfInBounds_toArray, List.set_cons_succ, List.set_cons_zero]
                                  apply takeH (i := 6) 130 rfl (by kernel_rfl) (by kernel_rfl) (by kernel_rfl) (fun _ _ _ h => h) rfl (M.out.only [3, 4] (K := [_, _]) rfl (by decide))
                                  case' hy => exact ylds _ _ rfl rfl Try.underlying2 rfl rfl (fun w' hS => hS.cell 0 rfl (by rw [ints_at (by rw [HWL.out]; omega), HWSt.out]))
                                  try simp only [Act.put, List.getElem_toArray, List.getElem_cons_succ, List.getElem_cons_zero, List.setIfInBounds_toArray, List.set_cons_succ, List.set_cons_zero]
                                  apply takeH (i := 7) 131 rfl (by kernel_rfl) (by kernel_rfl) (by kernel_rfl) (fun _ _ _ h => h) rfl (M.out.only [3, 4] (K := [_, _]) rfl (by decide))
                                  case' hy =>
                                    refine Or.inl ⟨by first | rfl | (go_simp; done), ?_⟩
                                    intro w hS
                                    clear hS
                                    go_simp
                                    try with_reducible rfl
                                  try simp only [Act.put, List.getElem_toArray, List.getElem_cons_succ, List.getElem_cons_zero, List.setIfInBounds_toArray, List.set_cons_succ, List.set_cons_zero]
                                  apply takeH (i := 8) 132 rfl (by kernel_rfl) (by kernel_rfl) (by kernel_rfl) (fun _ _ _ h => h) rfl (M.out.only [3, 4] (K := [_, _]) rfl (by decide))
                                  case' hy =>
                                    refine Or.inl ⟨by first | rfl | (go_simp; done), ?_⟩
                                    intro w hS
                                    clear hS
                                    go_simp
                                    try with_reducible rfl
                                  try simp only [Act.put, List.getElem_toArray, List.getElem_cons_succ, List.getElem_cons_zero, List.setIfInBounds_toArray, List.set_cons_succ, List.set_cons_zero]
                                  apply takeH (i := 9) 133 rfl (by kernel_rfl) (by kernel_rfl) (by kernel_rfl) (fun _ _ _ h => h) rfl (M.out.only [3, 4] (K := [_, _]) rfl (by decide))
                                  case' hy =>
                                    refine Or.inl ⟨by first | rfl | (go_simp; done), ?_⟩
                                    intro w hS
                                    clear hS
                                    go_simp
                                    try with_reducible rfl
                                  try simp only [Act.put, List.getElem_toArray, List.getElem_cons_succ, List.getElem_cons_zero, List.setIfInBounds_toArray, List.set_cons_succ, List.set_cons_zero]
                                  apply takeH (i := 10) 134 rfl (by kernel_rfl) (by kernel_rfl) (by kernel_rfl) (fun _ _ _ h => h) rfl (M.out.only [3, 4] (K := [_, _]) rfl (by decide))
                                  case' hy =>
                                    refine Or.inl ⟨by first | rfl | (go_simp; done), ?_⟩
                                    intro w hS
                                    clear hS
                                    go_simp
                                    try with_reducible rfl
                                  try simp only [Act.put, List.getElem_toArray, List.getElem_cons_succ, List.getElem_cons_zero, List.setIfInBounds_toArray, List.set_cons_succ, List.set_cons_zero]
                                  apply takeH (i := 11) 135 rfl (by kernel_rfl) (by kernel_rfl) (by kernel_rfl) (fun _ _ _ h => h) rfl (M.out.only [3, 4] (K := [_, _]) rfl (by decide))
                                  case' hy => exact ylds _ _ rfl rfl Try.underlying2 rfl rfl (fun w' hS => hS.cell 1 rfl HBR.out)
                                  try simp only [Act.put, List.getElem_toArray, List.getElem_cons_succ, List.getElem_cons_zero, List.setIfInBounds_toArray, List.set_cons_succ, List.set_cons_zero]
                                  apply takeH (i := 12) 136 rfl (by kernel_rfl) (by kernel_rfl) (by kernel_rfl) (fun _ _ _ h => h) rfl (M.out.only [3, 4] (K := [_, _]) rfl (by decide))
                                  case' hy =>
                                    refine Or.inl ⟨by first | rfl | (go_simp; done), ?_⟩
                                    intro w hS
                                    clear hS
                                    go_simp
                                    try with_reducible rfl
                                  try simp only [Act.put, List.getElem_toArray, List.getElem_cons_succ, List.getElem_cons_zero, List.setIfInBounds_toArray, List.set_cons_succ, List.set_cons_zero]
                                  refine any1H 3 (by kernel_rfl) rfl (fun K hK => ?_)
                                  go_wp2_with (first | ((with_reducible refine gate_dst (N := 127) rfl ?_); go_must (refine M.out.ev_ld 2 _ _ rfl rfl rfl Try.underlying2 rfl rfl (by first | assumption | rfl) ?_)) | ((with_reducible refine gate_dst (N := 130) rfl ?_); go_must (refine M.out.ev_ld 3 _ _ rfl rfl rfl Try.underlying2 rfl rfl (by first | assumption | rfl) ?_)) | ((with_reducible refine gate_dst (N := 135) rfl ?_); go_must (refine M.out.ev_ld 4 _ _ rfl rfl rfl Try.underlying2 rfl rfl (by first | assumption | rfl) ?_)) | ((with_reducible refine gate_store (x := .tmp 138) rfl ?_); go_must (refine M.out.ev_put 2 _ _ _ rfl rfl rfl rfl (.int _ _) rfl (by first | assumption | exact Fld.lt0 _ | exact Fld.lt1 _ | (simp; done) | (simp only [ints_size]; omega)) sz2 rfl rfl ?_); intro wn m; simp only [List.set_cons_succ, List.set_cons_zero, List.setIfInBounds_toArray] at m; have M := Lib.hid m; clear m) | (go_at_call 115; go_must (refine (l00MaxP_any _ _ _).mono ?_); rintro e w_ ⟨rfl, rfl⟩))
                                  refine onward_normal (hK _ _ ⟨(M.out.only [3, 4] (K := [_, _]) rfl (by decide)), ?_⟩)
                                  clear hK K
                                  try simp only [Act.put, List.getElem_toArray, List.getElem_cons_succ, List.getElem_cons_zero, List.setIfInBounds_toArray, List.set_cons_succ, List.set_cons_zero]
                                  refine any1H 13 (by kernel_rfl) rfl (fun K hK => ?_)
                                  go_wp2_with (first | ((with_reducible refine gate_dst (N := 127) rfl ?_); go_must (refine M.out.ev_ld 2 _ _ rfl rfl rfl Try.underlying2 rfl rfl (by first | assumption | rfl) ?_)) | ((with_reducible refine gate_dst (N := 130) rfl ?_); go_must (refine M.out.ev_ld 3 _ _ rfl rfl rfl Try.underlying2 rfl rfl (by first | assumption | rfl) ?_)) | ((with_reducible refine gate_dst (N := 135) rfl ?_); go_must (refine M.out.ev_ld 4 _ _ rfl rfl rfl Try.underlying2 rfl rfl (by first | assumption | rfl) ?_)) | ((with_reducible refine gate_store (x := .tmp 138) rfl ?_); go_must (refine M.out.ev_put 2 _ _ _ rfl rfl rfl rfl (.int _ _) rfl (by first | assumption | exact Fld.lt0 _ | exact Fld.lt1 _ | (simp; done) | (simp only [ints_size]; omega)) sz2 rfl rfl ?_); intro wn m; simp only [List.set_cons_succ, List.set_cons_zero, List.setIfInBounds_toArray] at m; have M := Lib.hid m; clear m) | (go_at_call 115; go_must (refine (l00MaxP_any _ _ _).mono ?_); rintro e w_ ⟨rfl, rfl⟩))
                                  refine onward_normal (hK _ _ ⟨(M.out.only [3, 4] (K := [_, _]) rfl (by decide)), ?_⟩)
                                  clear hK K
                                  try simp only [Act.put, List.getElem_toArray, List.getElem_cons_succ, List.getElem_cons_zero, List.setIfInBounds_toArray, List.set_cons_succ, List.set_cons_zero]
                                  apply takeH (i := 14) 138 rfl (by kernel_rfl) (by kernel_rfl) (by kernel_rfl) (fun _ _ _ h => h) rfl (M.out.only [3, 4] (K := [_, _]) rfl (by decide))
                                  case' hy =>
                                    refine Or.inl ⟨by first | rfl | (go_simp; done), ?_⟩
                                    intro w hS
                                    clear hS
                                    go_simp
                                    try with_reducible rfl
                                  try simp only [Act.put, List.getElem_toArray, List.getElem_cons_succ, List.getElem_cons_zero, List.setIfInBounds_toArray, List.set_cons_succ, List.set_cons_zero]
                                  refine any1H 15 (by kernel_rfl) rfl (fun K hK => ?_)
                                  go_wp2_with (first | ((with_reducible refine gate_dst (N := 127) rfl ?_); go_must (refine M.out.ev_ld 2 _ _ rfl rfl rfl Try.underlying2 rfl rfl (by first | assumption | rfl) ?_)) | ((with_reducible refine gate_dst (N := 130) rfl ?_); go_must (refine M.out.ev_ld 3 _ _ rfl rfl rfl Try.underlying2 rfl rfl (by first | assumption | rfl) ?_)) | ((with_reducible refine gate_dst (N := 135) rfl ?_); go_must (refine M.out.ev_ld 4 _ _ rfl rfl rfl Try.underlying2 rfl rfl (by first | assumption | rfl) ?_)) | ((with_reducible refine gate_store (x := .tmp 138) rfl ?_); go_must (refine M.out.ev_put 2 _ _ _ rfl rfl rfl rfl (.int _ _) rfl (by first | assumption | exact Fld.lt0 _ | exact Fld.lt1 _ | (simp; done) | (simp only [ints_size]; omega)) sz2 rfl rfl ?_); intro wn m; simp only [List.set_cons_succ, List.set_cons_zero, List.setIfInBounds_toArray] at m; have M := Lib.hid m; clear m) | (go_at_call 115; go_must (refine (l00MaxP_any _ _ _).mono ?_); rintro e w_ ⟨rfl, rfl⟩))
                                  refine onward_normal (hK _ _ ⟨(M.out.only [3, 4] (K := [_, _]) rfl (by decide)), ?_⟩)
                                  clear hK K
                                  try simp only [Act.put, List.getElem_toArray, List.getElem_cons_succ, List.getElem_cons_zero, List.setIfInBounds_toArray, List.set_cons_succ, List.set_cons_zero]
                                  refine wpAnyH_done (by kernel_rfl) ?_ _
                                  all_goals
                                    go_wp2
                                    refine ⟨⟨q + 1, s + 1, by have := HSQ.out; omega, by omega, by go_num, ?_⟩, by simp [intOf]; try omega⟩
                                    rw [HIU.out, ← HPU.out]
                                    exact M.out
                                · have HWZ := Lib.hid hwz
                                  have hwz2 : ((wo t s : Nat) : Int) ≠ 0 := by omega
                                  have hwz3 : (((wo t s : Nat) : Int) == 0) = false := by rw [beq_eq_false_iff_ne]; exact hwz2
                                  rw [if_neg hwz] at HIU
                                  obtain ⟨u, hu⟩ : ∃ u, u = wo t s := ⟨_, rfl⟩
                                  rw [← hu] at b4 hwz3
                                  clear hu hwz hwz2
                                  go_wp2
                                  refine ⟨⟨q + 1, s + 1, by have := HSQ.out; omega, by omega, by go_num, ?_⟩, by simp [intOf]; try omega⟩
                                  rw [HIU.out]
                                  exact M.out
                              · obtain rfl : N = s := by omega
                                have s1 : ¬ ((N : Int) < (N : Int)) := by omega
                                go_wp2
                                refine ⟨⟨t, by have := HTN.out; omega, by go_num, ?_⟩, by simp [intOf]; have := HTN.out; try omega⟩
                                rw [← HTN.out.1]
                                rw [← HTN.out.1] at HOU
                                rw [HOU.out, if_neg (by have h7 := HC2.out; have h8 := HW0'.out; omega), show N - (n' + 1) = q by have := HSQ.out; have := HTN.out; omega, HTN.out.1]
                                exact M.out
                    · have t1 : ¬ ((n' : Int) + 1 < (N : Int)) := by omega
                      have HNE := Lib.hid (show n' = N - 1 by omega)
                      go_wp2
                      refine ⟨⟨e + 1, by have := HDT.out; omega, by have := HDT.out; congr 1; push_cast; omega, ?_⟩, by have := HDT.out; simp [intOf]; try omega⟩
                      rw [HBSe.out, ← HNE.out]
                      exact M.out.take 3
            · obtain rfl : D = e := by omega
              have HTRD := Lib.hid (HTR.out)
              have hbb := HBB.out D (by omega) (N - 1) (by omega)
              have HBR := Lib.hid (show (ints .i64 (F D))[N - 1]? = some (.int .i64 (gi (F D) (N - 1))) from ints_at (by rw [HBL.out]; omega))
              have n1 : (N : Int) - 1 = ((N - 1 : Nat) : Int) := by omega
              have n0 : (0 : Int) ≤ ((N - 1 : Nat) : Int) := by omega
              have n2 : ((N - 1 : Nat) : Int) < 64 := by omega
              obtain ⟨bv, hbv⟩ : ∃ bv, bv = gi (F D) (N - 1) := ⟨_, rfl⟩
              rw [← hbv] at hbb HBR HTRD
              obtain ⟨nl, hnl⟩ : ∃ nl : Nat, nl = N - 1 := ⟨_, rfl⟩
              rw [← hnl] at n1 n0 n2 HBR
              have n3 : IntKind.i64.wrap (nl : Int) = nl := IntWalk.i64_in _ (by omega)
              have w1 : IntKind.i64.wrap (bv + baseOf xs p) = bv + baseOf xs p := IntWalk.i64_in _ (by omega)
              clear hbv hnl
              have e0 : ¬ ((0 : Int) ≤ (D : Int) - 1 - (D : Int)) := by omega
              go_wp2
              refine region_anyH (fun w' => Mem w w' [.blk g13 157 (ints .i64 (F D))]) (by kernel_rfl) ?_
              have m := M.out.drew
              clear M
              have M := Lib.hid m
              clear m
              apply takeH (i := 0) 139 rfl (by kernel_rfl) (by kernel_rfl) (by kernel_rfl) (fun _ _ _ h => h) rfl (M.out.only [2] (K := [_]) rfl (by decide))
              case' hy =>
                refine Or.inl ⟨by first | rfl | (go_simp; done), ?_⟩
                intro w hS
                clear hS
                go_simp
                try with_reducible rfl
              try simp only [Act.put, List.getElem_toArray, List.getElem_cons_succ, List.getElem_cons_zero, List.setIfInBounds_toArray, List.set_cons_succ, List.set_cons_zero]
              apply takeH (i := 1) 140 rfl (by kernel_rfl) (by kernel_rfl) (by kernel_rfl) (fun _ _ _ h => h) rfl (M.out.only [2] (K := [_]) rfl (by decide))
              case' hy =>
                refine Or.inl ⟨by first | rfl | (go_simp; done), ?_⟩
                intro w hS
                clear hS
                go_simp
                try with_reducible rfl
              try simp only [Act.put, List.getElem_toArray, List.getElem_cons_succ, List.getElem_cons_zero, List.setIfInBounds_toArray, List.set_cons_succ, List.set_cons_zero]
              apply takeH (i := 2) 141 rfl (by kernel_rfl) (by kernel_rfl) (by kernel_rfl) (fun _ _ _ h => h) rfl (M.out.only [2] (K := [_]) rfl (by decide))
              case' hy =>
                refine Or.inl ⟨by first | rfl | (go_simp; done), ?_⟩
                intro w hS
                clear hS
                go_simp
                try with_reducible rfl
              try simp only [Act.put, List.getElem_toArray, List.getElem_cons_succ, List.getElem_cons_zero, List.setIfInBounds_toArray, List.set_cons_succ, List.set_cons_zero]
              apply takeH (i := 3) 142 rfl (by kernel_rfl) (by kernel_rfl) (by kernel_rfl) (fun _ _ _ h => h) rfl (M.out.only [2] (K := [_]) rfl (by decide))
              case' hy => exact ylds _ _ rfl rfl Try.underlying2 rfl rfl (fun w' hS => hS.cell 0 rfl HBR.out)
              try simp only [Act.put, List.getElem_toArray, List.getElem_cons_succ, List.getElem_cons_zero, List.setIfInBounds_toArray, List.set_cons_succ, List.set_cons_zero]
              apply takeH (i := 4) 143 rfl (by kernel_rfl) (by kernel_rfl) (by kernel_rfl) (fun _ _ _ h => h) rfl (M.out.only [2] (K := [_]) rfl (by decide))
              case' hy =>
                refine Or.inl ⟨by first | rfl | (go_simp; done), ?_⟩
                intro w hS
                clear hS
                go_simp
                try with_reducible rfl
              try simp only [Act.put, List.getElem_toArray, List.getElem_cons_succ, List.getElem_cons_zero, List.setIfInBounds_toArray, List.set_cons_succ, List.set_cons_zero]
              apply takeH (i := 5) 144 rfl (by kernel_rfl) (by kernel_rfl) (by kernel_rfl) (fun _ _ _ h => h) rfl (M.out.only [2] (K := [_]) rfl (by decide))
              case' hy =>
                refine Or.inl ⟨by first | rfl | (go_simp; done), ?_⟩
                intro w hS
                clear hS
                go_simp
                try with_reducible rfl
              try simp only [Act.put, List.getElem_toArray, List.getElem_cons_succ, List.getElem_cons_zero, List.setIfInBounds_toArray, List.set_cons_succ, List.set_cons_zero]
              apply takeH (i := 6) 145 rfl (by kernel_rfl) (by kernel_rfl) (by kernel_rfl) (fun _ _ _ h => h) rfl (M.out.only [2] (K := [_]) rfl (by decide))
              case' hy =>
                refine Or.inl ⟨by first | rfl | (go_simp; done), ?_⟩
                intro w hS
                clear hS
                go_simp
                try with_reducible rfl
              try simp only [Act.put, List.getElem_toArray, List.getElem_cons_succ, List.getElem_cons_zero, List.setIfInBounds_toArray, List.set_cons_succ, List.set_cons_zero]
              apply takeH (i := 7) 146 rfl (by kernel_rfl) (by kernel_rfl) (by kernel_rfl) (fun _ _ _ h => h) rfl (M.out.only [2] (K := [_]) rfl (by decide))
              case' hy =>
                refine Or.inl ⟨by first | rfl | (go_simp; done), ?_⟩
                intro w hS
                clear hS
                go_simp
                try with_reducible rfl
              try simp only [Act.put, List.getElem_toArray, List.getElem_cons_succ, List.getElem_cons_zero, List.setIfInBounds_toArray, List.set_cons_succ, List.set_cons_zero]
              apply takeH (i := 8) 147 rfl (by kernel_rfl) (by kernel_rfl) (by kernel_rfl) (fun _ _ _ h => h) rfl (M.out.only [2] (K := [_]) rfl (by decide))
              case' hy =>
                refine Or.inl ⟨by first | rfl | (go_simp; done), ?_⟩
                intro w hS
                clear hS
                go_simp
                try with_reducible rfl
              try simp only [Act.put, List.getElem_toArray, List.getElem_cons_succ, List.getElem_cons_zero, List.setIfInBounds_toArray, List.set_cons_succ, List.set_cons_zero]
              refine any1H 9 (by kernel_rfl) rfl (fun K hK => ?_)
              go_wp2_with (first | ((with_reducible refine gate_dst (N := 142) rfl ?_); go_must (refine M.out.ev_ld 2 _ _ rfl rfl rfl Try.underlying2 rfl rfl (by first | assumption | rfl) ?_)) | (go_at_call 59; go_must (refine (SUM.out _ (M.out.sl HST.out) (M.out.sl HT.out)).mono ?_); rintro e w_ ⟨rfl, N_⟩; have m := M.out.join N_; clear N_; simp only [List.cons_append, List.nil_append, List.append_nil] at m; have M := Lib.hid m; clear m))
              refine onward_normal (hK _ _ ⟨(M.out.only [2] (K := [_]) rfl (by decide)), ?_⟩)
              clear hK K
              try simp only [Act.put, List.getElem_toArray, List.getElem_cons_succ, List.getElem_cons_zero, List.setIfInBounds_toArray, List.set_cons_succ, List.set_cons_zero]
              apply takeH (i := 10) 149 rfl (by kernel_rfl) (by kernel_rfl) (by kernel_rfl) (fun _ _ _ h => h) rfl (M.out.only [2] (K := [_]) rfl (by decide))
              case' hy =>
                refine Or.inl ⟨by first | rfl | (go_simp; done), ?_⟩
                intro w hS
                clear hS
                go_simp
                try with_reducible rfl
              try simp only [Act.put, List.getElem_toArray, List.getElem_cons_succ, List.getElem_cons_zero, List.setIfInBounds_toArray, List.set_cons_succ, List.set_cons_zero]
              apply takeH (i := 11) 8 rfl (by kernel_rfl) (by kernel_rfl) (by kernel_rfl) (fun _ _ _ h => h) rfl (M.out.only [2] (K := [_]) rfl (by decide))
              case' hy =>
                refine Or.inl ⟨by first | rfl | (go_simp; done), ?_⟩
                intro w hS
                clear hS
                go_simp
                try with_reducible rfl
              try simp only [Act.put, List.getElem_toArray, List.getElem_cons_succ, List.getElem_cons_zero, List.setIfInBounds_toArray, List.set_cons_succ, List.set_cons_zero]
              refine wpAnyH_done (by kernel_rfl) ?_ _
              all_goals
                go_wp2
                go_ret
                exact ⟨ret_int HTRD.out.symm, M.out.take 0⟩
end Go.Proofs.Ytdnofkngljjbmaa
