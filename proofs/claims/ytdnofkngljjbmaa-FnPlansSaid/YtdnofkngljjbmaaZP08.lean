/- Texts of a proof, laid together: Plots, Cells. -/
import Derived.Test.YtdnofkngljjbmaaZP07
import Derived.Test.YtdnofkngljjbmaaZP06
namespace Go.Proofs.Ytdnofkngljjbmaa
set_option linter.unusedSimpArgs false
set_option linter.unusedVariables false
open Go.RowKit
attribute [local go_sem] cell?_mk frozen?_mk

def Plot.fine (x : Plot) : Bool := inB x.seeds 0 1000 && (inB x.ripe 0 20 && (inB x.keep 0 20 && inB x.loss 0 1000))
theorem Plot.fine_iff {x : Plot} : x.fine = true ↔ (0 ≤ x.seeds ∧ x.seeds ≤ 1000) ∧ (0 ≤ x.ripe ∧ x.ripe ≤ 20) ∧ (0 ≤ x.keep ∧ x.keep ≤ 20) ∧ (0 ≤ x.loss ∧ x.loss ≤ 1000) := by
  simp only [Plot.fine, Bool.and_eq_true, inB_iff]
def plotsOk (xs : List Plot) : Bool := xs.all Plot.fine && decide (xs.length ≤ 6)
theorem plotsOk_of {xs : List Plot} (h : ∀ j, j < xs.length → ∀ x, xs[j]? = some x → x.fine = true) : plotsOk xs = decide (xs.length ≤ 6) := by
  have : xs.all Plot.fine = true := by
    rw [List.all_eq_true]
    intro x hx
    obtain ⟨i, hi⟩ := List.getElem?_of_mem hx
    exact h i (List.getElem?_eq_some_iff.1 hi).1 x hi
  rw [plotsOk, this, Bool.true_and]
theorem not_plotsOk {xs : List Plot} {x : Plot} (hx : x ∈ xs) (h : x.fine = false) : plotsOk xs = false := by
  have : xs.all Plot.fine = false := by
    rw [← Bool.not_eq_true, List.all_eq_true]
    intro hh
    rw [hh x hx] at h
    cases h
  rw [plotsOk, this, Bool.false_and]
theorem plotsOk_iff {xs : List Plot} : plotsOk xs = true ↔ (∀ x ∈ xs, x.fine = true) ∧ xs.length ≤ 6 := by
  simp [plotsOk]
theorem pfine_succ {xs : List Plot} {k : Nat} (h : ∀ j, j < k → ∀ x, xs[j]? = some x → x.fine = true) {x : Plot} (hk : xs[k]? = some x) (hf : x.fine = true) : ∀ j, j < k + 1 → ∀ x, xs[j]? = some x → x.fine = true := fun j hj y hy => by
  rcases Nat.lt_or_ge j k with h1 | h1
  · exact h j h1 y hy
  · obtain rfl : j = k := by omega
    rw [hk] at hy
    injection hy with hy
    rw [← hy]
    exact hf
/-- What a plot is worth on a day. -/
def Plot.worth (x : Plot) (d : Int) : Int := if inB (d - x.ripe) 0 x.keep = true then max 0 (x.seeds - x.loss * (d - x.ripe)) else 0
theorem Plot.worth_b {x : Plot} (h : x.fine = true) (d : Int) : 0 ≤ x.worth d ∧ x.worth d ≤ x.seeds ∧ x.worth d ≤ 1000 := by
  obtain ⟨⟨a0, a1⟩, _, _, ⟨b0, b1⟩⟩ := Plot.fine_iff.1 h
  unfold Plot.worth
  split
  · rename_i hq
    have hl := (inB_iff.1 hq).1
    have hp := Int.mul_nonneg b0 hl
    omega
  · omega
set_option maxRecDepth 100000 in
set_option maxHeartbeats 2000000 in
theorem ValidPlots_any (A : Option Addr) (n : Nat) (xs : List Plot) (hx : ∀ x ∈ xs, x.ok) (hl : xs.length ≤ 1048576) (w : World) (hs : Sl w 4 A xs.length (flat Plot.vals xs)) :
    Calls Try.prog 18 #[.slice A xs.length n] w fun e w' => e = .returned (.bool (plotsOk xs)) ∧ Mem w w' [] := by
  have M := Lib.hid (Mem.start w)
  have HX := Lib.hid hx
  have HS := Lib.hid hs
  clear hx hs
  go_enter Try.func18, Try.ntmps18
  go_wp2
  go_loopw [7] (fun v wr => ∃ k : Nat, k ≤ xs.length ∧ v = .int .i64 k ∧ (∀ j, j < k → ∀ x, xs[j]? = some x → x.fine = true) ∧ Mem w wr [])
    (fun v _ => xs.length - (intOf v).toNat)
  case atStart => exact ⟨0, by omega, rfl, fun j hj => by omega, M.out⟩
  case round =>
    clear M
    obtain ⟨k, hk, rfl, he, m⟩ := hrel
    have M := Lib.hid m
    have HE := Lib.hid he
    clear m he
    by_cases hlt : k < xs.length
    · obtain ⟨b, off, rfl, hr⟩ := (M.out.sl HS.out).2 (by omega)
      have R := Lib.hid (range_at Plot.vl hr (List.getElem?_eq_getElem hlt))
      have HM := Lib.hid (List.getElem_mem hlt)
      have HXK := Lib.hid (List.getElem?_eq_getElem hlt)
      have V1 := Lib.hid (Plot.one xs[k])
      have i0 : (0 : Int) ≤ (k : Int) := by omega
      have i1 : (k : Int) < (xs.length : Int) := by omega
      clear hr
      obtain ⟨l0, u0⟩ := (HX.out xs[k] (List.getElem_mem hlt)).seeds
      have e0 : IntKind.i64.wrap xs[k].seeds = xs[k].seeds := IntWalk.i64_in _ (by omega)
      obtain ⟨l1, u1⟩ := (HX.out xs[k] (List.getElem_mem hlt)).ripe
      have e1 : IntKind.i64.wrap xs[k].ripe = xs[k].ripe := IntWalk.i64_in _ (by omega)
      obtain ⟨l2, u2⟩ := (HX.out xs[k] (List.getElem_mem hlt)).keep
      have e2 : IntKind.i64.wrap xs[k].keep = xs[k].keep := IntWalk.i64_in _ (by omega)
      obtain ⟨l3, u3⟩ := (HX.out xs[k] (List.getElem_mem hlt)).loss
      have e3 : IntKind.i64.wrap xs[k].loss = xs[k].loss := IntWalk.i64_in _ (by omega)
      cases q0 : inB xs[k].seeds 0 1000
      · have H0 := Lib.hid q0
        have HFN := Lib.hid (show xs[k].fine = false by simp [Plot.fine, q0])
        clear q0
        go_wp2_with (first
          | ((with_reducible refine gate_dst (N := 10) rfl ?_); go_must (refine ev_ldr _ _ rfl rfl (R.out) Try.underlying40 rfl (by first | exact sz40 | (rw [S1.out]; exact sz40)) rfl ?_))
          | ((with_reducible refine gate_dst (N := 4) rfl ?_); go_must (refine M.out.ev_new rfl (by first | (go_simp; done) | (go_simp; rfl)) ?_); intro g4 w4 m; simp only [List.nil_append] at m; have M := Lib.hid m; clear m)
          | ((with_reducible refine gate_store (x := .tmp 4) rfl ?_); go_must (refine M.out.ev_stw 0 _ _ _ rfl rfl rfl rfl xs[k].vals.toArray rfl rfl sz40 V1.out rfl ?_); intro wn m; simp only [List.set_cons_zero] at m; have M := Lib.hid m; clear m; have c0 := M.out.cell (j := 0) (v := .int .i16 xs[k].seeds) 0 rfl rfl; have c1 := M.out.cell (j := 1) (v := .int .i16 xs[k].ripe) 0 rfl rfl; have c2 := M.out.cell (j := 2) (v := .int .i16 xs[k].keep) 0 rfl rfl; have c3 := M.out.cell (j := 3) (v := .int .i16 xs[k].loss) 0 rfl rfl)
          | (go_at_call 66; go_must (refine (within_any _ _ _ _).mono ?_); rintro e w_ ⟨rfl, rfl⟩; first | rw [H0.out])
          )
        go_ret
        exact ⟨ret_bool (not_plotsOk HM.out HFN.out).symm, M.out.take 0⟩
      cases q1 : inB xs[k].ripe 0 20
      · have H0 := Lib.hid q0
        have H1 := Lib.hid q1
        have HFN := Lib.hid (show xs[k].fine = false by simp [Plot.fine, q0, q1])
        clear q0 q1
        go_wp2_with (first
          | ((with_reducible refine gate_dst (N := 10) rfl ?_); go_must (refine ev_ldr _ _ rfl rfl (R.out) Try.underlying40 rfl (by first | exact sz40 | (rw [S1.out]; exact sz40)) rfl ?_))
          | ((with_reducible refine gate_dst (N := 4) rfl ?_); go_must (refine M.out.ev_new rfl (by first | (go_simp; done) | (go_simp; rfl)) ?_); intro g4 w4 m; simp only [List.nil_append] at m; have M := Lib.hid m; clear m)
          | ((with_reducible refine gate_store (x := .tmp 4) rfl ?_); go_must (refine M.out.ev_stw 0 _ _ _ rfl rfl rfl rfl xs[k].vals.toArray rfl rfl sz40 V1.out rfl ?_); intro wn m; simp only [List.set_cons_zero] at m; have M := Lib.hid m; clear m; have c0 := M.out.cell (j := 0) (v := .int .i16 xs[k].seeds) 0 rfl rfl; have c1 := M.out.cell (j := 1) (v := .int .i16 xs[k].ripe) 0 rfl rfl; have c2 := M.out.cell (j := 2) (v := .int .i16 xs[k].keep) 0 rfl rfl; have c3 := M.out.cell (j := 3) (v := .int .i16 xs[k].loss) 0 rfl rfl)
          | (go_at_call 66; go_must (refine (within_any _ _ _ _).mono ?_); rintro e w_ ⟨rfl, rfl⟩; first | rw [H0.out] | rw [H1.out])
          )
        go_ret
        exact ⟨ret_bool (not_plotsOk HM.out HFN.out).symm, M.out.take 0⟩
      cases q2 : inB xs[k].keep 0 20
      · have H0 := Lib.hid q0
        have H1 := Lib.hid q1
        have H2 := Lib.hid q2
        have HFN := Lib.hid (show xs[k].fine = false by simp [Plot.fine, q0, q1, q2])
        clear q0 q1 q2
        go_wp2_with (first
          | ((with_reducible refine gate_dst (N := 10) rfl ?_); go_must (refine ev_ldr _ _ rfl rfl (R.out) Try.underlying40 rfl (by first | exact sz40 | (rw [S1.out]; exact sz40)) rfl ?_))
          | ((with_reducible refine gate_dst (N := 4) rfl ?_); go_must (refine M.out.ev_new rfl (by first | (go_simp; done) | (go_simp; rfl)) ?_); intro g4 w4 m; simp only [List.nil_append] at m; have M := Lib.hid m; clear m)
          | ((with_reducible refine gate_store (x := .tmp 4) rfl ?_); go_must (refine M.out.ev_stw 0 _ _ _ rfl rfl rfl rfl xs[k].vals.toArray rfl rfl sz40 V1.out rfl ?_); intro wn m; simp only [List.set_cons_zero] at m; have M := Lib.hid m; clear m; have c0 := M.out.cell (j := 0) (v := .int .i16 xs[k].seeds) 0 rfl rfl; have c1 := M.out.cell (j := 1) (v := .int .i16 xs[k].ripe) 0 rfl rfl; have c2 := M.out.cell (j := 2) (v := .int .i16 xs[k].keep) 0 rfl rfl; have c3 := M.out.cell (j := 3) (v := .int .i16 xs[k].loss) 0 rfl rfl)
          | (go_at_call 66; go_must (refine (within_any _ _ _ _).mono ?_); rintro e w_ ⟨rfl, rfl⟩; first | rw [H0.out] | rw [H1.out] | rw [H2.out])
          )
        go_ret
        exact ⟨ret_bool (not_plotsOk HM.out HFN.out).symm, M.out.take 0⟩
      cases q3 : inB xs[k].loss 0 1000
      · have H0 := Lib.hid q0
        have H1 := Lib.hid q1
        have H2 := Lib.hid q2
        have H3 := Lib.hid q3
        have HFN := Lib.hid (show xs[k].fine = false by simp [Plot.fine, q0, q1, q2, q3])
        clear q0 q1 q2 q3
        go_wp2_with (first
          | ((with_reducible refine gate_dst (N := 10) rfl ?_); go_must (refine ev_ldr _ _ rfl rfl (R.out) Try.underlying40 rfl (by first | exact sz40 | (rw [S1.out]; exact sz40)) rfl ?_))
          | ((with_reducible refine gate_dst (N := 4) rfl ?_); go_must (refine M.out.ev_new rfl (by first | (go_simp; done) | (go_simp; rfl)) ?_); intro g4 w4 m; simp only [List.nil_append] at m; have M := Lib.hid m; clear m)
          | ((with_reducible refine gate_store (x := .tmp 4) rfl ?_); go_must (refine M.out.ev_stw 0 _ _ _ rfl rfl rfl rfl xs[k].vals.toArray rfl rfl sz40 V1.out rfl ?_); intro wn m; simp only [List.set_cons_zero] at m; have M := Lib.hid m; clear m; have c0 := M.out.cell (j := 0) (v := .int .i16 xs[k].seeds) 0 rfl rfl; have c1 := M.out.cell (j := 1) (v := .int .i16 xs[k].ripe) 0 rfl rfl; have c2 := M.out.cell (j := 2) (v := .int .i16 xs[k].keep) 0 rfl rfl; have c3 := M.out.cell (j := 3) (v := .int .i16 xs[k].loss) 0 rfl rfl)
          | (go_at_call 66; go_must (refine (within_any _ _ _ _).mono ?_); rintro e w_ ⟨rfl, rfl⟩; first | rw [H0.out] | rw [H1.out] | rw [H2.out] | rw [H3.out])
          )
        go_ret
        exact ⟨ret_bool (not_plotsOk HM.out HFN.out).symm, M.out.take 0⟩
      have H0 := Lib.hid q0
      have H1 := Lib.hid q1
      have H2 := Lib.hid q2
      have H3 := Lib.hid q3
      have HFN := Lib.hid (show xs[k].fine = true by simp [Plot.fine, q0, q1, q2, q3])
      clear q0 q1 q2 q3
      go_wp2_with (first
        | ((with_reducible refine gate_dst (N := 10) rfl ?_); go_must (refine ev_ldr _ _ rfl rfl (R.out) Try.underlying40 rfl (by first | exact sz40 | (rw [S1.out]; exact sz40)) rfl ?_))
        | ((with_reducible refine gate_dst (N := 4) rfl ?_); go_must (refine M.out.ev_new rfl (by first | (go_simp; done) | (go_simp; rfl)) ?_); intro g4 w4 m; simp only [List.nil_append] at m; have M := Lib.hid m; clear m)
        | ((with_reducible refine gate_store (x := .tmp 4) rfl ?_); go_must (refine M.out.ev_stw 0 _ _ _ rfl rfl rfl rfl xs[k].vals.toArray rfl rfl sz40 V1.out rfl ?_); intro wn m; simp only [List.set_cons_zero] at m; have M := Lib.hid m; clear m; have c0 := M.out.cell (j := 0) (v := .int .i16 xs[k].seeds) 0 rfl rfl; have c1 := M.out.cell (j := 1) (v := .int .i16 xs[k].ripe) 0 rfl rfl; have c2 := M.out.cell (j := 2) (v := .int .i16 xs[k].keep) 0 rfl rfl; have c3 := M.out.cell (j := 3) (v := .int .i16 xs[k].loss) 0 rfl rfl)
        | (go_at_call 66; go_must (refine (within_any _ _ _ _).mono ?_); rintro e w_ ⟨rfl, rfl⟩; first | rw [H0.out] | rw [H1.out] | rw [H2.out] | rw [H3.out])
        )
      exact ⟨⟨k + 1, by omega, by go_num, pfine_succ HE.out HXK.out HFN.out, M.out.take 0⟩, by simp [intOf]; omega⟩
    · obtain rfl : k = xs.length := by omega
      have HFO := Lib.hid (plotsOk_of HE.out)
      by_cases h12 : xs.length ≤ 6
      · have h12i : ((xs.length : Int) ≤ 6) := by omega
        go_wp2
        go_ret
        exact ⟨ret_bool (by rw [HFO.out]; simp [h12]), M.out⟩
      · have h12i : ¬ ((xs.length : Int) ≤ 6) := by omega
        go_wp2
        go_ret
        exact ⟨ret_bool (by rw [HFO.out]; simp [h12]), M.out⟩
set_option maxRecDepth 100000 in
set_option maxHeartbeats 1000000 in
theorem l07Plot_any (x : Plot) (hx : x.ok) (w : World) :
    Calls Try.prog 139 #[.agg x.vals.toArray] w fun e w' => e = .returned (.bool x.fine) ∧ Mem w w' [] := by
  have M := Lib.hid (Mem.start w)
  obtain ⟨l0, u0⟩ := hx.seeds
  have e0 : IntKind.i64.wrap x.seeds = x.seeds := IntWalk.i64_in _ (by omega)
  obtain ⟨l1, u1⟩ := hx.ripe
  have e1 : IntKind.i64.wrap x.ripe = x.ripe := IntWalk.i64_in _ (by omega)
  obtain ⟨l2, u2⟩ := hx.keep
  have e2 : IntKind.i64.wrap x.keep = x.keep := IntWalk.i64_in _ (by omega)
  obtain ⟨l3, u3⟩ := hx.loss
  have e3 : IntKind.i64.wrap x.loss = x.loss := IntWalk.i64_in _ (by omega)
  cases q0 : inB x.seeds 0 1000 <;> cases q1 : inB x.ripe 0 20 <;> cases q2 : inB x.keep 0 20 <;> cases q3 : inB x.loss 0 1000 <;>
  · have H0 := Lib.hid q0
    have H1 := Lib.hid q1
    have H2 := Lib.hid q2
    have H3 := Lib.hid q3
    have HFN := Lib.hid (show x.fine = (inB x.seeds 0 1000 && (inB x.ripe 0 20 && (inB x.keep 0 20 && inB x.loss 0 1000))) from rfl)
    clear q0 q1 q2 q3
    go_enter Try.func139, Try.ntmps139
    go_wp2_with (first
      | ((with_reducible refine gate_dst (N := 1) rfl ?_); go_must (refine M.out.ev_new rfl (by first | (go_simp; done) | (go_simp; rfl)) ?_); intro g1 w1 m; simp only [List.nil_append] at m; have M := Lib.hid m; clear m; have c0 := M.out.cell (j := 0) (v := .int .i16 x.seeds) 0 rfl rfl; have c1 := M.out.cell (j := 1) (v := .int .i16 x.ripe) 0 rfl rfl; have c2 := M.out.cell (j := 2) (v := .int .i16 x.keep) 0 rfl rfl; have c3 := M.out.cell (j := 3) (v := .int .i16 x.loss) 0 rfl rfl)
      | (go_at_call 153; go_must (refine (l01Seeds_any _ _).mono ?_); rintro e w_ ⟨rfl, rfl⟩; first | rw [H0.out] | rw [H3.out])
      | (go_at_call 97; go_must (refine (l00In_any _ _ _ _).mono ?_); rintro e w_ ⟨rfl, rfl⟩; first | rw [H1.out] | rw [H2.out])
      )
    go_ret
    exact ⟨ret_bool (by rw [HFN.out, H0.out, H1.out, H2.out, H3.out]; rfl), M.out.take 0⟩
set_option maxRecDepth 100000 in
set_option maxHeartbeats 1000000 in
theorem l07Ok_any (A : Option Addr) (n : Nat) (xs : List Plot) (hx : ∀ x ∈ xs, x.ok) (hl : xs.length ≤ 1048576) (w : World) (hs : Sl w 4 A xs.length (flat Plot.vals xs)) :
    Calls Try.prog 116 #[.slice A xs.length n] w fun e w' => e = .returned (.bool (plotsOk xs)) ∧ Mem w w' [] := by
  have M := Lib.hid (Mem.start w)
  have HX := Lib.hid hx
  have HS := Lib.hid hs
  clear hx hs
  go_enter Try.func116, Try.ntmps116
  go_wp2
  go_loopw [3] (fun v wr => ∃ k : Nat, k ≤ xs.length ∧ v = .int .i64 k ∧ (∀ j, j < k → ∀ x, xs[j]? = some x → x.fine = true) ∧ Mem w wr [])
    (fun v _ => xs.length - (intOf v).toNat)
  case atStart => exact ⟨0, by omega, rfl, fun j hj => by omega, M.out⟩
  case round =>
    clear M
    obtain ⟨k, hk, rfl, he, m⟩ := hrel
    have M := Lib.hid m
    have HE := Lib.hid he
    clear m he
    by_cases hlt : k < xs.length
    · obtain ⟨b, off, rfl, hr⟩ := (M.out.sl HS.out).2 (by omega)
      have R := Lib.hid (range_at Plot.vl hr (List.getElem?_eq_getElem hlt))
      have HM := Lib.hid (List.getElem_mem hlt)
      have HXK := Lib.hid (List.getElem?_eq_getElem hlt)
      have HO := Lib.hid (HX.out xs[k] (List.getElem_mem hlt))
      have i0 : (0 : Int) ≤ (k : Int) := by omega
      have i1 : (k : Int) < (xs.length : Int) := by omega
      clear hr
      cases hf : xs[k].fine
      · have HFN := Lib.hid hf
        clear hf
        go_wp2_with (first
          | ((with_reducible refine gate_dst (N := 13) rfl ?_); go_must (refine ev_ldr _ _ rfl rfl (R.out) Try.underlying40 rfl (by first | exact sz40 | (rw [S1.out]; exact sz40)) rfl ?_))
          | (go_at_call 139; go_must (refine (l07Plot_any _ HO.out _).mono ?_); rintro e w_ ⟨rfl, N_⟩; have m := M.out.join N_; clear N_; simp only [List.cons_append, List.nil_append, List.append_nil] at m; have M := Lib.hid m; clear m; rw [HFN.out])
          )
        go_ret
        exact ⟨ret_bool (not_plotsOk HM.out HFN.out).symm, M.out⟩
      · have HFN := Lib.hid hf
        clear hf
        go_wp2_with (first
          | ((with_reducible refine gate_dst (N := 13) rfl ?_); go_must (refine ev_ldr _ _ rfl rfl (R.out) Try.underlying40 rfl (by first | exact sz40 | (rw [S1.out]; exact sz40)) rfl ?_))
          | (go_at_call 139; go_must (refine (l07Plot_any _ HO.out _).mono ?_); rintro e w_ ⟨rfl, N_⟩; have m := M.out.join N_; clear N_; simp only [List.cons_append, List.nil_append, List.append_nil] at m; have M := Lib.hid m; clear m; rw [HFN.out])
          )
        exact ⟨⟨k + 1, by omega, by go_num, pfine_succ HE.out HXK.out HFN.out, M.out⟩, by simp [intOf]; omega⟩
    · obtain rfl : k = xs.length := by omega
      have HFO := Lib.hid (plotsOk_of HE.out)
      by_cases h12 : xs.length ≤ 6
      · have h12i : ((xs.length : Int) ≤ 6) := by omega
        go_wp2
        go_ret
        exact ⟨ret_bool (by rw [HFO.out]; simp [h12]), M.out⟩
      · have h12i : ¬ ((xs.length : Int) ≤ 6) := by omega
        go_wp2
        go_ret
        exact ⟨ret_bool (by rw [HFO.out]; simp [h12]), M.out⟩
set_option maxRecDepth 100000 in
set_option maxHeartbeats 1000000 in
theorem worth_any (x : Plot) (hp : x.fine = true) (d : Int) (d0 : -1000 ≤ d) (d1 : d ≤ 1000) (w : World) :
    Calls Try.prog 60 #[.agg x.vals.toArray, .int .i64 d] w fun e w' => e = .returned (.int .i64 (x.worth d)) ∧ Mem w w' [] := by
  have M := Lib.hid (Mem.start w)
  obtain ⟨⟨a0, a1⟩, ⟨b0, b1⟩, ⟨k0, k1⟩, ⟨l0, l1⟩⟩ := Plot.fine_iff.1 hp
  have e0 : IntKind.i64.wrap x.seeds = x.seeds := IntWalk.i64_in _ (by omega)
  have e1 : IntKind.i64.wrap x.ripe = x.ripe := IntWalk.i64_in _ (by omega)
  have e2 : IntKind.i64.wrap x.keep = x.keep := IntWalk.i64_in _ (by omega)
  have e3 : IntKind.i64.wrap x.loss = x.loss := IntWalk.i64_in _ (by omega)
  have HW := Lib.hid (show x.worth d = if inB (d - x.ripe) 0 x.keep = true then max 0 (x.seeds - x.loss * (d - x.ripe)) else 0 from rfl)
  obtain ⟨l, hl⟩ : ∃ l, l = d - x.ripe := ⟨_, rfl⟩
  have f0 : d - x.ripe = l := hl.symm
  rw [← hl] at HW
  have f1 : IntKind.i64.wrap l = l := IntWalk.i64_in _ (by omega)
  cases hq : inB l 0 x.keep
  · have HQ := Lib.hid hq
    clear hq hp hl
    go_enter Try.func60, Try.ntmps60
    go_wp2_with (first
      | ((with_reducible refine gate_dst (N := 2) rfl ?_); go_must (refine M.out.ev_new rfl (by first | (go_simp; done) | (go_simp; rfl)) ?_); intro g2 w2 m; simp only [List.nil_append] at m; have M := Lib.hid m; clear m; have c0 := M.out.cell (j := 0) (v := .int .i16 x.seeds) 0 rfl rfl; have c1 := M.out.cell (j := 1) (v := .int .i16 x.ripe) 0 rfl rfl; have c2 := M.out.cell (j := 2) (v := .int .i16 x.keep) 0 rfl rfl; have c3 := M.out.cell (j := 3) (v := .int .i16 x.loss) 0 rfl rfl)
      | (go_at_call 66; go_must (refine (within_any _ _ _ _).mono ?_); rintro e w_ ⟨rfl, rfl⟩; rw [HQ.out])
      )
    go_ret
    exact ⟨ret_int (by rw [HW.out, HQ.out]; rfl), M.out.take 0⟩
  · have HQ := Lib.hid hq
    obtain ⟨q0, q1⟩ := inB_iff.1 hq
    have m0 := Int.mul_nonneg l0 q0
    have m1 := Int.mul_le_mul l1 (by omega : l ≤ 20) q0 (by omega : (0 : Int) ≤ 1000)
    obtain ⟨P, hP⟩ : ∃ P, P = x.loss * l := ⟨_, rfl⟩
    have f2 : x.loss * l = P := hP.symm
    rw [f2] at HW m0 m1
    have f3 : IntKind.i64.wrap P = P := IntWalk.i64_in _ (by omega)
    have f4 : IntKind.i64.wrap (x.seeds - P) = x.seeds - P := IntWalk.i64_in _ (by omega)
    have HW2 := Lib.hid (show x.worth d = max 0 (x.seeds - P) by rw [HW.out, hq, if_pos rfl])
    clear hq hp hl hP
    rcases Int.lt_trichotomy 0 (x.seeds - P) with h | h | h
    all_goals
      have HH := Lib.hid h
      clear h
      try (have h1 : 0 < x.seeds - P := by have := HH.out; omega)
      try (have h2 : ¬ (0 < x.seeds - P) := by have := HH.out; omega)
      try (have h3 : ¬ (x.seeds - P < 0) := by have := HH.out; omega)
      try (have h5 : x.seeds - P < 0 := by have := HH.out; omega)
      try (have h4 : x.seeds - P = 0 := by have := HH.out; omega)
      go_enter Try.func60, Try.ntmps60
      go_wp2_with (first
        | ((with_reducible refine gate_dst (N := 2) rfl ?_); go_must (refine M.out.ev_new rfl (by first | (go_simp; done) | (go_simp; rfl)) ?_); intro g2 w2 m; simp only [List.nil_append] at m; have M := Lib.hid m; clear m; have c0 := M.out.cell (j := 0) (v := .int .i16 x.seeds) 0 rfl rfl; have c1 := M.out.cell (j := 1) (v := .int .i16 x.ripe) 0 rfl rfl; have c2 := M.out.cell (j := 2) (v := .int .i16 x.keep) 0 rfl rfl; have c3 := M.out.cell (j := 3) (v := .int .i16 x.loss) 0 rfl rfl)
        | (go_at_call 66; go_must (refine (within_any _ _ _ _).mono ?_); rintro e w_ ⟨rfl, rfl⟩; rw [HQ.out])
        )
      go_ret
      exact ⟨ret_int (by have := HH.out; have h9 := HW2.out; omega), M.out.take 0⟩
set_option maxRecDepth 100000 in
set_option maxHeartbeats 400000 in
theorem l00MaxP_any (a b : Int) (w : World) :
    Calls Try.prog 115 #[.int .i64 a, .int .i64 b] w fun e w' => e = .returned (.int .i64 (max a b)) ∧ w = w' := by
  by_cases h : b < a
  · go_enter Try.func115, Try.ntmps115
    go_wp2
    go_ret
    exact ⟨ret_int (by omega), rfl⟩
  · go_enter Try.func115, Try.ntmps115
    go_wp2
    go_ret
    exact ⟨ret_int (by omega), rfl⟩
set_option maxRecDepth 100000 in
set_option maxHeartbeats 1000000 in
theorem l07Worth_any (x : Plot) (hp : x.fine = true) (d : Int) (d0 : -1000 ≤ d) (d1 : d ≤ 1000) (w : World) :
    Calls Try.prog 63 #[.agg x.vals.toArray, .int .i64 d] w fun e w' => e = .returned (.int .i64 (x.worth d)) ∧ Mem w w' [] := by
  have M := Lib.hid (Mem.start w)
  obtain ⟨⟨a0, a1⟩, ⟨b0, b1⟩, ⟨k0, k1⟩, ⟨l0, l1⟩⟩ := Plot.fine_iff.1 hp
  have e0 : IntKind.i64.wrap x.seeds = x.seeds := IntWalk.i64_in _ (by omega)
  have e1 : IntKind.i64.wrap x.ripe = x.ripe := IntWalk.i64_in _ (by omega)
  have e2 : IntKind.i64.wrap x.keep = x.keep := IntWalk.i64_in _ (by omega)
  have e3 : IntKind.i64.wrap x.loss = x.loss := IntWalk.i64_in _ (by omega)
  have HW := Lib.hid (show x.worth d = if inB (d - x.ripe) 0 x.keep = true then max 0 (x.seeds - x.loss * (d - x.ripe)) else 0 from rfl)
  obtain ⟨l, hl⟩ : ∃ l, l = d - x.ripe := ⟨_, rfl⟩
  have f0 : d - x.ripe = l := hl.symm
  rw [← hl] at HW
  have f1 : IntKind.i64.wrap l = l := IntWalk.i64_in _ (by omega)
  cases hq : inB l 0 x.keep
  · have HQ := Lib.hid hq
    clear hq hp hl
    go_enter Try.func63, Try.ntmps63
    go_wp2_with (first
      | ((with_reducible refine gate_dst (N := 2) rfl ?_); go_must (refine M.out.ev_new rfl (by first | (go_simp; done) | (go_simp; rfl)) ?_); intro g2 w2 m; simp only [List.nil_append] at m; have M := Lib.hid m; clear m; have c0 := M.out.cell (j := 0) (v := .int .i16 x.seeds) 0 rfl rfl; have c1 := M.out.cell (j := 1) (v := .int .i16 x.ripe) 0 rfl rfl; have c2 := M.out.cell (j := 2) (v := .int .i16 x.keep) 0 rfl rfl; have c3 := M.out.cell (j := 3) (v := .int .i16 x.loss) 0 rfl rfl)
      | (go_at_call 97; go_must (refine (l00In_any _ _ _ _).mono ?_); rintro e w_ ⟨rfl, rfl⟩; rw [HQ.out])
      )
    go_ret
    exact ⟨ret_int (by rw [HW.out, HQ.out]; rfl), M.out.take 0⟩
  · have HQ := Lib.hid hq
    obtain ⟨q0, q1⟩ := inB_iff.1 hq
    have m0 := Int.mul_nonneg l0 q0
    have m1 := Int.mul_le_mul l1 (by omega : l ≤ 20) q0 (by omega : (0 : Int) ≤ 1000)
    obtain ⟨P, hP⟩ : ∃ P, P = x.loss * l := ⟨_, rfl⟩
    have f2 : x.loss * l = P := hP.symm
    rw [f2] at HW m0 m1
    have f3 : IntKind.i64.wrap P = P := IntWalk.i64_in _ (by omega)
    have f4 : IntKind.i64.wrap (x.seeds - P) = x.seeds - P := IntWalk.i64_in _ (by omega)
    have HW2 := Lib.hid (show x.worth d = max 0 (x.seeds - P) by rw [HW.out, hq, if_pos rfl])
    clear hq hp hl hP
    rcases Int.lt_trichotomy 0 (x.seeds - P) with h | h | h
    all_goals
      have HH := Lib.hid h
      clear h
      try (have h1 : 0 < x.seeds - P := by have := HH.out; omega)
      try (have h2 : ¬ (0 < x.seeds - P) := by have := HH.out; omega)
      try (have h3 : ¬ (x.seeds - P < 0) := by have := HH.out; omega)
      try (have h5 : x.seeds - P < 0 := by have := HH.out; omega)
      try (have h4 : x.seeds - P = 0 := by have := HH.out; omega)
      go_enter Try.func63, Try.ntmps63
      go_wp2_with (first
        | ((with_reducible refine gate_dst (N := 2) rfl ?_); go_must (refine M.out.ev_new rfl (by first | (go_simp; done) | (go_simp; rfl)) ?_); intro g2 w2 m; simp only [List.nil_append] at m; have M := Lib.hid m; clear m; have c0 := M.out.cell (j := 0) (v := .int .i16 x.seeds) 0 rfl rfl; have c1 := M.out.cell (j := 1) (v := .int .i16 x.ripe) 0 rfl rfl; have c2 := M.out.cell (j := 2) (v := .int .i16 x.keep) 0 rfl rfl; have c3 := M.out.cell (j := 3) (v := .int .i16 x.loss) 0 rfl rfl)
        | (go_at_call 97; go_must (refine (l00In_any _ _ _ _).mono ?_); rintro e w_ ⟨rfl, rfl⟩; rw [HQ.out])
        | (go_at_call 115; go_must (refine (l00MaxP_any _ _ _).mono ?_); rintro e w_ ⟨rfl, rfl⟩)
        )
      go_ret
      exact ⟨ret_int (by have := HH.out; have h9 := HW2.out; omega), M.out.take 0⟩
end Go.Proofs.Ytdnofkngljjbmaa
namespace Go.Proofs.Ytdnofkngljjbmaa
set_option linter.unusedSimpArgs false
set_option linter.unusedVariables false
open Go.RowKit
attribute [local go_sem] cell?_mk frozen?_mk

theorem elem_int64 : ElemOk Try.prog 27 2 (.int .i64 0) 1 8 := ⟨by kernel_rfl, by kernel_rfl, by kernel_rfl, by decide⟩
def nat64 (k : Nat) : Value := .int .i64 k
def one64 (k : Nat) : List Value := [nat64 k]
theorem flat_one64 (ks : List Nat) : flat one64 ks = ks.map nat64 := by
  induction ks with
  | nil => rfl
  | cons k r ih => show one64 k ++ flat one64 r = _; rw [ih]; rfl
theorem one64_len (k : Nat) : (one64 k).length = 1 := rfl
/-- The cells of a field below a number. -/
def Fld.below (F : Fld) (n : Nat) : List Nat := (List.range n).filter fun (k : Nat) => F.has k
def Fld.all (F : Fld) : List Nat := F.below 100
theorem Fld.below_succ (F : Fld) (n : Nat) : F.below (n + 1) = F.below n ++ if F.has n then [n] else [] := by
  simp only [Fld.below, List.range_succ, List.filter_append]
  congr 1
  cases h : F.has n <;> simp [h]
theorem Fld.below_len (F : Fld) (n : Nat) : (F.below n).length ≤ n := by
  have := List.length_filter_le (fun (k : Nat) => F.has k) (List.range n)
  rwa [List.length_range] at this
theorem Fld.all_has {F : Fld} {k : Nat} (h : k ∈ F.all) : k < 100 ∧ F.has k = true := by
  simpa [Fld.all, Fld.below] using h

set_option maxRecDepth 100000 in
set_option maxHeartbeats 1000000 in
theorem cells_any (g : Nat) {t : TypeId} (F : Fld) (hF : F.ok) (w : World) (hb : Blk w g t F.cells) :
    Calls Try.prog 155 #[.pointer (some ⟨g, 0, none⟩)] w (RetRow w 2 1 F.all.length (flat one64 F.all)) := by
  have M := Lib.hid (Mem.start w)
  have HB := Lib.hid hb
  have HF := Lib.hid hF
  clear hb hF
  go_enter Try.func155, Try.ntmps155
  go_wp2_with (first
    | ((with_reducible refine gate_dst (N := 5) rfl ?_); go_must (refine M.out.ev_bs0 elem_int64 rfl rfl ?_); intro g5 w5 m; simp only [List.nil_append] at m; have M := Lib.hid m; clear m)
    )
  go_loopw [3, 6] (fun s v wr => ∃ k : Nat, k ≤ 100 ∧ v = .int .i64 k ∧ Mem w wr [.row s 2 1 (F.below k).length (flat one64 (F.below k))])
    (fun _ v _ => 100 - (intOf v).toNat)
  case atStart => exact ⟨0, by omega, rfl, M.out⟩
  case round =>
    clear M
    obtain ⟨k, hk, rfl, m⟩ := hrel
    have M := Lib.hid m
    clear m
    by_cases hlt : k < 100
    · have hkl := F.below_len k
      cases hq : F.has k
      · have HQ := Lib.hid hq
        clear hq
        go_wp2_with (first
          | (go_at_call 102; go_must (refine (has_any g F HF.out _ _ (M.out.arg HB.out)).mono ?_); rintro e w_ ⟨rfl, rfl⟩; rw [HQ.out])
          )
        refine ⟨⟨k + 1, by omega, by go_num, ?_⟩, by simp [intOf]; omega⟩
        rw [F.below_succ, HQ.out]
        simpa using M.out
      · have HQ := Lib.hid hq
        clear hq
        go_wp2_with (first
          | (go_at_call 102; go_must (refine (has_any g F HF.out _ _ (M.out.arg HB.out)).mono ?_); rintro e w_ ⟨rfl, rfl⟩; rw [HQ.out])
          | ((with_reducible refine gate_dst (N := 14) rfl ?_); go_must (refine M.out.ev_bs1 elem_int64 rfl _ rfl #[.int .i64 k] rfl rfl (by decide) ?_); intro g14 w14 m; simp only [List.cons_append, List.nil_append] at m; have M := Lib.hid m; clear m)
          | ((with_reducible refine gate_dst (N := 15) rfl ?_); go_must (refine M.out.ev_append1 0 1 elem_int64 rfl _ _ rfl rfl rfl rfl rfl rfl (by simp [Value.oneCell']) (by omega) (by decide) ?_); intro v15 w15 m; simp only [List.set_cons_zero] at m; have M := Lib.hid m; clear m)
          )
        refine ⟨⟨k + 1, by omega, by go_num, ?_⟩, by simp [intOf]; omega⟩
        have m := M.out.take 1
        rw [F.below_succ, HQ.out]
        simpa [flat_append, flat, one64, nat64] using m
    · obtain rfl : k = 100 := by omega
      go_wp2
      have hrow := M.out.row_slice 0 rfl
      obtain ⟨A, c, rfl, hc, _⟩ := hrow
      go_ret
      exact ⟨A, c, rfl, hc, M.out⟩
end Go.Proofs.Ytdnofkngljjbmaa
