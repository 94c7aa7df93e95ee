/- Plans of harvest: whether they are as they must be; the walks of both. -/
import Derived.Test.YtkodcfnofjkohaaPlots
import Derived.Test.YtkodcfnofjkohaaEqI
namespace Go.Proofs.Ytkodcfnofjkohaa
set_option linter.unusedSimpArgs false
set_option linter.unusedVariables false
open Go.RowKit
attribute [local go_sem] cell?_mk frozen?_mk

def cntOf (p : List Int) (d : Nat) : Int := ((p.count (d : Int) : Nat) : Int)
def counts (p : List Int) : List Int := (List.range 20).map (cntOf p)
def planIn (p : List Int) : Bool := p.all fun d => inB d (-1) 19
def planFit (p : List Int) (h : Int) : Bool := (List.range 20).all fun d => decide (cntOf p d ≤ h)
def planOk (xs : List Plot) (h : Int) (p : List Int) : Bool := plotsOk xs && (inB h 1 3 && (decide (p.length = xs.length) && (planIn p && planFit p h)))
theorem cntOf_snoc (q : List Int) (x : Int) (d : Nat) : cntOf (q ++ [x]) d = cntOf q d + if x = d then 1 else 0 := by
  unfold cntOf
  rw [List.count_append, List.count_singleton]
  by_cases h : x = d
  · simp [h]
  · simp [h]
theorem cntOf_b (q : List Int) (d : Nat) : 0 ≤ cntOf q d ∧ cntOf q d ≤ q.length := by
  have := List.count_le_length (a := (d : Int)) (l := q)
  unfold cntOf
  omega
theorem cntOf_take (p : List Int) (n d : Nat) : cntOf (p.take n) d ≤ cntOf p d := by
  have := (List.take_sublist n p).count_le (d : Int)
  unfold cntOf
  omega
theorem counts_len (p : List Int) : (counts p).length = 20 := by simp [counts]
theorem counts_gi (p : List Int) {d : Nat} (h : d < 20) : gi (counts p) d = cntOf p d := by
  unfold gi
  rw [List.getD_eq_getElem?_getD]
  simp [counts, h]
theorem counts_neg {q : List Int} {x : Int} (h : x < 0) : counts (q ++ [x]) = counts q := by
  unfold counts
  refine List.map_congr_left fun d _ => ?_
  rw [cntOf_snoc, if_neg (by omega), Int.add_zero]
theorem counts_put {q : List Int} {d : Nat} (h : d < 20) : counts (q ++ [(d : Int)]) = (counts q).set d (cntOf q d + 1) := by
  refine List.ext_getElem (by simp [counts]) fun i h1 h2 => ?_
  rw [List.getElem_set]
  simp only [counts, List.getElem_map, List.getElem_range]
  rw [cntOf_snoc]
  by_cases hi : d = i
  · subst hi; simp
  · rw [if_neg hi, if_neg (by omega), Int.add_zero]
def maxL : List Int → Int
  | [] => 0
  | x :: r => r.foldl max x
theorem maxL_snoc {q : List Int} (h : 0 < q.length) (y : Int) : maxL (q ++ [y]) = max (maxL q) y := by
  cases q with
  | nil => simp at h
  | cons x r => simp [maxL]
theorem maxL_le {q : List Int} (h : 0 < q.length) (b : Int) : maxL q ≤ b ↔ ∀ x ∈ q, x ≤ b := by
  cases q with
  | nil => simp at h
  | cons x r =>
    have key : ∀ (r : List Int) (x : Int), r.foldl max x ≤ b ↔ x ≤ b ∧ ∀ y ∈ r, y ≤ b := by
      intro r
      induction r with
      | nil => intro x; simp
      | cons z r ih =>
        intro x
        rw [List.foldl_cons, ih]
        simp only [List.mem_cons, forall_eq_or_imp]
        constructor
        · intro hh; exact ⟨by omega, by omega, hh.2⟩
        · intro hh; exact ⟨by omega, hh.2.2⟩
    show r.foldl max x ≤ b ↔ _
    rw [key]
    simp
theorem planFit_max (p : List Int) (h : Int) : planFit p h = decide (maxL (counts p) ≤ h) := by
  rw [Bool.eq_iff_iff, decide_eq_true_eq, maxL_le (by rw [counts_len]; omega)]
  simp [planFit, counts]
theorem planFit_of {p : List Int} {h : Int} (H : ∀ d, d < 20 → cntOf p d ≤ h) : planFit p h = true := by
  simpa [planFit] using H
theorem not_planFit {p : List Int} {h : Int} {d : Nat} (h1 : d < 20) (h2 : h < cntOf p d) : planFit p h = false := by
  rw [← Bool.not_eq_true]
  intro hh
  simp only [planFit, List.all_eq_true, List.mem_range, decide_eq_true_eq] at hh
  have := hh d h1
  omega
theorem planIn_of {p : List Int} (h : ∀ x ∈ p, inB x (-1) 19 = true) : planIn p = true := by simpa [planIn] using h
theorem not_planIn {p : List Int} {x : Int} (hx : x ∈ p) (h : inB x (-1) 19 = false) : planIn p = false := by
  rw [← Bool.not_eq_true]
  intro hh
  simp only [planIn, List.all_eq_true] at hh
  rw [hh x hx] at h
  cases h
theorem in_succ {p : List Int} {k : Nat} (hk : k < p.length) (h : ∀ x ∈ p.take k, inB x (-1) 19 = true) (hx : inB p[k] (-1) 19 = true) : ∀ x ∈ p.take (k + 1), inB x (-1) 19 = true := by
  intro x hm
  rw [List.take_succ_eq_append_getElem hk] at hm
  rcases List.mem_append.1 hm with hm | hm
  · exact h x hm
  · rw [List.mem_singleton.1 hm]; exact hx
set_option maxRecDepth 100000 in
set_option maxHeartbeats 1000000 in
theorem maxS_any (A : Option Addr) (c : Nat) (xs : List Int) (h0 : 0 < xs.length) (h1 : xs.length ≤ 1048576) (w : World) (hs : Sl w 1 A xs.length (flat oneI xs)) :
    Calls Try.prog 77 #[.slice A xs.length c] w fun e w' => e = .returned (.int .i64 (maxL xs)) ∧ w = w' := by
  have HS := Lib.hid hs
  obtain ⟨b, off, rfl, hr⟩ := hs.2 h0
  have x0 : w.cell? ⟨b, off, none⟩ = some (.int .i64 xs[0]) := by simpa [oneI] using range_at oneI_len hr (List.getElem?_eq_getElem h0) 0 _ rfl
  have i0 : ¬ ((xs.length : Int) < 1) := by omega
  have i1 : (0 : Int) < (xs.length : Int) := by omega
  have HR := Lib.hid hr
  clear hs hr
  go_enter Try.func77, Try.ntmps77
  go_wp2
  go_loop [3, 4] (fun m v => ∃ k : Nat, 1 ≤ k ∧ k ≤ xs.length ∧ v = .int .i64 k ∧ m = .int .i64 (maxL (xs.take k)))
    (fun _ v => xs.length - (intOf v).toNat)
  case atStart => exact ⟨1, by omega, by omega, rfl, by rw [List.take_succ_eq_append_getElem h0]; rfl⟩
  case round =>
    obtain ⟨k, k1, hk, rfl, rfl⟩ := hrel
    by_cases hlt : k < xs.length
    · have y0 : w.cell? ⟨b, off + k, none⟩ = some (.int .i64 xs[k]) := by simpa [oneI] using range_at oneI_len HR.out (List.getElem?_eq_getElem hlt) 0 _ rfl
      have HT := Lib.hid (show maxL (xs.take (k + 1)) = max (maxL (xs.take k)) xs[k] by rw [List.take_succ_eq_append_getElem hlt, maxL_snoc (by rw [List.length_take]; omega)])
      have j0 : (0 : Int) ≤ (k : Int) := by omega
      have j1 : (k : Int) < (xs.length : Int) := by omega
      obtain ⟨m, hm⟩ : ∃ m, m = maxL (xs.take k) := ⟨_, rfl⟩
      obtain ⟨y, hy⟩ : ∃ y, y = xs[k] := ⟨_, rfl⟩
      rw [← hm] at HT
      rw [← hy] at HT y0
      rw [← hm]
      clear hm hy
      rcases Int.lt_trichotomy m y with h | h | h
      · have HH := Lib.hid h
        go_wp2
        refine ⟨⟨k + 1, by omega, by omega, by go_num, ?_⟩, by simp [intOf]; omega⟩
        rw [HT.out]
        congr 1
        have := HH.out
        omega
      · subst h
        go_wp2
        refine ⟨⟨k + 1, by omega, by omega, by go_num, ?_⟩, by simp [intOf]; omega⟩
        rw [HT.out]
        congr 1
        omega
      · have HH := Lib.hid h
        have h2 : ¬ (m < y) := by omega
        go_wp2
        refine ⟨⟨k + 1, by omega, by omega, by go_num, ?_⟩, by simp [intOf]; omega⟩
        rw [HT.out]
        congr 1
        have := HH.out
        omega
    · obtain rfl : k = xs.length := by omega
      rw [List.take_length]
      go_wp2
      go_ret
      exact ⟨rfl, rfl⟩
set_option maxRecDepth 100000 in
set_option maxHeartbeats 1000000 in
theorem areHands_any (n : Int) (w : World) :
    Calls Try.prog 43 #[.int .i64 n] w fun e w' => e = .returned (.bool (inB n 1 3)) ∧ w = w' := by
  go_enter Try.func43, Try.ntmps43
  go_wp2_with (first
    | (go_at_call 56; go_must (refine (within_any _ _ _ _).mono ?_); rintro e w_ ⟨rfl, rfl⟩)
    )
  go_ret
  exact ⟨rfl, rfl⟩
set_option maxRecDepth 100000 in
set_option maxHeartbeats 1000000 in
theorem l07Hands_any (n : Int) (w : World) :
    Calls Try.prog 78 #[.int .i64 n] w fun e w' => e = .returned (.bool (inB n 1 3)) ∧ w = w' := by
  go_enter Try.func78, Try.ntmps78
  go_wp2_with (first
    | (go_at_call 46; go_must (refine (l00In_any _ _ _ _).mono ?_); rintro e w_ ⟨rfl, rfl⟩)
    )
  go_ret
  exact ⟨rfl, rfl⟩
end Go.Proofs.Ytkodcfnofjkohaa
