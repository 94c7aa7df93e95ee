/- How many days all targets stay safe: the walks of both. -/
import Derived.Test.YteecfclccfhdhaaAims
namespace Go.Proofs.Yteecfclccfhdhaa
set_option linter.unusedSimpArgs false
set_option linter.unusedVariables false
open Go.RowKit
attribute [local go_sem] cell?_mk frozen?_mk

def leastDays (xs : List Scarecrow) (least : Int) (ks : List Nat) : Int := ks.foldl (fun (d : Int) (k : Nat) => min d (daysOf xs k least)) 1000
theorem leastDays_snoc (xs : List Scarecrow) (least : Int) (ks : List Nat) (k : Nat) : leastDays xs least (ks ++ [k]) = min (leastDays xs least ks) (daysOf xs k least) := by simp [leastDays]
theorem leastDays_small (xs : List Scarecrow) (least : Int) (ks : List Nat) : 0 ≤ leastDays xs least ks ∧ leastDays xs least ks ≤ 1000 := by
  have key : ∀ (ks : List Nat) (d : Int), 0 ≤ d ∧ d ≤ 1000 → 0 ≤ ks.foldl (fun (d : Int) (k : Nat) => min d (daysOf xs k least)) d ∧ ks.foldl (fun (d : Int) (k : Nat) => min d (daysOf xs k least)) d ≤ 1000 := by
    intro ks
    induction ks with
    | nil => intro d h; exact h
    | cons k r ih => intro d h; exact ih _ (by show 0 ≤ min d (daysOf xs k least : Int) ∧ min d (daysOf xs k least : Int) ≤ 1000; omega)
  exact key ks 1000 (by omega)
def longRes (F : Fld) (xs : List Scarecrow) (c : Cs) (least : Int) : Int × Int := if safeCode F xs least = 0 then (leastDays xs least (aims F c 100), 0) else (0, safeCode F xs least)
set_option maxRecDepth 100000 in
set_option maxHeartbeats 2000000 in
theorem impl_LongestSafe_any (F : Fld) (hF : F.ok) (A : Option Addr) (n : Nat) (xs : List Scarecrow) (hx : ∀ x ∈ xs, x.ok) (hl : xs.length ≤ 1048576) (hc : xs.length ≤ n) (hn : n ≤ 9223372036854775807) (hA : A = none → n = 0) (c : Cs) (hcs : c.ok) (least : Int) (w : World) (hs : Sl w 3 A xs.length (flat Scarecrow.vals xs)) :
    Calls Try.prog 49 #[.agg F.cells, .slice A xs.length n, .agg c.cells, .int .i64 least] w fun e w' =>
      e = .returned (.tuple #[.int .i64 (longRes F xs c least).1, .int .i64 (longRes F xs c least).2]) ∧ Mem w w' [] := by
  have M := Lib.hid (Mem.start w)
  have HX := Lib.hid hx
  have HS := Lib.hid hs
  have HF := Lib.hid hF
  have S1 := Lib.hid (Fld.size hF.toLen)
  have hm : xs.length ≤ 9223372036854775807 := by omega
  have HSC := Lib.hid (show scCode F xs (inB least 1 1000) = safeCode F xs least from rfl)
  clear hx hs hF
  by_cases hd : safeCode F xs least = 0
  · obtain ⟨h1, h2, h3⟩ := scCode_0 hd
    have HP := Lib.hid (scOk_plain h2)
    obtain ⟨l0, l1⟩ := inB_iff.1 h3
    have HD := Lib.hid hd
    have hdd : (safeCode F xs least != 0) = false := by simp [hd]
    clear h1 h2 h3 hd
    go_enter Try.func49, Try.ntmps49
    go_wp2_with (first
      | ((with_reducible refine gate_dst (N := 4) rfl ?_); go_must (refine M.out.ev_new rfl (by first | (go_simp; done) | (go_simp; rfl)) ?_); intro g4 w4 m; simp only [List.cons_append, List.nil_append] at m; have M := Lib.hid m; clear m)
      | ((with_reducible refine gate_dst (N := 6) rfl ?_); go_must (refine M.out.ev_new rfl (by first | (go_simp; done) | (go_simp; rfl)) ?_); intro g6 w6 m; simp only [List.cons_append, List.nil_append] at m; have M := Lib.hid m; clear m)
      | ((with_reducible refine gate_dst (N := 7) rfl ?_); go_must (refine M.out.ev_new rfl (by first | (go_simp; done) | (go_simp; rfl)) ?_); intro g7 w7 m; simp only [List.cons_append, List.nil_append] at m; have M := Lib.hid m; clear m)
      | ((with_reducible refine gate_dst (N := 20) rfl ?_); go_must (refine M.out.ev_ldw 1 _ _ rfl rfl rfl Try.underlying50 rfl (by first | exact sz50 | (rw [S1.out]; exact sz50) | (rw [S2.out]; exact sz50) | (rw [S3.out]; exact sz50)) rfl ?_))
      | ((with_reducible refine gate_dst (N := 31) rfl ?_); go_must (refine M.out.ev_ld 2 _ _ rfl rfl rfl Try.underlying2 rfl rfl (by first | assumption | rfl) ?_))
      | (go_at_call 63; go_must (refine (scaresCode_any _ F HF.out A n xs HX.out hc hn 102 _ (inB least 1 1000) _ (M.out.blk 0 rfl) (M.out.sl HS.out) (fun _ _ => by go_simp) (fun _ w1 m1 => longestPower_any _ least w1 ((M.out.join m1).blk 2 rfl))).mono ?_); rintro e w_ ⟨rfl, N_⟩; have m := M.out.join N_; clear N_; simp only [List.cons_append, List.nil_append, List.append_nil] at m; have M := Lib.hid m; clear m; rw [HSC.out])
      | (go_at_call 104; go_must (refine (soilOf_any _ F HF.out c hcs _ (M.out.blk 0 rfl)).mono ?_); rintro e w_ ⟨rfl, N_⟩; have m := M.out.join N_; clear N_; simp only [List.cons_append, List.nil_append, List.append_nil] at m; have M := Lib.hid m; clear m)
      | (go_at_call 103; go_must (refine (ListOf_any _ (Cs.both_ok hcs) _).mono ?_); rw [aims_eq]; rintro e w_ ⟨A_, c_, rfl, hc_, N_⟩; have m := M.out.join N_; clear N_; simp only [List.cons_append, List.nil_append, List.append_nil] at m; have M := Lib.hid m; clear m)
      )
    go_loopw [11, 24] (fun u v wr => ∃ k : Nat, k ≤ (aims F c 100).length ∧ v = .int .i64 k ∧ u = .int .i64 (leastDays xs least ((aims F c 100).take k)) ∧ Mem w wr [.blk g4 32 F.cells, .blk g6 50 c.cells, .blk g7 2 #[.int .i64 least], .row (.slice A_ (aims F c 100).length c_) 2 1 (aims F c 100).length (flat one64 (aims F c 100))])
      (fun _ v _ => (aims F c 100).length - (intOf v).toNat)
    case atStart => exact ⟨0, by omega, rfl, rfl, M.out⟩
    case round =>
      clear M
      obtain ⟨k, hk, rfl, rfl, m⟩ := hrel
      have M := Lib.hid m
      clear m
      have hal := aims_len F c 100
      by_cases hlt : k < (aims F c 100).length
      · obtain ⟨b, off, hbo, hr⟩ := (M.out.slof 3 rfl).2 (by omega)
        subst hbo
        have hxk : (aims F c 100)[k]? = some (aims F c 100)[k] := List.getElem?_eq_getElem hlt
        have hmem := (aims_lt (List.getElem_mem hlt)).1
        obtain ⟨j, hj⟩ : ∃ j, j = (aims F c 100)[k] := ⟨_, rfl⟩
        have R := range_at one64_len hr hxk
        have HT := Lib.hid (show (aims F c 100).take (k + 1) = (aims F c 100).take k ++ [j] by rw [List.take_succ_eq_append_getElem hlt, hj])
        rw [← hj] at R hmem
        have x0 : wr.cell? ⟨b, off + k, none⟩ = some (.int .i64 j) := by
          have := R 0 _ rfl
          simpa [nat64] using this
        have i0 : (0 : Int) ≤ (j : Int) := by omega
        clear hr hxk R hj
        obtain ⟨D, hD⟩ : ∃ D, D = leastDays xs least ((aims F c 100).take k) := ⟨_, rfl⟩
        have HDD := Lib.hid hD
        rw [← hD]
        clear hD
        rcases Int.lt_trichotomy D (daysOf xs j least) with h | h | h <;>
        · go_wp2_with (first
            | ((with_reducible refine gate_dst (N := 4) rfl ?_); go_must (refine M.out.ev_new rfl (by first | (go_simp; done) | (go_simp; rfl)) ?_); intro g4 w4 m; simp only [List.cons_append, List.nil_append] at m; have M := Lib.hid m; clear m)
            | ((with_reducible refine gate_dst (N := 6) rfl ?_); go_must (refine M.out.ev_new rfl (by first | (go_simp; done) | (go_simp; rfl)) ?_); intro g6 w6 m; simp only [List.cons_append, List.nil_append] at m; have M := Lib.hid m; clear m)
            | ((with_reducible refine gate_dst (N := 7) rfl ?_); go_must (refine M.out.ev_new rfl (by first | (go_simp; done) | (go_simp; rfl)) ?_); intro g7 w7 m; simp only [List.cons_append, List.nil_append] at m; have M := Lib.hid m; clear m)
            | ((with_reducible refine gate_dst (N := 20) rfl ?_); go_must (refine M.out.ev_ldw 1 _ _ rfl rfl rfl Try.underlying50 rfl (by first | exact sz50 | (rw [S1.out]; exact sz50) | (rw [S2.out]; exact sz50) | (rw [S3.out]; exact sz50)) rfl ?_))
            | ((with_reducible refine gate_dst (N := 31) rfl ?_); go_must (refine M.out.ev_ld 2 _ _ rfl rfl rfl Try.underlying2 rfl rfl (by first | assumption | rfl) ?_))
            | (go_at_call 85; go_must (refine (daysSafe_any A n xs HP.out hl hc hA j least i0 (by omega) l0 _ (M.out.sl HS.out)).mono ?_); rintro e w_ ⟨rfl, N_⟩; have m := M.out.join N_; clear N_; simp only [List.cons_append, List.nil_append, List.append_nil] at m; have M := Lib.hid m; clear m)
            )
          refine ⟨⟨k + 1, by omega, by go_num, ?_, M.out⟩, by simp [intOf]; omega⟩
          rw [HT.out, leastDays_snoc, ← HDD.out]
          first | (congr 1; done) | (congr 1; omega)
      · obtain rfl : k = (aims F c 100).length := by omega
        rw [List.take_length]
        go_wp2
        go_ret2
        refine ⟨?_, M.out.take 0⟩
        simp only [longRes, HD.out]
        rfl
  · have HD := Lib.hid hd
    have hdd : (safeCode F xs least != 0) = true := by simp [hd]
    clear hd
    go_enter Try.func49, Try.ntmps49
    go_wp2_with (first
      | ((with_reducible refine gate_dst (N := 4) rfl ?_); go_must (refine M.out.ev_new rfl (by first | (go_simp; done) | (go_simp; rfl)) ?_); intro g4 w4 m; simp only [List.cons_append, List.nil_append] at m; have M := Lib.hid m; clear m)
      | ((with_reducible refine gate_dst (N := 6) rfl ?_); go_must (refine M.out.ev_new rfl (by first | (go_simp; done) | (go_simp; rfl)) ?_); intro g6 w6 m; simp only [List.cons_append, List.nil_append] at m; have M := Lib.hid m; clear m)
      | ((with_reducible refine gate_dst (N := 7) rfl ?_); go_must (refine M.out.ev_new rfl (by first | (go_simp; done) | (go_simp; rfl)) ?_); intro g7 w7 m; simp only [List.cons_append, List.nil_append] at m; have M := Lib.hid m; clear m)
      | ((with_reducible refine gate_dst (N := 20) rfl ?_); go_must (refine M.out.ev_ldw 1 _ _ rfl rfl rfl Try.underlying50 rfl (by first | exact sz50 | (rw [S1.out]; exact sz50) | (rw [S2.out]; exact sz50) | (rw [S3.out]; exact sz50)) rfl ?_))
      | ((with_reducible refine gate_dst (N := 31) rfl ?_); go_must (refine M.out.ev_ld 2 _ _ rfl rfl rfl Try.underlying2 rfl rfl (by first | assumption | rfl) ?_))
      | (go_at_call 63; go_must (refine (scaresCode_any _ F HF.out A n xs HX.out hc hn 102 _ (inB least 1 1000) _ (M.out.blk 0 rfl) (M.out.sl HS.out) (fun _ _ => by go_simp) (fun _ w1 m1 => longestPower_any _ least w1 ((M.out.join m1).blk 2 rfl))).mono ?_); rintro e w_ ⟨rfl, N_⟩; have m := M.out.join N_; clear N_; simp only [List.cons_append, List.nil_append, List.append_nil] at m; have M := Lib.hid m; clear m; rw [HSC.out])
      )
    go_ret2
    refine ⟨?_, M.out.take 0⟩
    simp only [longRes, if_neg HD.out]
    rfl
set_option maxRecDepth 100000 in
set_option maxHeartbeats 2000000 in
theorem spec_LongestSafe_any (F : Fld) (hF : F.ok) (A : Option Addr) (n : Nat) (xs : List Scarecrow) (hx : ∀ x ∈ xs, x.ok) (hl : xs.length ≤ 1048576) (hc : xs.length ≤ n) (hn : n ≤ 9223372036854775807) (hA : A = none → n = 0) (c : Cs) (hcs : c.ok) (least : Int) (w : World) (hs : Sl w 3 A xs.length (flat Scarecrow.vals xs)) :
    Calls Try.prog 47 #[.agg F.cells, .slice A xs.length n, .agg c.cells, .int .i64 least] w fun e w' =>
      e = .returned (.tuple #[.int .i64 (longRes F xs c least).1, .int .i64 (longRes F xs c least).2]) ∧ Mem w w' [] := by
  have M := Lib.hid (Mem.start w)
  have HX := Lib.hid hx
  have HS := Lib.hid hs
  have HF := Lib.hid hF
  have S1 := Lib.hid (Fld.size hF.toLen)
  have hm : xs.length ≤ 9223372036854775807 := by omega
  have HSC := Lib.hid (show scCode F xs (inB least 1 1000) = safeCode F xs least from rfl)
  clear hx hs hF
  by_cases hd : safeCode F xs least = 0
  · obtain ⟨h1, h2, h3⟩ := scCode_0 hd
    have HP := Lib.hid (scOk_plain h2)
    obtain ⟨l0, l1⟩ := inB_iff.1 h3
    have HD := Lib.hid hd
    have hdd : (safeCode F xs least != 0) = false := by simp [hd]
    clear h1 h2 h3 hd
    go_enter Try.func47, Try.ntmps47
    go_wp2_with (first
      | ((with_reducible refine gate_dst (N := 4) rfl ?_); go_must (refine M.out.ev_new rfl (by first | (go_simp; done) | (go_simp; rfl)) ?_); intro g4 w4 m; simp only [List.cons_append, List.nil_append] at m; have M := Lib.hid m; clear m)
      | ((with_reducible refine gate_dst (N := 6) rfl ?_); go_must (refine M.out.ev_new rfl (by first | (go_simp; done) | (go_simp; rfl)) ?_); intro g6 w6 m; simp only [List.cons_append, List.nil_append] at m; have M := Lib.hid m; clear m)
      | (go_at_call 75; go_must (refine (l03Power_any _ _).mono ?_); rintro e w_ ⟨rfl, rfl⟩)
      | (go_at_call 57; go_must (refine (l03Asked_any _ F HF.out A n xs HX.out hm _ _ (M.out.blk 0 rfl) (M.out.sl HS.out)).mono ?_); rintro e w_ ⟨rfl, N_⟩; have m := M.out.join N_; clear N_; simp only [List.cons_append, List.nil_append, List.append_nil] at m; have M := Lib.hid m; clear m; rw [HSC.out])
      | (go_at_call 100; go_must (refine (l03Targets_any _ _ F HF.out c hcs _ (M.out.blk 0 rfl) (M.out.blk 1 rfl)).mono ?_); rintro e w_ ⟨A_, c_, rfl, hc_, N_⟩; have m := M.out.join N_; clear N_; simp only [List.cons_append, List.nil_append, List.append_nil] at m; have M := Lib.hid m; clear m)
      )
    go_loopw [11, 13] (fun u v wr => ∃ k : Nat, k ≤ (aims F c 100).length ∧ v = .int .i64 k ∧ u = .int .i64 (leastDays xs least ((aims F c 100).take k)) ∧ Mem w wr [.blk g4 32 F.cells, .blk g6 50 c.cells, .row (.slice A_ (aims F c 100).length c_) 2 1 (aims F c 100).length (flat one64 (aims F c 100))])
      (fun _ v _ => (aims F c 100).length - (intOf v).toNat)
    case atStart => exact ⟨0, by omega, rfl, rfl, M.out⟩
    case round =>
      clear M
      obtain ⟨k, hk, rfl, rfl, m⟩ := hrel
      have M := Lib.hid m
      clear m
      have hal := aims_len F c 100
      by_cases hlt : k < (aims F c 100).length
      · obtain ⟨b, off, hbo, hr⟩ := (M.out.slof 2 rfl).2 (by omega)
        subst hbo
        have hxk : (aims F c 100)[k]? = some (aims F c 100)[k] := List.getElem?_eq_getElem hlt
        have hmem := (aims_lt (List.getElem_mem hlt)).1
        obtain ⟨j, hj⟩ : ∃ j, j = (aims F c 100)[k] := ⟨_, rfl⟩
        have R := range_at one64_len hr hxk
        have HT := Lib.hid (show (aims F c 100).take (k + 1) = (aims F c 100).take k ++ [j] by rw [List.take_succ_eq_append_getElem hlt, hj])
        rw [← hj] at R hmem
        have x0 : wr.cell? ⟨b, off + k, none⟩ = some (.int .i64 j) := by
          have := R 0 _ rfl
          simpa [nat64] using this
        have i0 : (0 : Int) ≤ (j : Int) := by omega
        clear hr hxk R hj
        obtain ⟨D, hD⟩ : ∃ D, D = leastDays xs least ((aims F c 100).take k) := ⟨_, rfl⟩
        have HDD := Lib.hid hD
        rw [← hD]
        clear hD
        go_wp2_with (first
          | ((with_reducible refine gate_dst (N := 4) rfl ?_); go_must (refine M.out.ev_new rfl (by first | (go_simp; done) | (go_simp; rfl)) ?_); intro g4 w4 m; simp only [List.cons_append, List.nil_append] at m; have M := Lib.hid m; clear m)
          | ((with_reducible refine gate_dst (N := 6) rfl ?_); go_must (refine M.out.ev_new rfl (by first | (go_simp; done) | (go_simp; rfl)) ?_); intro g6 w6 m; simp only [List.cons_append, List.nil_append] at m; have M := Lib.hid m; clear m)
          | (go_at_call 83; go_must (refine (l03Days_any A n xs HP.out hl hc hA j least i0 (by omega) l0 _ (M.out.sl HS.out)).mono ?_); rintro e w_ ⟨rfl, N_⟩; have m := M.out.join N_; clear N_; simp only [List.cons_append, List.nil_append, List.append_nil] at m; have M := Lib.hid m; clear m)
          | (go_at_call 101; go_must (refine (l00Min_any _ _ _).mono ?_); rintro e w_ ⟨rfl, rfl⟩)
          )
        refine ⟨⟨k + 1, by omega, by go_num, ?_, M.out⟩, by simp [intOf]; omega⟩
        rw [HT.out, leastDays_snoc, ← HDD.out]
      · obtain rfl : k = (aims F c 100).length := by omega
        rw [List.take_length]
        go_wp2
        go_ret2
        refine ⟨?_, M.out.take 0⟩
        simp only [longRes, HD.out]
        rfl
  · have HD := Lib.hid hd
    have hdd : (safeCode F xs least != 0) = true := by simp [hd]
    clear hd
    go_enter Try.func47, Try.ntmps47
    go_wp2_with (first
      | ((with_reducible refine gate_dst (N := 4) rfl ?_); go_must (refine M.out.ev_new rfl (by first | (go_simp; done) | (go_simp; rfl)) ?_); intro g4 w4 m; simp only [List.cons_append, List.nil_append] at m; have M := Lib.hid m; clear m)
      | ((with_reducible refine gate_dst (N := 6) rfl ?_); go_must (refine M.out.ev_new rfl (by first | (go_simp; done) | (go_simp; rfl)) ?_); intro g6 w6 m; simp only [List.cons_append, List.nil_append] at m; have M := Lib.hid m; clear m)
      | (go_at_call 75; go_must (refine (l03Power_any _ _).mono ?_); rintro e w_ ⟨rfl, rfl⟩)
      | (go_at_call 57; go_must (refine (l03Asked_any _ F HF.out A n xs HX.out hm _ _ (M.out.blk 0 rfl) (M.out.sl HS.out)).mono ?_); rintro e w_ ⟨rfl, N_⟩; have m := M.out.join N_; clear N_; simp only [List.cons_append, List.nil_append, List.append_nil] at m; have M := Lib.hid m; clear m; rw [HSC.out])
      )
    go_ret2
    refine ⟨?_, M.out.take 0⟩
    simp only [longRes, if_neg HD.out]
    rfl
end Go.Proofs.Yteecfclccfhdhaa
