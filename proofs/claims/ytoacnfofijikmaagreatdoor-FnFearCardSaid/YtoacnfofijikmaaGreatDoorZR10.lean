/- Texts of a proof, laid together: FearMap, Those. -/
import Derived.Test.YtoacnfofijikmaaGreatDoorZR05
import Derived.Test.YtoacnfofijikmaaGreatDoorZR06
import Derived.Test.YtoacnfofijikmaaGreatDoorZR02
namespace Go.Proofs.YtoacnfofijikmaaGreatDoor
set_option linter.unusedSimpArgs false
set_option linter.unusedVariables false
open Go.RowKit
attribute [local go_sem] cell?_mk frozen?_mk zeroS

def putFear (xs : List Scarecrow) (acc : List Int) (k : Nat) : List Int := acc.set k (fearAt xs k)
def fearsOf (xs : List Scarecrow) (ks : List Nat) : List Int := ks.foldl (putFear xs) (zs 100)
theorem fearsOf_snoc (xs : List Scarecrow) (ks : List Nat) (k : Nat) : fearsOf xs (ks ++ [k]) = (fearsOf xs ks).set k (fearAt xs k) := by simp [fearsOf, putFear]
theorem fearsOf_len (xs : List Scarecrow) (ks : List Nat) : (fearsOf xs ks).length = 100 := by
  have key : ∀ (ks : List Nat) (acc : List Int), (ks.foldl (putFear xs) acc).length = acc.length := by
    intro ks
    induction ks with
    | nil => intro acc; rfl
    | cons k r ih => intro acc; rw [List.foldl_cons, ih]; simp [putFear]
  rw [fearsOf, key, zs_len]
/-- The code, without numbers; the fears. -/
def fmCode (F : Fld) (xs : List Scarecrow) : Int := if (F.valid && scOk F xs) = true then 0 else 1
def fearMap (F : Fld) (xs : List Scarecrow) : List Int := if (F.valid && scOk F xs) = true then fearsOf xs F.all else zs 100
theorem fearMap_len (F : Fld) (xs : List Scarecrow) : (fearMap F xs).length = 100 := by
  unfold fearMap
  split
  · exact fearsOf_len _ _
  · exact zs_len 100
theorem scCode_true (F : Fld) (xs : List Scarecrow) : scCode F xs true = fmCode F xs := by
  unfold scCode fmCode
  cases (F.valid && scOk F xs) <;> rfl

set_option maxRecDepth 100000 in
set_option maxHeartbeats 2000000 in
theorem impl_fearMap_any (F : Fld) (hF : F.ok) (A : Option Addr) (n : Nat) (xs : List Scarecrow) (hx : ∀ x ∈ xs, x.ok) (hl : xs.length ≤ 1048576) (hc : xs.length ≤ n) (hn : n ≤ 9223372036854775807) (w : World) (hs : Sl w 3 A xs.length (flat Scarecrow.vals xs)) :
    Calls Tryz.prog 13 #[.agg F.cells, .slice A xs.length n] w fun e w' =>
      e = .returned (.tuple #[.agg (ints .i16 (fearMap F xs)), .int .i64 (fmCode F xs)]) ∧ Mem w w' [] := by
  have M := Lib.hid (Mem.start w)
  have HX := Lib.hid hx
  have HS := Lib.hid hs
  have HF := Lib.hid hF
  have S1 := Lib.hid (Fld.size hF.toLen)
  have S2 := Lib.hid (show (ints .i16 (zs 100)).size = 100 by rw [ints_size, zs_len])
  have O1 := Lib.hid (Fld.one F)
  clear hx hs hF
  cases hv : (F.valid && scOk F xs)
  · have HV := Lib.hid hv
    clear hv
    go_enter Tryz.func13, Tryz.ntmps13
    go_wp2_with (first
      | ((with_reducible refine gate_dst (N := 2) rfl ?_); go_must (refine M.out.ev_new rfl (by first | (go_simp; done) | (go_simp; rfl)) ?_); intro g2 w2 m; simp only [List.cons_append, List.nil_append, zeroS] at m; have M := Lib.hid m; clear m)
      | ((with_reducible refine gate_dst (N := 4) rfl ?_); go_must (refine M.out.ev_new rfl (by first | (go_simp; done) | (go_simp; rfl)) ?_); intro g4 w4 m; simp only [List.cons_append, List.nil_append, zeroS] at m; have M := Lib.hid m; clear m)
      | ((with_reducible refine gate_dst (N := 6) rfl ?_); go_must (refine M.out.ev_new rfl (by first | (go_simp; done) | (go_simp; rfl)) ?_); intro g6 w6 m; simp only [List.cons_append, List.nil_append, zeroS] at m; have M := Lib.hid m; clear m)
      | ((with_reducible refine gate_store (x := .tmp 6) rfl ?_); go_must (refine M.out.ev_stw 2 _ _ _ rfl rfl rfl rfl _ rfl (by first | rfl | (simp only [S1.out]; rfl) | (simp only [S1.out, S2.out]; rfl) | (simp only [S3.out]; rfl) | (simp only [S1.out, S2.out, S3.out]; rfl)) (by first | exact sz27 | (rw [S1.out]; exact sz27) | (rw [S2.out]; exact sz27) | (rw [S3.out]; exact sz27)) (by first | exact ints_one _ _ | exact Fld.one _ | exact O1.out | rfl | (simp [Value.oneCell']; done)) rfl ?_); intro wn m; simp only [List.set_cons_succ, List.set_cons_zero, List.setIfInBounds_toArray, zeroS] at m; have M := Lib.hid m; clear m)
      | ((with_reducible refine gate_dst (N := 10) rfl ?_); go_must (refine M.out.ev_ldw 0 _ _ rfl rfl rfl Tryz.underlying29 rfl (by first | exact sz29 | (rw [S1.out]; exact sz29) | (rw [S2.out]; exact sz29) | (rw [S3.out]; exact sz29)) rfl ?_))
      | ((with_reducible refine gate_dst (N := 14) rfl ?_); go_must (refine M.out.ev_ldw 2 _ _ rfl rfl rfl Tryz.underlying27 rfl (by first | exact sz27 | (rw [S1.out]; exact sz27) | (rw [S2.out]; exact sz27) | (rw [S3.out]; exact sz27)) rfl ?_))
      | ((with_reducible refine gate_store (x := .tmp 4) rfl ?_); go_must (refine M.out.ev_stw 1 _ _ _ rfl rfl rfl rfl _ rfl (by first | rfl | (simp only [S1.out]; rfl) | (simp only [S1.out, S2.out]; rfl) | (simp only [S3.out]; rfl) | (simp only [S1.out, S2.out, S3.out]; rfl)) (by first | exact sz27 | (rw [S1.out]; exact sz27) | (rw [S2.out]; exact sz27) | (rw [S3.out]; exact sz27)) (by first | exact ints_one _ _ | exact Fld.one _ | exact O1.out | rfl | (simp [Value.oneCell']; done)) rfl ?_); intro wn m; simp only [List.set_cons_succ, List.set_cons_zero, List.setIfInBounds_toArray, zeroS] at m; have M := Lib.hid m; clear m)
      | ((with_reducible refine gate_store (x := .tmp 26) rfl ?_); go_must (refine M.out.ev_put 2 _ _ _ rfl rfl rfl rfl (.int _ _) rfl (by first | assumption | exact Fld.lt0 _ | exact Fld.lt1 _ | (simp; done) | (simp only [ints_size]; omega)) sz26 rfl rfl ?_); intro wn m; simp only [List.set_cons_succ, List.set_cons_zero, List.setIfInBounds_toArray, zeroS] at m; have M := Lib.hid m; clear m)
      | ((with_reducible refine gate_dst (N := 28) rfl ?_); go_must (refine M.out.ev_ldw 2 _ _ rfl rfl rfl Tryz.underlying27 rfl (by first | exact sz27 | (rw [S1.out]; exact sz27) | (rw [S2.out]; exact sz27) | (rw [S3.out]; exact sz27)) rfl ?_))
      | ((with_reducible refine gate_store (x := .tmp 4) rfl ?_); go_must (refine M.out.ev_stw 1 _ _ _ rfl rfl rfl rfl _ rfl (by first | rfl | (simp only [S1.out]; rfl) | (simp only [S1.out, S2.out]; rfl) | (simp only [S3.out]; rfl) | (simp only [S1.out, S2.out, S3.out]; rfl)) (by first | exact sz27 | (rw [S1.out]; exact sz27) | (rw [S2.out]; exact sz27) | (rw [S3.out]; exact sz27)) (by first | exact ints_one _ _ | exact Fld.one _ | exact O1.out | rfl | (simp [Value.oneCell']; done)) rfl ?_); intro wn m; simp only [List.set_cons_succ, List.set_cons_zero, List.setIfInBounds_toArray, zeroS] at m; have M := Lib.hid m; clear m)
      | (go_at_call 21; go_must (refine (ValidScares_any F HF.out A n xs HX.out hc hn _ (M.out.sl HS.out)).mono ?_); rintro e w_ ⟨rfl, N_⟩; have m := M.out.join N_; clear N_; simp only [List.cons_append, List.nil_append, List.append_nil] at m; have M := Lib.hid m; clear m; rw [HV.out])
      )
    refine ret_ct rfl ((M.out.blk 1 rfl).var Tryz.underlying27 rfl (by rw [S2.out]; exact sz27)) ⟨?_, M.out.take 0⟩
    simp only [fearMap, fmCode, HV.out]
    rfl
  · have HV := Lib.hid hv
    have hv2 := hv
    rw [Bool.and_eq_true] at hv2
    have HP := Lib.hid (scOk_plain hv2.2)
    clear hv hv2
    go_enter Tryz.func13, Tryz.ntmps13
    go_wp2_with (first
      | ((with_reducible refine gate_dst (N := 2) rfl ?_); go_must (refine M.out.ev_new rfl (by first | (go_simp; done) | (go_simp; rfl)) ?_); intro g2 w2 m; simp only [List.cons_append, List.nil_append, zeroS] at m; have M := Lib.hid m; clear m)
      | ((with_reducible refine gate_dst (N := 4) rfl ?_); go_must (refine M.out.ev_new rfl (by first | (go_simp; done) | (go_simp; rfl)) ?_); intro g4 w4 m; simp only [List.cons_append, List.nil_append, zeroS] at m; have M := Lib.hid m; clear m)
      | ((with_reducible refine gate_dst (N := 6) rfl ?_); go_must (refine M.out.ev_new rfl (by first | (go_simp; done) | (go_simp; rfl)) ?_); intro g6 w6 m; simp only [List.cons_append, List.nil_append, zeroS] at m; have M := Lib.hid m; clear m)
      | ((with_reducible refine gate_store (x := .tmp 6) rfl ?_); go_must (refine M.out.ev_stw 2 _ _ _ rfl rfl rfl rfl _ rfl (by first | rfl | (simp only [S1.out]; rfl) | (simp only [S1.out, S2.out]; rfl) | (simp only [S3.out]; rfl) | (simp only [S1.out, S2.out, S3.out]; rfl)) (by first | exact sz27 | (rw [S1.out]; exact sz27) | (rw [S2.out]; exact sz27) | (rw [S3.out]; exact sz27)) (by first | exact ints_one _ _ | exact Fld.one _ | exact O1.out | rfl | (simp [Value.oneCell']; done)) rfl ?_); intro wn m; simp only [List.set_cons_succ, List.set_cons_zero, List.setIfInBounds_toArray, zeroS] at m; have M := Lib.hid m; clear m)
      | ((with_reducible refine gate_dst (N := 10) rfl ?_); go_must (refine M.out.ev_ldw 0 _ _ rfl rfl rfl Tryz.underlying29 rfl (by first | exact sz29 | (rw [S1.out]; exact sz29) | (rw [S2.out]; exact sz29) | (rw [S3.out]; exact sz29)) rfl ?_))
      | ((with_reducible refine gate_dst (N := 14) rfl ?_); go_must (refine M.out.ev_ldw 2 _ _ rfl rfl rfl Tryz.underlying27 rfl (by first | exact sz27 | (rw [S1.out]; exact sz27) | (rw [S2.out]; exact sz27) | (rw [S3.out]; exact sz27)) rfl ?_))
      | ((with_reducible refine gate_store (x := .tmp 4) rfl ?_); go_must (refine M.out.ev_stw 1 _ _ _ rfl rfl rfl rfl _ rfl (by first | rfl | (simp only [S1.out]; rfl) | (simp only [S1.out, S2.out]; rfl) | (simp only [S3.out]; rfl) | (simp only [S1.out, S2.out, S3.out]; rfl)) (by first | exact sz27 | (rw [S1.out]; exact sz27) | (rw [S2.out]; exact sz27) | (rw [S3.out]; exact sz27)) (by first | exact ints_one _ _ | exact Fld.one _ | exact O1.out | rfl | (simp [Value.oneCell']; done)) rfl ?_); intro wn m; simp only [List.set_cons_succ, List.set_cons_zero, List.setIfInBounds_toArray, zeroS] at m; have M := Lib.hid m; clear m)
      | ((with_reducible refine gate_store (x := .tmp 26) rfl ?_); go_must (refine M.out.ev_put 2 _ _ _ rfl rfl rfl rfl (.int _ _) rfl (by first | assumption | exact Fld.lt0 _ | exact Fld.lt1 _ | (simp; done) | (simp only [ints_size]; omega)) sz26 rfl rfl ?_); intro wn m; simp only [List.set_cons_succ, List.set_cons_zero, List.setIfInBounds_toArray, zeroS] at m; have M := Lib.hid m; clear m)
      | ((with_reducible refine gate_dst (N := 28) rfl ?_); go_must (refine M.out.ev_ldw 2 _ _ rfl rfl rfl Tryz.underlying27 rfl (by first | exact sz27 | (rw [S1.out]; exact sz27) | (rw [S2.out]; exact sz27) | (rw [S3.out]; exact sz27)) rfl ?_))
      | ((with_reducible refine gate_store (x := .tmp 4) rfl ?_); go_must (refine M.out.ev_stw 1 _ _ _ rfl rfl rfl rfl _ rfl (by first | rfl | (simp only [S1.out]; rfl) | (simp only [S1.out, S2.out]; rfl) | (simp only [S3.out]; rfl) | (simp only [S1.out, S2.out, S3.out]; rfl)) (by first | exact sz27 | (rw [S1.out]; exact sz27) | (rw [S2.out]; exact sz27) | (rw [S3.out]; exact sz27)) (by first | exact ints_one _ _ | exact Fld.one _ | exact O1.out | rfl | (simp [Value.oneCell']; done)) rfl ?_); intro wn m; simp only [List.set_cons_succ, List.set_cons_zero, List.setIfInBounds_toArray, zeroS] at m; have M := Lib.hid m; clear m)
      | (go_at_call 21; go_must (refine (ValidScares_any F HF.out A n xs HX.out hc hn _ (M.out.sl HS.out)).mono ?_); rintro e w_ ⟨rfl, N_⟩; have m := M.out.join N_; clear N_; simp only [List.cons_append, List.nil_append, List.append_nil] at m; have M := Lib.hid m; clear m; rw [HV.out])
      | (go_at_call 52; go_must (refine (cells_any _ F HF.out _ (M.out.blk 0 rfl)).mono ?_); rintro e w_ ⟨A_, c_, rfl, hc_, N_⟩; have m := M.out.join N_; clear N_; simp only [List.cons_append, List.nil_append, List.append_nil] at m; have M := Lib.hid m; clear m)
      )
    go_loopw [17] (fun v wr => ∃ k : Nat, k ≤ F.all.length ∧ v = .int .i64 k ∧ Mem w wr [.blk g2 29 F.cells, .blk g4 27 (ints .i16 (zs 100)), .blk g6 27 (ints .i16 (fearsOf xs (F.all.take k))), .row (.slice A_ F.all.length c_) 2 1 F.all.length (flat one64 F.all)])
      (fun v _ => F.all.length - (intOf v).toNat)
    case atStart => exact ⟨0, by omega, rfl, M.out⟩
    case round =>
      clear M
      obtain ⟨k, hk, rfl, m⟩ := hrel
      have M := Lib.hid m
      clear m
      have hal : F.all.length ≤ 100 := F.below_len 100
      have S3 := Lib.hid (show (ints .i16 (fearsOf xs (F.all.take k))).size = 100 by rw [ints_size, fearsOf_len])
      by_cases hlt : k < F.all.length
      · obtain ⟨b, off, rfl, hr⟩ := (M.out.slof 3 rfl).2 (by omega)
        have hxk : F.all[k]? = some F.all[k] := List.getElem?_eq_getElem hlt
        have hmem := Fld.all_has (List.getElem_mem hlt)
        obtain ⟨j, hj⟩ : ∃ j, j = F.all[k] := ⟨_, rfl⟩
        have R := range_at one64_len hr hxk
        have hts : F.all.take (k + 1) = F.all.take k ++ [j] := by rw [List.take_succ_eq_append_getElem hlt, hj]
        have HT := Lib.hid hts
        rw [← hj] at R hmem
        have x0 : wr.cell? ⟨b, off + k, none⟩ = some (.int .i64 j) := by
          have := R 0 _ rfl
          simpa [nat64] using this
        obtain ⟨j0, j1⟩ := hmem
        have hf := fearAt_small HP.out (c := (j : Int)) (by omega) (by omega)
        have hw := IntWalk.i16_in (fearAt xs j) (by omega)
        have HJ := Lib.hid (show j < (ints .i16 (fearsOf xs (F.all.take k))).size by rw [S3.out]; exact j0)
        have i0 : (0 : Int) ≤ (j : Int) := by omega
        have i1 : (j : Int) < 100 := by omega
        clear hr hxk R hts hj
        go_wp2_with (first
          | (go_at_call 48; go_must (refine (fearOf_any A n xs HP.out hl j i0 (by omega) _ (M.out.sl HS.out)).mono ?_); rintro e w_ ⟨rfl, N_⟩; have m := M.out.join N_; clear N_; simp only [List.cons_append, List.nil_append, List.append_nil] at m; have M := Lib.hid m; clear m)
          | ((with_reducible refine gate_store (x := .tmp 26) rfl ?_); go_must (refine M.out.ev_put 2 _ _ _ rfl rfl rfl rfl (.int .i16 (fearAt xs j)) rfl HJ.out sz26 rfl rfl ?_); intro wn m; simp only [List.set_cons_succ, List.set_cons_zero] at m; have M := Lib.hid m; clear m)
          )
        refine ⟨⟨k + 1, by omega, by go_num, ?_⟩, by simp [intOf]; omega⟩
        rw [HT.out, fearsOf_snoc, ← ints_set]
        exact M.out
      · obtain rfl : k = F.all.length := by omega
        rw [List.take_length] at M S3
        go_wp2_with (first
          | ((with_reducible refine gate_dst (N := 2) rfl ?_); go_must (refine M.out.ev_new rfl (by first | (go_simp; done) | (go_simp; rfl)) ?_); intro g2 w2 m; simp only [List.cons_append, List.nil_append, zeroS] at m; have M := Lib.hid m; clear m)
          | ((with_reducible refine gate_dst (N := 4) rfl ?_); go_must (refine M.out.ev_new rfl (by first | (go_simp; done) | (go_simp; rfl)) ?_); intro g4 w4 m; simp only [List.cons_append, List.nil_append, zeroS] at m; have M := Lib.hid m; clear m)
          | ((with_reducible refine gate_dst (N := 6) rfl ?_); go_must (refine M.out.ev_new rfl (by first | (go_simp; done) | (go_simp; rfl)) ?_); intro g6 w6 m; simp only [List.cons_append, List.nil_append, zeroS] at m; have M := Lib.hid m; clear m)
          | ((with_reducible refine gate_store (x := .tmp 6) rfl ?_); go_must (refine M.out.ev_stw 2 _ _ _ rfl rfl rfl rfl _ rfl (by first | rfl | (simp only [S1.out]; rfl) | (simp only [S1.out, S2.out]; rfl) | (simp only [S3.out]; rfl) | (simp only [S1.out, S2.out, S3.out]; rfl)) (by first | exact sz27 | (rw [S1.out]; exact sz27) | (rw [S2.out]; exact sz27) | (rw [S3.out]; exact sz27)) (by first | exact ints_one _ _ | exact Fld.one _ | exact O1.out | rfl | (simp [Value.oneCell']; done)) rfl ?_); intro wn m; simp only [List.set_cons_succ, List.set_cons_zero, List.setIfInBounds_toArray, zeroS] at m; have M := Lib.hid m; clear m)
          | ((with_reducible refine gate_dst (N := 10) rfl ?_); go_must (refine M.out.ev_ldw 0 _ _ rfl rfl rfl Tryz.underlying29 rfl (by first | exact sz29 | (rw [S1.out]; exact sz29) | (rw [S2.out]; exact sz29) | (rw [S3.out]; exact sz29)) rfl ?_))
          | ((with_reducible refine gate_dst (N := 14) rfl ?_); go_must (refine M.out.ev_ldw 2 _ _ rfl rfl rfl Tryz.underlying27 rfl (by first | exact sz27 | (rw [S1.out]; exact sz27) | (rw [S2.out]; exact sz27) | (rw [S3.out]; exact sz27)) rfl ?_))
          | ((with_reducible refine gate_store (x := .tmp 4) rfl ?_); go_must (refine M.out.ev_stw 1 _ _ _ rfl rfl rfl rfl _ rfl (by first | rfl | (simp only [S1.out]; rfl) | (simp only [S1.out, S2.out]; rfl) | (simp only [S3.out]; rfl) | (simp only [S1.out, S2.out, S3.out]; rfl)) (by first | exact sz27 | (rw [S1.out]; exact sz27) | (rw [S2.out]; exact sz27) | (rw [S3.out]; exact sz27)) (by first | exact ints_one _ _ | exact Fld.one _ | exact O1.out | rfl | (simp [Value.oneCell']; done)) rfl ?_); intro wn m; simp only [List.set_cons_succ, List.set_cons_zero, List.setIfInBounds_toArray, zeroS] at m; have M := Lib.hid m; clear m)
          | ((with_reducible refine gate_store (x := .tmp 26) rfl ?_); go_must (refine M.out.ev_put 2 _ _ _ rfl rfl rfl rfl (.int _ _) rfl (by first | assumption | exact Fld.lt0 _ | exact Fld.lt1 _ | (simp; done) | (simp only [ints_size]; omega)) sz26 rfl rfl ?_); intro wn m; simp only [List.set_cons_succ, List.set_cons_zero, List.setIfInBounds_toArray, zeroS] at m; have M := Lib.hid m; clear m)
          | ((with_reducible refine gate_dst (N := 28) rfl ?_); go_must (refine M.out.ev_ldw 2 _ _ rfl rfl rfl Tryz.underlying27 rfl (by first | exact sz27 | (rw [S1.out]; exact sz27) | (rw [S2.out]; exact sz27) | (rw [S3.out]; exact sz27)) rfl ?_))
          | ((with_reducible refine gate_store (x := .tmp 4) rfl ?_); go_must (refine M.out.ev_stw 1 _ _ _ rfl rfl rfl rfl _ rfl (by first | rfl | (simp only [S1.out]; rfl) | (simp only [S1.out, S2.out]; rfl) | (simp only [S3.out]; rfl) | (simp only [S1.out, S2.out, S3.out]; rfl)) (by first | exact sz27 | (rw [S1.out]; exact sz27) | (rw [S2.out]; exact sz27) | (rw [S3.out]; exact sz27)) (by first | exact ints_one _ _ | exact Fld.one _ | exact O1.out | rfl | (simp [Value.oneCell']; done)) rfl ?_); intro wn m; simp only [List.set_cons_succ, List.set_cons_zero, List.setIfInBounds_toArray, zeroS] at m; have M := Lib.hid m; clear m)
          )
        refine ret_ct rfl ((M.out.blk 1 rfl).var Tryz.underlying27 rfl (by rw [S3.out]; exact sz27)) ⟨?_, M.out.take 0⟩
        simp only [fearMap, fmCode, HV.out]
        rfl
set_option maxRecDepth 100000 in
set_option maxHeartbeats 2000000 in
theorem spec_fearMap_any (F : Fld) (hF : F.ok) (A : Option Addr) (n : Nat) (xs : List Scarecrow) (hx : ∀ x ∈ xs, x.ok) (hl : xs.length ≤ 1048576) (w : World) (hs : Sl w 3 A xs.length (flat Scarecrow.vals xs)) :
    Calls Tryz.prog 14 #[.agg F.cells, .slice A xs.length n] w fun e w' =>
      e = .returned (.tuple #[.agg (ints .i16 (fearMap F xs)), .int .i64 (fmCode F xs)]) ∧ Mem w w' [] := by
  have M := Lib.hid (Mem.start w)
  have HX := Lib.hid hx
  have HS := Lib.hid hs
  have HF := Lib.hid hF
  have S1 := Lib.hid (Fld.size hF.toLen)
  have S2 := Lib.hid (show (ints .i16 (zs 100)).size = 100 by rw [ints_size, zs_len])
  have O1 := Lib.hid (Fld.one F)
  have hm : xs.length ≤ 9223372036854775807 := by omega
  clear hx hs hF
  cases hv : (F.valid && scOk F xs)
  · have HV := Lib.hid hv
    have hcd : scCode F xs true = 1 := by rw [scCode_true, fmCode, hv]; rfl
    clear hv
    go_enter Tryz.func14, Tryz.ntmps14
    go_wp2_with (first
      | ((with_reducible refine gate_dst (N := 2) rfl ?_); go_must (refine M.out.ev_new rfl (by first | (go_simp; done) | (go_simp; rfl)) ?_); intro g2 w2 m; simp only [List.cons_append, List.nil_append, zeroS] at m; have M := Lib.hid m; clear m)
      | ((with_reducible refine gate_dst (N := 4) rfl ?_); go_must (refine M.out.ev_new rfl (by first | (go_simp; done) | (go_simp; rfl)) ?_); intro g4 w4 m; simp only [List.cons_append, List.nil_append, zeroS] at m; have M := Lib.hid m; clear m)
      | ((with_reducible refine gate_dst (N := 6) rfl ?_); go_must (refine M.out.ev_new rfl (by first | (go_simp; done) | (go_simp; rfl)) ?_); intro g6 w6 m; simp only [List.cons_append, List.nil_append, zeroS] at m; have M := Lib.hid m; clear m)
      | ((with_reducible refine gate_store (x := .tmp 6) rfl ?_); go_must (refine M.out.ev_stw 2 _ _ _ rfl rfl rfl rfl _ rfl (by first | rfl | (simp only [S1.out]; rfl) | (simp only [S1.out, S2.out]; rfl) | (simp only [S3.out]; rfl) | (simp only [S1.out, S2.out, S3.out]; rfl)) (by first | exact sz27 | (rw [S1.out]; exact sz27) | (rw [S2.out]; exact sz27) | (rw [S3.out]; exact sz27)) (by first | exact ints_one _ _ | exact Fld.one _ | exact O1.out | rfl | (simp [Value.oneCell']; done)) rfl ?_); intro wn m; simp only [List.set_cons_succ, List.set_cons_zero, List.setIfInBounds_toArray, zeroS] at m; have M := Lib.hid m; clear m)
      | ((with_reducible refine gate_dst (N := 14) rfl ?_); go_must (refine M.out.ev_ldw 2 _ _ rfl rfl rfl Tryz.underlying27 rfl (by first | exact sz27 | (rw [S1.out]; exact sz27) | (rw [S2.out]; exact sz27) | (rw [S3.out]; exact sz27)) rfl ?_))
      | ((with_reducible refine gate_store (x := .tmp 4) rfl ?_); go_must (refine M.out.ev_stw 1 _ _ _ rfl rfl rfl rfl _ rfl (by first | rfl | (simp only [S1.out]; rfl) | (simp only [S1.out, S2.out]; rfl) | (simp only [S3.out]; rfl) | (simp only [S1.out, S2.out, S3.out]; rfl)) (by first | exact sz27 | (rw [S1.out]; exact sz27) | (rw [S2.out]; exact sz27) | (rw [S3.out]; exact sz27)) (by first | exact ints_one _ _ | exact Fld.one _ | exact O1.out | rfl | (simp [Value.oneCell']; done)) rfl ?_); intro wn m; simp only [List.set_cons_succ, List.set_cons_zero, List.setIfInBounds_toArray, zeroS] at m; have M := Lib.hid m; clear m)
      | ((with_reducible refine gate_store (x := .tmp 27) rfl ?_); go_must (refine M.out.ev_put 2 _ _ _ rfl rfl rfl rfl (.int _ _) rfl (by first | assumption | exact Fld.lt0 _ | exact Fld.lt1 _ | (simp; done) | (simp only [ints_size]; omega)) sz26 rfl rfl ?_); intro wn m; simp only [List.set_cons_succ, List.set_cons_zero, List.setIfInBounds_toArray, zeroS] at m; have M := Lib.hid m; clear m)
      | ((with_reducible refine gate_dst (N := 28) rfl ?_); go_must (refine M.out.ev_ldw 2 _ _ rfl rfl rfl Tryz.underlying27 rfl (by first | exact sz27 | (rw [S1.out]; exact sz27) | (rw [S2.out]; exact sz27) | (rw [S3.out]; exact sz27)) rfl ?_))
      | ((with_reducible refine gate_store (x := .tmp 4) rfl ?_); go_must (refine M.out.ev_stw 1 _ _ _ rfl rfl rfl rfl _ rfl (by first | rfl | (simp only [S1.out]; rfl) | (simp only [S1.out, S2.out]; rfl) | (simp only [S3.out]; rfl) | (simp only [S1.out, S2.out, S3.out]; rfl)) (by first | exact sz27 | (rw [S1.out]; exact sz27) | (rw [S2.out]; exact sz27) | (rw [S3.out]; exact sz27)) (by first | exact ints_one _ _ | exact Fld.one _ | exact O1.out | rfl | (simp [Value.oneCell']; done)) rfl ?_); intro wn m; simp only [List.set_cons_succ, List.set_cons_zero, List.setIfInBounds_toArray, zeroS] at m; have M := Lib.hid m; clear m)
      | (go_at_call 49; go_must (refine (l03Asked_any _ F HF.out A n xs HX.out hm true _ (M.out.blk 0 rfl) (M.out.sl HS.out)).mono ?_); rintro e w_ ⟨rfl, N_⟩; have m := M.out.join N_; clear N_; simp only [List.cons_append, List.nil_append, List.append_nil] at m; have M := Lib.hid m; clear m; rw [hcd])
      )
    refine ret_ct rfl ((M.out.blk 1 rfl).var Tryz.underlying27 rfl (by rw [S2.out]; exact sz27)) ⟨?_, M.out.take 0⟩
    simp only [fearMap, fmCode, HV.out]
    rfl
  · have HV := Lib.hid hv
    have hcd : scCode F xs true = 0 := by rw [scCode_true, fmCode, hv]; rfl
    have hv2 := hv
    rw [Bool.and_eq_true] at hv2
    have HP := Lib.hid (scOk_plain hv2.2)
    clear hv hv2
    go_enter Tryz.func14, Tryz.ntmps14
    go_wp2_with (first
      | ((with_reducible refine gate_dst (N := 2) rfl ?_); go_must (refine M.out.ev_new rfl (by first | (go_simp; done) | (go_simp; rfl)) ?_); intro g2 w2 m; simp only [List.cons_append, List.nil_append, zeroS] at m; have M := Lib.hid m; clear m)
      | ((with_reducible refine gate_dst (N := 4) rfl ?_); go_must (refine M.out.ev_new rfl (by first | (go_simp; done) | (go_simp; rfl)) ?_); intro g4 w4 m; simp only [List.cons_append, List.nil_append, zeroS] at m; have M := Lib.hid m; clear m)
      | ((with_reducible refine gate_dst (N := 6) rfl ?_); go_must (refine M.out.ev_new rfl (by first | (go_simp; done) | (go_simp; rfl)) ?_); intro g6 w6 m; simp only [List.cons_append, List.nil_append, zeroS] at m; have M := Lib.hid m; clear m)
      | ((with_reducible refine gate_store (x := .tmp 6) rfl ?_); go_must (refine M.out.ev_stw 2 _ _ _ rfl rfl rfl rfl _ rfl (by first | rfl | (simp only [S1.out]; rfl) | (simp only [S1.out, S2.out]; rfl) | (simp only [S3.out]; rfl) | (simp only [S1.out, S2.out, S3.out]; rfl)) (by first | exact sz27 | (rw [S1.out]; exact sz27) | (rw [S2.out]; exact sz27) | (rw [S3.out]; exact sz27)) (by first | exact ints_one _ _ | exact Fld.one _ | exact O1.out | rfl | (simp [Value.oneCell']; done)) rfl ?_); intro wn m; simp only [List.set_cons_succ, List.set_cons_zero, List.setIfInBounds_toArray, zeroS] at m; have M := Lib.hid m; clear m)
      | ((with_reducible refine gate_dst (N := 14) rfl ?_); go_must (refine M.out.ev_ldw 2 _ _ rfl rfl rfl Tryz.underlying27 rfl (by first | exact sz27 | (rw [S1.out]; exact sz27) | (rw [S2.out]; exact sz27) | (rw [S3.out]; exact sz27)) rfl ?_))
      | ((with_reducible refine gate_store (x := .tmp 4) rfl ?_); go_must (refine M.out.ev_stw 1 _ _ _ rfl rfl rfl rfl _ rfl (by first | rfl | (simp only [S1.out]; rfl) | (simp only [S1.out, S2.out]; rfl) | (simp only [S3.out]; rfl) | (simp only [S1.out, S2.out, S3.out]; rfl)) (by first | exact sz27 | (rw [S1.out]; exact sz27) | (rw [S2.out]; exact sz27) | (rw [S3.out]; exact sz27)) (by first | exact ints_one _ _ | exact Fld.one _ | exact O1.out | rfl | (simp [Value.oneCell']; done)) rfl ?_); intro wn m; simp only [List.set_cons_succ, List.set_cons_zero, List.setIfInBounds_toArray, zeroS] at m; have M := Lib.hid m; clear m)
      | ((with_reducible refine gate_store (x := .tmp 27) rfl ?_); go_must (refine M.out.ev_put 2 _ _ _ rfl rfl rfl rfl (.int _ _) rfl (by first | assumption | exact Fld.lt0 _ | exact Fld.lt1 _ | (simp; done) | (simp only [ints_size]; omega)) sz26 rfl rfl ?_); intro wn m; simp only [List.set_cons_succ, List.set_cons_zero, List.setIfInBounds_toArray, zeroS] at m; have M := Lib.hid m; clear m)
      | ((with_reducible refine gate_dst (N := 28) rfl ?_); go_must (refine M.out.ev_ldw 2 _ _ rfl rfl rfl Tryz.underlying27 rfl (by first | exact sz27 | (rw [S1.out]; exact sz27) | (rw [S2.out]; exact sz27) | (rw [S3.out]; exact sz27)) rfl ?_))
      | ((with_reducible refine gate_store (x := .tmp 4) rfl ?_); go_must (refine M.out.ev_stw 1 _ _ _ rfl rfl rfl rfl _ rfl (by first | rfl | (simp only [S1.out]; rfl) | (simp only [S1.out, S2.out]; rfl) | (simp only [S3.out]; rfl) | (simp only [S1.out, S2.out, S3.out]; rfl)) (by first | exact sz27 | (rw [S1.out]; exact sz27) | (rw [S2.out]; exact sz27) | (rw [S3.out]; exact sz27)) (by first | exact ints_one _ _ | exact Fld.one _ | exact O1.out | rfl | (simp [Value.oneCell']; done)) rfl ?_); intro wn m; simp only [List.set_cons_succ, List.set_cons_zero, List.setIfInBounds_toArray, zeroS] at m; have M := Lib.hid m; clear m)
      | (go_at_call 49; go_must (refine (l03Asked_any _ F HF.out A n xs HX.out hm true _ (M.out.blk 0 rfl) (M.out.sl HS.out)).mono ?_); rintro e w_ ⟨rfl, N_⟩; have m := M.out.join N_; clear N_; simp only [List.cons_append, List.nil_append, List.append_nil] at m; have M := Lib.hid m; clear m; rw [hcd])
      )
    go_loopw [8] (fun v wr => ∃ k : Nat, k ≤ 100 ∧ v = .int .i64 k ∧ Mem w wr [.blk g2 29 F.cells, .blk g4 27 (ints .i16 (zs 100)), .blk g6 27 (ints .i16 (fearsOf xs (F.below k)))])
      (fun v _ => 100 - (intOf v).toNat)
    case atStart => exact ⟨0, by omega, rfl, M.out⟩
    case round =>
      clear M
      obtain ⟨k, hk, rfl, m⟩ := hrel
      have M := Lib.hid m
      clear m
      have S3 := Lib.hid (show (ints .i16 (fearsOf xs (F.below k))).size = 100 by rw [ints_size, fearsOf_len])
      by_cases hlt : k < 100
      · have hf := fearAt_small HP.out (c := (k : Int)) (by omega) (by omega)
        have hw := IntWalk.i16_in (fearAt xs k) (by omega)
        have HJ := Lib.hid (show k < (ints .i16 (fearsOf xs (F.below k))).size by rw [S3.out]; exact hlt)
        have i0 : (0 : Int) ≤ (k : Int) := by omega
        have i1 : (k : Int) < 100 := by omega
        cases hq : F.has k
        · have HQ := Lib.hid hq
          clear hq
          go_wp2_with (first
            | (go_at_call 50; go_must (refine (l01Is_any _ F HF.out _ _ (M.out.blk 0 rfl)).mono ?_); rintro e w_ ⟨rfl, rfl⟩; rw [HQ.out])
            )
          refine ⟨⟨k + 1, by omega, by go_num, ?_⟩, by simp [intOf]; omega⟩
          rw [F.below_succ, HQ.out]
          simpa using M.out
        · have HQ := Lib.hid hq
          clear hq
          go_wp2_with (first
            | (go_at_call 50; go_must (refine (l01Is_any _ F HF.out _ _ (M.out.blk 0 rfl)).mono ?_); rintro e w_ ⟨rfl, rfl⟩; rw [HQ.out])
            | (go_at_call 51; go_must (refine (l03Fear_any A n xs HP.out hl k i0 (by omega) _ (M.out.sl HS.out)).mono ?_); rintro e w_ ⟨rfl, N_⟩; have m := M.out.join N_; clear N_; simp only [List.cons_append, List.nil_append, List.append_nil] at m; have M := Lib.hid m; clear m)
            | ((with_reducible refine gate_store (x := .tmp 27) rfl ?_); go_must (refine M.out.ev_put 2 _ _ _ rfl rfl rfl rfl (.int .i16 (fearAt xs k)) rfl HJ.out sz26 rfl rfl ?_); intro wn m; simp only [List.set_cons_succ, List.set_cons_zero] at m; have M := Lib.hid m; clear m)
            )
          refine ⟨⟨k + 1, by omega, by go_num, ?_⟩, by simp [intOf]; omega⟩
          have m := M.out
          rw [F.below_succ, HQ.out]
          simp only [if_true, fearsOf_snoc, ← ints_set]
          exact m
      · obtain rfl : k = 100 := by omega
        go_wp2_with (first
          | ((with_reducible refine gate_dst (N := 2) rfl ?_); go_must (refine M.out.ev_new rfl (by first | (go_simp; done) | (go_simp; rfl)) ?_); intro g2 w2 m; simp only [List.cons_append, List.nil_append, zeroS] at m; have M := Lib.hid m; clear m)
          | ((with_reducible refine gate_dst (N := 4) rfl ?_); go_must (refine M.out.ev_new rfl (by first | (go_simp; done) | (go_simp; rfl)) ?_); intro g4 w4 m; simp only [List.cons_append, List.nil_append, zeroS] at m; have M := Lib.hid m; clear m)
          | ((with_reducible refine gate_dst (N := 6) rfl ?_); go_must (refine M.out.ev_new rfl (by first | (go_simp; done) | (go_simp; rfl)) ?_); intro g6 w6 m; simp only [List.cons_append, List.nil_append, zeroS] at m; have M := Lib.hid m; clear m)
          | ((with_reducible refine gate_store (x := .tmp 6) rfl ?_); go_must (refine M.out.ev_stw 2 _ _ _ rfl rfl rfl rfl _ rfl (by first | rfl | (simp only [S1.out]; rfl) | (simp only [S1.out, S2.out]; rfl) | (simp only [S3.out]; rfl) | (simp only [S1.out, S2.out, S3.out]; rfl)) (by first | exact sz27 | (rw [S1.out]; exact sz27) | (rw [S2.out]; exact sz27) | (rw [S3.out]; exact sz27)) (by first | exact ints_one _ _ | exact Fld.one _ | exact O1.out | rfl | (simp [Value.oneCell']; done)) rfl ?_); intro wn m; simp only [List.set_cons_succ, List.set_cons_zero, List.setIfInBounds_toArray, zeroS] at m; have M := Lib.hid m; clear m)
          | ((with_reducible refine gate_dst (N := 14) rfl ?_); go_must (refine M.out.ev_ldw 2 _ _ rfl rfl rfl Tryz.underlying27 rfl (by first | exact sz27 | (rw [S1.out]; exact sz27) | (rw [S2.out]; exact sz27) | (rw [S3.out]; exact sz27)) rfl ?_))
          | ((with_reducible refine gate_store (x := .tmp 4) rfl ?_); go_must (refine M.out.ev_stw 1 _ _ _ rfl rfl rfl rfl _ rfl (by first | rfl | (simp only [S1.out]; rfl) | (simp only [S1.out, S2.out]; rfl) | (simp only [S3.out]; rfl) | (simp only [S1.out, S2.out, S3.out]; rfl)) (by first | exact sz27 | (rw [S1.out]; exact sz27) | (rw [S2.out]; exact sz27) | (rw [S3.out]; exact sz27)) (by first | exact ints_one _ _ | exact Fld.one _ | exact O1.out | rfl | (simp [Value.oneCell']; done)) rfl ?_); intro wn m; simp only [List.set_cons_succ, List.set_cons_zero, List.setIfInBounds_toArray, zeroS] at m; have M := Lib.hid m; clear m)
          | ((with_reducible refine gate_store (x := .tmp 27) rfl ?_); go_must (refine M.out.ev_put 2 _ _ _ rfl rfl rfl rfl (.int _ _) rfl (by first | assumption | exact Fld.lt0 _ | exact Fld.lt1 _ | (simp; done) | (simp only [ints_size]; omega)) sz26 rfl rfl ?_); intro wn m; simp only [List.set_cons_succ, List.set_cons_zero, List.setIfInBounds_toArray, zeroS] at m; have M := Lib.hid m; clear m)
          | ((with_reducible refine gate_dst (N := 28) rfl ?_); go_must (refine M.out.ev_ldw 2 _ _ rfl rfl rfl Tryz.underlying27 rfl (by first | exact sz27 | (rw [S1.out]; exact sz27) | (rw [S2.out]; exact sz27) | (rw [S3.out]; exact sz27)) rfl ?_))
          | ((with_reducible refine gate_store (x := .tmp 4) rfl ?_); go_must (refine M.out.ev_stw 1 _ _ _ rfl rfl rfl rfl _ rfl (by first | rfl | (simp only [S1.out]; rfl) | (simp only [S1.out, S2.out]; rfl) | (simp only [S3.out]; rfl) | (simp only [S1.out, S2.out, S3.out]; rfl)) (by first | exact sz27 | (rw [S1.out]; exact sz27) | (rw [S2.out]; exact sz27) | (rw [S3.out]; exact sz27)) (by first | exact ints_one _ _ | exact Fld.one _ | exact O1.out | rfl | (simp [Value.oneCell']; done)) rfl ?_); intro wn m; simp only [List.set_cons_succ, List.set_cons_zero, List.setIfInBounds_toArray, zeroS] at m; have M := Lib.hid m; clear m)
          )
        refine ret_ct rfl ((M.out.blk 1 rfl).var Tryz.underlying27 rfl (by rw [S3.out]; exact sz27)) ⟨?_, M.out.take 0⟩
        simp only [fearMap, fmCode, HV.out]
        rfl
end Go.Proofs.YtoacnfofijikmaaGreatDoor
namespace Go.Proofs.YtoacnfofijikmaaGreatDoor
set_option linter.unusedSimpArgs false
set_option linter.unusedVariables false
open Go.RowKit
attribute [local go_sem] cell?_mk frozen?_mk

theorem filter_lt {F : Fld} {p : Nat → Bool} {k : Nat} : ∀ j ∈ (F.all.take k).filter p, j < 128 := fun j hj => by
  have := (Fld.all_has (List.mem_of_mem_take (List.mem_filter.1 hj).1)).1
  omega
set_option maxRecDepth 100000 in
set_option maxHeartbeats 2000000 in
theorem those_any (g : Nat) {t : TypeId} (F : Fld) (hF : F.ok) (f : FuncId) (caps : Array Value) (p : Nat → Bool) (w : World) (hb : Blk w g t F.cells)
    (HF : ∀ (vs : Array Value) (w : World), Sem.run Tryz.prog (callFunc f vs) w = Result.ok (Next.enter f vs) w)
    (H : ∀ k : Nat, k < 100 → F.has k = true → ∀ w1, Mem w w1 [] → Calls Tryz.prog f (#[.int .i64 k] ++ caps) w1 fun e w' => e = .returned (.bool (p k)) ∧ Mem w1 w' []) :
    Calls Tryz.prog 97 #[.pointer (some ⟨g, 0, none⟩), .func (.func f) #[] caps] w fun e w' => e = .returned (.agg (setOf (F.all.filter p)).cells) ∧ Mem w w' [] := by
  have M := Lib.hid (Mem.start w)
  have HB := Lib.hid hb
  have HH := Lib.hid H
  have HFF := Lib.hid hF
  have O1 := Lib.hid (Cs.one (setOf (F.all.filter p)))
  clear hb H hF
  go_enter Tryz.func97, Tryz.ntmps97
  go_wp2_with (first
    | ((with_reducible refine gate_dst (N := 4) rfl ?_); go_must (refine M.out.ev_new rfl (by first | (go_simp; done) | (go_simp; rfl)) ?_); intro g4 w4 m; simp only [List.cons_append, List.nil_append] at m; have M := Lib.hid m; clear m)
    | ((with_reducible refine gate_dst (N := 5) rfl ?_); go_must (refine M.out.ev_new rfl (by first | (go_simp; done) | (go_simp; rfl)) ?_); intro g5 w5 m; simp only [List.cons_append, List.nil_append] at m; have M := Lib.hid m; clear m)
    | ((with_reducible refine gate_store (x := .tmp 5) rfl ?_); go_must (refine M.out.ev_stw 1 _ _ _ rfl rfl rfl rfl _ rfl (by first | rfl | (simp only [S1.out]; rfl) | (simp only [S1.out, S2.out]; rfl) | (simp only [S3.out]; rfl) | (simp only [S1.out, S2.out, S3.out]; rfl)) (by first | exact sz44 | (rw [S1.out]; exact sz44) | (rw [S2.out]; exact sz44) | (rw [S3.out]; exact sz44)) (by first | exact ints_one _ _ | exact Fld.one _ | exact O1.out | rfl | (simp [Value.oneCell']; done)) rfl ?_); intro wn m; simp only [List.set_cons_succ, List.set_cons_zero, List.setIfInBounds_toArray] at m; have M := Lib.hid m; clear m)
    | ((with_reducible refine gate_dst (N := 22) rfl ?_); go_must (refine M.out.ev_ldw 1 _ _ rfl rfl rfl Tryz.underlying44 rfl (by first | exact sz44 | (rw [S1.out]; exact sz44) | (rw [S2.out]; exact sz44) | (rw [S3.out]; exact sz44)) rfl ?_))
    | ((with_reducible refine gate_store (x := .tmp 4) rfl ?_); go_must (refine M.out.ev_stw 0 _ _ _ rfl rfl rfl rfl _ rfl (by first | rfl | (simp only [S1.out]; rfl) | (simp only [S1.out, S2.out]; rfl) | (simp only [S3.out]; rfl) | (simp only [S1.out, S2.out, S3.out]; rfl)) (by first | exact sz44 | (rw [S1.out]; exact sz44) | (rw [S2.out]; exact sz44) | (rw [S3.out]; exact sz44)) (by first | exact ints_one _ _ | exact Fld.one _ | exact O1.out | rfl | (simp [Value.oneCell']; done)) rfl ?_); intro wn m; simp only [List.set_cons_succ, List.set_cons_zero, List.setIfInBounds_toArray] at m; have M := Lib.hid m; clear m)
    | (go_at_call 52; go_must (refine (cells_any g F HFF.out _ (M.out.arg HB.out)).mono ?_); rintro e w_ ⟨A_, c_, rfl, hc_, N_⟩; have m := M.out.join N_; clear N_; simp only [List.cons_append, List.nil_append, List.append_nil] at m; have M := Lib.hid m; clear m)
    )
  go_loopw [12] (fun v wr => ∃ k : Nat, k ≤ F.all.length ∧ v = .int .i64 k ∧ Mem w wr [.blk g4 44 Cs.z.cells, .blk g5 44 (setOf ((F.all.take k).filter p)).cells, .row (.slice A_ F.all.length c_) 2 1 F.all.length (flat one64 F.all)])
    (fun v _ => F.all.length - (intOf v).toNat)
  case atStart => exact ⟨0, by omega, rfl, M.out⟩
  case round =>
    clear M
    obtain ⟨k, hk, rfl, m⟩ := hrel
    have M := Lib.hid m
    clear m
    have hal : F.all.length ≤ 100 := F.below_len 100
    have CO := Lib.hid (setOf_ok _ (filter_lt (F := F) (p := p) (k := k)))
    by_cases hlt : k < F.all.length
    · obtain ⟨b, off, rfl, hr⟩ := (M.out.slof 2 rfl).2 (by omega)
      have hxk : F.all[k]? = some F.all[k] := List.getElem?_eq_getElem hlt
      have hmem := Fld.all_has (List.getElem_mem hlt)
      obtain ⟨j, hj⟩ : ∃ j, j = F.all[k] := ⟨_, rfl⟩
      have R := range_at one64_len hr hxk
      have HT := Lib.hid (show F.all.take (k + 1) = F.all.take k ++ [j] by rw [List.take_succ_eq_append_getElem hlt, hj])
      rw [← hj] at R hmem
      have x0 : wr.cell? ⟨b, off + k, none⟩ = some (.int .i64 j) := by
        have := R 0 _ rfl
        simpa [nat64] using this
      obtain ⟨j0, j1⟩ := hmem
      have i0 : (0 : Int) ≤ (j : Int) := by omega
      have J1 := Lib.hid j1
      clear hr hxk R hj j1
      cases hp : p j
      · have HP := Lib.hid hp
        clear hp
        go_wp2_with (first
          | (refine (HH.out j j0 J1.out _ (M.out.take 0)).mono ?_; rintro e w_ ⟨rfl, N_⟩; have m := M.out.join N_; clear N_; simp only [List.cons_append, List.nil_append, List.append_nil] at m; have M := Lib.hid m; clear m; rw [HP.out])
          )
        refine ⟨⟨k + 1, by omega, by go_num, ?_⟩, by simp [intOf]; omega⟩
        rw [HT.out, List.filter_append]
        simpa [HP.out] using M.out
      · have HP := Lib.hid hp
        clear hp
        go_wp2_with (first
          | (refine (HH.out j j0 J1.out _ (M.out.take 0)).mono ?_; rintro e w_ ⟨rfl, N_⟩; have m := M.out.join N_; clear N_; simp only [List.cons_append, List.nil_append, List.append_nil] at m; have M := Lib.hid m; clear m; rw [HP.out])
          | (go_at_call 118; go_must (refine (put_any 1 M.out _ _ CO.out rfl j j0).mono ?_); rintro e w_ ⟨rfl, m⟩; simp only [List.set_cons_succ, List.set_cons_zero] at m; have M := Lib.hid m; clear m)
          )
        refine ⟨⟨k + 1, by omega, by go_num, ?_⟩, by simp [intOf]; omega⟩
        rw [HT.out, List.filter_append, show [j].filter p = [j] by simp [HP.out], setOf_snoc]
        exact M.out
    · obtain rfl : k = F.all.length := by omega
      rw [List.take_length] at M
      go_wp2_with (first
        | ((with_reducible refine gate_dst (N := 4) rfl ?_); go_must (refine M.out.ev_new rfl (by first | (go_simp; done) | (go_simp; rfl)) ?_); intro g4 w4 m; simp only [List.cons_append, List.nil_append] at m; have M := Lib.hid m; clear m)
        | ((with_reducible refine gate_dst (N := 5) rfl ?_); go_must (refine M.out.ev_new rfl (by first | (go_simp; done) | (go_simp; rfl)) ?_); intro g5 w5 m; simp only [List.cons_append, List.nil_append] at m; have M := Lib.hid m; clear m)
        | ((with_reducible refine gate_store (x := .tmp 5) rfl ?_); go_must (refine M.out.ev_stw 1 _ _ _ rfl rfl rfl rfl _ rfl (by first | rfl | (simp only [S1.out]; rfl) | (simp only [S1.out, S2.out]; rfl) | (simp only [S3.out]; rfl) | (simp only [S1.out, S2.out, S3.out]; rfl)) (by first | exact sz44 | (rw [S1.out]; exact sz44) | (rw [S2.out]; exact sz44) | (rw [S3.out]; exact sz44)) (by first | exact ints_one _ _ | exact Fld.one _ | exact O1.out | rfl | (simp [Value.oneCell']; done)) rfl ?_); intro wn m; simp only [List.set_cons_succ, List.set_cons_zero, List.setIfInBounds_toArray] at m; have M := Lib.hid m; clear m)
        | ((with_reducible refine gate_dst (N := 22) rfl ?_); go_must (refine M.out.ev_ldw 1 _ _ rfl rfl rfl Tryz.underlying44 rfl (by first | exact sz44 | (rw [S1.out]; exact sz44) | (rw [S2.out]; exact sz44) | (rw [S3.out]; exact sz44)) rfl ?_))
        | ((with_reducible refine gate_store (x := .tmp 4) rfl ?_); go_must (refine M.out.ev_stw 0 _ _ _ rfl rfl rfl rfl _ rfl (by first | rfl | (simp only [S1.out]; rfl) | (simp only [S1.out, S2.out]; rfl) | (simp only [S3.out]; rfl) | (simp only [S1.out, S2.out, S3.out]; rfl)) (by first | exact sz44 | (rw [S1.out]; exact sz44) | (rw [S2.out]; exact sz44) | (rw [S3.out]; exact sz44)) (by first | exact ints_one _ _ | exact Fld.one _ | exact O1.out | rfl | (simp [Value.oneCell']; done)) rfl ?_); intro wn m; simp only [List.set_cons_succ, List.set_cons_zero, List.setIfInBounds_toArray] at m; have M := Lib.hid m; clear m)
        )
      exact ret_cell rfl (M.out.blk 0 rfl) Tryz.underlying44 rfl sz44 rfl ⟨rfl, M.out.take 0⟩
end Go.Proofs.YtoacnfofijikmaaGreatDoor
