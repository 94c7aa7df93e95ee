/- Texts of a proof, laid together: SafeFrom2, ChoiceLaw, Prices, Cost. -/
import Derived.Test.YtkomhngokcejbaaGreatDoorZV10
import Derived.Test.YtkomhngokcejbaaGreatDoorZV09
import Derived.Test.YtkomhngokcejbaaGreatDoorZV00
import Derived.Test.YtkomhngokcejbaaGreatDoorZV01
import Derived.Test.YtkomhngokcejbaaGreatDoorZV03
import Derived.Laws.StructEq
namespace Go.Proofs.YtkomhngokcejbaaGreatDoor
set_option linter.unusedSimpArgs false
set_option linter.unusedVariables false
open Go.RowKit
attribute [local go_sem] cell?_mk frozen?_mk

def calmBy (F : Fld) (fs : List Int) (xs : List Flock) (k j : Nat) : Bool := (F.has k && (F.kind k == 0)) && (xs.take j).all fun x => !(F.has k && goP F fs x k)
theorem calmBy_0 (F : Fld) (fs : List Int) (xs : List Flock) (k : Nat) : calmBy F fs xs k 0 = (F.has k && (F.kind k == 0)) := by simp [calmBy]
theorem calmBy_all (F : Fld) (fs : List Int) (xs : List Flock) (k : Nat) : calmBy F fs xs k xs.length = calmAt F fs xs k := by simp [calmBy, calmAt]
theorem calmBy_succ (F : Fld) (fs : List Int) (xs : List Flock) (k : Nat) {j : Nat} (hj : j < xs.length) : calmBy F fs xs k (j + 1) = (calmBy F fs xs k j && !(F.has k && goP F fs xs[j] k)) := by
  rw [calmBy, calmBy, List.take_succ_eq_append_getElem hj, List.all_append]
  simp [Bool.and_assoc]
set_option maxRecDepth 100000 in
set_option maxHeartbeats 4000000 in
theorem spec_SafeFrom_any (F : Fld) (hF : F.ok) (fs : List Int) (hfl : fs.length = 100) (hff : ∀ x ∈ fs, -32768 ≤ x ∧ x ≤ 32767) (A : Option Addr) (n : Nat) (xs : List Flock) (hx : ∀ x ∈ xs, x.ok) (hl : xs.length ≤ 1048576) (w : World) (hs : Sl w 6 A xs.length (flat Flock.vals xs)) :
    Calls Tryz.prog 12 #[.agg F.cells, .agg (ints .i16 fs), .slice A xs.length n] w fun e w' => e = .returned (.tuple #[.agg (sfRes F fs xs).cells, .int .i64 (sfCode F fs xs)]) ∧ Mem w w' [] := by
  have M := Lib.hid (Mem.start w)
  have HX := Lib.hid hx
  have HS := Lib.hid hs
  have HF := Lib.hid hF
  have HFF := Lib.hid hff
  have S1 := Lib.hid (Fld.size hF.toLen)
  clear hx hs hF hff
  cases hd : birdsOk F fs xs
  · have HD := Lib.hid hd
    have HC := Lib.hid (show birdsCode F fs xs = 1 by rw [birdsCode, hd]; rfl)
    clear hd
    go_enter Tryz.func12, Tryz.ntmps12
    go_wp2_with (first
      | ((with_reducible refine gate_dst (N := 3) rfl ?_); go_must (refine M.out.ev_new rfl (by first | (go_simp; done) | (go_simp; rfl)) ?_); intro g3 w3 m; simp only [List.cons_append, List.nil_append] at m; have M := Lib.hid m; clear m)
      | ((with_reducible refine gate_dst (N := 4) rfl ?_); go_must (refine M.out.ev_new rfl (by first | (go_simp; done) | (go_simp; rfl)) ?_); intro g4 w4 m; simp only [List.cons_append, List.nil_append] at m; have M := Lib.hid m; clear m)
      | ((with_reducible refine gate_dst (N := 6) rfl ?_); go_must (refine M.out.ev_new rfl (by first | (go_simp; done) | (go_simp; rfl)) ?_); intro g6 w6 m; simp only [List.cons_append, List.nil_append] at m; have M := Lib.hid m; clear m)
      | ((with_reducible refine gate_store (x := .tmp 6) rfl ?_); go_must (refine M.out.ev_stw 2 _ _ _ rfl rfl rfl rfl _ rfl (by first | rfl | (simp only [S1.out]; rfl) | (simp only [S1.out, S2.out]; rfl) | (simp only [S3.out]; rfl) | (simp only [S1.out, S2.out, S3.out]; rfl)) (by first | exact sz40 | (rw [S1.out]; exact sz40) | (rw [S2.out]; exact sz40) | (rw [S3.out]; exact sz40)) (by first | exact ints_one _ _ | exact Fld.one _ | exact O1.out | rfl | (simp [Value.oneCell']; done)) rfl ?_); intro wn m; simp only [List.set_cons_succ, List.set_cons_zero, List.setIfInBounds_toArray] at m; have M := Lib.hid m; clear m)
      | ((with_reducible refine gate_dst (N := 9) rfl ?_); go_must (refine M.out.ev_new rfl (by first | (go_simp; done) | (go_simp; rfl)) ?_); intro g9 w9 m; simp only [List.cons_append, List.nil_append] at m; have M := Lib.hid m; clear m)
      | ((with_reducible refine gate_store (x := .tmp 9) rfl ?_); go_must (refine M.out.ev_stw 3 _ _ _ rfl rfl rfl rfl _ rfl (by first | rfl | (simp only [S1.out]; rfl) | (simp only [S1.out, S2.out]; rfl) | (simp only [S3.out]; rfl) | (simp only [S1.out, S2.out, S3.out]; rfl)) (by first | exact sz40 | (rw [S1.out]; exact sz40) | (rw [S2.out]; exact sz40) | (rw [S3.out]; exact sz40)) (by first | exact ints_one _ _ | exact Fld.one _ | exact O1.out | rfl | (simp [Value.oneCell']; done)) rfl ?_); intro wn m; simp only [List.set_cons_succ, List.set_cons_zero, List.setIfInBounds_toArray] at m; have M := Lib.hid m; clear m)
      | ((with_reducible refine gate_dst (N := 51) rfl ?_); go_must (refine M.out.ev_ldw 3 _ _ rfl rfl rfl Tryz.underlying40 rfl (by first | exact sz40 | (rw [S1.out]; exact sz40) | (rw [S2.out]; exact sz40) | (rw [S3.out]; exact sz40)) rfl ?_))
      | ((with_reducible refine gate_store (x := .tmp 6) rfl ?_); go_must (refine M.out.ev_stw 2 _ _ _ rfl rfl rfl rfl _ rfl (by first | rfl | (simp only [S1.out]; rfl) | (simp only [S1.out, S2.out]; rfl) | (simp only [S3.out]; rfl) | (simp only [S1.out, S2.out, S3.out]; rfl)) (by first | exact sz40 | (rw [S1.out]; exact sz40) | (rw [S2.out]; exact sz40) | (rw [S3.out]; exact sz40)) (by first | exact ints_one _ _ | exact Fld.one _ | exact O1.out | rfl | (simp [Value.oneCell']; done)) rfl ?_); intro wn m; simp only [List.set_cons_succ, List.set_cons_zero, List.setIfInBounds_toArray] at m; have M := Lib.hid m; clear m)
      | (go_at_call 70; go_must (refine (l02All_any _ _ F HF.out fs hfl HFF.out A n xs HX.out hl _ (M.out.blk 0 rfl) (M.out.blk 1 rfl) (M.out.sl HS.out)).mono ?_); rintro e w_ ⟨rfl, rfl⟩; rw [HC.out])
      )
    refine ret_ct rfl ((M.out.blk 2 rfl).var Tryz.underlying40 rfl sz40) ⟨?_, M.out.take 0⟩
    simp only [sfRes, sfCode, HD.out]
    rfl
  · have HD := Lib.hid hd
    have HC := Lib.hid (show birdsCode F fs xs = 0 by rw [birdsCode, hd]; rfl)
    have HP := Lib.hid (birdsOk_plain hd)
    clear hd
    go_enter Tryz.func12, Tryz.ntmps12
    go_wp2_with (first
      | ((with_reducible refine gate_dst (N := 3) rfl ?_); go_must (refine M.out.ev_new rfl (by first | (go_simp; done) | (go_simp; rfl)) ?_); intro g3 w3 m; simp only [List.cons_append, List.nil_append] at m; have M := Lib.hid m; clear m)
      | ((with_reducible refine gate_dst (N := 4) rfl ?_); go_must (refine M.out.ev_new rfl (by first | (go_simp; done) | (go_simp; rfl)) ?_); intro g4 w4 m; simp only [List.cons_append, List.nil_append] at m; have M := Lib.hid m; clear m)
      | ((with_reducible refine gate_dst (N := 6) rfl ?_); go_must (refine M.out.ev_new rfl (by first | (go_simp; done) | (go_simp; rfl)) ?_); intro g6 w6 m; simp only [List.cons_append, List.nil_append] at m; have M := Lib.hid m; clear m)
      | ((with_reducible refine gate_store (x := .tmp 6) rfl ?_); go_must (refine M.out.ev_stw 2 _ _ _ rfl rfl rfl rfl _ rfl (by first | rfl | (simp only [S1.out]; rfl) | (simp only [S1.out, S2.out]; rfl) | (simp only [S3.out]; rfl) | (simp only [S1.out, S2.out, S3.out]; rfl)) (by first | exact sz40 | (rw [S1.out]; exact sz40) | (rw [S2.out]; exact sz40) | (rw [S3.out]; exact sz40)) (by first | exact ints_one _ _ | exact Fld.one _ | exact O1.out | rfl | (simp [Value.oneCell']; done)) rfl ?_); intro wn m; simp only [List.set_cons_succ, List.set_cons_zero, List.setIfInBounds_toArray] at m; have M := Lib.hid m; clear m)
      | ((with_reducible refine gate_dst (N := 9) rfl ?_); go_must (refine M.out.ev_new rfl (by first | (go_simp; done) | (go_simp; rfl)) ?_); intro g9 w9 m; simp only [List.cons_append, List.nil_append] at m; have M := Lib.hid m; clear m)
      | ((with_reducible refine gate_store (x := .tmp 9) rfl ?_); go_must (refine M.out.ev_stw 3 _ _ _ rfl rfl rfl rfl _ rfl (by first | rfl | (simp only [S1.out]; rfl) | (simp only [S1.out, S2.out]; rfl) | (simp only [S3.out]; rfl) | (simp only [S1.out, S2.out, S3.out]; rfl)) (by first | exact sz40 | (rw [S1.out]; exact sz40) | (rw [S2.out]; exact sz40) | (rw [S3.out]; exact sz40)) (by first | exact ints_one _ _ | exact Fld.one _ | exact O1.out | rfl | (simp [Value.oneCell']; done)) rfl ?_); intro wn m; simp only [List.set_cons_succ, List.set_cons_zero, List.setIfInBounds_toArray] at m; have M := Lib.hid m; clear m)
      | ((with_reducible refine gate_dst (N := 51) rfl ?_); go_must (refine M.out.ev_ldw 3 _ _ rfl rfl rfl Tryz.underlying40 rfl (by first | exact sz40 | (rw [S1.out]; exact sz40) | (rw [S2.out]; exact sz40) | (rw [S3.out]; exact sz40)) rfl ?_))
      | ((with_reducible refine gate_store (x := .tmp 6) rfl ?_); go_must (refine M.out.ev_stw 2 _ _ _ rfl rfl rfl rfl _ rfl (by first | rfl | (simp only [S1.out]; rfl) | (simp only [S1.out, S2.out]; rfl) | (simp only [S3.out]; rfl) | (simp only [S1.out, S2.out, S3.out]; rfl)) (by first | exact sz40 | (rw [S1.out]; exact sz40) | (rw [S2.out]; exact sz40) | (rw [S3.out]; exact sz40)) (by first | exact ints_one _ _ | exact Fld.one _ | exact O1.out | rfl | (simp [Value.oneCell']; done)) rfl ?_); intro wn m; simp only [List.set_cons_succ, List.set_cons_zero, List.setIfInBounds_toArray] at m; have M := Lib.hid m; clear m)
      | (go_at_call 70; go_must (refine (l02All_any _ _ F HF.out fs hfl HFF.out A n xs HX.out hl _ (M.out.blk 0 rfl) (M.out.blk 1 rfl) (M.out.sl HS.out)).mono ?_); rintro e w_ ⟨rfl, rfl⟩; rw [HC.out])
      )
    go_loopw [10] (fun v wr => ∃ k : Nat, k ≤ 100 ∧ v = .int .i64 k ∧ Mem w wr [.blk g3 29 F.cells, .blk g4 31 (ints .i16 fs), .blk g6 40 Cs.z.cells, .blk g9 40 (calmTo F fs xs k).cells])
      (fun v _ => 100 - (intOf v).toNat)
    case atStart => exact ⟨0, by omega, rfl, M.out⟩
    case round =>
      clear M
      obtain ⟨k, hk, rfl, m⟩ := hrel
      have M := Lib.hid m
      clear m
      have CO := Lib.hid (calmTo_ok F fs xs hk)
      by_cases hlt : k < 100
      · have i0 : (0 : Int) ≤ (k : Int) := by omega
        have i1 : (k : Int) < 100 := by omega
        have kb := HF.out.kb k
        have hsu := calmTo_succ F fs xs k
        have y4 := M.out.cell (j := 2 + k) 0 rfl (Fld.cellK HF.out.toLen hlt)
        cases hh : F.has k <;> cases hk3 : (F.kind k == 0)
        all_goals
          have HH := Lib.hid hh
          have HK := Lib.hid hk3
          have HSU := Lib.hid hsu
          have H0 := Lib.hid (calmBy_0 F fs xs k)
          clear hh hsu
          go_wp2_with (first
            | (go_at_call 71; go_must (refine (l01Is_any _ F HF.out k _ (M.out.blk 0 rfl)).mono ?_); rintro e w_ ⟨rfl, rfl⟩; rw [HH.out])
            )
          go_loopw [11, 12] (fun s v wr => ∃ j : Nat, j ≤ xs.length ∧ v = .int .i64 j ∧ s = .bool (calmBy F fs xs k j) ∧ Mem w wr [.blk g3 29 F.cells, .blk g4 31 (ints .i16 fs), .blk g6 40 Cs.z.cells, .blk g9 40 (calmTo F fs xs k).cells])
            (fun _ v _ => xs.length - (intOf v).toNat)
          case atStart => exact ⟨0, by omega, rfl, by rw [H0.out, HH.out, HK.out]; rfl, M.out⟩
          case round =>
            clear M y4
            obtain ⟨j, hj, rfl, rfl, m⟩ := hrel
            have M := Lib.hid m
            clear m
            by_cases hjl : j < xs.length
            · obtain ⟨b, off, rfl, hr⟩ := (M.out.sl HS.out).2 (by omega)
              have HPX := Lib.hid (HP.out xs[j] (List.getElem_mem hjl))
              have R := Lib.hid (range_at Flock.vl hr (List.getElem?_eq_getElem hjl))
              have HJ := Lib.hid (calmBy_succ F fs xs k hjl)
              clear hr
              cases hcb : calmBy F fs xs k j
              · have HCB := Lib.hid hcb
                clear hcb
                go_wp2
                refine ⟨⟨j + 1, by omega, by go_num, ?_, M.out⟩, by simp [intOf]; omega⟩
                rw [HJ.out, HCB.out]
                rfl
              · have HCB := Lib.hid hcb
                clear hcb
                cases hw : (F.has k && goP F fs xs[j] k)
                all_goals
                  have HW := Lib.hid hw
                  clear hw
                  go_wp2_with (first
                    | (go_at_call 72; go_must (refine (l02Would_any _ _ b _ F HF.out fs hfl xs[j] HPX.out k hlt _ (M.out.blk 0 rfl) (M.out.blk 1 rfl) R.out).mono ?_); rintro e w_ ⟨rfl, N_⟩; have m := M.out.join N_; clear N_; simp only [List.cons_append, List.nil_append, List.append_nil] at m; have M := Lib.hid m; clear m; rw [HW.out])
                    )
                  refine ⟨⟨j + 1, by omega, by go_num, ?_, M.out⟩, by simp [intOf]; omega⟩
                  rw [HJ.out, HCB.out, HW.out]
                  rfl
            · obtain rfl : j = xs.length := by omega
              have HCA := Lib.hid (calmBy_all F fs xs k)
              cases hca : calmAt F fs xs k
              · have HQ := Lib.hid hca
                have hcb : calmBy F fs xs k xs.length = false := by rw [HCA.out, hca]
                have hU : calmTo F fs xs (k + 1) = calmTo F fs xs k := by rw [HSU.out, hca]; rfl
                have HU := Lib.hid hU
                rw [hcb]
                clear hca hU hcb
                go_wp2
                refine ⟨⟨k + 1, by omega, by go_num, ?_⟩, by simp [intOf]; omega⟩
                rw [HU.out]
                exact M.out
              · have HQ := Lib.hid hca
                have hcb : calmBy F fs xs k xs.length = true := by rw [HCA.out, hca]
                have hU : calmTo F fs xs (k + 1) = (calmTo F fs xs k).put k := by rw [HSU.out, hca]; rfl
                have HU := Lib.hid hU
                rw [hcb]
                clear hca hU hcb
                go_wp2_with (first
                  | (go_at_call 73; go_must (refine (l01Put_any 3 M.out _ _ CO.out rfl k hlt).mono ?_); rintro e w_ ⟨rfl, m⟩; simp only [List.set_cons_succ, List.set_cons_zero] at m; have M := Lib.hid m; clear m)
                  )
                refine ⟨⟨k + 1, by omega, by go_num, ?_⟩, by simp [intOf]; omega⟩
                rw [HU.out]
                exact M.out
      · obtain rfl : k = 100 := by omega
        rw [calmTo_all] at M
        have O1 := Lib.hid (Cs.one (leftOf F fs xs))
        go_wp2_with (first
          | ((with_reducible refine gate_dst (N := 3) rfl ?_); go_must (refine M.out.ev_new rfl (by first | (go_simp; done) | (go_simp; rfl)) ?_); intro g3 w3 m; simp only [List.cons_append, List.nil_append] at m; have M := Lib.hid m; clear m)
          | ((with_reducible refine gate_dst (N := 4) rfl ?_); go_must (refine M.out.ev_new rfl (by first | (go_simp; done) | (go_simp; rfl)) ?_); intro g4 w4 m; simp only [List.cons_append, List.nil_append] at m; have M := Lib.hid m; clear m)
          | ((with_reducible refine gate_dst (N := 6) rfl ?_); go_must (refine M.out.ev_new rfl (by first | (go_simp; done) | (go_simp; rfl)) ?_); intro g6 w6 m; simp only [List.cons_append, List.nil_append] at m; have M := Lib.hid m; clear m)
          | ((with_reducible refine gate_store (x := .tmp 6) rfl ?_); go_must (refine M.out.ev_stw 2 _ _ _ rfl rfl rfl rfl _ rfl (by first | rfl | (simp only [S1.out]; rfl) | (simp only [S1.out, S2.out]; rfl) | (simp only [S3.out]; rfl) | (simp only [S1.out, S2.out, S3.out]; rfl)) (by first | exact sz40 | (rw [S1.out]; exact sz40) | (rw [S2.out]; exact sz40) | (rw [S3.out]; exact sz40)) (by first | exact ints_one _ _ | exact Fld.one _ | exact O1.out | rfl | (simp [Value.oneCell']; done)) rfl ?_); intro wn m; simp only [List.set_cons_succ, List.set_cons_zero, List.setIfInBounds_toArray] at m; have M := Lib.hid m; clear m)
          | ((with_reducible refine gate_dst (N := 9) rfl ?_); go_must (refine M.out.ev_new rfl (by first | (go_simp; done) | (go_simp; rfl)) ?_); intro g9 w9 m; simp only [List.cons_append, List.nil_append] at m; have M := Lib.hid m; clear m)
          | ((with_reducible refine gate_store (x := .tmp 9) rfl ?_); go_must (refine M.out.ev_stw 3 _ _ _ rfl rfl rfl rfl _ rfl (by first | rfl | (simp only [S1.out]; rfl) | (simp only [S1.out, S2.out]; rfl) | (simp only [S3.out]; rfl) | (simp only [S1.out, S2.out, S3.out]; rfl)) (by first | exact sz40 | (rw [S1.out]; exact sz40) | (rw [S2.out]; exact sz40) | (rw [S3.out]; exact sz40)) (by first | exact ints_one _ _ | exact Fld.one _ | exact O1.out | rfl | (simp [Value.oneCell']; done)) rfl ?_); intro wn m; simp only [List.set_cons_succ, List.set_cons_zero, List.setIfInBounds_toArray] at m; have M := Lib.hid m; clear m)
          | ((with_reducible refine gate_dst (N := 51) rfl ?_); go_must (refine M.out.ev_ldw 3 _ _ rfl rfl rfl Tryz.underlying40 rfl (by first | exact sz40 | (rw [S1.out]; exact sz40) | (rw [S2.out]; exact sz40) | (rw [S3.out]; exact sz40)) rfl ?_))
          | ((with_reducible refine gate_store (x := .tmp 6) rfl ?_); go_must (refine M.out.ev_stw 2 _ _ _ rfl rfl rfl rfl _ rfl (by first | rfl | (simp only [S1.out]; rfl) | (simp only [S1.out, S2.out]; rfl) | (simp only [S3.out]; rfl) | (simp only [S1.out, S2.out, S3.out]; rfl)) (by first | exact sz40 | (rw [S1.out]; exact sz40) | (rw [S2.out]; exact sz40) | (rw [S3.out]; exact sz40)) (by first | exact ints_one _ _ | exact Fld.one _ | exact O1.out | rfl | (simp [Value.oneCell']; done)) rfl ?_); intro wn m; simp only [List.set_cons_succ, List.set_cons_zero, List.setIfInBounds_toArray] at m; have M := Lib.hid m; clear m)
          )
        refine ret_ct rfl ((M.out.blk 2 rfl).var Tryz.underlying40 rfl sz40) ⟨?_, M.out.take 0⟩
        simp only [sfRes, sfCode, HD.out]
        rfl
end Go.Proofs.YtkomhngokcejbaaGreatDoor
namespace Go.Proofs.YtkomhngokcejbaaGreatDoor
set_option linter.unusedSimpArgs false
set_option linter.unusedVariables false
open Go.RowKit
attribute [local go_sem] cell?_mk frozen?_mk

def chCode (F : Fld) (fs : List Int) (x : Flock) : Int := if birdsOk F fs [x] = true then if choiceOf F fs x < 0 then 6 else 0 else 1
def chRes (F : Fld) (fs : List Int) (x : Flock) : Int := if birdsOk F fs [x] = true then if choiceOf F fs x < 0 then 0 else choiceOf F fs x else 0
set_option maxRecDepth 100000 in
set_option maxHeartbeats 1000000 in
theorem spec_ChoiceOf_any (F : Fld) (hF : F.ok) (fs : List Int) (hfl : fs.length = 100) (hff : ∀ x ∈ fs, -32768 ≤ x ∧ x ≤ 32767) (x : Flock) (hx : x.ok) (w : World) :
    Calls Tryz.prog 21 #[.agg F.cells, .agg (ints .i16 fs), .agg x.vals.toArray] w fun e w' => e = .returned (.tuple #[.int .i64 (chRes F fs x), .int .i64 (chCode F fs x)]) ∧ Mem w w' [] := by
  have M := Lib.hid (Mem.start w)
  have HFF := Lib.hid hff
  have S1 := Lib.hid (Fld.size hF.toLen)
  clear hff
  cases hd : birdsOk F fs [x]
  · have HD := Lib.hid hd
    have HC := Lib.hid (show birdsCode F fs [x] = 1 by rw [birdsCode, hd]; rfl)
    clear hd
    go_enter Tryz.func21, Tryz.ntmps21
    go_wp2_with (first
      | ((with_reducible refine gate_dst (N := 3) rfl ?_); go_must (refine M.out.ev_new rfl (by first | (go_simp; done) | (go_simp; rfl)) ?_); intro g3 w3 m; simp only [List.cons_append, List.nil_append] at m; have M := Lib.hid m; clear m)
      | ((with_reducible refine gate_dst (N := 4) rfl ?_); go_must (refine M.out.ev_new rfl (by first | (go_simp; done) | (go_simp; rfl)) ?_); intro g4 w4 m; simp only [List.cons_append, List.nil_append] at m; have M := Lib.hid m; clear m)
      | ((with_reducible refine gate_dst (N := 5) rfl ?_); go_must (refine M.out.ev_new rfl (by first | (go_simp; done) | (go_simp; rfl)) ?_); intro g5 w5 m; simp only [List.cons_append, List.nil_append] at m; have M := Lib.hid m; clear m)
      | (go_at_call 78; go_must (refine (l02Asked_any _ _ _ 0 F hF fs hfl HFF.out x hx _ (M.out.blk 0 rfl) (M.out.blk 1 rfl) (M.out.blk 2 rfl).range).mono ?_); rintro e w_ ⟨rfl, rfl⟩; rw [HC.out])
      )
    go_ret2
    exact ⟨by simp [chRes, chCode, HD.out], M.out.take 0⟩
  · have HD := Lib.hid hd
    have HC := Lib.hid (show birdsCode F fs [x] = 0 by rw [birdsCode, hd]; rfl)
    have HP := Lib.hid (birds1_plain hd)
    clear hd
    have hco := choice_of F fs x
    have HE := Lib.hid (show chCode F fs x = if choiceOf F fs x < 0 then 6 else 0 by simp [chCode, HD.out])
    have HR := Lib.hid (show chRes F fs x = if choiceOf F fs x < 0 then 0 else choiceOf F fs x by simp [chRes, HD.out])
    have CH := Lib.hid (fun g fb p w hb hfb hr => l02Choice_any g fb p 0 F hF fs hfl HFF.out x HP.out w hb hfb hr (t := 29) (tf := 31))
    obtain ⟨C, hC⟩ : ∃ C, C = choiceOf F fs x := ⟨_, rfl⟩
    rw [← hC] at CH HE HR hco
    clear hC
    rcases hco with rfl | ⟨k, k0, _, rfl⟩
    · go_enter Tryz.func21, Tryz.ntmps21
      go_wp2_with (first
        | ((with_reducible refine gate_dst (N := 3) rfl ?_); go_must (refine M.out.ev_new rfl (by first | (go_simp; done) | (go_simp; rfl)) ?_); intro g3 w3 m; simp only [List.cons_append, List.nil_append] at m; have M := Lib.hid m; clear m)
        | ((with_reducible refine gate_dst (N := 4) rfl ?_); go_must (refine M.out.ev_new rfl (by first | (go_simp; done) | (go_simp; rfl)) ?_); intro g4 w4 m; simp only [List.cons_append, List.nil_append] at m; have M := Lib.hid m; clear m)
        | ((with_reducible refine gate_dst (N := 5) rfl ?_); go_must (refine M.out.ev_new rfl (by first | (go_simp; done) | (go_simp; rfl)) ?_); intro g5 w5 m; simp only [List.cons_append, List.nil_append] at m; have M := Lib.hid m; clear m)
        | (go_at_call 78; go_must (refine (l02Asked_any _ _ _ 0 F hF fs hfl HFF.out x hx _ (M.out.blk 0 rfl) (M.out.blk 1 rfl) (M.out.blk 2 rfl).range).mono ?_); rintro e w_ ⟨rfl, rfl⟩; rw [HC.out])
        | (go_at_call 81; go_must (refine (CH.out _ _ _ _ (M.out.blk 0 rfl) (M.out.blk 1 rfl) (M.out.blk 2 rfl).range).mono ?_); rintro e w_ ⟨rfl, N_⟩; have m := M.out.join N_; clear N_; simp only [List.cons_append, List.nil_append, List.append_nil] at m; have M := Lib.hid m; clear m)
        )
      go_ret2
      exact ⟨by rw [HE.out, HR.out]; rfl, M.out.take 0⟩
    · have z0 : ¬ ((k : Int) < 0) := by omega
      go_enter Tryz.func21, Tryz.ntmps21
      go_wp2_with (first
        | ((with_reducible refine gate_dst (N := 3) rfl ?_); go_must (refine M.out.ev_new rfl (by first | (go_simp; done) | (go_simp; rfl)) ?_); intro g3 w3 m; simp only [List.cons_append, List.nil_append] at m; have M := Lib.hid m; clear m)
        | ((with_reducible refine gate_dst (N := 4) rfl ?_); go_must (refine M.out.ev_new rfl (by first | (go_simp; done) | (go_simp; rfl)) ?_); intro g4 w4 m; simp only [List.cons_append, List.nil_append] at m; have M := Lib.hid m; clear m)
        | ((with_reducible refine gate_dst (N := 5) rfl ?_); go_must (refine M.out.ev_new rfl (by first | (go_simp; done) | (go_simp; rfl)) ?_); intro g5 w5 m; simp only [List.cons_append, List.nil_append] at m; have M := Lib.hid m; clear m)
        | (go_at_call 78; go_must (refine (l02Asked_any _ _ _ 0 F hF fs hfl HFF.out x hx _ (M.out.blk 0 rfl) (M.out.blk 1 rfl) (M.out.blk 2 rfl).range).mono ?_); rintro e w_ ⟨rfl, rfl⟩; rw [HC.out])
        | (go_at_call 81; go_must (refine (CH.out _ _ _ _ (M.out.blk 0 rfl) (M.out.blk 1 rfl) (M.out.blk 2 rfl).range).mono ?_); rintro e w_ ⟨rfl, N_⟩; have m := M.out.join N_; clear N_; simp only [List.cons_append, List.nil_append, List.append_nil] at m; have M := Lib.hid m; clear m)
        )
      go_ret2
      exact ⟨by rw [HE.out, HR.out]; simp [show ¬ ((k : Int) < 0) by omega], M.out.take 0⟩
set_option maxRecDepth 100000 in
set_option maxHeartbeats 2000000 in
theorem impl_ChoiceOf_any (F : Fld) (hF : F.ok) (fs : List Int) (hfl : fs.length = 100) (hff : ∀ x ∈ fs, -32768 ≤ x ∧ x ≤ 32767) (x : Flock) (hx : x.ok) (w : World) :
    Calls Tryz.prog 20 #[.agg F.cells, .agg (ints .i16 fs), .agg x.vals.toArray] w fun e w' => e = .returned (.tuple #[.int .i64 (chRes F fs x), .int .i64 (chCode F fs x)]) ∧ Mem w w' [] := by
  have M := Lib.hid (Mem.start w)
  have HFF := Lib.hid hff
  have S1 := Lib.hid (Fld.size hF.toLen)
  have HX := Lib.hid (show ∀ y ∈ [x], y.ok from fun y hy => by rw [List.mem_singleton.1 hy]; exact hx)
  clear hff
  cases hd : birdsOk F fs [x]
  · have HD := Lib.hid hd
    clear hd
    go_enter Tryz.func20, Tryz.ntmps20
    go_wp2_with (first
      | ((with_reducible refine gate_dst (N := 3) rfl ?_); go_must (refine M.out.ev_new rfl (by first | (go_simp; done) | (go_simp; rfl)) ?_); intro g3 w3 m; simp only [List.cons_append, List.nil_append] at m; have M := Lib.hid m; clear m)
      | ((with_reducible refine gate_dst (N := 4) rfl ?_); go_must (refine M.out.ev_new rfl (by first | (go_simp; done) | (go_simp; rfl)) ?_); intro g4 w4 m; simp only [List.cons_append, List.nil_append] at m; have M := Lib.hid m; clear m)
      | ((with_reducible refine gate_dst (N := 5) rfl ?_); go_must (refine M.out.ev_new rfl (by first | (go_simp; done) | (go_simp; rfl)) ?_); intro g5 w5 m; simp only [List.cons_append, List.nil_append] at m; have M := Lib.hid m; clear m)
      | ((with_reducible refine gate_dst (N := 9) rfl ?_); go_must (refine M.out.ev_ldw 2 _ _ rfl rfl rfl Tryz.underlying48 rfl (by first | exact sz48 | (rw [S1.out]; exact sz48) | (rw [S2.out]; exact sz48) | (rw [S3.out]; exact sz48)) rfl ?_))
      | ((with_reducible refine gate_dst (N := 10) rfl ?_); go_must (refine M.out.ev_bs1 elem_Flock rfl _ rfl x.vals.toArray rfl rfl (by decide) ?_); intro g9 w9 m; simp only [List.cons_append, List.nil_append] at m; have M := Lib.hid m; clear m)
      | (go_at_call 66; go_must (refine (areBirds_any _ _ F hF fs hfl HFF.out _ _ [x] HX.out (by simp) _ (M.out.blk 0 rfl) (M.out.blk 1 rfl) (sl_blk (M.out.blk 3 rfl))).mono ?_); rintro e w_ ⟨rfl, N_⟩; have m := M.out.join N_; clear N_; simp only [List.cons_append, List.nil_append, List.append_nil] at m; have M := Lib.hid m; clear m; rw [HD.out])
      )
    go_ret2
    exact ⟨by simp [chRes, chCode, HD.out], M.out.take 0⟩
  · have HD := Lib.hid hd
    have HP := Lib.hid (birds1_plain hd)
    clear hd
    have hco := choice_of F fs x
    have HE := Lib.hid (show chCode F fs x = if choiceOf F fs x < 0 then 6 else 0 by simp [chCode, HD.out])
    have HR := Lib.hid (show chRes F fs x = if choiceOf F fs x < 0 then 0 else choiceOf F fs x by simp [chRes, HD.out])
    have CH := Lib.hid (fun g fb p w hb hfb hr => choice_any g fb p 0 F hF fs hfl HFF.out x HP.out w hb hfb hr (t := 29) (tf := 31))
    obtain ⟨C, hC⟩ : ∃ C, C = choiceOf F fs x := ⟨_, rfl⟩
    rw [← hC] at CH HE HR hco
    clear hC
    rcases hco with rfl | ⟨k, k0, _, rfl⟩
    · go_enter Tryz.func20, Tryz.ntmps20
      go_wp2_with (first
        | ((with_reducible refine gate_dst (N := 3) rfl ?_); go_must (refine M.out.ev_new rfl (by first | (go_simp; done) | (go_simp; rfl)) ?_); intro g3 w3 m; simp only [List.cons_append, List.nil_append] at m; have M := Lib.hid m; clear m)
        | ((with_reducible refine gate_dst (N := 4) rfl ?_); go_must (refine M.out.ev_new rfl (by first | (go_simp; done) | (go_simp; rfl)) ?_); intro g4 w4 m; simp only [List.cons_append, List.nil_append] at m; have M := Lib.hid m; clear m)
        | ((with_reducible refine gate_dst (N := 5) rfl ?_); go_must (refine M.out.ev_new rfl (by first | (go_simp; done) | (go_simp; rfl)) ?_); intro g5 w5 m; simp only [List.cons_append, List.nil_append] at m; have M := Lib.hid m; clear m)
        | ((with_reducible refine gate_dst (N := 9) rfl ?_); go_must (refine M.out.ev_ldw 2 _ _ rfl rfl rfl Tryz.underlying48 rfl (by first | exact sz48 | (rw [S1.out]; exact sz48) | (rw [S2.out]; exact sz48) | (rw [S3.out]; exact sz48)) rfl ?_))
        | ((with_reducible refine gate_dst (N := 10) rfl ?_); go_must (refine M.out.ev_bs1 elem_Flock rfl _ rfl x.vals.toArray rfl rfl (by decide) ?_); intro g9 w9 m; simp only [List.cons_append, List.nil_append] at m; have M := Lib.hid m; clear m)
        | (go_at_call 66; go_must (refine (areBirds_any _ _ F hF fs hfl HFF.out _ _ [x] HX.out (by simp) _ (M.out.blk 0 rfl) (M.out.blk 1 rfl) (sl_blk (M.out.blk 3 rfl))).mono ?_); rintro e w_ ⟨rfl, N_⟩; have m := M.out.join N_; clear N_; simp only [List.cons_append, List.nil_append, List.append_nil] at m; have M := Lib.hid m; clear m; rw [HD.out])
        | (go_at_call 80; go_must (refine (CH.out _ _ _ _ (M.out.blk 0 rfl) (M.out.blk 1 rfl) (M.out.blk 2 rfl).range).mono ?_); rintro e w_ ⟨rfl, N_⟩; have m := M.out.join N_; clear N_; simp only [List.cons_append, List.nil_append, List.append_nil] at m; have M := Lib.hid m; clear m)
        )
      go_ret2
      exact ⟨by rw [HE.out, HR.out]; rfl, M.out.take 0⟩
    · have z0 : ¬ ((k : Int) < 0) := by omega
      go_enter Tryz.func20, Tryz.ntmps20
      go_wp2_with (first
        | ((with_reducible refine gate_dst (N := 3) rfl ?_); go_must (refine M.out.ev_new rfl (by first | (go_simp; done) | (go_simp; rfl)) ?_); intro g3 w3 m; simp only [List.cons_append, List.nil_append] at m; have M := Lib.hid m; clear m)
        | ((with_reducible refine gate_dst (N := 4) rfl ?_); go_must (refine M.out.ev_new rfl (by first | (go_simp; done) | (go_simp; rfl)) ?_); intro g4 w4 m; simp only [List.cons_append, List.nil_append] at m; have M := Lib.hid m; clear m)
        | ((with_reducible refine gate_dst (N := 5) rfl ?_); go_must (refine M.out.ev_new rfl (by first | (go_simp; done) | (go_simp; rfl)) ?_); intro g5 w5 m; simp only [List.cons_append, List.nil_append] at m; have M := Lib.hid m; clear m)
        | ((with_reducible refine gate_dst (N := 9) rfl ?_); go_must (refine M.out.ev_ldw 2 _ _ rfl rfl rfl Tryz.underlying48 rfl (by first | exact sz48 | (rw [S1.out]; exact sz48) | (rw [S2.out]; exact sz48) | (rw [S3.out]; exact sz48)) rfl ?_))
        | ((with_reducible refine gate_dst (N := 10) rfl ?_); go_must (refine M.out.ev_bs1 elem_Flock rfl _ rfl x.vals.toArray rfl rfl (by decide) ?_); intro g9 w9 m; simp only [List.cons_append, List.nil_append] at m; have M := Lib.hid m; clear m)
        | (go_at_call 66; go_must (refine (areBirds_any _ _ F hF fs hfl HFF.out _ _ [x] HX.out (by simp) _ (M.out.blk 0 rfl) (M.out.blk 1 rfl) (sl_blk (M.out.blk 3 rfl))).mono ?_); rintro e w_ ⟨rfl, N_⟩; have m := M.out.join N_; clear N_; simp only [List.cons_append, List.nil_append, List.append_nil] at m; have M := Lib.hid m; clear m; rw [HD.out])
        | (go_at_call 80; go_must (refine (CH.out _ _ _ _ (M.out.blk 0 rfl) (M.out.blk 1 rfl) (M.out.blk 2 rfl).range).mono ?_); rintro e w_ ⟨rfl, N_⟩; have m := M.out.join N_; clear N_; simp only [List.cons_append, List.nil_append, List.append_nil] at m; have M := Lib.hid m; clear m)
        )
      go_ret2
      exact ⟨by rw [HE.out, HR.out]; simp [show ¬ ((k : Int) < 0) by omega], M.out.take 0⟩
end Go.Proofs.YtkomhngokcejbaaGreatDoor
namespace Go.Proofs.YtkomhngokcejbaaGreatDoor
set_option linter.unusedSimpArgs false
set_option linter.unusedVariables false
open Go.RowKit
structure Prices where
  base : Int
  cell : Int
  edge : Int
  deriving DecidableEq
def Prices.vals (x : Prices) : List Value := [.int .i16 x.base, .int .i16 x.cell, .int .i16 x.edge]
theorem Prices.vl (x : Prices) : x.vals.length = 3 := rfl
theorem Prices.one (x : Prices) : x.vals.toArray.all (·.oneCell') = true := by simp [Prices.vals, Value.oneCell']
structure Prices.ok (x : Prices) : Prop where
  base : -32768 ≤ x.base ∧ x.base ≤ 32767
  cell : -32768 ≤ x.cell ∧ x.cell ≤ 32767
  edge : -32768 ≤ x.edge ∧ x.edge ≤ 32767
def Prices.z : Prices := ⟨0, 0, 0⟩
def Prices.ks : List IntKind := [.i16, .i16, .i16]
theorem Prices.of_conf (cs : List Value) (h : Conf Prices.ks cs) : ∃ x : Prices, x.ok ∧ x.vals = cs := by
  obtain ⟨e0, r, rfl, w0, h⟩ := h.cons
  obtain ⟨e1, r, rfl, w1, h⟩ := h.cons
  obtain ⟨e2, r, rfl, w2, h⟩ := h.cons
  obtain rfl := h.nil_eq
  exact ⟨⟨e0, e1, e2⟩, ⟨bounds_i16 w0, bounds_i16 w1, bounds_i16 w2⟩, rfl⟩
end Go.Proofs.YtkomhngokcejbaaGreatDoor
namespace Go.Proofs.YtkomhngokcejbaaGreatDoor
set_option linter.unusedSimpArgs false
set_option linter.unusedVariables false
open Go.RowKit
attribute [local go_sem] cell?_mk frozen?_mk
--ONES exact Net.one _ | exact Prices.one _

section
variable {P : Program} {ops : Array Oper} {rest : List Oper} {o : Oper} {a : Act} {w0 w : World} {Q : Exit → Act → World → Prop} {L : List Ent}
end
def Prices.free (p : Prices) : Bool := decide (p.base = 0) && (decide (p.cell = 0) && decide (p.edge = 0))
def Prices.good (p : Prices) : Bool := inB p.base 0 100 && (inB p.cell 0 100 && (inB p.edge 0 100 && !p.free))
def Prices.nums (p : Prices) : List Int := [p.base, p.cell, p.edge]
def Prices.numOk (p : Prices) (k : Nat) : Bool := inB (gi p.nums k) 0 100
def Net.rim (n : Net) : Int := 2 * (n.wide + n.high)
/-- What a net costs. -/
def netCost (p : Prices) (n : Net) : Int := p.base + p.cell * n.wide * n.high + p.edge * n.rim
/-- What all that is reckoned for a cost fits. -/
structure CostOk (p : Prices) (n : Net) : Prop where
  a : IntKind.i64.wrap p.base = p.base
  b : IntKind.i64.wrap p.cell = p.cell
  c : IntKind.i64.wrap p.edge = p.edge
  d : IntKind.i64.wrap n.wide = n.wide
  e : IntKind.i64.wrap n.high = n.high
  f : IntKind.i64.wrap (p.cell * n.wide) = p.cell * n.wide
  g : IntKind.i64.wrap (p.cell * n.wide * n.high) = p.cell * n.wide * n.high
  h : IntKind.i64.wrap (p.base + p.cell * n.wide * n.high) = p.base + p.cell * n.wide * n.high
  i : IntKind.i64.wrap (p.edge * n.rim) = p.edge * n.rim
  j : IntKind.i64.wrap (p.base + p.cell * n.wide * n.high + p.edge * n.rim) = netCost p n
  k : 0 ≤ netCost p n ∧ netCost p n ≤ 14100
def costs (p : Prices) (xs : List Net) : Int := (xs.map (netCost p)).sum
end Go.Proofs.YtkomhngokcejbaaGreatDoor
