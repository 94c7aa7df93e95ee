/- Texts of a proof, laid together: FlocksT, ReadFl. -/
import Derived.Test.YtkomhngokcejbaaGreatDoorZV16
import Derived.Test.YtkomhngokcejbaaGreatDoorZV17
import Derived.Test.YtkomhngokcejbaaGreatDoorZV04
namespace Go.Proofs.YtkomhngokcejbaaGreatDoor
set_option linter.unusedSimpArgs false
set_option linter.unusedVariables false
open Go.RowKit
attribute [local go_sem] cell?_mk frozen?_mk
--ONES exact Flock.one _

theorem Flock.word_join (x : Flock) : joinS 47 (x.nums.map dec) = x.word := by simp [joinS, Flock.nums, Flock.word]
theorem Flock.nums_b {x : Flock} (h : x.ok) (j : Nat) : -32768 ≤ gi x.nums j ∧ gi x.nums j ≤ 32767 := by
  have h0 := h.tree; have h1 := h.birds; have h2 := h.eats; have h3 := h.bold; have h4 := h.reach; have h5 := h.taste
  match j with
  | 0 => exact h0
  | 1 => exact h1
  | 2 => exact h2
  | 3 => exact h3
  | 4 => exact h4
  | 5 => exact ⟨by show -32768 ≤ x.taste; omega, by show x.taste ≤ 32767; omega⟩
  | j + 6 => exact ⟨by show (-32768 : Int) ≤ 0; omega, by show (0 : Int) ≤ 32767; omega⟩
def flocksT (xs : List Flock) : List UInt8 := if xs.all Flock.plain = true then if xs.length ≤ 12 then joinS 32 (xs.map Flock.word) else [] else []
theorem flocksT_len {xs : List Flock} (hx : ∀ x ∈ xs, x.ok) {k : Nat} (hk : k ≤ 1048576) : (wordsT (xs.map Flock.word) k).length ≤ 1000000000 := wordsT_len (fun w hw => by
  obtain ⟨x, h1, rfl⟩ := List.mem_map.1 hw
  exact Flock.word_len (hx x h1)) hk
set_option maxRecDepth 100000 in
set_option maxHeartbeats 8000000 in
theorem impl_FlocksText_any (A : Option Addr) (n : Nat) (xs : List Flock) (hx : ∀ x ∈ xs, x.ok) (hl : xs.length ≤ 1048576) (w : World) (ht : Tab w) (hs : Sl w 6 A xs.length (flat Flock.vals xs)) :
    Calls Tryz.prog 10 #[.slice A xs.length n] w fun e w' => e = .returned (.string ⟨(flocksT xs).toArray⟩) ∧ Mem w w' [] := by
  have M := Lib.hid (Mem.start w)
  have HX := Lib.hid hx
  have HS := Lib.hid hs
  have HT := Lib.hid ht
  clear hx hs ht
  go_enter Tryz.func10, Tryz.ntmps10
  go_wp2_with (first
    | ((with_reducible refine gate_dst (N := 10) rfl ?_); go_must (refine M.out.ev_bs0 elem_string rfl rfl ?_); intro g0 w0 m; simp only [List.nil_append] at m; have M := Lib.hid m; clear m)
    )
  go_loopw [3, 13] (fun s v wr => ∃ k : Nat, k ≤ xs.length ∧ v = .int .i64 k ∧ (∀ x ∈ xs.take k, x.plain = true) ∧ (0 < k → xs.length ≤ 12) ∧ Mem w wr [.row s 9 1 k (flat oneS (strsOf ((xs.map Flock.word).take k)))])
    (fun _ v _ => xs.length - (intOf v).toNat)
  case atStart => exact ⟨0, by omega, rfl, fun x h => absurd h (by simp), fun h => by omega, M.out⟩
  case round =>
    clear M
    obtain ⟨k, hk, rfl, he, h100, m⟩ := hrel
    have M := Lib.hid m
    have HE := Lib.hid he
    clear m he
    by_cases hlt : k < xs.length
    · obtain ⟨b, off, rfl, hr⟩ := HS.out.2 (by omega)
      have R := Lib.hid (range_at Flock.vl hr (List.getElem?_eq_getElem hlt))
      have HO := Lib.hid (HX.out xs[k] (List.getElem_mem hlt))
      have HM := Lib.hid (List.getElem_mem hlt)
      have i0 : (0 : Int) ≤ (k : Int) := by omega
      have i1 : (k : Int) < (xs.length : Int) := by omega
      clear hr
      cases hf : xs[k].plain
      · have HFN := Lib.hid hf
        clear hf h100
        go_wp2_with (first
          | ((with_reducible refine gate_dst (N := 16) rfl ?_); go_must (refine ev_ldr _ _ rfl rfl (M.out.argT R.out) Tryz.underlying48 rfl (by first | exact sz48 | (rw [S1.out]; exact sz48)) rfl ?_))
          | ((with_reducible refine gate_dst (N := 5) rfl ?_); go_must (refine M.out.ev_new rfl (by first | (go_simp; done) | (go_simp; rfl)) ?_); intro g5 w5 m; simp only [List.cons_append, List.nil_append] at m; have M := Lib.hid m; clear m)
          | ((with_reducible refine gate_store (x := .tmp 5) rfl ?_); go_must (refine M.out.ev_stw 1 _ _ _ rfl rfl rfl rfl _ rfl (by first | rfl | (simp only [S1.out]; rfl) | (simp only [S1.out, S2.out]; rfl) | (simp only [S3.out]; rfl) | (simp only [S1.out, S2.out, S3.out]; rfl)) (by first | exact sz48 | (rw [S1.out]; exact sz48) | (rw [S2.out]; exact sz48) | (rw [S3.out]; exact sz48)) (by first | exact ints_one _ _ | exact Fld.one _ | exact O1.out | exact Flock.one _ | rfl | (simp [Value.oneCell']; done)) rfl ?_); intro wn m; simp only [List.set_cons_succ, List.set_cons_zero, List.setIfInBounds_toArray] at m; have M := Lib.hid m; clear m)
          | ((with_reducible refine gate_dst (N := 7) rfl ?_); go_must (refine M.out.ev_new rfl (by first | (go_simp; done) | (go_simp; rfl)) ?_); intro g7 w7 m; simp only [List.cons_append, List.nil_append] at m; have M := Lib.hid m; clear m)
          | ((with_reducible refine gate_store (x := .tmp 7) rfl ?_); go_must (refine M.out.ev_stw 1 _ _ _ rfl rfl rfl rfl _ rfl (by first | rfl | (simp only [S1.out]; rfl) | (simp only [S1.out, S2.out]; rfl) | (simp only [S3.out]; rfl) | (simp only [S1.out, S2.out, S3.out]; rfl)) (by first | exact sz94 | (rw [S1.out]; exact sz94) | (rw [S2.out]; exact sz94) | (rw [S3.out]; exact sz94)) (by first | exact ints_one _ _ | exact Fld.one _ | exact O1.out | exact Flock.one _ | rfl | (simp [Value.oneCell']; done)) rfl ?_); intro wn m; simp only [List.set_cons_succ, List.set_cons_zero, List.setIfInBounds_toArray] at m; have M := Lib.hid m; clear m)
          | ((with_reducible refine gate_store (x := .tmp 7) rfl ?_); go_must (refine M.out.ev_stw 1 _ _ _ rfl rfl rfl rfl _ rfl (by first | rfl | (simp only [S1.out]; rfl) | (simp only [S1.out, S2.out]; rfl) | (simp only [S3.out]; rfl) | (simp only [S1.out, S2.out, S3.out]; rfl)) (by first | exact sz94 | (rw [S1.out]; exact sz94) | (rw [S2.out]; exact sz94) | (rw [S3.out]; exact sz94)) (by first | exact ints_one _ _ | exact Fld.one _ | exact O1.out | exact Flock.one _ | rfl | (simp [Value.oneCell']; done)) rfl ?_); intro wn m; simp only [List.set_cons_succ, List.set_cons_zero, List.setIfInBounds_toArray] at m; have M := Lib.hid m; clear m)
          | ((with_reducible refine gate_dst (N := 30) rfl ?_); go_must (refine M.out.ev_ldw 1 _ _ rfl rfl rfl Tryz.underlying94 rfl (by first | exact sz94 | (rw [S1.out]; exact sz94) | (rw [S2.out]; exact sz94) | (rw [S3.out]; exact sz94)) rfl ?_))
          | (go_at_call 63; go_must (refine (isPlainF_any g5 _ HO.out _ (M.out.blk 1 rfl)).mono ?_); rintro e w_ ⟨rfl, N_⟩; have m := M.out.join N_; clear N_; simp only [List.cons_append, List.nil_append, List.append_nil] at m; have M := Lib.hid m; clear m; rw [HFN.out])
          )
        go_ret
        exact ⟨by rw [flocksT, if_neg (by rw [not_allT HM.out HFN.out]; decide)]; rfl, M.out.take 0⟩
      · have HFN := Lib.hid hf
        clear hf
        by_cases h9 : xs.length ≤ 12
        · have i9 : ¬ ((12 : Int) < (xs.length : Int)) := by omega
          have HSU := Lib.hid (show strsOf ((xs.map Flock.word).take (k + 1)) = strsOf ((xs.map Flock.word).take k) ++ [⟨xs[k].word.toArray⟩] by rw [strsOf_succ (by simpa using hlt)]; simp)
          have HWJ := Lib.hid (Flock.word_join xs[k])
          have hok := HO.out
          obtain ⟨NS, hNS⟩ : ∃ z, z = xs[k].nums := ⟨_, rfl⟩
          have S1 := Lib.hid (show (ints .i64 NS).size = 6 by rw [hNS]; rfl)
          have HNL := Lib.hid (show NS.length = 6 by rw [hNS]; rfl)
          have HNB := Lib.hid (fun j => show -32768 ≤ gi NS j ∧ gi NS j ≤ 32767 by rw [hNS]; exact Flock.nums_b hok j)
          rw [← hNS] at HWJ
          have NO := Lib.hid (fun (g : Nat) (w : World) (hb : Blk w g 48 xs[k].vals.toArray) => numbersOf_any g xs[k] hok w hb)
          rw [← hNS] at NO
          clear hNS hok
          obtain ⟨WB, wc, hW9, hwc, _⟩ := M.out.row_slice 0 rfl
          subst hW9
          go_wp2_with (first
            | ((with_reducible refine gate_dst (N := 16) rfl ?_); go_must (refine ev_ldr _ _ rfl rfl (M.out.argT R.out) Tryz.underlying48 rfl (by first | exact sz48 | (rw [S1.out]; exact sz48)) rfl ?_))
            | ((with_reducible refine gate_dst (N := 5) rfl ?_); go_must (refine M.out.ev_new rfl (by first | (go_simp; done) | (go_simp; rfl)) ?_); intro g5 w5 m; simp only [List.cons_append, List.nil_append] at m; have M := Lib.hid m; clear m)
            | ((with_reducible refine gate_store (x := .tmp 5) rfl ?_); go_must (refine M.out.ev_stw 1 _ _ _ rfl rfl rfl rfl _ rfl (by first | rfl | (simp only [S1.out]; rfl) | (simp only [S1.out, S2.out]; rfl) | (simp only [S3.out]; rfl) | (simp only [S1.out, S2.out, S3.out]; rfl)) (by first | exact sz48 | (rw [S1.out]; exact sz48) | (rw [S2.out]; exact sz48) | (rw [S3.out]; exact sz48)) (by first | exact ints_one _ _ | exact Fld.one _ | exact O1.out | exact Flock.one _ | rfl | (simp [Value.oneCell']; done)) rfl ?_); intro wn m; simp only [List.set_cons_succ, List.set_cons_zero, List.setIfInBounds_toArray] at m; have M := Lib.hid m; clear m)
            | ((with_reducible refine gate_dst (N := 7) rfl ?_); go_must (refine M.out.ev_new rfl (by first | (go_simp; done) | (go_simp; rfl)) ?_); intro g7 w7 m; simp only [List.cons_append, List.nil_append] at m; have M := Lib.hid m; clear m)
            | ((with_reducible refine gate_store (x := .tmp 7) rfl ?_); go_must (refine M.out.ev_stw 3 _ _ _ rfl rfl rfl rfl _ rfl (by first | rfl | (simp only [S1.out]; rfl) | (simp only [S1.out, S2.out]; rfl) | (simp only [S3.out]; rfl) | (simp only [S1.out, S2.out, S3.out]; rfl)) (by first | exact sz94 | (rw [S1.out]; exact sz94) | (rw [S2.out]; exact sz94) | (rw [S3.out]; exact sz94)) (by first | exact ints_one _ _ | exact Fld.one _ | exact O1.out | exact Flock.one _ | rfl | (simp [Value.oneCell']; done)) rfl ?_); intro wn m; simp only [List.set_cons_succ, List.set_cons_zero, List.setIfInBounds_toArray] at m; have M := Lib.hid m; clear m)
            | ((with_reducible refine gate_store (x := .tmp 7) rfl ?_); go_must (refine M.out.ev_stw 3 _ _ _ rfl rfl rfl rfl _ rfl (by first | rfl | (simp only [S1.out]; rfl) | (simp only [S1.out, S2.out]; rfl) | (simp only [S3.out]; rfl) | (simp only [S1.out, S2.out, S3.out]; rfl)) (by first | exact sz94 | (rw [S1.out]; exact sz94) | (rw [S2.out]; exact sz94) | (rw [S3.out]; exact sz94)) (by first | exact ints_one _ _ | exact Fld.one _ | exact O1.out | exact Flock.one _ | rfl | (simp [Value.oneCell']; done)) rfl ?_); intro wn m; simp only [List.set_cons_succ, List.set_cons_zero, List.setIfInBounds_toArray] at m; have M := Lib.hid m; clear m)
            | ((with_reducible refine gate_dst (N := 30) rfl ?_); go_must (refine M.out.ev_ldw 3 _ _ rfl rfl rfl Tryz.underlying94 rfl (by first | exact sz94 | (rw [S1.out]; exact sz94) | (rw [S2.out]; exact sz94) | (rw [S3.out]; exact sz94)) rfl ?_))
            | (go_at_call 63; go_must (refine (isPlainF_any g5 _ HO.out _ (M.out.blk 1 rfl)).mono ?_); rintro e w_ ⟨rfl, N_⟩; have m := M.out.join N_; clear N_; simp only [List.cons_append, List.nil_append, List.append_nil] at m; have M := Lib.hid m; clear m; rw [HFN.out])
            | ((with_reducible refine gate_dst (N := 24) rfl ?_); go_must (refine M.out.ev_bs0 elem_string rfl rfl ?_); intro gp wp m; simp only [List.cons_append, List.nil_append] at m; have M := Lib.hid m; clear m)
            | (go_at_call 61; go_must (refine (NO.out _ _ (M.out.blk 1 rfl)).mono ?_); rintro e w_ ⟨rfl, N_⟩; have m := M.out.join N_; clear N_; simp only [List.cons_append, List.nil_append, List.append_nil] at m; have M := Lib.hid m; clear m)
            )
          have m := M.out.only [0, 2] (K := [_, _]) rfl (by decide)
          have M := Lib.hid m
          clear m
          go_loopw [6, 31] (fun s v wr2 => ∃ i : Nat, i ≤ 6 ∧ v = .int .i64 i ∧ Mem w wr2 [.row (.slice WB k wc) 9 1 k (flat oneS (strsOf ((xs.map Flock.word).take k))), .row s 9 1 i (flat oneS (strsOf ((NS.map dec).take i)))])
            (fun _ v _ => 6 - (intOf v).toNat)
          case atStart => exact ⟨0, by omega, rfl, M.out⟩
          case round =>
            clear M
            obtain ⟨i, hi, rfl, m⟩ := hrel
            have M := Lib.hid m
            clear m
            by_cases hlt2 : i < 6
            · have x0 : (ints .i64 NS)[i]? = some (.int .i64 (gi NS i)) := ints_at (by rw [HNL.out]; exact hlt2)
              have j0 : (0 : Int) ≤ (i : Int) := by omega
              have j1 : (i : Int) < 6 := by omega
              have hix : ∀ w, (Instr.index 94 (.agg (ints .i64 NS)) (.int .i64 i)).run Tryz.prog w = .ok (.int .i64 (gi NS i)) w := fun w => run_index1 w _ 2 6 _ i _ Tryz.underlying94 hlt2 sz2 Tryz.underlying2 rfl x0
              have hb := HNB.out i
              have DC := Lib.hid (fun w ht => decimal64_any (gi NS i) (by omega) (by omega) w ht)
              have HSI := Lib.hid (show strsOf ((NS.map dec).take (i + 1)) = strsOf ((NS.map dec).take i) ++ [⟨(Lib.itoa (gi NS i)).toArray⟩] by
                rw [strsOf_succ (by rw [List.length_map, HNL.out]; exact hlt2)]
                congr 3
                rw [List.getElem_map]
                unfold dec gi
                rw [List.getD_eq_getElem?_getD, List.getElem?_eq_getElem (by rw [HNL.out]; exact hlt2)]
                rfl)
              go_wp2_with (first
                | (go_at_call 64; go_must (refine (DC.out _ (M.out.tab HT.out)).mono ?_); rintro e w_ ⟨rfl, N_⟩; have m := M.out.join N_; clear N_; simp only [List.cons_append, List.nil_append, List.append_nil] at m; have M := Lib.hid m; clear m)
                | ((with_reducible refine gate_dst (N := 37) rfl ?_); go_must (refine M.out.ev_bs1 elem_string rfl _ rfl #[.string _] rfl rfl (by decide) ?_); intro g37 w37 m; simp only [List.cons_append, List.nil_append] at m; have M := Lib.hid m; clear m)
                | ((with_reducible refine gate_dst (N := 38) rfl ?_); go_must (refine M.out.ev_append1 1 2 elem_string rfl _ _ rfl rfl rfl rfl rfl rfl (by simp [Value.oneCell']) (by omega) (by decide) ?_); intro v38 w38 m; simp only [List.set_cons_succ, List.set_cons_zero] at m; have M := Lib.hid m; clear m)
                )
              refine ⟨⟨i + 1, by omega, by go_num, ?_⟩, by simp [intOf]; omega⟩
              have m := M.out.take 2
              rw [HSI.out, flat_snoc]
              exact m
            · obtain rfl : i = 6 := by omega
              have j1 : ¬ (((6 : Nat) : Int) < 6) := by omega
              have m := M.out
              rw [show (NS.map dec).take 6 = NS.map dec from List.take_of_length_le (by rw [List.length_map, HNL.out]; omega)] at m
              obtain ⟨PB, pc, hP9, hpc, _⟩ := m.row_slice 1 rfl
              subst hP9
              have hsl : (strsOf (NS.map dec)).length = 6 := by rw [strsOf_len, List.length_map, HNL.out]
              have JO := Lib.hid (fun w1 (M : Mem w w1 [.row (.slice WB k wc) 9 1 k (flat oneS (strsOf ((xs.map Flock.word).take k))), .row (.slice PB (strsOf (NS.map dec)).length pc) 9 1 (strsOf (NS.map dec)).length (flat oneS (strsOf (NS.map dec)))]) => Join_any M 1 rfl ⟨#[47]⟩ (by rw [hsl]; omega) (by
                rw [strsOf_join, HWJ.out]
                have := Flock.word_len HO.out
                omega))
              rw [hsl, strsOf_join, HWJ.out] at JO
              have M := Lib.hid m
              clear m hsl
              go_wp2_with (first
                | (go_at_call 65; go_must (refine (JO.out _ M.out).mono ?_); rintro e w_ ⟨rfl, N_⟩; have m := M.out.join N_; clear N_; simp only [List.cons_append, List.nil_append, List.append_nil] at m; have M := Lib.hid m; clear m)
                | ((with_reducible refine gate_dst (N := 43) rfl ?_); go_must (refine M.out.ev_bs1 elem_string rfl _ rfl #[.string _] rfl rfl (by decide) ?_); intro g43 w43 m; simp only [List.cons_append, List.nil_append] at m; have M := Lib.hid m; clear m)
                | ((with_reducible refine gate_dst (N := 44) rfl ?_); go_must (refine M.out.ev_append1 0 2 elem_string rfl _ _ rfl rfl rfl rfl rfl rfl (by simp [Value.oneCell']) (by omega) (by decide) ?_); intro v44 w44 m; simp only [List.set_cons_succ, List.set_cons_zero] at m; have M := Lib.hid m; clear m)
                )
              refine ⟨⟨k + 1, by omega, by go_num, allT_succ hlt HE.out HFN.out, fun _ => h9, ?_⟩, by simp [intOf]; omega⟩
              have m := M.out.take 1
              rw [HSU.out, flat_snoc]
              exact m
        · have i9 : (12 : Int) < (xs.length : Int) := by omega
          have HD := Lib.hid (show flocksT xs = [] by
            unfold flocksT
            rw [if_neg h9]
            split <;> rfl)
          clear h100
          go_wp2_with (first
            | ((with_reducible refine gate_dst (N := 16) rfl ?_); go_must (refine ev_ldr _ _ rfl rfl (M.out.argT R.out) Tryz.underlying48 rfl (by first | exact sz48 | (rw [S1.out]; exact sz48)) rfl ?_))
            | ((with_reducible refine gate_dst (N := 5) rfl ?_); go_must (refine M.out.ev_new rfl (by first | (go_simp; done) | (go_simp; rfl)) ?_); intro g5 w5 m; simp only [List.cons_append, List.nil_append] at m; have M := Lib.hid m; clear m)
            | ((with_reducible refine gate_store (x := .tmp 5) rfl ?_); go_must (refine M.out.ev_stw 1 _ _ _ rfl rfl rfl rfl _ rfl (by first | rfl | (simp only [S1.out]; rfl) | (simp only [S1.out, S2.out]; rfl) | (simp only [S3.out]; rfl) | (simp only [S1.out, S2.out, S3.out]; rfl)) (by first | exact sz48 | (rw [S1.out]; exact sz48) | (rw [S2.out]; exact sz48) | (rw [S3.out]; exact sz48)) (by first | exact ints_one _ _ | exact Fld.one _ | exact O1.out | exact Flock.one _ | rfl | (simp [Value.oneCell']; done)) rfl ?_); intro wn m; simp only [List.set_cons_succ, List.set_cons_zero, List.setIfInBounds_toArray] at m; have M := Lib.hid m; clear m)
            | ((with_reducible refine gate_dst (N := 7) rfl ?_); go_must (refine M.out.ev_new rfl (by first | (go_simp; done) | (go_simp; rfl)) ?_); intro g7 w7 m; simp only [List.cons_append, List.nil_append] at m; have M := Lib.hid m; clear m)
            | ((with_reducible refine gate_store (x := .tmp 7) rfl ?_); go_must (refine M.out.ev_stw 1 _ _ _ rfl rfl rfl rfl _ rfl (by first | rfl | (simp only [S1.out]; rfl) | (simp only [S1.out, S2.out]; rfl) | (simp only [S3.out]; rfl) | (simp only [S1.out, S2.out, S3.out]; rfl)) (by first | exact sz94 | (rw [S1.out]; exact sz94) | (rw [S2.out]; exact sz94) | (rw [S3.out]; exact sz94)) (by first | exact ints_one _ _ | exact Fld.one _ | exact O1.out | exact Flock.one _ | rfl | (simp [Value.oneCell']; done)) rfl ?_); intro wn m; simp only [List.set_cons_succ, List.set_cons_zero, List.setIfInBounds_toArray] at m; have M := Lib.hid m; clear m)
            | ((with_reducible refine gate_store (x := .tmp 7) rfl ?_); go_must (refine M.out.ev_stw 1 _ _ _ rfl rfl rfl rfl _ rfl (by first | rfl | (simp only [S1.out]; rfl) | (simp only [S1.out, S2.out]; rfl) | (simp only [S3.out]; rfl) | (simp only [S1.out, S2.out, S3.out]; rfl)) (by first | exact sz94 | (rw [S1.out]; exact sz94) | (rw [S2.out]; exact sz94) | (rw [S3.out]; exact sz94)) (by first | exact ints_one _ _ | exact Fld.one _ | exact O1.out | exact Flock.one _ | rfl | (simp [Value.oneCell']; done)) rfl ?_); intro wn m; simp only [List.set_cons_succ, List.set_cons_zero, List.setIfInBounds_toArray] at m; have M := Lib.hid m; clear m)
            | ((with_reducible refine gate_dst (N := 30) rfl ?_); go_must (refine M.out.ev_ldw 1 _ _ rfl rfl rfl Tryz.underlying94 rfl (by first | exact sz94 | (rw [S1.out]; exact sz94) | (rw [S2.out]; exact sz94) | (rw [S3.out]; exact sz94)) rfl ?_))
            | (go_at_call 63; go_must (refine (isPlainF_any g5 _ HO.out _ (M.out.blk 1 rfl)).mono ?_); rintro e w_ ⟨rfl, N_⟩; have m := M.out.join N_; clear N_; simp only [List.cons_append, List.nil_append, List.append_nil] at m; have M := Lib.hid m; clear m; rw [HFN.out])
            )
          go_ret
          exact ⟨by rw [HD.out]; rfl, M.out.take 0⟩
    · obtain rfl : k = xs.length := by omega
      have i1 : ¬ ((xs.length : Int) < (xs.length : Int)) := by omega
      have HA := Lib.hid (allT_of HE.out)
      have HD := Lib.hid (show flocksT xs = joinS 32 (xs.map Flock.word) by
        rw [flocksT, if_pos HA.out]
        rcases Nat.eq_zero_or_pos xs.length with h | h
        · rw [if_pos (by omega)]
        · rw [if_pos (h100 h)])
      have HN : xs.length ≤ 12 := by
        rcases Nat.eq_zero_or_pos xs.length with h | h
        · omega
        · exact h100 h
      have m := M.out
      rw [show (xs.map Flock.word).take xs.length = xs.map Flock.word from List.take_of_length_le (by simp)] at m
      obtain ⟨B, cp, rfl, hc, _⟩ := m.row_slice 0 rfl
      have hsl : (strsOf (xs.map Flock.word)).length = xs.length := by rw [strsOf_len, List.length_map]
      have JO := Lib.hid (fun w1 (M : Mem w w1 [.row (.slice B (strsOf (xs.map Flock.word)).length cp) 9 1 (strsOf (xs.map Flock.word)).length (flat oneS (strsOf (xs.map Flock.word)))]) => Join_any M 0 rfl ⟨#[32]⟩ (by rw [hsl]; omega) (by
        rw [strsOf_join]
        have := flocksT_len HX.out (k := xs.length) (by omega)
        rw [show wordsT (xs.map Flock.word) xs.length = joinS 32 (xs.map Flock.word) by have := wordsT_all (xs.map Flock.word); rwa [List.length_map] at this] at this
        omega))
      rw [hsl, strsOf_join] at JO
      have M := Lib.hid m
      clear m h100 HE hsl
      go_wp2_with (first
        | (go_at_call 65; go_must (refine (JO.out _ M.out).mono ?_); rintro e w_ ⟨rfl, N_⟩; have m := M.out.join N_; clear N_; simp only [List.cons_append, List.nil_append, List.append_nil] at m; have M := Lib.hid m; clear m)
        )
      go_ret
      exact ⟨by rw [HD.out]; rfl, M.out.take 0⟩
end Go.Proofs.YtkomhngokcejbaaGreatDoor
namespace Go.Proofs.YtkomhngokcejbaaGreatDoor
set_option linter.unusedSimpArgs false
set_option linter.unusedVariables false
open Go.RowKit
attribute [local go_sem] cell?_mk frozen?_mk
--ONES exact Flock.one _ | exact ints_one _ _

def fillTo (l : List Int) (i : Nat) : List Int := l.take i ++ List.replicate (l.length - i) 0
theorem fillTo_len (l : List Int) {i : Nat} (h : i ≤ l.length) : (fillTo l i).length = l.length := by
  simp [fillTo]
  omega
theorem fillTo_set (l : List Int) {i : Nat} (h : i < l.length) : (fillTo l i).set i l[i] = fillTo l (i + 1) := by
  have e : List.replicate (l.length - i) (0 : Int) = 0 :: List.replicate (l.length - (i + 1)) 0 := by
    rw [show l.length - i = (l.length - (i + 1)) + 1 by omega, List.replicate_succ]
  rw [fillTo, fillTo, e, List.set_append_right _ _ (by rw [List.length_take]; omega), List.length_take, Nat.min_eq_left (by omega), Nat.sub_self, List.set_cons_zero, List.take_succ_eq_append_getElem h, List.append_assoc]
  rfl
theorem fillTo_all (l : List Int) : fillTo l l.length = l := by simp [fillTo]
theorem Flock.nats {x : Flock} (h : x.plain = true) : ∃ a b c d e f : Nat, x = ⟨a, b, c, d, e, f⟩ ∧ a ≤ 99 ∧ b ≤ 200 ∧ c ≤ 20 ∧ d ≤ 1000 ∧ e ≤ 200 ∧ f ≤ 2 := by
  obtain ⟨⟨a0, a1⟩, ⟨b0, b1⟩, ⟨c0, c1⟩, ⟨d0, d1⟩, ⟨e0, e1⟩, f0, f1⟩ := Flock.plain_iff.1 h
  obtain ⟨p, q, r, s, t, u⟩ := x
  simp only at a0 a1 b0 b1 c0 c1 d0 d1 e0 e1 f0 f1
  refine ⟨p.toNat, q.toNat, r.toNat, s.toNat, t.toNat, u.toNat, ?_, by omega, by omega, by omega, by omega, by omega, by omega⟩
  rw [Int.toNat_of_nonneg a0, Int.toNat_of_nonneg b0, Int.toNat_of_nonneg c0, Int.toNat_of_nonneg d0, Int.toNat_of_nonneg e0, Int.toNat_of_nonneg f0]
set_option maxRecDepth 100000 in
set_option maxHeartbeats 8000000 in
theorem ReadFlocks_any (xs : List Flock) (hx : ∀ x ∈ xs, x.ok) (hp : ∀ x ∈ xs, x.plain = true) (hl : xs.length ≤ 12) (w : World) (ht : Tabs w) :
    Calls Tryz.prog 9 #[.string ⟨(flocksT xs).toArray⟩] w (RetRowC w 48 6 xs.length (flat Flock.vals xs) 0) := by
  have M := Lib.hid (Mem.start w)
  have HT := Lib.hid ht
  have HP := Lib.hid hp
  have hT : flocksT xs = joinS 32 (xs.map Flock.word) := by
    unfold flocksT
    rw [if_pos (List.all_eq_true.2 hp), if_pos hl]
  rw [hT]
  clear ht
  by_cases h0 : xs = []
  · subst h0
    go_enter Tryz.func9, Tryz.ntmps9
    go_wp2_with (first
      | ((with_reducible refine gate_dst (N := 15) rfl ?_); go_must (refine M.out.ev_bs0 elem_Flock rfl rfl ?_); intro g0 w0 m; simp only [List.nil_append] at m; have M := Lib.hid m; clear m)
      )
    go_ret2
    exact ⟨_, _, rfl, Nat.le_refl _, M.out⟩
  · have hpc : pieces 32 (joinS 32 (xs.map Flock.word)) = xs.map Flock.word := pieces_join 32 _ (by simpa using h0) (fun v hv => by
      obtain ⟨x, hx, rfl⟩ := List.mem_map.1 hv
      obtain ⟨a, b, c, d, e, f, rfl, _⟩ := Flock.nats (hp x hx)
      exact Flock.word_free a b c d e f)
    have hTl : (joinS 32 (xs.map Flock.word)).length ≤ 1048576 := by
      have h1 := joinS_len 32 200 (xs.map Flock.word) (fun v hv => by
        obtain ⟨x, hx', rfl⟩ := List.mem_map.1 hv
        have := Flock.word_len (hx x hx')
        omega)
      rw [List.length_map] at h1
      have : 201 * xs.length ≤ 201 * 12 := Nat.mul_le_mul_left _ hl
      omega
    have hTn : joinS 32 (xs.map Flock.word) ≠ [] := fun e => by
      rw [e] at hpc
      have hlen := congrArg List.length hpc
      cases xs with
      | nil => exact h0 rfl
      | cons x r =>
        obtain ⟨a, b, c, d, e, f, rfl, _⟩ := Flock.nats (hp x (by simp))
        rw [pieces, List.map_cons, List.cons.injEq, Flock.word_nat] at hpc
        have := congrArg List.length hpc.1
        simp at this
    have SP0 := fun w ht => Split_any (joinS 32 (xs.map Flock.word)) 32 hTl w ht
    rw [hpc, List.length_map] at SP0
    have SP := Lib.hid SP0
    generalize joinS 32 (xs.map Flock.word) = T at SP hTn
    have hTe : T.isEmpty = false := by
      cases T with
      | nil => exact absurd rfl hTn
      | cons x y => rfl
    have hg : decide ((12 : Int) < (xs.length : Int)) = false := decide_eq_false (by omega)
    have hg2 : ¬ ((12 : Int) < (xs.length : Int)) := by omega
    clear SP0 hpc hTl hT h0 hp
    go_enter Tryz.func9, Tryz.ntmps9
    go_wp2_with (first
      | ((with_reducible refine gate_dst (N := 15) rfl ?_); go_must (refine M.out.ev_bs0 elem_Flock rfl rfl ?_); intro g0 w0 m; simp only [List.nil_append] at m; have M := Lib.hid m; clear m)
      | (go_at_call 60; go_must (refine (SP.out _ (M.out.tabs HT.out)).mono ?_); rintro e w_ ⟨gs, rfl, N_⟩; have m := M.out.join N_; clear N_; simp only [List.cons_append, List.nil_append, List.append_nil] at m; have M := Lib.hid m; clear m)
      )
    go_loopw [4, 26] (fun o v wr => ∃ (i : Nat) (A : Option Addr) (cp : Nat), i ≤ xs.length ∧ v = .int .i64 i ∧ o = .slice A i cp ∧ Mem w wr [.row (.slice A i cp) 48 6 i (flat Flock.vals (xs.take i)), .blk gs 9 (strsV (xs.map Flock.word)).toArray])
      (fun _ v _ => xs.length - (intOf v).toNat)
    case atStart => exact ⟨0, some ⟨g0, 0, none⟩, 0, by omega, rfl, rfl, M.out⟩
    case round =>
      clear M
      obtain ⟨i, A, cp, hi, rfl, rfl, m⟩ := hrel
      have M := Lib.hid m
      clear m
      by_cases hlt : i < xs.length
      · obtain ⟨x, hxi⟩ : ∃ x, xs[i] = x := ⟨_, rfl⟩
        have hpx : x.plain = true := by rw [← hxi]; exact HP.out _ (List.getElem_mem hlt)
        have hxo : x.ok := by rw [← hxi]; exact hx _ (List.getElem_mem hlt)
        have WC := Lib.hid (show (strsV (xs.map Flock.word)).toArray[i]? = some (.string ⟨x.word.toArray⟩) by
          have h := strsV_at (ls := xs.map Flock.word) (k := i) (by rw [List.length_map]; exact hlt)
          rw [List.getElem_map, hxi] at h
          exact h)
        have HTS := Lib.hid (show xs.take (i + 1) = xs.take i ++ [x] by rw [List.take_succ_eq_append_getElem hlt, hxi])
        have SW0 := fun w ht => Split_any x.word 47 (by have := Flock.word_len hxo; omega) w ht
        have hws : pieces 47 x.word = x.nums.map dec := by
          obtain ⟨a, b, c, d, e, f, rfl, _⟩ := Flock.nats hpx
          exact Flock.word_pieces a b c d e f
        rw [hws, List.length_map, show x.nums.length = 6 from rfl] at SW0
        have SW := Lib.hid SW0
        have hn : ∀ j (h : j < 6), ∃ a m : Nat, gi x.nums j = a ∧ gi mosts j = m ∧ a ≤ m ∧ m < 10 ^ 9 := by
          obtain ⟨a, b, c, d, e, f, rfl, h1, h2, h3, h4, h5, h6⟩ := Flock.nats hpx
          intro j hj
          match j, hj with
          | 0, _ => exact ⟨a, 99, rfl, rfl, h1, by decide⟩
          | 1, _ => exact ⟨b, 200, rfl, rfl, h2, by decide⟩
          | 2, _ => exact ⟨c, 20, rfl, rfl, h3, by decide⟩
          | 3, _ => exact ⟨d, 1000, rfl, rfl, h4, by decide⟩
          | 4, _ => exact ⟨e, 200, rfl, rfl, h5, by decide⟩
          | 5, _ => exact ⟨f, 2, rfl, rfl, h6, by decide⟩
        have HN := Lib.hid hn
        have e1 : IntKind.i16.wrap x.tree = x.tree := IntWalk.i16_in _ hxo.tree
        have e2 : IntKind.i16.wrap x.birds = x.birds := IntWalk.i16_in _ hxo.birds
        have e3 : IntKind.i16.wrap x.eats = x.eats := IntWalk.i16_in _ hxo.eats
        have e4 : IntKind.i16.wrap x.bold = x.bold := IntWalk.i16_in _ hxo.bold
        have e5 : IntKind.i16.wrap x.reach = x.reach := IntWalk.i16_in _ hxo.reach
        have e6 : IntKind.i8.wrap x.taste = x.taste := IntWalk.i8_in _ hxo.taste
        have HXO := Lib.hid hxo
        have i0 : (0 : Int) ≤ (i : Int) := by omega
        have i1 : (i : Int) < (xs.length : Int) := by omega
        clear SW0 hws hn hxi hpx hxo
        go_wp2_with (first
          | ((with_reducible refine gate_dst (N := 29) rfl ?_); go_must (refine ev_get _ _ rfl rfl (M.out.cell 1 rfl WC.out) Tryz.underlying9 rfl rfl ?_))
          | (go_at_call 60; go_must (refine (SW.out _ (M.out.tabs HT.out)).mono ?_); rintro e w_ ⟨gp, rfl, N_⟩; have m := M.out.join N_; clear N_; simp only [List.cons_append, List.nil_append, List.append_nil] at m; have M := Lib.hid m; clear m)
          | (go_at_call 61; go_must (refine (numbersOf_any _ Flock.z ⟨by decide, by decide, by decide, by decide, by decide, by decide⟩ _ (M.out.blk 5 rfl)).mono ?_); rintro e w_ ⟨rfl, N_⟩; have m := M.out.join N_; clear N_; simp only [List.cons_append, List.nil_append, List.append_nil] at m; have M := Lib.hid m; clear m)
          | ((with_reducible refine gate_dst (N := 9) rfl ?_); go_must (refine M.out.ev_new rfl (by first | (go_simp; done) | (go_simp; rfl)) ?_); intro g9 w9 m; simp only [List.cons_append, List.nil_append] at m; have M := Lib.hid m; clear m)
          | ((with_reducible refine gate_dst (N := 10) rfl ?_); go_must (refine M.out.ev_new rfl (by first | (go_simp; done) | (go_simp; rfl)) ?_); intro g10 w10 m; simp only [List.cons_append, List.nil_append] at m; have M := Lib.hid m; clear m)
          | ((with_reducible refine gate_store (x := .tmp 9) rfl ?_); go_must (refine M.out.ev_stw 3 _ _ _ rfl rfl rfl rfl _ rfl (by first | rfl | (simp only [S1.out]; rfl) | (simp only [S1.out, S2.out]; rfl) | (simp only [S3.out]; rfl) | (simp only [S1.out, S2.out, S3.out]; rfl)) (by first | exact sz94 | (rw [S1.out]; exact sz94) | (rw [S2.out]; exact sz94) | (rw [S3.out]; exact sz94)) (by first | exact ints_one _ _ | exact Fld.one _ | exact O1.out | exact Flock.one _ | exact ints_one _ _ | rfl | (simp [Value.oneCell']; done)) rfl ?_); intro wn m; simp only [List.set_cons_succ, List.set_cons_zero, List.setIfInBounds_toArray] at m; have M := Lib.hid m; clear m)
          | ((with_reducible refine gate_store (x := .tmp 10) rfl ?_); go_must (refine M.out.ev_stw 4 _ _ _ rfl rfl rfl rfl _ rfl (by first | rfl | (simp only [S1.out]; rfl) | (simp only [S1.out, S2.out]; rfl) | (simp only [S3.out]; rfl) | (simp only [S1.out, S2.out, S3.out]; rfl)) (by first | exact sz94 | (rw [S1.out]; exact sz94) | (rw [S2.out]; exact sz94) | (rw [S3.out]; exact sz94)) (by first | exact ints_one _ _ | exact Fld.one _ | exact O1.out | exact Flock.one _ | exact ints_one _ _ | rfl | (simp [Value.oneCell']; done)) rfl ?_); intro wn m; simp only [List.set_cons_succ, List.set_cons_zero, List.setIfInBounds_toArray] at m; have M := Lib.hid m; clear m)
          | ((with_reducible refine gate_dst (N := 39) rfl ?_); go_must (refine M.out.ev_new rfl (by first | (go_simp; done) | (go_simp; rfl)) ?_); intro g39 w39 m; simp only [List.cons_append, List.nil_append] at m; have M := Lib.hid m; clear m)
          | ((with_reducible refine gate_store (x := .tmp 10) rfl ?_); go_must (refine M.out.ev_stw 4 _ _ _ rfl rfl rfl rfl _ rfl (by first | rfl | (simp only [S1.out]; rfl) | (simp only [S1.out, S2.out]; rfl) | (simp only [S3.out]; rfl) | (simp only [S1.out, S2.out, S3.out]; rfl)) (by first | exact sz94 | (rw [S1.out]; exact sz94) | (rw [S2.out]; exact sz94) | (rw [S3.out]; exact sz94)) (by first | exact ints_one _ _ | exact Fld.one _ | exact O1.out | exact Flock.one _ | exact ints_one _ _ | rfl | (simp [Value.oneCell']; done)) rfl ?_); intro wn m; simp only [List.set_cons_succ, List.set_cons_zero, List.setIfInBounds_toArray] at m; have M := Lib.hid m; clear m)
          | ((with_reducible refine gate_dst (N := 54) rfl ?_); go_must (refine M.out.ev_ld 4 _ _ rfl rfl rfl Tryz.underlying2 rfl rfl (by first | assumption | rfl) ?_))
          | ((with_reducible refine gate_store (x := .tmp 62) rfl ?_); go_must (refine M.out.ev_put 3 _ _ _ rfl rfl rfl rfl (.int _ _) rfl (by first | assumption | exact Fld.lt0 _ | exact Fld.lt1 _ | (simp; done) | (simp only [ints_size]; omega)) sz2 rfl rfl ?_); intro wn m; simp only [List.set_cons_succ, List.set_cons_zero, List.setIfInBounds_toArray] at m; have M := Lib.hid m; clear m)
          | ((with_reducible refine gate_dst (N := 66) rfl ?_); go_must (refine M.out.ev_ld 3 _ _ rfl rfl rfl Tryz.underlying2 rfl rfl (by first | assumption | rfl) ?_))
          | ((with_reducible refine gate_dst (N := 69) rfl ?_); go_must (refine M.out.ev_ld 3 _ _ rfl rfl rfl Tryz.underlying2 rfl rfl (by first | assumption | rfl) ?_))
          | ((with_reducible refine gate_dst (N := 72) rfl ?_); go_must (refine M.out.ev_ld 3 _ _ rfl rfl rfl Tryz.underlying2 rfl rfl (by first | assumption | rfl) ?_))
          | ((with_reducible refine gate_dst (N := 75) rfl ?_); go_must (refine M.out.ev_ld 3 _ _ rfl rfl rfl Tryz.underlying2 rfl rfl (by first | assumption | rfl) ?_))
          | ((with_reducible refine gate_dst (N := 78) rfl ?_); go_must (refine M.out.ev_ld 3 _ _ rfl rfl rfl Tryz.underlying2 rfl rfl (by first | assumption | rfl) ?_))
          | ((with_reducible refine gate_dst (N := 81) rfl ?_); go_must (refine M.out.ev_ld 3 _ _ rfl rfl rfl Tryz.underlying2 rfl rfl (by first | assumption | rfl) ?_))
          )
        go_loopw [45] (fun v wr => ∃ j : Nat, j ≤ 6 ∧ v = .int .i64 j ∧ Mem w wr [.row (.slice A i cp) 48 6 i (flat Flock.vals (xs.take i)), .blk gs 9 (strsV (xs.map Flock.word)).toArray, .blk gp 9 (strsV (x.nums.map dec)).toArray, .blk g9 94 (ints .i64 (fillTo x.nums j)), .blk g10 94 (ints .i64 mosts), .blk g39 48 Flock.z.vals.toArray])
          (fun v _ => 6 - (intOf v).toNat)
        case atStart => exact ⟨0, by omega, rfl, M.out⟩
        case round =>
          clear M
          obtain ⟨j, hj, rfl, m⟩ := hrel
          have M := Lib.hid m
          clear m
          by_cases hlt2 : j < 6
          · obtain ⟨a, mm, ha, hm, ham, hmm⟩ := HN.out j hlt2
            have WJ := Lib.hid (show (strsV (x.nums.map dec)).toArray[j]? = some (.string ⟨(dec a).toArray⟩) by
              have h := strsV_at (ls := x.nums.map dec) (k := j) (by rw [List.length_map]; exact hlt2)
              rw [List.getElem_map] at h
              rw [h, ← ha, gi, List.getD_eq_getElem?_getD, List.getElem?_eq_getElem (by exact hlt2)]
              rfl)
            have MJ := Lib.hid (show (ints .i64 mosts)[j]? = some (.int .i64 mm) by rw [← hm]; exact ints_at hlt2)
            have PA0 := fun w ht => parse_dec_any a 0 mm (by omega) ham hmm w ht
            generalize dec a = DA at WJ PA0
            have PA := Lib.hid (show ∀ w, Tabs w → Calls Tryz.prog 62 #[.string ⟨DA.toArray⟩, .int .i64 0, .int .i64 mm] w (fun e w' => e = .returned (.tuple #[.int .i64 a, .bool true]) ∧ Mem w w' []) from PA0)
            have HF := Lib.hid (show (ints .i64 (fillTo x.nums j)).setIfInBounds j (.int .i64 a) = ints .i64 (fillTo x.nums (j + 1)) by
              rw [ints_set, ← fillTo_set x.nums hlt2, ← ha, gi, List.getD_eq_getElem?_getD, List.getElem?_eq_getElem (by exact hlt2)]
              rfl)
            have JL : j < (ints .i64 (fillTo x.nums j)).size := by rw [ints_size, fillTo_len _ (by exact hj)]; exact hlt2
            have j0 : (0 : Int) ≤ (j : Int) := by omega
            have j1 : (j : Int) < 6 := by omega
            clear PA0 ha hm ham hmm
            go_wp2_with (first
              | ((with_reducible refine gate_dst (N := 49) rfl ?_); go_must (refine ev_get _ _ rfl rfl (M.out.cell 2 rfl WJ.out) Tryz.underlying9 rfl rfl ?_))
              | ((with_reducible refine gate_dst (N := 54) rfl ?_); go_must (refine ev_get _ _ rfl rfl (M.out.cell 4 rfl MJ.out) Tryz.underlying2 rfl rfl ?_))
              | (go_at_call 62; go_must (refine (PA.out _ (M.out.tabs HT.out)).mono ?_); rintro e w_ ⟨rfl, N_⟩; have m := M.out.join N_; clear N_; simp only [List.cons_append, List.nil_append, List.append_nil] at m; have M := Lib.hid m; clear m)
              | ((with_reducible refine gate_dst (N := 9) rfl ?_); go_must (refine M.out.ev_new rfl (by first | (go_simp; done) | (go_simp; rfl)) ?_); intro g9 w9 m; simp only [List.cons_append, List.nil_append] at m; have M := Lib.hid m; clear m)
              | ((with_reducible refine gate_dst (N := 10) rfl ?_); go_must (refine M.out.ev_new rfl (by first | (go_simp; done) | (go_simp; rfl)) ?_); intro g10 w10 m; simp only [List.cons_append, List.nil_append] at m; have M := Lib.hid m; clear m)
              | ((with_reducible refine gate_store (x := .tmp 9) rfl ?_); go_must (refine M.out.ev_stw 3 _ _ _ rfl rfl rfl rfl _ rfl (by first | rfl | (simp only [S1.out]; rfl) | (simp only [S1.out, S2.out]; rfl) | (simp only [S3.out]; rfl) | (simp only [S1.out, S2.out, S3.out]; rfl)) (by first | exact sz94 | (rw [S1.out]; exact sz94) | (rw [S2.out]; exact sz94) | (rw [S3.out]; exact sz94)) (by first | exact ints_one _ _ | exact Fld.one _ | exact O1.out | exact Flock.one _ | exact ints_one _ _ | rfl | (simp [Value.oneCell']; done)) rfl ?_); intro wn m; simp only [List.set_cons_succ, List.set_cons_zero, List.setIfInBounds_toArray] at m; have M := Lib.hid m; clear m)
              | ((with_reducible refine gate_store (x := .tmp 10) rfl ?_); go_must (refine M.out.ev_stw 4 _ _ _ rfl rfl rfl rfl _ rfl (by first | rfl | (simp only [S1.out]; rfl) | (simp only [S1.out, S2.out]; rfl) | (simp only [S3.out]; rfl) | (simp only [S1.out, S2.out, S3.out]; rfl)) (by first | exact sz94 | (rw [S1.out]; exact sz94) | (rw [S2.out]; exact sz94) | (rw [S3.out]; exact sz94)) (by first | exact ints_one _ _ | exact Fld.one _ | exact O1.out | exact Flock.one _ | exact ints_one _ _ | rfl | (simp [Value.oneCell']; done)) rfl ?_); intro wn m; simp only [List.set_cons_succ, List.set_cons_zero, List.setIfInBounds_toArray] at m; have M := Lib.hid m; clear m)
              | ((with_reducible refine gate_dst (N := 39) rfl ?_); go_must (refine M.out.ev_new rfl (by first | (go_simp; done) | (go_simp; rfl)) ?_); intro g39 w39 m; simp only [List.cons_append, List.nil_append] at m; have M := Lib.hid m; clear m)
              | ((with_reducible refine gate_store (x := .tmp 10) rfl ?_); go_must (refine M.out.ev_stw 4 _ _ _ rfl rfl rfl rfl _ rfl (by first | rfl | (simp only [S1.out]; rfl) | (simp only [S1.out, S2.out]; rfl) | (simp only [S3.out]; rfl) | (simp only [S1.out, S2.out, S3.out]; rfl)) (by first | exact sz94 | (rw [S1.out]; exact sz94) | (rw [S2.out]; exact sz94) | (rw [S3.out]; exact sz94)) (by first | exact ints_one _ _ | exact Fld.one _ | exact O1.out | exact Flock.one _ | exact ints_one _ _ | rfl | (simp [Value.oneCell']; done)) rfl ?_); intro wn m; simp only [List.set_cons_succ, List.set_cons_zero, List.setIfInBounds_toArray] at m; have M := Lib.hid m; clear m)
              | ((with_reducible refine gate_dst (N := 54) rfl ?_); go_must (refine M.out.ev_ld 4 _ _ rfl rfl rfl Tryz.underlying2 rfl rfl (by first | assumption | rfl) ?_))
              | ((with_reducible refine gate_store (x := .tmp 62) rfl ?_); go_must (refine M.out.ev_put 3 _ _ _ rfl rfl rfl rfl (.int _ _) rfl (by first | assumption | exact Fld.lt0 _ | exact Fld.lt1 _ | (simp; done) | (simp only [ints_size]; omega)) sz2 rfl rfl ?_); intro wn m; simp only [List.set_cons_succ, List.set_cons_zero, List.setIfInBounds_toArray] at m; have M := Lib.hid m; clear m)
              | ((with_reducible refine gate_dst (N := 66) rfl ?_); go_must (refine M.out.ev_ld 3 _ _ rfl rfl rfl Tryz.underlying2 rfl rfl (by first | assumption | rfl) ?_))
              | ((with_reducible refine gate_dst (N := 69) rfl ?_); go_must (refine M.out.ev_ld 3 _ _ rfl rfl rfl Tryz.underlying2 rfl rfl (by first | assumption | rfl) ?_))
              | ((with_reducible refine gate_dst (N := 72) rfl ?_); go_must (refine M.out.ev_ld 3 _ _ rfl rfl rfl Tryz.underlying2 rfl rfl (by first | assumption | rfl) ?_))
              | ((with_reducible refine gate_dst (N := 75) rfl ?_); go_must (refine M.out.ev_ld 3 _ _ rfl rfl rfl Tryz.underlying2 rfl rfl (by first | assumption | rfl) ?_))
              | ((with_reducible refine gate_dst (N := 78) rfl ?_); go_must (refine M.out.ev_ld 3 _ _ rfl rfl rfl Tryz.underlying2 rfl rfl (by first | assumption | rfl) ?_))
              | ((with_reducible refine gate_dst (N := 81) rfl ?_); go_must (refine M.out.ev_ld 3 _ _ rfl rfl rfl Tryz.underlying2 rfl rfl (by first | assumption | rfl) ?_))
              )
            refine ⟨⟨j + 1, hlt2, by go_num, ?_⟩, by simp [intOf]; omega⟩
            have mm := M.out.take 6
            rw [HF.out] at mm
            exact mm
          · obtain rfl : j = 6 := by omega
            have j1 : ¬ ((6 : Int) < 6) := by omega
            rw [show fillTo x.nums 6 = x.nums from fillTo_all x.nums] at M
            have v0 := M.out.cell 3 rfl (j := 0) (v := .int .i64 x.tree) rfl
            have v1 := M.out.cell 3 rfl (j := 1) (v := .int .i64 x.birds) rfl
            have v2 := M.out.cell 3 rfl (j := 2) (v := .int .i64 x.eats) rfl
            have v3 := M.out.cell 3 rfl (j := 3) (v := .int .i64 x.bold) rfl
            have v4 := M.out.cell 3 rfl (j := 4) (v := .int .i64 x.reach) rfl
            have v5 := M.out.cell 3 rfl (j := 5) (v := .int .i64 x.taste) rfl
            go_wp2_with (first
              | ((with_reducible refine gate_dst (N := 84) rfl ?_); go_must (refine M.out.ev_bs1 elem_Flock rfl _ rfl x.vals.toArray rfl rfl (by decide) ?_); intro g84 w84 m; simp only [List.cons_append, List.nil_append] at m; have M := Lib.hid m; clear m)
              | ((with_reducible refine gate_dst (N := 85) rfl ?_); go_must (refine M.out.ev_append1 0 6 elem_Flock rfl _ _ rfl rfl rfl rfl rfl rfl (Flock.one _) (by omega) (by decide) ?_); intro v85 w85 m; simp only [List.set_cons_succ, List.set_cons_zero] at m; have M := Lib.hid m; clear m)
              )
            obtain ⟨A2, c2, rfl, hm2, _⟩ := M.out.row_slice 0 rfl
            refine ⟨⟨i + 1, A2, c2, by omega, by go_num, rfl, ?_⟩, by simp [intOf]; omega⟩
            have mm := M.out.take 2
            rw [HTS.out, flat_snoc]
            exact mm
      · obtain rfl : xs.length = i := by omega
        have i1 : ¬ ((xs.length : Int) < (xs.length : Int)) := by omega
        rw [List.take_length] at M
        have hcp := (M.out.row_le 0 rfl).1
        go_wp2
        go_ret2
        exact ⟨A, cp, rfl, hcp, M.out.take 1⟩
end Go.Proofs.YtkomhngokcejbaaGreatDoor
