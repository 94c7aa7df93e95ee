/- Texts of a proof, laid together: ScaresT, ReadQS. -/
import Derived.Test.YtoacnfofijikmaaGreatDoorZR14
import Derived.Test.YtoacnfofijikmaaGreatDoorZR15
import Derived.Test.YtoacnfofijikmaaGreatDoorZR02
namespace Go.Proofs.YtoacnfofijikmaaGreatDoor
set_option linter.unusedSimpArgs false
set_option linter.unusedVariables false
open Go.RowKit
attribute [local go_sem] cell?_mk frozen?_mk
--ONES exact Scarecrow.one _

def scaresT (xs : List Scarecrow) : List UInt8 := if xs.all Scarecrow.plain = true then if xs.length ≤ 20 then joinS 32 (xs.map Scarecrow.word) else [] else []
theorem scaresT_len {xs : List Scarecrow} (hx : ∀ x ∈ xs, x.ok) {k : Nat} (hk : k ≤ 1048576) : (wordsT (xs.map Scarecrow.word) k).length ≤ 1000000000 := wordsT_len (fun w hw => by
  obtain ⟨x, h1, rfl⟩ := List.mem_map.1 hw
  exact Scarecrow.word_len (hx x h1)) hk
set_option maxRecDepth 100000 in
set_option maxHeartbeats 8000000 in
theorem impl_ScaresText_any (A : Option Addr) (n : Nat) (xs : List Scarecrow) (hx : ∀ x ∈ xs, x.ok) (hl : xs.length ≤ 1048576) (w : World) (ht : Tab w) (hs : Sl w 3 A xs.length (flat Scarecrow.vals xs)) :
    Calls Tryz.prog 10 #[.slice A xs.length n] w fun e w' => e = .returned (.string ⟨(scaresT xs).toArray⟩) ∧ Mem w w' [] := by
  have M := Lib.hid (Mem.start w)
  have HX := Lib.hid hx
  have HS := Lib.hid hs
  have HT := Lib.hid ht
  clear hx hs ht
  go_enter Tryz.func10, Tryz.ntmps10
  go_wp2_with (first
    | ((with_reducible refine gate_dst (N := 6) rfl ?_); go_must (refine M.out.ev_bs0 elem_string rfl rfl ?_); intro g0 w0 m; simp only [List.nil_append] at m; have M := Lib.hid m; clear m)
    )
  go_loopw [3, 9] (fun s v wr => ∃ k : Nat, k ≤ xs.length ∧ v = .int .i64 k ∧ (∀ x ∈ xs.take k, x.plain = true) ∧ (0 < k → xs.length ≤ 20) ∧ Mem w wr [.row s 9 1 k (flat oneS (strsOf ((xs.map Scarecrow.word).take k)))])
    (fun _ v _ => xs.length - (intOf v).toNat)
  case atStart => exact ⟨0, by omega, rfl, fun x h => absurd h (by simp), fun h => by omega, M.out⟩
  case round =>
    clear M
    obtain ⟨k, hk, rfl, he, h100, m⟩ := hrel
    have M := Lib.hid m
    have HE := Lib.hid he
    clear m he
    by_cases hlt : k < xs.length
    · obtain ⟨b, off, rfl, hr⟩ := HS.out.2 (by omega)
      have R := Lib.hid (range_at Scarecrow.vl hr (List.getElem?_eq_getElem hlt))
      have HO := Lib.hid (HX.out xs[k] (List.getElem_mem hlt))
      have HM := Lib.hid (List.getElem_mem hlt)
      have i0 : (0 : Int) ≤ (k : Int) := by omega
      have i1 : (k : Int) < (xs.length : Int) := by omega
      clear hr
      cases hf : xs[k].plain
      · have HFN := Lib.hid hf
        clear hf h100
        go_wp2_with (first
          | ((with_reducible refine gate_dst (N := 12) rfl ?_); go_must (refine ev_ldr _ _ rfl rfl (M.out.argT R.out) Tryz.underlying60 rfl (by first | exact sz60 | (rw [S1.out]; exact sz60)) rfl ?_))
          | ((with_reducible refine gate_dst (N := 5) rfl ?_); go_must (refine M.out.ev_new rfl (by first | (go_simp; done) | (go_simp; rfl)) ?_); intro g5 w5 m; simp only [List.cons_append, List.nil_append] at m; have M := Lib.hid m; clear m; try have q1_0 := M.out.cell (j := 0) 1 rfl (by first | assumption | rfl); try have q1_1 := M.out.cell (j := 1) 1 rfl (by first | assumption | rfl); try have q1_2 := M.out.cell (j := 2) 1 rfl (by first | assumption | rfl))
          | ((with_reducible refine gate_store (x := .tmp 5) rfl ?_); go_must (refine M.out.ev_stw 1 _ _ _ rfl rfl rfl rfl _ rfl (by first | rfl | (simp only [S1.out]; rfl) | (simp only [S1.out, S2.out]; rfl) | (simp only [S3.out]; rfl) | (simp only [S1.out, S2.out, S3.out]; rfl)) (by first | exact sz60 | (rw [S1.out]; exact sz60) | (rw [S2.out]; exact sz60) | (rw [S3.out]; exact sz60)) (by first | exact ints_one _ _ | exact Fld.one _ | exact O1.out | exact Scarecrow.one _ | rfl | (simp [Value.oneCell']; done)) rfl ?_); intro wn m; simp only [List.set_cons_succ, List.set_cons_zero, List.setIfInBounds_toArray] at m; have M := Lib.hid m; clear m; try have q1_0 := M.out.cell (j := 0) 1 rfl (by first | assumption | rfl); try have q1_1 := M.out.cell (j := 1) 1 rfl (by first | assumption | rfl); try have q1_2 := M.out.cell (j := 2) 1 rfl (by first | assumption | rfl))
          | ((with_reducible refine gate_dst (N := 13) rfl ?_); go_must (refine M.out.ev_ldw 1 _ _ rfl rfl rfl Tryz.underlying60 rfl (by first | exact sz60 | (rw [S1.out]; exact sz60) | (rw [S2.out]; exact sz60) | (rw [S3.out]; exact sz60)) rfl ?_))
          | ((with_reducible refine gate_dst (N := 23) rfl ?_); go_must (refine M.out.ev_ld 1 _ _ rfl rfl rfl Tryz.underlying26 rfl rfl (by first | assumption | rfl) ?_))
          | ((with_reducible refine gate_dst (N := 25) rfl ?_); go_must (refine ev_cat _ _ _ _ rfl rfl _ _ rfl rfl rfl (by simp only [List.length_append, List.length_cons, List.length_nil]; omega) ?_))
          | ((with_reducible refine gate_dst (N := 27) rfl ?_); go_must (refine M.out.ev_ld 1 _ _ rfl rfl rfl Tryz.underlying26 rfl rfl (by first | assumption | rfl) ?_))
          | ((with_reducible refine gate_dst (N := 29) rfl ?_); go_must (refine ev_cat _ _ _ _ rfl rfl _ _ rfl rfl rfl (by simp only [List.length_append, List.length_cons, List.length_nil]; omega) ?_))
          | ((with_reducible refine gate_dst (N := 30) rfl ?_); go_must (refine ev_cat _ _ _ _ rfl rfl _ _ rfl rfl rfl (by simp only [List.length_append, List.length_cons, List.length_nil]; omega) ?_))
          | ((with_reducible refine gate_dst (N := 32) rfl ?_); go_must (refine M.out.ev_ld 1 _ _ rfl rfl rfl Tryz.underlying24 rfl rfl (by first | assumption | rfl) ?_))
          | ((with_reducible refine gate_dst (N := 34) rfl ?_); go_must (refine ev_cat _ _ _ _ rfl rfl _ _ rfl rfl rfl (by simp only [List.length_append, List.length_cons, List.length_nil]; omega) ?_))
          | (go_at_call 41; go_must (refine (isPlainS_any _ HO.out _).mono ?_); rintro e w_ ⟨rfl, N_⟩; have m := M.out.join N_; clear N_; simp only [List.cons_append, List.nil_append, List.append_nil] at m; have M := Lib.hid m; clear m; rw [HFN.out])
          )
        go_ret
        exact ⟨by rw [scaresT, if_neg (by rw [not_allT HM.out HFN.out]; decide)]; rfl, M.out.take 0⟩
      · have HFN := Lib.hid hf
        clear hf
        by_cases h9 : xs.length ≤ 20
        · have i9 : ¬ ((20 : Int) < (xs.length : Int)) := by omega
          have HSU := Lib.hid (show strsOf ((xs.map Scarecrow.word).take (k + 1)) = strsOf ((xs.map Scarecrow.word).take k) ++ [⟨xs[k].word.toArray⟩] by rw [strsOf_succ (by simpa using hlt)]; simp)
          have hpl := HFN.out
          rw [Scarecrow.plain] at hpl
          simp only [Bool.and_eq_true] at hpl
          obtain ⟨p0, p1, p2⟩ := hpl
          have q0 := inB_iff.1 p0
          have q1 := inB_iff.1 p1
          have q2 := inB_iff.1 p2
          have HW := Lib.hid (show xs[k].word = dec xs[k].cell ++ [58] ++ dec xs[k].power ++ [47] ++ dec xs[k].age from rfl)
          have HV := Lib.hid (show xs[k].vals.toArray = #[.int .i16 xs[k].cell, .int .i16 xs[k].power, .int .i8 xs[k].age] from rfl)
          obtain ⟨f1, hf1⟩ : ∃ c, c = xs[k].cell := ⟨_, rfl⟩
          rw [← hf1] at q0 HW HV
          obtain ⟨f2, hf2⟩ : ∃ c, c = xs[k].power := ⟨_, rfl⟩
          rw [← hf2] at q1 HW HV
          obtain ⟨f3, hf3⟩ : ∃ c, c = xs[k].age := ⟨_, rfl⟩
          rw [← hf3] at q2 HW HV
          unfold dec at HW
          have Df1 := Lib.hid (fun w ht => decimal16_any f1 (by omega) (by omega) w ht)
          have lf1 := dec_b (n := f1) (by omega) (by omega)
          unfold dec at lf1
          have Df2 := Lib.hid (fun w ht => decimal16_any f2 (by omega) (by omega) w ht)
          have lf2 := dec_b (n := f2) (by omega) (by omega)
          unfold dec at lf2
          have Df3 := Lib.hid (fun w ht => decimal8_any f3 (by omega) (by omega) w ht)
          have lf3 := dec_b (n := f3) (by omega) (by omega)
          unfold dec at lf3
          obtain ⟨Sf1, hSf1⟩ : ∃ O, O = Lib.itoa f1 := ⟨_, rfl⟩
          rw [← hSf1] at lf1 Df1 HW
          obtain ⟨Sf2, hSf2⟩ : ∃ O, O = Lib.itoa f2 := ⟨_, rfl⟩
          rw [← hSf2] at lf2 Df2 HW
          obtain ⟨Sf3, hSf3⟩ : ∃ O, O = Lib.itoa f3 := ⟨_, rfl⟩
          rw [← hSf3] at lf3 Df3 HW
          clear hf1 hf2 hf3 hSf1 hSf2 hSf3
          go_wp2_with (first
            | ((with_reducible refine gate_dst (N := 12) rfl ?_); go_must (refine ev_ldr _ _ rfl rfl (M.out.argT R.out) Tryz.underlying60 rfl (by first | exact sz60 | (rw [S1.out]; exact sz60)) rfl ?_))
            | ((with_reducible refine gate_dst (N := 5) rfl ?_); go_must (refine M.out.ev_new rfl (by first | (go_simp; done) | (go_simp; rfl)) ?_); intro g5 w5 m; simp only [List.cons_append, List.nil_append] at m; have M := Lib.hid m; clear m; try have q1_0 := M.out.cell (j := 0) 1 rfl (by first | assumption | rfl); try have q1_1 := M.out.cell (j := 1) 1 rfl (by first | assumption | rfl); try have q1_2 := M.out.cell (j := 2) 1 rfl (by first | assumption | rfl))
            | ((with_reducible refine gate_store (x := .tmp 5) rfl ?_); go_must (refine M.out.ev_stw 1 _ _ _ rfl rfl rfl rfl _ rfl (by first | rfl | (simp only [S1.out]; rfl) | (simp only [S1.out, S2.out]; rfl) | (simp only [S3.out]; rfl) | (simp only [S1.out, S2.out, S3.out]; rfl)) (by first | exact sz60 | (rw [S1.out]; exact sz60) | (rw [S2.out]; exact sz60) | (rw [S3.out]; exact sz60)) (by first | exact ints_one _ _ | exact Fld.one _ | exact O1.out | exact Scarecrow.one _ | rfl | (simp [Value.oneCell']; done)) rfl ?_); intro wn m; simp only [List.set_cons_succ, List.set_cons_zero, List.setIfInBounds_toArray] at m; have M := Lib.hid m; clear m; try have q1_0 := M.out.cell (j := 0) 1 rfl (by first | assumption | rfl); try have q1_1 := M.out.cell (j := 1) 1 rfl (by first | assumption | rfl); try have q1_2 := M.out.cell (j := 2) 1 rfl (by first | assumption | rfl))
            | ((with_reducible refine gate_dst (N := 13) rfl ?_); go_must (refine M.out.ev_ldw 1 _ _ rfl rfl rfl Tryz.underlying60 rfl (by first | exact sz60 | (rw [S1.out]; exact sz60) | (rw [S2.out]; exact sz60) | (rw [S3.out]; exact sz60)) rfl ?_))
            | ((with_reducible refine gate_dst (N := 23) rfl ?_); go_must (refine M.out.ev_ld 1 _ _ rfl rfl rfl Tryz.underlying26 rfl rfl (by first | assumption | rfl) ?_))
            | ((with_reducible refine gate_dst (N := 25) rfl ?_); go_must (refine ev_cat _ _ _ _ rfl rfl _ _ rfl rfl rfl (by simp only [List.length_append, List.length_cons, List.length_nil]; omega) ?_))
            | ((with_reducible refine gate_dst (N := 27) rfl ?_); go_must (refine M.out.ev_ld 1 _ _ rfl rfl rfl Tryz.underlying26 rfl rfl (by first | assumption | rfl) ?_))
            | ((with_reducible refine gate_dst (N := 29) rfl ?_); go_must (refine ev_cat _ _ _ _ rfl rfl _ _ rfl rfl rfl (by simp only [List.length_append, List.length_cons, List.length_nil]; omega) ?_))
            | ((with_reducible refine gate_dst (N := 30) rfl ?_); go_must (refine ev_cat _ _ _ _ rfl rfl _ _ rfl rfl rfl (by simp only [List.length_append, List.length_cons, List.length_nil]; omega) ?_))
            | ((with_reducible refine gate_dst (N := 32) rfl ?_); go_must (refine M.out.ev_ld 1 _ _ rfl rfl rfl Tryz.underlying24 rfl rfl (by first | assumption | rfl) ?_))
            | ((with_reducible refine gate_dst (N := 34) rfl ?_); go_must (refine ev_cat _ _ _ _ rfl rfl _ _ rfl rfl rfl (by simp only [List.length_append, List.length_cons, List.length_nil]; omega) ?_))
            | (go_at_call 41; go_must (refine (isPlainS_any _ HO.out _).mono ?_); rintro e w_ ⟨rfl, N_⟩; have m := M.out.join N_; clear N_; simp only [List.cons_append, List.nil_append, List.append_nil] at m; have M := Lib.hid m; clear m; rw [HFN.out])
            )
          have m := M.out
          rw [HV.out] at m
          have M := Lib.hid m
          clear m
          refine region_anyH (fun w' => Blk w' g5 60 #[.int .i16 f1, .int .i16 f2, .int .i8 f3]) (by kernel_rfl) ?_
          have m := M.out.drew
          clear M
          have M := Lib.hid m
          clear m
          apply takeH (i := 0) 21 rfl (by kernel_rfl) (by kernel_rfl) (by kernel_rfl) (fun _ _ _ h => h) rfl (M.out.blk 1 rfl)
          case' hy =>
            refine Or.inl ⟨by first | rfl | (go_simp; done), ?_⟩
            intro w hS
            clear hS
            go_simp
            try with_reducible rfl
          try simp only [Act.put, List.getElem_toArray, List.getElem_cons_succ, List.getElem_cons_zero, List.setIfInBounds_toArray, List.set_cons_succ, List.set_cons_zero]
          apply takeH (i := 1) 22 rfl (by kernel_rfl) (by kernel_rfl) (by kernel_rfl) (fun _ _ _ h => h) rfl (M.out.blk 1 rfl)
          case' hy =>
            refine Or.inl ⟨by first | rfl | (go_simp; done), ?_⟩
            intro w hS
            clear hS
            go_simp
            try with_reducible rfl
          try simp only [Act.put, List.getElem_toArray, List.getElem_cons_succ, List.getElem_cons_zero, List.setIfInBounds_toArray, List.set_cons_succ, List.set_cons_zero]
          apply takeH (i := 2) 23 rfl (by kernel_rfl) (by kernel_rfl) (by kernel_rfl) (fun _ _ _ h => h) rfl (M.out.blk 1 rfl)
          case' hy => exact ylds _ _ rfl rfl Tryz.underlying26 rfl rfl (fun w' hS => hS.cellv rfl)
          try simp only [Act.put, List.getElem_toArray, List.getElem_cons_succ, List.getElem_cons_zero, List.setIfInBounds_toArray, List.set_cons_succ, List.set_cons_zero]
          apply takeH (i := 5) 26 rfl (by kernel_rfl) (by kernel_rfl) (by kernel_rfl) (fun _ _ _ h => h) rfl (M.out.blk 1 rfl)
          case' hy =>
            refine Or.inl ⟨by first | rfl | (go_simp; done), ?_⟩
            intro w hS
            clear hS
            go_simp
            try with_reducible rfl
          try simp only [Act.put, List.getElem_toArray, List.getElem_cons_succ, List.getElem_cons_zero, List.setIfInBounds_toArray, List.set_cons_succ, List.set_cons_zero]
          apply takeH (i := 6) 27 rfl (by kernel_rfl) (by kernel_rfl) (by kernel_rfl) (fun _ _ _ h => h) rfl (M.out.blk 1 rfl)
          case' hy => exact ylds _ _ rfl rfl Tryz.underlying26 rfl rfl (fun w' hS => hS.cellv rfl)
          try simp only [Act.put, List.getElem_toArray, List.getElem_cons_succ, List.getElem_cons_zero, List.setIfInBounds_toArray, List.set_cons_succ, List.set_cons_zero]
          apply takeH (i := 10) 31 rfl (by kernel_rfl) (by kernel_rfl) (by kernel_rfl) (fun _ _ _ h => h) rfl (M.out.blk 1 rfl)
          case' hy =>
            refine Or.inl ⟨by first | rfl | (go_simp; done), ?_⟩
            intro w hS
            clear hS
            go_simp
            try with_reducible rfl
          try simp only [Act.put, List.getElem_toArray, List.getElem_cons_succ, List.getElem_cons_zero, List.setIfInBounds_toArray, List.set_cons_succ, List.set_cons_zero]
          apply takeH (i := 11) 32 rfl (by kernel_rfl) (by kernel_rfl) (by kernel_rfl) (fun _ _ _ h => h) rfl (M.out.blk 1 rfl)
          case' hy => exact ylds _ _ rfl rfl Tryz.underlying24 rfl rfl (fun w' hS => hS.cellv rfl)
          try simp only [Act.put, List.getElem_toArray, List.getElem_cons_succ, List.getElem_cons_zero, List.setIfInBounds_toArray, List.set_cons_succ, List.set_cons_zero]
          refine any1H 3 (by kernel_rfl) rfl (fun K hK => ?_)
          go_wp2_with (first | ((with_reducible refine gate_dst (N := 23) rfl ?_); go_must (refine M.out.ev_ld 1 _ _ rfl rfl rfl Tryz.underlying26 rfl rfl (by first | assumption | rfl) ?_)) | ((with_reducible refine gate_dst (N := 25) rfl ?_); go_must (refine ev_cat _ _ _ _ rfl rfl _ _ rfl rfl rfl (by simp only [List.length_append, List.length_cons, List.length_nil]; omega) ?_)) | ((with_reducible refine gate_dst (N := 27) rfl ?_); go_must (refine M.out.ev_ld 1 _ _ rfl rfl rfl Tryz.underlying26 rfl rfl (by first | assumption | rfl) ?_)) | ((with_reducible refine gate_dst (N := 29) rfl ?_); go_must (refine ev_cat _ _ _ _ rfl rfl _ _ rfl rfl rfl (by simp only [List.length_append, List.length_cons, List.length_nil]; omega) ?_)) | ((with_reducible refine gate_dst (N := 30) rfl ?_); go_must (refine ev_cat _ _ _ _ rfl rfl _ _ rfl rfl rfl (by simp only [List.length_append, List.length_cons, List.length_nil]; omega) ?_)) | ((with_reducible refine gate_dst (N := 32) rfl ?_); go_must (refine M.out.ev_ld 1 _ _ rfl rfl rfl Tryz.underlying24 rfl rfl (by first | assumption | rfl) ?_)) | ((with_reducible refine gate_dst (N := 34) rfl ?_); go_must (refine ev_cat _ _ _ _ rfl rfl _ _ rfl rfl rfl (by simp only [List.length_append, List.length_cons, List.length_nil]; omega) ?_)) | (go_at_call 42; go_must (first | (refine Calls.mono (calls_args (by with_reducible rfl) (Df1.out _ (M.out.tab HT.out))) ?_) | (refine Calls.mono (calls_args (by with_reducible rfl) (Df2.out _ (M.out.tab HT.out))) ?_)); rintro e w_ ⟨rfl, N_⟩; have m := M.out.join N_; clear N_; simp only [List.cons_append, List.nil_append, List.append_nil] at m; have M := Lib.hid m; clear m) | (go_at_call 43; go_must (first | (refine Calls.mono (calls_args (by with_reducible rfl) (Df3.out _ (M.out.tab HT.out))) ?_)); rintro e w_ ⟨rfl, N_⟩; have m := M.out.join N_; clear N_; simp only [List.cons_append, List.nil_append, List.append_nil] at m; have M := Lib.hid m; clear m) | ((with_reducible refine gate_dst (N := 35) rfl ?_); go_must (refine M.out.ev_bs1 elem_string rfl _ rfl #[.string _] rfl rfl (by decide) ?_); intro g35 w35 m; simp only [List.cons_append, List.nil_append] at m; have M := Lib.hid m; clear m) | ((with_reducible refine gate_dst (N := 36) rfl ?_); go_must (refine M.out.ev_append1 0 2 elem_string rfl _ _ rfl rfl rfl rfl rfl rfl (by simp [Value.oneCell']) (by omega) (by decide) ?_); intro v36 w36 m; simp only [List.set_cons_succ, List.set_cons_zero] at m; have M := Lib.hid m; clear m))
          refine onward_normal (hK _ _ ⟨(M.out.blk 1 rfl), ?_⟩)
          clear hK K
          try simp only [Act.put, List.getElem_toArray, List.getElem_cons_succ, List.getElem_cons_zero, List.setIfInBounds_toArray, List.set_cons_succ, List.set_cons_zero]
          apply takeH (i := 4) 25 rfl (by kernel_rfl) (by kernel_rfl) (by kernel_rfl) (fun _ _ _ h => h) rfl (M.out.blk 1 rfl)
          case' hy => exact yld_cat _ _ _ _ rfl rfl _ _ rfl rfl rfl (by simp only [List.length_append, List.length_cons, List.length_nil]; omega)
          try simp only [Act.put, List.getElem_toArray, List.getElem_cons_succ, List.getElem_cons_zero, List.setIfInBounds_toArray, List.set_cons_succ, List.set_cons_zero]
          refine any1H 7 (by kernel_rfl) rfl (fun K hK => ?_)
          go_wp2_with (first | ((with_reducible refine gate_dst (N := 23) rfl ?_); go_must (refine M.out.ev_ld 1 _ _ rfl rfl rfl Tryz.underlying26 rfl rfl (by first | assumption | rfl) ?_)) | ((with_reducible refine gate_dst (N := 25) rfl ?_); go_must (refine ev_cat _ _ _ _ rfl rfl _ _ rfl rfl rfl (by simp only [List.length_append, List.length_cons, List.length_nil]; omega) ?_)) | ((with_reducible refine gate_dst (N := 27) rfl ?_); go_must (refine M.out.ev_ld 1 _ _ rfl rfl rfl Tryz.underlying26 rfl rfl (by first | assumption | rfl) ?_)) | ((with_reducible refine gate_dst (N := 29) rfl ?_); go_must (refine ev_cat _ _ _ _ rfl rfl _ _ rfl rfl rfl (by simp only [List.length_append, List.length_cons, List.length_nil]; omega) ?_)) | ((with_reducible refine gate_dst (N := 30) rfl ?_); go_must (refine ev_cat _ _ _ _ rfl rfl _ _ rfl rfl rfl (by simp only [List.length_append, List.length_cons, List.length_nil]; omega) ?_)) | ((with_reducible refine gate_dst (N := 32) rfl ?_); go_must (refine M.out.ev_ld 1 _ _ rfl rfl rfl Tryz.underlying24 rfl rfl (by first | assumption | rfl) ?_)) | ((with_reducible refine gate_dst (N := 34) rfl ?_); go_must (refine ev_cat _ _ _ _ rfl rfl _ _ rfl rfl rfl (by simp only [List.length_append, List.length_cons, List.length_nil]; omega) ?_)) | (go_at_call 42; go_must (first | (refine Calls.mono (calls_args (by with_reducible rfl) (Df1.out _ (M.out.tab HT.out))) ?_) | (refine Calls.mono (calls_args (by with_reducible rfl) (Df2.out _ (M.out.tab HT.out))) ?_)); rintro e w_ ⟨rfl, N_⟩; have m := M.out.join N_; clear N_; simp only [List.cons_append, List.nil_append, List.append_nil] at m; have M := Lib.hid m; clear m) | (go_at_call 43; go_must (first | (refine Calls.mono (calls_args (by with_reducible rfl) (Df3.out _ (M.out.tab HT.out))) ?_)); rintro e w_ ⟨rfl, N_⟩; have m := M.out.join N_; clear N_; simp only [List.cons_append, List.nil_append, List.append_nil] at m; have M := Lib.hid m; clear m) | ((with_reducible refine gate_dst (N := 35) rfl ?_); go_must (refine M.out.ev_bs1 elem_string rfl _ rfl #[.string _] rfl rfl (by decide) ?_); intro g35 w35 m; simp only [List.cons_append, List.nil_append] at m; have M := Lib.hid m; clear m) | ((with_reducible refine gate_dst (N := 36) rfl ?_); go_must (refine M.out.ev_append1 0 2 elem_string rfl _ _ rfl rfl rfl rfl rfl rfl (by simp [Value.oneCell']) (by omega) (by decide) ?_); intro v36 w36 m; simp only [List.set_cons_succ, List.set_cons_zero] at m; have M := Lib.hid m; clear m))
          refine onward_normal (hK _ _ ⟨(M.out.blk 1 rfl), ?_⟩)
          clear hK K
          try simp only [Act.put, List.getElem_toArray, List.getElem_cons_succ, List.getElem_cons_zero, List.setIfInBounds_toArray, List.set_cons_succ, List.set_cons_zero]
          apply takeH (i := 8) 29 rfl (by kernel_rfl) (by kernel_rfl) (by kernel_rfl) (fun _ _ _ h => h) rfl (M.out.blk 1 rfl)
          case' hy => exact yld_cat _ _ _ _ rfl rfl _ _ rfl rfl rfl (by simp only [List.length_append, List.length_cons, List.length_nil]; omega)
          try simp only [Act.put, List.getElem_toArray, List.getElem_cons_succ, List.getElem_cons_zero, List.setIfInBounds_toArray, List.set_cons_succ, List.set_cons_zero]
          apply takeH (i := 9) 30 rfl (by kernel_rfl) (by kernel_rfl) (by kernel_rfl) (fun _ _ _ h => h) rfl (M.out.blk 1 rfl)
          case' hy => exact yld_cat _ _ _ _ rfl rfl _ _ rfl rfl rfl (by simp only [List.length_append, List.length_cons, List.length_nil]; omega)
          try simp only [Act.put, List.getElem_toArray, List.getElem_cons_succ, List.getElem_cons_zero, List.setIfInBounds_toArray, List.set_cons_succ, List.set_cons_zero]
          refine any1H 12 (by kernel_rfl) rfl (fun K hK => ?_)
          go_wp2_with (first | ((with_reducible refine gate_dst (N := 23) rfl ?_); go_must (refine M.out.ev_ld 1 _ _ rfl rfl rfl Tryz.underlying26 rfl rfl (by first | assumption | rfl) ?_)) | ((with_reducible refine gate_dst (N := 25) rfl ?_); go_must (refine ev_cat _ _ _ _ rfl rfl _ _ rfl rfl rfl (by simp only [List.length_append, List.length_cons, List.length_nil]; omega) ?_)) | ((with_reducible refine gate_dst (N := 27) rfl ?_); go_must (refine M.out.ev_ld 1 _ _ rfl rfl rfl Tryz.underlying26 rfl rfl (by first | assumption | rfl) ?_)) | ((with_reducible refine gate_dst (N := 29) rfl ?_); go_must (refine ev_cat _ _ _ _ rfl rfl _ _ rfl rfl rfl (by simp only [List.length_append, List.length_cons, List.length_nil]; omega) ?_)) | ((with_reducible refine gate_dst (N := 30) rfl ?_); go_must (refine ev_cat _ _ _ _ rfl rfl _ _ rfl rfl rfl (by simp only [List.length_append, List.length_cons, List.length_nil]; omega) ?_)) | ((with_reducible refine gate_dst (N := 32) rfl ?_); go_must (refine M.out.ev_ld 1 _ _ rfl rfl rfl Tryz.underlying24 rfl rfl (by first | assumption | rfl) ?_)) | ((with_reducible refine gate_dst (N := 34) rfl ?_); go_must (refine ev_cat _ _ _ _ rfl rfl _ _ rfl rfl rfl (by simp only [List.length_append, List.length_cons, List.length_nil]; omega) ?_)) | (go_at_call 42; go_must (first | (refine Calls.mono (calls_args (by with_reducible rfl) (Df1.out _ (M.out.tab HT.out))) ?_) | (refine Calls.mono (calls_args (by with_reducible rfl) (Df2.out _ (M.out.tab HT.out))) ?_)); rintro e w_ ⟨rfl, N_⟩; have m := M.out.join N_; clear N_; simp only [List.cons_append, List.nil_append, List.append_nil] at m; have M := Lib.hid m; clear m) | (go_at_call 43; go_must (first | (refine Calls.mono (calls_args (by with_reducible rfl) (Df3.out _ (M.out.tab HT.out))) ?_)); rintro e w_ ⟨rfl, N_⟩; have m := M.out.join N_; clear N_; simp only [List.cons_append, List.nil_append, List.append_nil] at m; have M := Lib.hid m; clear m) | ((with_reducible refine gate_dst (N := 35) rfl ?_); go_must (refine M.out.ev_bs1 elem_string rfl _ rfl #[.string _] rfl rfl (by decide) ?_); intro g35 w35 m; simp only [List.cons_append, List.nil_append] at m; have M := Lib.hid m; clear m) | ((with_reducible refine gate_dst (N := 36) rfl ?_); go_must (refine M.out.ev_append1 0 2 elem_string rfl _ _ rfl rfl rfl rfl rfl rfl (by simp [Value.oneCell']) (by omega) (by decide) ?_); intro v36 w36 m; simp only [List.set_cons_succ, List.set_cons_zero] at m; have M := Lib.hid m; clear m))
          refine onward_normal (hK _ _ ⟨(M.out.blk 1 rfl), ?_⟩)
          clear hK K
          try simp only [Act.put, List.getElem_toArray, List.getElem_cons_succ, List.getElem_cons_zero, List.setIfInBounds_toArray, List.set_cons_succ, List.set_cons_zero]
          apply takeH (i := 13) 34 rfl (by kernel_rfl) (by kernel_rfl) (by kernel_rfl) (fun _ _ _ h => h) rfl (M.out.blk 1 rfl)
          case' hy => exact yld_cat _ _ _ _ rfl rfl _ _ rfl rfl rfl (by simp only [List.length_append, List.length_cons, List.length_nil]; omega)
          try simp only [Act.put, List.getElem_toArray, List.getElem_cons_succ, List.getElem_cons_zero, List.setIfInBounds_toArray, List.set_cons_succ, List.set_cons_zero]
          refine any1H 14 (by kernel_rfl) rfl (fun K hK => ?_)
          go_wp2_with (first | ((with_reducible refine gate_dst (N := 23) rfl ?_); go_must (refine M.out.ev_ld 1 _ _ rfl rfl rfl Tryz.underlying26 rfl rfl (by first | assumption | rfl) ?_)) | ((with_reducible refine gate_dst (N := 25) rfl ?_); go_must (refine ev_cat _ _ _ _ rfl rfl _ _ rfl rfl rfl (by simp only [List.length_append, List.length_cons, List.length_nil]; omega) ?_)) | ((with_reducible refine gate_dst (N := 27) rfl ?_); go_must (refine M.out.ev_ld 1 _ _ rfl rfl rfl Tryz.underlying26 rfl rfl (by first | assumption | rfl) ?_)) | ((with_reducible refine gate_dst (N := 29) rfl ?_); go_must (refine ev_cat _ _ _ _ rfl rfl _ _ rfl rfl rfl (by simp only [List.length_append, List.length_cons, List.length_nil]; omega) ?_)) | ((with_reducible refine gate_dst (N := 30) rfl ?_); go_must (refine ev_cat _ _ _ _ rfl rfl _ _ rfl rfl rfl (by simp only [List.length_append, List.length_cons, List.length_nil]; omega) ?_)) | ((with_reducible refine gate_dst (N := 32) rfl ?_); go_must (refine M.out.ev_ld 1 _ _ rfl rfl rfl Tryz.underlying24 rfl rfl (by first | assumption | rfl) ?_)) | ((with_reducible refine gate_dst (N := 34) rfl ?_); go_must (refine ev_cat _ _ _ _ rfl rfl _ _ rfl rfl rfl (by simp only [List.length_append, List.length_cons, List.length_nil]; omega) ?_)) | (go_at_call 42; go_must (first | (refine Calls.mono (calls_args (by with_reducible rfl) (Df1.out _ (M.out.tab HT.out))) ?_) | (refine Calls.mono (calls_args (by with_reducible rfl) (Df2.out _ (M.out.tab HT.out))) ?_)); rintro e w_ ⟨rfl, N_⟩; have m := M.out.join N_; clear N_; simp only [List.cons_append, List.nil_append, List.append_nil] at m; have M := Lib.hid m; clear m) | (go_at_call 43; go_must (first | (refine Calls.mono (calls_args (by with_reducible rfl) (Df3.out _ (M.out.tab HT.out))) ?_)); rintro e w_ ⟨rfl, N_⟩; have m := M.out.join N_; clear N_; simp only [List.cons_append, List.nil_append, List.append_nil] at m; have M := Lib.hid m; clear m) | ((with_reducible refine gate_dst (N := 35) rfl ?_); go_must (refine M.out.ev_bs1 elem_string rfl _ rfl #[.string _] rfl rfl (by decide) ?_); intro g35 w35 m; simp only [List.cons_append, List.nil_append] at m; have M := Lib.hid m; clear m) | ((with_reducible refine gate_dst (N := 36) rfl ?_); go_must (refine M.out.ev_append1 0 2 elem_string rfl _ _ rfl rfl rfl rfl rfl rfl (by simp [Value.oneCell']) (by omega) (by decide) ?_); intro v36 w36 m; simp only [List.set_cons_succ, List.set_cons_zero] at m; have M := Lib.hid m; clear m))
          refine onward_normal (hK _ _ ⟨(M.out.blk 1 rfl), ?_⟩)
          clear hK K
          try simp only [Act.put, List.getElem_toArray, List.getElem_cons_succ, List.getElem_cons_zero, List.setIfInBounds_toArray, List.set_cons_succ, List.set_cons_zero]
          refine any1H 15 (by kernel_rfl) rfl (fun K hK => ?_)
          go_wp2_with (first | ((with_reducible refine gate_dst (N := 23) rfl ?_); go_must (refine M.out.ev_ld 1 _ _ rfl rfl rfl Tryz.underlying26 rfl rfl (by first | assumption | rfl) ?_)) | ((with_reducible refine gate_dst (N := 25) rfl ?_); go_must (refine ev_cat _ _ _ _ rfl rfl _ _ rfl rfl rfl (by simp only [List.length_append, List.length_cons, List.length_nil]; omega) ?_)) | ((with_reducible refine gate_dst (N := 27) rfl ?_); go_must (refine M.out.ev_ld 1 _ _ rfl rfl rfl Tryz.underlying26 rfl rfl (by first | assumption | rfl) ?_)) | ((with_reducible refine gate_dst (N := 29) rfl ?_); go_must (refine ev_cat _ _ _ _ rfl rfl _ _ rfl rfl rfl (by simp only [List.length_append, List.length_cons, List.length_nil]; omega) ?_)) | ((with_reducible refine gate_dst (N := 30) rfl ?_); go_must (refine ev_cat _ _ _ _ rfl rfl _ _ rfl rfl rfl (by simp only [List.length_append, List.length_cons, List.length_nil]; omega) ?_)) | ((with_reducible refine gate_dst (N := 32) rfl ?_); go_must (refine M.out.ev_ld 1 _ _ rfl rfl rfl Tryz.underlying24 rfl rfl (by first | assumption | rfl) ?_)) | ((with_reducible refine gate_dst (N := 34) rfl ?_); go_must (refine ev_cat _ _ _ _ rfl rfl _ _ rfl rfl rfl (by simp only [List.length_append, List.length_cons, List.length_nil]; omega) ?_)) | (go_at_call 42; go_must (first | (refine Calls.mono (calls_args (by with_reducible rfl) (Df1.out _ (M.out.tab HT.out))) ?_) | (refine Calls.mono (calls_args (by with_reducible rfl) (Df2.out _ (M.out.tab HT.out))) ?_)); rintro e w_ ⟨rfl, N_⟩; have m := M.out.join N_; clear N_; simp only [List.cons_append, List.nil_append, List.append_nil] at m; have M := Lib.hid m; clear m) | (go_at_call 43; go_must (first | (refine Calls.mono (calls_args (by with_reducible rfl) (Df3.out _ (M.out.tab HT.out))) ?_)); rintro e w_ ⟨rfl, N_⟩; have m := M.out.join N_; clear N_; simp only [List.cons_append, List.nil_append, List.append_nil] at m; have M := Lib.hid m; clear m) | ((with_reducible refine gate_dst (N := 35) rfl ?_); go_must (refine M.out.ev_bs1 elem_string rfl _ rfl #[.string _] rfl rfl (by decide) ?_); intro g35 w35 m; simp only [List.cons_append, List.nil_append] at m; have M := Lib.hid m; clear m) | ((with_reducible refine gate_dst (N := 36) rfl ?_); go_must (refine M.out.ev_append1 0 2 elem_string rfl _ _ rfl rfl rfl rfl rfl rfl (by simp [Value.oneCell']) (by omega) (by decide) ?_); intro v36 w36 m; simp only [List.set_cons_succ, List.set_cons_zero] at m; have M := Lib.hid m; clear m))
          refine onward_normal (hK _ _ ⟨(M.out.blk 1 rfl), ?_⟩)
          clear hK K
          try simp only [Act.put, List.getElem_toArray, List.getElem_cons_succ, List.getElem_cons_zero, List.setIfInBounds_toArray, List.set_cons_succ, List.set_cons_zero]
          apply takeH (i := 16) 3 rfl (by kernel_rfl) (by kernel_rfl) (by kernel_rfl) (fun _ _ _ h => h) rfl (M.out.blk 1 rfl)
          case' hy =>
            refine Or.inl ⟨by first | rfl | (go_simp; done), ?_⟩
            intro w hS
            clear hS
            go_simp
            try with_reducible rfl
          try simp only [Act.put, List.getElem_toArray, List.getElem_cons_succ, List.getElem_cons_zero, List.setIfInBounds_toArray, List.set_cons_succ, List.set_cons_zero]
          refine wpAnyH_done (by kernel_rfl) ?_ _
          all_goals
            go_wp2
            refine ⟨⟨k + 1, by omega, by go_num, allT_succ hlt HE.out HFN.out, fun _ => h9, ?_⟩, by simp [intOf]; omega⟩
            have m := M.out.take 1
            rw [HSU.out, flat_snoc, HW.out]
            simp only [List.append_assoc, List.cons_append, List.nil_append] at m ⊢
            exact m
        · have i9 : (20 : Int) < (xs.length : Int) := by omega
          have HD := Lib.hid (show scaresT xs = [] by
            unfold scaresT
            rw [if_neg h9]
            split <;> rfl)
          clear h100
          go_wp2_with (first
            | ((with_reducible refine gate_dst (N := 12) rfl ?_); go_must (refine ev_ldr _ _ rfl rfl (M.out.argT R.out) Tryz.underlying60 rfl (by first | exact sz60 | (rw [S1.out]; exact sz60)) rfl ?_))
            | ((with_reducible refine gate_dst (N := 5) rfl ?_); go_must (refine M.out.ev_new rfl (by first | (go_simp; done) | (go_simp; rfl)) ?_); intro g5 w5 m; simp only [List.cons_append, List.nil_append] at m; have M := Lib.hid m; clear m; try have q1_0 := M.out.cell (j := 0) 1 rfl (by first | assumption | rfl); try have q1_1 := M.out.cell (j := 1) 1 rfl (by first | assumption | rfl); try have q1_2 := M.out.cell (j := 2) 1 rfl (by first | assumption | rfl))
            | ((with_reducible refine gate_store (x := .tmp 5) rfl ?_); go_must (refine M.out.ev_stw 1 _ _ _ rfl rfl rfl rfl _ rfl (by first | rfl | (simp only [S1.out]; rfl) | (simp only [S1.out, S2.out]; rfl) | (simp only [S3.out]; rfl) | (simp only [S1.out, S2.out, S3.out]; rfl)) (by first | exact sz60 | (rw [S1.out]; exact sz60) | (rw [S2.out]; exact sz60) | (rw [S3.out]; exact sz60)) (by first | exact ints_one _ _ | exact Fld.one _ | exact O1.out | exact Scarecrow.one _ | rfl | (simp [Value.oneCell']; done)) rfl ?_); intro wn m; simp only [List.set_cons_succ, List.set_cons_zero, List.setIfInBounds_toArray] at m; have M := Lib.hid m; clear m; try have q1_0 := M.out.cell (j := 0) 1 rfl (by first | assumption | rfl); try have q1_1 := M.out.cell (j := 1) 1 rfl (by first | assumption | rfl); try have q1_2 := M.out.cell (j := 2) 1 rfl (by first | assumption | rfl))
            | ((with_reducible refine gate_dst (N := 13) rfl ?_); go_must (refine M.out.ev_ldw 1 _ _ rfl rfl rfl Tryz.underlying60 rfl (by first | exact sz60 | (rw [S1.out]; exact sz60) | (rw [S2.out]; exact sz60) | (rw [S3.out]; exact sz60)) rfl ?_))
            | ((with_reducible refine gate_dst (N := 23) rfl ?_); go_must (refine M.out.ev_ld 1 _ _ rfl rfl rfl Tryz.underlying26 rfl rfl (by first | assumption | rfl) ?_))
            | ((with_reducible refine gate_dst (N := 25) rfl ?_); go_must (refine ev_cat _ _ _ _ rfl rfl _ _ rfl rfl rfl (by simp only [List.length_append, List.length_cons, List.length_nil]; omega) ?_))
            | ((with_reducible refine gate_dst (N := 27) rfl ?_); go_must (refine M.out.ev_ld 1 _ _ rfl rfl rfl Tryz.underlying26 rfl rfl (by first | assumption | rfl) ?_))
            | ((with_reducible refine gate_dst (N := 29) rfl ?_); go_must (refine ev_cat _ _ _ _ rfl rfl _ _ rfl rfl rfl (by simp only [List.length_append, List.length_cons, List.length_nil]; omega) ?_))
            | ((with_reducible refine gate_dst (N := 30) rfl ?_); go_must (refine ev_cat _ _ _ _ rfl rfl _ _ rfl rfl rfl (by simp only [List.length_append, List.length_cons, List.length_nil]; omega) ?_))
            | ((with_reducible refine gate_dst (N := 32) rfl ?_); go_must (refine M.out.ev_ld 1 _ _ rfl rfl rfl Tryz.underlying24 rfl rfl (by first | assumption | rfl) ?_))
            | ((with_reducible refine gate_dst (N := 34) rfl ?_); go_must (refine ev_cat _ _ _ _ rfl rfl _ _ rfl rfl rfl (by simp only [List.length_append, List.length_cons, List.length_nil]; omega) ?_))
            | (go_at_call 41; go_must (refine (isPlainS_any _ HO.out _).mono ?_); rintro e w_ ⟨rfl, N_⟩; have m := M.out.join N_; clear N_; simp only [List.cons_append, List.nil_append, List.append_nil] at m; have M := Lib.hid m; clear m; rw [HFN.out])
            )
          go_ret
          exact ⟨by rw [HD.out]; rfl, M.out.take 0⟩
    · obtain rfl : k = xs.length := by omega
      have i1 : ¬ ((xs.length : Int) < (xs.length : Int)) := by omega
      have HA := Lib.hid (allT_of HE.out)
      have HD := Lib.hid (show scaresT xs = joinS 32 (xs.map Scarecrow.word) by
        rw [scaresT, if_pos HA.out]
        rcases Nat.eq_zero_or_pos xs.length with h | h
        · rw [if_pos (by omega)]
        · rw [if_pos (h100 h)])
      have HN : xs.length ≤ 20 := by
        rcases Nat.eq_zero_or_pos xs.length with h | h
        · omega
        · exact h100 h
      have m := M.out
      rw [show (xs.map Scarecrow.word).take xs.length = xs.map Scarecrow.word from List.take_of_length_le (by simp)] at m
      obtain ⟨B, cp, rfl, hc, _⟩ := m.row_slice 0 rfl
      have hsl : (strsOf (xs.map Scarecrow.word)).length = xs.length := by rw [strsOf_len, List.length_map]
      have JO := Lib.hid (fun w1 (M : Mem w w1 [.row (.slice B (strsOf (xs.map Scarecrow.word)).length cp) 9 1 (strsOf (xs.map Scarecrow.word)).length (flat oneS (strsOf (xs.map Scarecrow.word)))]) => Join_any M 0 rfl ⟨#[32]⟩ (by rw [hsl]; omega) (by
        rw [strsOf_join]
        have := scaresT_len HX.out (k := xs.length) (by omega)
        rw [show wordsT (xs.map Scarecrow.word) xs.length = joinS 32 (xs.map Scarecrow.word) by have := wordsT_all (xs.map Scarecrow.word); rwa [List.length_map] at this] at this
        omega))
      rw [hsl, strsOf_join] at JO
      have M := Lib.hid m
      clear m h100 HE hsl
      go_wp2_with (first
        | (go_at_call 44; go_must (refine (JO.out _ M.out).mono ?_); rintro e w_ ⟨rfl, N_⟩; have m := M.out.join N_; clear N_; simp only [List.cons_append, List.nil_append, List.append_nil] at m; have M := Lib.hid m; clear m)
        )
      go_ret
      exact ⟨by rw [HD.out]; rfl, M.out.take 0⟩
end Go.Proofs.YtoacnfofijikmaaGreatDoor
namespace Go.Proofs.YtoacnfofijikmaaGreatDoor
set_option linter.unusedSimpArgs false
set_option linter.unusedVariables false
open Go.RowKit

/-- A scarecrow's word. -/
theorem Scarecrow.word_nat (a b c : Nat) : (⟨a, b, c⟩ : Scarecrow).word = dec a ++ 58 :: (dec b ++ 47 :: dec c) := by simp [Scarecrow.word]
theorem Scarecrow.word_free (a b c : Nat) : (32 : UInt8) ∉ (⟨a, b, c⟩ : Scarecrow).word := by
  rw [Scarecrow.word_nat]
  simp only [List.mem_append, List.mem_cons, not_or]
  exact ⟨dec_free (by decide), by decide, dec_free (by decide), by decide, dec_free (by decide)⟩
end Go.Proofs.YtoacnfofijikmaaGreatDoor
