/- The text of NetsText: the walks of both. -/
import Derived.Test.YtifacledmmpnkaaDoorTextP
import Derived.Test.YtifacledmmpnkaaDoorDec
import Derived.Test.YtifacledmmpnkaaDoorNets
namespace Go.Proofs.YtifacledmmpnkaaDoor
set_option linter.unusedSimpArgs false
set_option linter.unusedVariables false
open Go.RowKit
attribute [local go_sem] cell?_mk frozen?_mk
--ONES exact Net.one _

def netsT (xs : List Net) : List UInt8 := if xs.all Net.plain = true then if xs.length ≤ 20 then joinS 32 (xs.map Net.word) else [] else []
theorem netsT_len {xs : List Net} (hx : ∀ x ∈ xs, x.ok) {k : Nat} (hk : k ≤ 1048576) : (wordsT (xs.map Net.word) k).length ≤ 1000000000 := wordsT_len (fun w hw => by
  obtain ⟨x, h1, rfl⟩ := List.mem_map.1 hw
  exact Net.word_len (hx x h1)) hk
set_option maxRecDepth 100000 in
set_option maxHeartbeats 8000000 in
theorem l04Text_any (A : Option Addr) (n : Nat) (xs : List Net) (hx : ∀ x ∈ xs, x.ok) (hp : ∀ x ∈ xs, x.plain = true) (hl : xs.length ≤ 20) (w : World) (hs : Sl w 4 A xs.length (flat Net.vals xs)) :
    Calls Tryd.prog 49 #[.slice A xs.length n] w fun e w' => e = .returned (.string ⟨(joinS 32 (xs.map Net.word)).toArray⟩) ∧ Mem w w' [] := by
  have M := Lib.hid (Mem.start w)
  have HX := Lib.hid hx
  have HP := Lib.hid hp
  have HS := Lib.hid hs
  clear hx hp hs
  go_enter Tryd.func49, Tryd.ntmps49
  go_wp2
  go_loopw [3, 4] (fun s v wr => ∃ k : Nat, k ≤ xs.length ∧ v = .int .i64 k ∧ s = .string ⟨(wordsT (xs.map Net.word) k).toArray⟩ ∧ Mem w wr [])
    (fun _ v _ => xs.length - (intOf v).toNat)
  case atStart => exact ⟨0, by omega, rfl, by rw [wordsT_0], M.out⟩
  case round =>
    clear M
    obtain ⟨k, hk, rfl, rfl, m⟩ := hrel
    have M := Lib.hid m
    clear m
    by_cases hlt : k < xs.length
    · obtain ⟨b, off, rfl, hr⟩ := (M.out.sl HS.out).2 (by omega)
      have R := Lib.hid (range_at Net.vl hr (List.getElem?_eq_getElem hlt))
      have HFN := Lib.hid (HP.out _ (List.getElem_mem hlt))
      have lo := netsT_len HX.out (k := k) (by omega)
      have i0 : (0 : Int) ≤ (k : Int) := by omega
      have i1 : (k : Int) < (xs.length : Int) := by omega
      have hpl := HFN.out
      rw [Net.plain] at hpl
      simp only [Bool.and_eq_true] at hpl
      obtain ⟨p0, p1, p2, p3⟩ := hpl
      have q0 := inB_iff.1 p0
      have q1 := inB_iff.1 p1
      have q2 := inB_iff.1 p2
      have q3 := inB_iff.1 p3
      have HW := Lib.hid (show xs[k].word = dec xs[k].x ++ [44] ++ dec xs[k].y ++ [58] ++ dec xs[k].wide ++ [120] ++ dec xs[k].high from rfl)
      have HV := Lib.hid (show xs[k].vals.toArray = #[.int .i8 xs[k].x, .int .i8 xs[k].y, .int .i8 xs[k].wide, .int .i8 xs[k].high] from rfl)
      obtain ⟨f1, hf1⟩ := Int.eq_ofNat_of_zero_le (show 0 ≤ xs[k].x by omega)
      rw [hf1] at q0 HW HV
      rw [dec_nat] at HW
      obtain ⟨f2, hf2⟩ := Int.eq_ofNat_of_zero_le (show 0 ≤ xs[k].y by omega)
      rw [hf2] at q1 HW HV
      rw [dec_nat] at HW
      obtain ⟨f3, hf3⟩ := Int.eq_ofNat_of_zero_le (show 0 ≤ xs[k].wide by omega)
      rw [hf3] at q2 HW HV
      rw [dec_nat] at HW
      obtain ⟨f4, hf4⟩ := Int.eq_ofNat_of_zero_le (show 0 ≤ xs[k].high by omega)
      rw [hf4] at q3 HW HV
      rw [dec_nat] at HW
      have Df1 := Lib.hid (Decimal_any f1 (by omega))
      have lf1 := dec_len (n := f1) (by omega)
      have ef1 : IntKind.i64.wrap (f1 : Int) = (f1 : Int) := IntWalk.i64_in _ (by omega)
      have Df2 := Lib.hid (Decimal_any f2 (by omega))
      have lf2 := dec_len (n := f2) (by omega)
      have ef2 : IntKind.i64.wrap (f2 : Int) = (f2 : Int) := IntWalk.i64_in _ (by omega)
      have Df3 := Lib.hid (Decimal_any f3 (by omega))
      have lf3 := dec_len (n := f3) (by omega)
      have ef3 : IntKind.i64.wrap (f3 : Int) = (f3 : Int) := IntWalk.i64_in _ (by omega)
      have Df4 := Lib.hid (Decimal_any f4 (by omega))
      have lf4 := dec_len (n := f4) (by omega)
      have ef4 : IntKind.i64.wrap (f4 : Int) = (f4 : Int) := IntWalk.i64_in _ (by omega)
      obtain ⟨Sf1, hSf1⟩ : ∃ O, O = Lib.decDigits f1 := ⟨_, rfl⟩
      rw [← hSf1] at lf1 Df1 HW
      obtain ⟨Sf2, hSf2⟩ : ∃ O, O = Lib.decDigits f2 := ⟨_, rfl⟩
      rw [← hSf2] at lf2 Df2 HW
      obtain ⟨Sf3, hSf3⟩ : ∃ O, O = Lib.decDigits f3 := ⟨_, rfl⟩
      rw [← hSf3] at lf3 Df3 HW
      obtain ⟨Sf4, hSf4⟩ : ∃ O, O = Lib.decDigits f4 := ⟨_, rfl⟩
      rw [← hSf4] at lf4 Df4 HW
      clear hf1 hf2 hf3 hf4 hSf1 hSf2 hSf3 hSf4
      clear hr
      by_cases k0 : k = 0
      · have i2 : ¬ ((0 : Int) < (k : Int)) := by omega
        have HO := Lib.hid (wordsT_next0 Net.word hlt k0)
        have K0 := Lib.hid k0
        clear k0
        obtain ⟨O, hO⟩ : ∃ O, O = wordsT (xs.map Net.word) k := ⟨_, rfl⟩
        rw [← hO] at HO lo ⊢
        clear hO
        go_wp2_with (first
          | ((with_reducible refine gate_dst (N := 19) rfl ?_); go_must (refine ev_ldr _ _ rfl rfl (R.out) Tryd.underlying85 rfl (by first | exact sz85 | (rw [S1.out]; exact sz85)) rfl ?_))
          | ((with_reducible refine gate_dst (N := 15) rfl ?_); go_must (refine ev_cat _ _ _ _ rfl rfl _ _ rfl rfl rfl (by simp only [List.length_append, List.length_cons, List.length_nil]; omega) ?_))
          | ((with_reducible refine gate_dst (N := 5) rfl ?_); go_must (refine M.out.ev_new rfl (by first | (go_simp; done) | (go_simp; rfl)) ?_); intro g5 w5 m; simp only [List.cons_append, List.nil_append] at m; have M := Lib.hid m; clear m; try have q0_0 := M.out.cell (j := 0) 0 rfl (by first | assumption | rfl); try have q0_1 := M.out.cell (j := 1) 0 rfl (by first | assumption | rfl); try have q0_2 := M.out.cell (j := 2) 0 rfl (by first | assumption | rfl); try have q0_3 := M.out.cell (j := 3) 0 rfl (by first | assumption | rfl))
          | ((with_reducible refine gate_store (x := .tmp 5) rfl ?_); go_must (refine M.out.ev_stw 0 _ _ _ rfl rfl rfl rfl _ rfl (by first | rfl | (simp only [S1.out]; rfl) | (simp only [S1.out, S2.out]; rfl) | (simp only [S3.out]; rfl) | (simp only [S1.out, S2.out, S3.out]; rfl)) (by first | exact sz85 | (rw [S1.out]; exact sz85) | (rw [S2.out]; exact sz85) | (rw [S3.out]; exact sz85)) (by first | exact ints_one _ _ | exact Fld.one _ | exact O1.out | exact Net.one _ | rfl | (simp [Value.oneCell']; done)) rfl ?_); intro wn m; simp only [List.set_cons_succ, List.set_cons_zero, List.setIfInBounds_toArray] at m; have M := Lib.hid m; clear m; try have q0_0 := M.out.cell (j := 0) 0 rfl (by first | assumption | rfl); try have q0_1 := M.out.cell (j := 1) 0 rfl (by first | assumption | rfl); try have q0_2 := M.out.cell (j := 2) 0 rfl (by first | assumption | rfl); try have q0_3 := M.out.cell (j := 3) 0 rfl (by first | assumption | rfl))
          | ((with_reducible refine gate_dst (N := 22) rfl ?_); go_must (refine M.out.ev_ld 0 _ _ rfl rfl rfl Tryd.underlying55 rfl rfl (by first | assumption | rfl) ?_))
          | ((with_reducible refine gate_dst (N := 25) rfl ?_); go_must (refine ev_cat _ _ _ _ rfl rfl _ _ rfl rfl rfl (by simp only [List.length_append, List.length_cons, List.length_nil]; omega) ?_))
          | ((with_reducible refine gate_dst (N := 27) rfl ?_); go_must (refine M.out.ev_ld 0 _ _ rfl rfl rfl Tryd.underlying55 rfl rfl (by first | assumption | rfl) ?_))
          | ((with_reducible refine gate_dst (N := 30) rfl ?_); go_must (refine ev_cat _ _ _ _ rfl rfl _ _ rfl rfl rfl (by simp only [List.length_append, List.length_cons, List.length_nil]; omega) ?_))
          | ((with_reducible refine gate_dst (N := 31) rfl ?_); go_must (refine ev_cat _ _ _ _ rfl rfl _ _ rfl rfl rfl (by simp only [List.length_append, List.length_cons, List.length_nil]; omega) ?_))
          | ((with_reducible refine gate_dst (N := 33) rfl ?_); go_must (refine M.out.ev_ld 0 _ _ rfl rfl rfl Tryd.underlying55 rfl rfl (by first | assumption | rfl) ?_))
          | ((with_reducible refine gate_dst (N := 36) rfl ?_); go_must (refine ev_cat _ _ _ _ rfl rfl _ _ rfl rfl rfl (by simp only [List.length_append, List.length_cons, List.length_nil]; omega) ?_))
          | ((with_reducible refine gate_dst (N := 37) rfl ?_); go_must (refine ev_cat _ _ _ _ rfl rfl _ _ rfl rfl rfl (by simp only [List.length_append, List.length_cons, List.length_nil]; omega) ?_))
          | ((with_reducible refine gate_dst (N := 39) rfl ?_); go_must (refine M.out.ev_ld 0 _ _ rfl rfl rfl Tryd.underlying55 rfl rfl (by first | assumption | rfl) ?_))
          | ((with_reducible refine gate_dst (N := 42) rfl ?_); go_must (refine ev_cat _ _ _ _ rfl rfl _ _ rfl rfl rfl (by simp only [List.length_append, List.length_cons, List.length_nil]; omega) ?_))
          | ((with_reducible refine gate_dst (N := 43) rfl ?_); go_must (refine ev_cat _ _ _ _ rfl rfl _ _ rfl rfl rfl (by simp only [List.length_append, List.length_cons, List.length_nil]; omega) ?_))
          )
        have m := M.out
        rw [HV.out] at m
        have M := Lib.hid m
        clear m
        refine region_anyH (fun w' => Blk w' g5 85 #[.int .i8 f1, .int .i8 f2, .int .i8 f3, .int .i8 f4]) (by kernel_rfl) ?_
        have m := M.out.drew
        clear M
        have M := Lib.hid m
        clear m
        apply takeH (i := 0) 20 rfl (by kernel_rfl) (by kernel_rfl) (by kernel_rfl) (fun _ _ _ h => h) rfl (M.out.blk 0 rfl)
        case' hy =>
          refine Or.inl ⟨by first | rfl | (go_simp; done), ?_⟩
          intro w hS
          clear hS
          go_simp
          try with_reducible rfl
        try simp only [Act.put, List.getElem_toArray, List.getElem_cons_succ, List.getElem_cons_zero, List.setIfInBounds_toArray, List.set_cons_succ, List.set_cons_zero]
        apply takeH (i := 1) 21 rfl (by kernel_rfl) (by kernel_rfl) (by kernel_rfl) (fun _ _ _ h => h) rfl (M.out.blk 0 rfl)
        case' hy =>
          refine Or.inl ⟨by first | rfl | (go_simp; done), ?_⟩
          intro w hS
          clear hS
          go_simp
          try with_reducible rfl
        try simp only [Act.put, List.getElem_toArray, List.getElem_cons_succ, List.getElem_cons_zero, List.setIfInBounds_toArray, List.set_cons_succ, List.set_cons_zero]
        apply takeH (i := 2) 22 rfl (by kernel_rfl) (by kernel_rfl) (by kernel_rfl) (fun _ _ _ h => h) rfl (M.out.blk 0 rfl)
        case' hy => exact ylds _ _ rfl rfl Tryd.underlying55 rfl rfl (fun w' hS => hS.cellv rfl)
        try simp only [Act.put, List.getElem_toArray, List.getElem_cons_succ, List.getElem_cons_zero, List.setIfInBounds_toArray, List.set_cons_succ, List.set_cons_zero]
        apply takeH (i := 3) 23 rfl (by kernel_rfl) (by kernel_rfl) (by kernel_rfl) (fun _ _ _ h => h) rfl (M.out.blk 0 rfl)
        case' hy =>
          refine Or.inl ⟨by first | rfl | (go_simp; done), ?_⟩
          intro w hS
          clear hS
          go_simp
          try with_reducible rfl
        try simp only [Act.put, List.getElem_toArray, List.getElem_cons_succ, List.getElem_cons_zero, List.setIfInBounds_toArray, List.set_cons_succ, List.set_cons_zero]
        apply takeH (i := 6) 26 rfl (by kernel_rfl) (by kernel_rfl) (by kernel_rfl) (fun _ _ _ h => h) rfl (M.out.blk 0 rfl)
        case' hy =>
          refine Or.inl ⟨by first | rfl | (go_simp; done), ?_⟩
          intro w hS
          clear hS
          go_simp
          try with_reducible rfl
        try simp only [Act.put, List.getElem_toArray, List.getElem_cons_succ, List.getElem_cons_zero, List.setIfInBounds_toArray, List.set_cons_succ, List.set_cons_zero]
        apply takeH (i := 7) 27 rfl (by kernel_rfl) (by kernel_rfl) (by kernel_rfl) (fun _ _ _ h => h) rfl (M.out.blk 0 rfl)
        case' hy => exact ylds _ _ rfl rfl Tryd.underlying55 rfl rfl (fun w' hS => hS.cellv rfl)
        try simp only [Act.put, List.getElem_toArray, List.getElem_cons_succ, List.getElem_cons_zero, List.setIfInBounds_toArray, List.set_cons_succ, List.set_cons_zero]
        apply takeH (i := 8) 28 rfl (by kernel_rfl) (by kernel_rfl) (by kernel_rfl) (fun _ _ _ h => h) rfl (M.out.blk 0 rfl)
        case' hy =>
          refine Or.inl ⟨by first | rfl | (go_simp; done), ?_⟩
          intro w hS
          clear hS
          go_simp
          try with_reducible rfl
        try simp only [Act.put, List.getElem_toArray, List.getElem_cons_succ, List.getElem_cons_zero, List.setIfInBounds_toArray, List.set_cons_succ, List.set_cons_zero]
        apply takeH (i := 12) 32 rfl (by kernel_rfl) (by kernel_rfl) (by kernel_rfl) (fun _ _ _ h => h) rfl (M.out.blk 0 rfl)
        case' hy =>
          refine Or.inl ⟨by first | rfl | (go_simp; done), ?_⟩
          intro w hS
          clear hS
          go_simp
          try with_reducible rfl
        try simp only [Act.put, List.getElem_toArray, List.getElem_cons_succ, List.getElem_cons_zero, List.setIfInBounds_toArray, List.set_cons_succ, List.set_cons_zero]
        apply takeH (i := 13) 33 rfl (by kernel_rfl) (by kernel_rfl) (by kernel_rfl) (fun _ _ _ h => h) rfl (M.out.blk 0 rfl)
        case' hy => exact ylds _ _ rfl rfl Tryd.underlying55 rfl rfl (fun w' hS => hS.cellv rfl)
        try simp only [Act.put, List.getElem_toArray, List.getElem_cons_succ, List.getElem_cons_zero, List.setIfInBounds_toArray, List.set_cons_succ, List.set_cons_zero]
        apply takeH (i := 14) 34 rfl (by kernel_rfl) (by kernel_rfl) (by kernel_rfl) (fun _ _ _ h => h) rfl (M.out.blk 0 rfl)
        case' hy =>
          refine Or.inl ⟨by first | rfl | (go_simp; done), ?_⟩
          intro w hS
          clear hS
          go_simp
          try with_reducible rfl
        try simp only [Act.put, List.getElem_toArray, List.getElem_cons_succ, List.getElem_cons_zero, List.setIfInBounds_toArray, List.set_cons_succ, List.set_cons_zero]
        apply takeH (i := 18) 38 rfl (by kernel_rfl) (by kernel_rfl) (by kernel_rfl) (fun _ _ _ h => h) rfl (M.out.blk 0 rfl)
        case' hy =>
          refine Or.inl ⟨by first | rfl | (go_simp; done), ?_⟩
          intro w hS
          clear hS
          go_simp
          try with_reducible rfl
        try simp only [Act.put, List.getElem_toArray, List.getElem_cons_succ, List.getElem_cons_zero, List.setIfInBounds_toArray, List.set_cons_succ, List.set_cons_zero]
        apply takeH (i := 19) 39 rfl (by kernel_rfl) (by kernel_rfl) (by kernel_rfl) (fun _ _ _ h => h) rfl (M.out.blk 0 rfl)
        case' hy => exact ylds _ _ rfl rfl Tryd.underlying55 rfl rfl (fun w' hS => hS.cellv rfl)
        try simp only [Act.put, List.getElem_toArray, List.getElem_cons_succ, List.getElem_cons_zero, List.setIfInBounds_toArray, List.set_cons_succ, List.set_cons_zero]
        apply takeH (i := 20) 40 rfl (by kernel_rfl) (by kernel_rfl) (by kernel_rfl) (fun _ _ _ h => h) rfl (M.out.blk 0 rfl)
        case' hy =>
          refine Or.inl ⟨by first | rfl | (go_simp; done), ?_⟩
          intro w hS
          clear hS
          go_simp
          try with_reducible rfl
        try simp only [Act.put, List.getElem_toArray, List.getElem_cons_succ, List.getElem_cons_zero, List.setIfInBounds_toArray, List.set_cons_succ, List.set_cons_zero]
        refine any1H 4 (by kernel_rfl) rfl (fun K hK => ?_)
        go_wp2_with (first | ((with_reducible refine gate_dst (N := 22) rfl ?_); go_must (refine M.out.ev_ld 0 _ _ rfl rfl rfl Tryd.underlying55 rfl rfl (by first | assumption | rfl) ?_)) | ((with_reducible refine gate_dst (N := 25) rfl ?_); go_must (refine ev_cat _ _ _ _ rfl rfl _ _ rfl rfl rfl (by simp only [List.length_append, List.length_cons, List.length_nil]; omega) ?_)) | ((with_reducible refine gate_dst (N := 27) rfl ?_); go_must (refine M.out.ev_ld 0 _ _ rfl rfl rfl Tryd.underlying55 rfl rfl (by first | assumption | rfl) ?_)) | ((with_reducible refine gate_dst (N := 30) rfl ?_); go_must (refine ev_cat _ _ _ _ rfl rfl _ _ rfl rfl rfl (by simp only [List.length_append, List.length_cons, List.length_nil]; omega) ?_)) | ((with_reducible refine gate_dst (N := 31) rfl ?_); go_must (refine ev_cat _ _ _ _ rfl rfl _ _ rfl rfl rfl (by simp only [List.length_append, List.length_cons, List.length_nil]; omega) ?_)) | ((with_reducible refine gate_dst (N := 33) rfl ?_); go_must (refine M.out.ev_ld 0 _ _ rfl rfl rfl Tryd.underlying55 rfl rfl (by first | assumption | rfl) ?_)) | ((with_reducible refine gate_dst (N := 36) rfl ?_); go_must (refine ev_cat _ _ _ _ rfl rfl _ _ rfl rfl rfl (by simp only [List.length_append, List.length_cons, List.length_nil]; omega) ?_)) | ((with_reducible refine gate_dst (N := 37) rfl ?_); go_must (refine ev_cat _ _ _ _ rfl rfl _ _ rfl rfl rfl (by simp only [List.length_append, List.length_cons, List.length_nil]; omega) ?_)) | ((with_reducible refine gate_dst (N := 39) rfl ?_); go_must (refine M.out.ev_ld 0 _ _ rfl rfl rfl Tryd.underlying55 rfl rfl (by first | assumption | rfl) ?_)) | ((with_reducible refine gate_dst (N := 42) rfl ?_); go_must (refine ev_cat _ _ _ _ rfl rfl _ _ rfl rfl rfl (by simp only [List.length_append, List.length_cons, List.length_nil]; omega) ?_)) | ((with_reducible refine gate_dst (N := 43) rfl ?_); go_must (refine ev_cat _ _ _ _ rfl rfl _ _ rfl rfl rfl (by simp only [List.length_append, List.length_cons, List.length_nil]; omega) ?_)) | (go_at_call 68; go_must (first | (refine Calls.mono (calls_args (by with_reducible rfl) (Df1.out _)) ?_) | (refine Calls.mono (calls_args (by with_reducible rfl) (Df2.out _)) ?_) | (refine Calls.mono (calls_args (by with_reducible rfl) (Df3.out _)) ?_) | (refine Calls.mono (calls_args (by with_reducible rfl) (Df4.out _)) ?_)); rintro e w_ ⟨rfl, N_⟩; have m := M.out.join N_; clear N_; simp only [List.cons_append, List.nil_append, List.append_nil] at m; have M := Lib.hid m; clear m))
        refine onward_normal (hK _ _ ⟨(M.out.blk 0 rfl), ?_⟩)
        clear hK K
        try simp only [Act.put, List.getElem_toArray, List.getElem_cons_succ, List.getElem_cons_zero, List.setIfInBounds_toArray, List.set_cons_succ, List.set_cons_zero]
        apply takeH (i := 5) 25 rfl (by kernel_rfl) (by kernel_rfl) (by kernel_rfl) (fun _ _ _ h => h) rfl (M.out.blk 0 rfl)
        case' hy => exact yld_cat _ _ _ _ rfl rfl _ _ rfl rfl rfl (by simp only [List.length_append, List.length_cons, List.length_nil]; omega)
        try simp only [Act.put, List.getElem_toArray, List.getElem_cons_succ, List.getElem_cons_zero, List.setIfInBounds_toArray, List.set_cons_succ, List.set_cons_zero]
        refine any1H 9 (by kernel_rfl) rfl (fun K hK => ?_)
        go_wp2_with (first | ((with_reducible refine gate_dst (N := 22) rfl ?_); go_must (refine M.out.ev_ld 0 _ _ rfl rfl rfl Tryd.underlying55 rfl rfl (by first | assumption | rfl) ?_)) | ((with_reducible refine gate_dst (N := 25) rfl ?_); go_must (refine ev_cat _ _ _ _ rfl rfl _ _ rfl rfl rfl (by simp only [List.length_append, List.length_cons, List.length_nil]; omega) ?_)) | ((with_reducible refine gate_dst (N := 27) rfl ?_); go_must (refine M.out.ev_ld 0 _ _ rfl rfl rfl Tryd.underlying55 rfl rfl (by first | assumption | rfl) ?_)) | ((with_reducible refine gate_dst (N := 30) rfl ?_); go_must (refine ev_cat _ _ _ _ rfl rfl _ _ rfl rfl rfl (by simp only [List.length_append, List.length_cons, List.length_nil]; omega) ?_)) | ((with_reducible refine gate_dst (N := 31) rfl ?_); go_must (refine ev_cat _ _ _ _ rfl rfl _ _ rfl rfl rfl (by simp only [List.length_append, List.length_cons, List.length_nil]; omega) ?_)) | ((with_reducible refine gate_dst (N := 33) rfl ?_); go_must (refine M.out.ev_ld 0 _ _ rfl rfl rfl Tryd.underlying55 rfl rfl (by first | assumption | rfl) ?_)) | ((with_reducible refine gate_dst (N := 36) rfl ?_); go_must (refine ev_cat _ _ _ _ rfl rfl _ _ rfl rfl rfl (by simp only [List.length_append, List.length_cons, List.length_nil]; omega) ?_)) | ((with_reducible refine gate_dst (N := 37) rfl ?_); go_must (refine ev_cat _ _ _ _ rfl rfl _ _ rfl rfl rfl (by simp only [List.length_append, List.length_cons, List.length_nil]; omega) ?_)) | ((with_reducible refine gate_dst (N := 39) rfl ?_); go_must (refine M.out.ev_ld 0 _ _ rfl rfl rfl Tryd.underlying55 rfl rfl (by first | assumption | rfl) ?_)) | ((with_reducible refine gate_dst (N := 42) rfl ?_); go_must (refine ev_cat _ _ _ _ rfl rfl _ _ rfl rfl rfl (by simp only [List.length_append, List.length_cons, List.length_nil]; omega) ?_)) | ((with_reducible refine gate_dst (N := 43) rfl ?_); go_must (refine ev_cat _ _ _ _ rfl rfl _ _ rfl rfl rfl (by simp only [List.length_append, List.length_cons, List.length_nil]; omega) ?_)) | (go_at_call 68; go_must (first | (refine Calls.mono (calls_args (by with_reducible rfl) (Df1.out _)) ?_) | (refine Calls.mono (calls_args (by with_reducible rfl) (Df2.out _)) ?_) | (refine Calls.mono (calls_args (by with_reducible rfl) (Df3.out _)) ?_) | (refine Calls.mono (calls_args (by with_reducible rfl) (Df4.out _)) ?_)); rintro e w_ ⟨rfl, N_⟩; have m := M.out.join N_; clear N_; simp only [List.cons_append, List.nil_append, List.append_nil] at m; have M := Lib.hid m; clear m))
        refine onward_normal (hK _ _ ⟨(M.out.blk 0 rfl), ?_⟩)
        clear hK K
        try simp only [Act.put, List.getElem_toArray, List.getElem_cons_succ, List.getElem_cons_zero, List.setIfInBounds_toArray, List.set_cons_succ, List.set_cons_zero]
        apply takeH (i := 10) 30 rfl (by kernel_rfl) (by kernel_rfl) (by kernel_rfl) (fun _ _ _ h => h) rfl (M.out.blk 0 rfl)
        case' hy => exact yld_cat _ _ _ _ rfl rfl _ _ rfl rfl rfl (by simp only [List.length_append, List.length_cons, List.length_nil]; omega)
        try simp only [Act.put, List.getElem_toArray, List.getElem_cons_succ, List.getElem_cons_zero, List.setIfInBounds_toArray, List.set_cons_succ, List.set_cons_zero]
        apply takeH (i := 11) 31 rfl (by kernel_rfl) (by kernel_rfl) (by kernel_rfl) (fun _ _ _ h => h) rfl (M.out.blk 0 rfl)
        case' hy => exact yld_cat _ _ _ _ rfl rfl _ _ rfl rfl rfl (by simp only [List.length_append, List.length_cons, List.length_nil]; omega)
        try simp only [Act.put, List.getElem_toArray, List.getElem_cons_succ, List.getElem_cons_zero, List.setIfInBounds_toArray, List.set_cons_succ, List.set_cons_zero]
        refine any1H 15 (by kernel_rfl) rfl (fun K hK => ?_)
        go_wp2_with (first | ((with_reducible refine gate_dst (N := 22) rfl ?_); go_must (refine M.out.ev_ld 0 _ _ rfl rfl rfl Tryd.underlying55 rfl rfl (by first | assumption | rfl) ?_)) | ((with_reducible refine gate_dst (N := 25) rfl ?_); go_must (refine ev_cat _ _ _ _ rfl rfl _ _ rfl rfl rfl (by simp only [List.length_append, List.length_cons, List.length_nil]; omega) ?_)) | ((with_reducible refine gate_dst (N := 27) rfl ?_); go_must (refine M.out.ev_ld 0 _ _ rfl rfl rfl Tryd.underlying55 rfl rfl (by first | assumption | rfl) ?_)) | ((with_reducible refine gate_dst (N := 30) rfl ?_); go_must (refine ev_cat _ _ _ _ rfl rfl _ _ rfl rfl rfl (by simp only [List.length_append, List.length_cons, List.length_nil]; omega) ?_)) | ((with_reducible refine gate_dst (N := 31) rfl ?_); go_must (refine ev_cat _ _ _ _ rfl rfl _ _ rfl rfl rfl (by simp only [List.length_append, List.length_cons, List.length_nil]; omega) ?_)) | ((with_reducible refine gate_dst (N := 33) rfl ?_); go_must (refine M.out.ev_ld 0 _ _ rfl rfl rfl Tryd.underlying55 rfl rfl (by first | assumption | rfl) ?_)) | ((with_reducible refine gate_dst (N := 36) rfl ?_); go_must (refine ev_cat _ _ _ _ rfl rfl _ _ rfl rfl rfl (by simp only [List.length_append, List.length_cons, List.length_nil]; omega) ?_)) | ((with_reducible refine gate_dst (N := 37) rfl ?_); go_must (refine ev_cat _ _ _ _ rfl rfl _ _ rfl rfl rfl (by simp only [List.length_append, List.length_cons, List.length_nil]; omega) ?_)) | ((with_reducible refine gate_dst (N := 39) rfl ?_); go_must (refine M.out.ev_ld 0 _ _ rfl rfl rfl Tryd.underlying55 rfl rfl (by first | assumption | rfl) ?_)) | ((with_reducible refine gate_dst (N := 42) rfl ?_); go_must (refine ev_cat _ _ _ _ rfl rfl _ _ rfl rfl rfl (by simp only [List.length_append, List.length_cons, List.length_nil]; omega) ?_)) | ((with_reducible refine gate_dst (N := 43) rfl ?_); go_must (refine ev_cat _ _ _ _ rfl rfl _ _ rfl rfl rfl (by simp only [List.length_append, List.length_cons, List.length_nil]; omega) ?_)) | (go_at_call 68; go_must (first | (refine Calls.mono (calls_args (by with_reducible rfl) (Df1.out _)) ?_) | (refine Calls.mono (calls_args (by with_reducible rfl) (Df2.out _)) ?_) | (refine Calls.mono (calls_args (by with_reducible rfl) (Df3.out _)) ?_) | (refine Calls.mono (calls_args (by with_reducible rfl) (Df4.out _)) ?_)); rintro e w_ ⟨rfl, N_⟩; have m := M.out.join N_; clear N_; simp only [List.cons_append, List.nil_append, List.append_nil] at m; have M := Lib.hid m; clear m))
        refine onward_normal (hK _ _ ⟨(M.out.blk 0 rfl), ?_⟩)
        clear hK K
        try simp only [Act.put, List.getElem_toArray, List.getElem_cons_succ, List.getElem_cons_zero, List.setIfInBounds_toArray, List.set_cons_succ, List.set_cons_zero]
        apply takeH (i := 16) 36 rfl (by kernel_rfl) (by kernel_rfl) (by kernel_rfl) (fun _ _ _ h => h) rfl (M.out.blk 0 rfl)
        case' hy => exact yld_cat _ _ _ _ rfl rfl _ _ rfl rfl rfl (by simp only [List.length_append, List.length_cons, List.length_nil]; omega)
        try simp only [Act.put, List.getElem_toArray, List.getElem_cons_succ, List.getElem_cons_zero, List.setIfInBounds_toArray, List.set_cons_succ, List.set_cons_zero]
        apply takeH (i := 17) 37 rfl (by kernel_rfl) (by kernel_rfl) (by kernel_rfl) (fun _ _ _ h => h) rfl (M.out.blk 0 rfl)
        case' hy => exact yld_cat _ _ _ _ rfl rfl _ _ rfl rfl rfl (by simp only [List.length_append, List.length_cons, List.length_nil]; omega)
        try simp only [Act.put, List.getElem_toArray, List.getElem_cons_succ, List.getElem_cons_zero, List.setIfInBounds_toArray, List.set_cons_succ, List.set_cons_zero]
        refine any1H 21 (by kernel_rfl) rfl (fun K hK => ?_)
        go_wp2_with (first | ((with_reducible refine gate_dst (N := 22) rfl ?_); go_must (refine M.out.ev_ld 0 _ _ rfl rfl rfl Tryd.underlying55 rfl rfl (by first | assumption | rfl) ?_)) | ((with_reducible refine gate_dst (N := 25) rfl ?_); go_must (refine ev_cat _ _ _ _ rfl rfl _ _ rfl rfl rfl (by simp only [List.length_append, List.length_cons, List.length_nil]; omega) ?_)) | ((with_reducible refine gate_dst (N := 27) rfl ?_); go_must (refine M.out.ev_ld 0 _ _ rfl rfl rfl Tryd.underlying55 rfl rfl (by first | assumption | rfl) ?_)) | ((with_reducible refine gate_dst (N := 30) rfl ?_); go_must (refine ev_cat _ _ _ _ rfl rfl _ _ rfl rfl rfl (by simp only [List.length_append, List.length_cons, List.length_nil]; omega) ?_)) | ((with_reducible refine gate_dst (N := 31) rfl ?_); go_must (refine ev_cat _ _ _ _ rfl rfl _ _ rfl rfl rfl (by simp only [List.length_append, List.length_cons, List.length_nil]; omega) ?_)) | ((with_reducible refine gate_dst (N := 33) rfl ?_); go_must (refine M.out.ev_ld 0 _ _ rfl rfl rfl Tryd.underlying55 rfl rfl (by first | assumption | rfl) ?_)) | ((with_reducible refine gate_dst (N := 36) rfl ?_); go_must (refine ev_cat _ _ _ _ rfl rfl _ _ rfl rfl rfl (by simp only [List.length_append, List.length_cons, List.length_nil]; omega) ?_)) | ((with_reducible refine gate_dst (N := 37) rfl ?_); go_must (refine ev_cat _ _ _ _ rfl rfl _ _ rfl rfl rfl (by simp only [List.length_append, List.length_cons, List.length_nil]; omega) ?_)) | ((with_reducible refine gate_dst (N := 39) rfl ?_); go_must (refine M.out.ev_ld 0 _ _ rfl rfl rfl Tryd.underlying55 rfl rfl (by first | assumption | rfl) ?_)) | ((with_reducible refine gate_dst (N := 42) rfl ?_); go_must (refine ev_cat _ _ _ _ rfl rfl _ _ rfl rfl rfl (by simp only [List.length_append, List.length_cons, List.length_nil]; omega) ?_)) | ((with_reducible refine gate_dst (N := 43) rfl ?_); go_must (refine ev_cat _ _ _ _ rfl rfl _ _ rfl rfl rfl (by simp only [List.length_append, List.length_cons, List.length_nil]; omega) ?_)) | (go_at_call 68; go_must (first | (refine Calls.mono (calls_args (by with_reducible rfl) (Df1.out _)) ?_) | (refine Calls.mono (calls_args (by with_reducible rfl) (Df2.out _)) ?_) | (refine Calls.mono (calls_args (by with_reducible rfl) (Df3.out _)) ?_) | (refine Calls.mono (calls_args (by with_reducible rfl) (Df4.out _)) ?_)); rintro e w_ ⟨rfl, N_⟩; have m := M.out.join N_; clear N_; simp only [List.cons_append, List.nil_append, List.append_nil] at m; have M := Lib.hid m; clear m))
        refine onward_normal (hK _ _ ⟨(M.out.blk 0 rfl), ?_⟩)
        clear hK K
        try simp only [Act.put, List.getElem_toArray, List.getElem_cons_succ, List.getElem_cons_zero, List.setIfInBounds_toArray, List.set_cons_succ, List.set_cons_zero]
        apply takeH (i := 22) 42 rfl (by kernel_rfl) (by kernel_rfl) (by kernel_rfl) (fun _ _ _ h => h) rfl (M.out.blk 0 rfl)
        case' hy => exact yld_cat _ _ _ _ rfl rfl _ _ rfl rfl rfl (by simp only [List.length_append, List.length_cons, List.length_nil]; omega)
        try simp only [Act.put, List.getElem_toArray, List.getElem_cons_succ, List.getElem_cons_zero, List.setIfInBounds_toArray, List.set_cons_succ, List.set_cons_zero]
        apply takeH (i := 23) 43 rfl (by kernel_rfl) (by kernel_rfl) (by kernel_rfl) (fun _ _ _ h => h) rfl (M.out.blk 0 rfl)
        case' hy => exact yld_cat _ _ _ _ rfl rfl _ _ rfl rfl rfl (by simp only [List.length_append, List.length_cons, List.length_nil]; omega)
        try simp only [Act.put, List.getElem_toArray, List.getElem_cons_succ, List.getElem_cons_zero, List.setIfInBounds_toArray, List.set_cons_succ, List.set_cons_zero]
        apply takeH (i := 24) 3 rfl (by kernel_rfl) (by kernel_rfl) (by kernel_rfl) (fun _ _ _ h => h) rfl (M.out.blk 0 rfl)
        case' hy =>
          refine Or.inl ⟨by first | rfl | (go_simp; done), ?_⟩
          intro w hS
          clear hS
          go_simp
          try with_reducible rfl
        try simp only [Act.put, List.getElem_toArray, List.getElem_cons_succ, List.getElem_cons_zero, List.setIfInBounds_toArray, List.set_cons_succ, List.set_cons_zero]
        refine wpAnyH_done (by kernel_rfl) ?_ _
        all_goals
          go_wp2
          exact ⟨⟨k + 1, by omega, by go_num, by rw [HO.out, HW.out]; simp only [List.append_assoc, List.cons_append, List.nil_append], M.out.take 0⟩, by simp [intOf]; omega⟩
      · have i2 : (0 : Int) < (k : Int) := by omega
        have HO := Lib.hid (wordsT_next Net.word hlt k0)
        have K0 := Lib.hid k0
        clear k0
        obtain ⟨O, hO⟩ : ∃ O, O = wordsT (xs.map Net.word) k := ⟨_, rfl⟩
        rw [← hO] at HO lo ⊢
        clear hO
        go_wp2_with (first
          | ((with_reducible refine gate_dst (N := 19) rfl ?_); go_must (refine ev_ldr _ _ rfl rfl (R.out) Tryd.underlying85 rfl (by first | exact sz85 | (rw [S1.out]; exact sz85)) rfl ?_))
          | ((with_reducible refine gate_dst (N := 15) rfl ?_); go_must (refine ev_cat _ _ _ _ rfl rfl _ _ rfl rfl rfl (by simp only [List.length_append, List.length_cons, List.length_nil]; omega) ?_))
          | ((with_reducible refine gate_dst (N := 5) rfl ?_); go_must (refine M.out.ev_new rfl (by first | (go_simp; done) | (go_simp; rfl)) ?_); intro g5 w5 m; simp only [List.cons_append, List.nil_append] at m; have M := Lib.hid m; clear m; try have q0_0 := M.out.cell (j := 0) 0 rfl (by first | assumption | rfl); try have q0_1 := M.out.cell (j := 1) 0 rfl (by first | assumption | rfl); try have q0_2 := M.out.cell (j := 2) 0 rfl (by first | assumption | rfl); try have q0_3 := M.out.cell (j := 3) 0 rfl (by first | assumption | rfl))
          | ((with_reducible refine gate_store (x := .tmp 5) rfl ?_); go_must (refine M.out.ev_stw 0 _ _ _ rfl rfl rfl rfl _ rfl (by first | rfl | (simp only [S1.out]; rfl) | (simp only [S1.out, S2.out]; rfl) | (simp only [S3.out]; rfl) | (simp only [S1.out, S2.out, S3.out]; rfl)) (by first | exact sz85 | (rw [S1.out]; exact sz85) | (rw [S2.out]; exact sz85) | (rw [S3.out]; exact sz85)) (by first | exact ints_one _ _ | exact Fld.one _ | exact O1.out | exact Net.one _ | rfl | (simp [Value.oneCell']; done)) rfl ?_); intro wn m; simp only [List.set_cons_succ, List.set_cons_zero, List.setIfInBounds_toArray] at m; have M := Lib.hid m; clear m; try have q0_0 := M.out.cell (j := 0) 0 rfl (by first | assumption | rfl); try have q0_1 := M.out.cell (j := 1) 0 rfl (by first | assumption | rfl); try have q0_2 := M.out.cell (j := 2) 0 rfl (by first | assumption | rfl); try have q0_3 := M.out.cell (j := 3) 0 rfl (by first | assumption | rfl))
          | ((with_reducible refine gate_dst (N := 22) rfl ?_); go_must (refine M.out.ev_ld 0 _ _ rfl rfl rfl Tryd.underlying55 rfl rfl (by first | assumption | rfl) ?_))
          | ((with_reducible refine gate_dst (N := 25) rfl ?_); go_must (refine ev_cat _ _ _ _ rfl rfl _ _ rfl rfl rfl (by simp only [List.length_append, List.length_cons, List.length_nil]; omega) ?_))
          | ((with_reducible refine gate_dst (N := 27) rfl ?_); go_must (refine M.out.ev_ld 0 _ _ rfl rfl rfl Tryd.underlying55 rfl rfl (by first | assumption | rfl) ?_))
          | ((with_reducible refine gate_dst (N := 30) rfl ?_); go_must (refine ev_cat _ _ _ _ rfl rfl _ _ rfl rfl rfl (by simp only [List.length_append, List.length_cons, List.length_nil]; omega) ?_))
          | ((with_reducible refine gate_dst (N := 31) rfl ?_); go_must (refine ev_cat _ _ _ _ rfl rfl _ _ rfl rfl rfl (by simp only [List.length_append, List.length_cons, List.length_nil]; omega) ?_))
          | ((with_reducible refine gate_dst (N := 33) rfl ?_); go_must (refine M.out.ev_ld 0 _ _ rfl rfl rfl Tryd.underlying55 rfl rfl (by first | assumption | rfl) ?_))
          | ((with_reducible refine gate_dst (N := 36) rfl ?_); go_must (refine ev_cat _ _ _ _ rfl rfl _ _ rfl rfl rfl (by simp only [List.length_append, List.length_cons, List.length_nil]; omega) ?_))
          | ((with_reducible refine gate_dst (N := 37) rfl ?_); go_must (refine ev_cat _ _ _ _ rfl rfl _ _ rfl rfl rfl (by simp only [List.length_append, List.length_cons, List.length_nil]; omega) ?_))
          | ((with_reducible refine gate_dst (N := 39) rfl ?_); go_must (refine M.out.ev_ld 0 _ _ rfl rfl rfl Tryd.underlying55 rfl rfl (by first | assumption | rfl) ?_))
          | ((with_reducible refine gate_dst (N := 42) rfl ?_); go_must (refine ev_cat _ _ _ _ rfl rfl _ _ rfl rfl rfl (by simp only [List.length_append, List.length_cons, List.length_nil]; omega) ?_))
          | ((with_reducible refine gate_dst (N := 43) rfl ?_); go_must (refine ev_cat _ _ _ _ rfl rfl _ _ rfl rfl rfl (by simp only [List.length_append, List.length_cons, List.length_nil]; omega) ?_))
          )
        have m := M.out
        rw [HV.out] at m
        have M := Lib.hid m
        clear m
        refine region_anyH (fun w' => Blk w' g5 85 #[.int .i8 f1, .int .i8 f2, .int .i8 f3, .int .i8 f4]) (by kernel_rfl) ?_
        have m := M.out.drew
        clear M
        have M := Lib.hid m
        clear m
        apply takeH (i := 0) 20 rfl (by kernel_rfl) (by kernel_rfl) (by kernel_rfl) (fun _ _ _ h => h) rfl (M.out.blk 0 rfl)
        case' hy =>
          refine Or.inl ⟨by first | rfl | (go_simp; done), ?_⟩
          intro w hS
          clear hS
          go_simp
          try with_reducible rfl
        try simp only [Act.put, List.getElem_toArray, List.getElem_cons_succ, List.getElem_cons_zero, List.setIfInBounds_toArray, List.set_cons_succ, List.set_cons_zero]
        apply takeH (i := 1) 21 rfl (by kernel_rfl) (by kernel_rfl) (by kernel_rfl) (fun _ _ _ h => h) rfl (M.out.blk 0 rfl)
        case' hy =>
          refine Or.inl ⟨by first | rfl | (go_simp; done), ?_⟩
          intro w hS
          clear hS
          go_simp
          try with_reducible rfl
        try simp only [Act.put, List.getElem_toArray, List.getElem_cons_succ, List.getElem_cons_zero, List.setIfInBounds_toArray, List.set_cons_succ, List.set_cons_zero]
        apply takeH (i := 2) 22 rfl (by kernel_rfl) (by kernel_rfl) (by kernel_rfl) (fun _ _ _ h => h) rfl (M.out.blk 0 rfl)
        case' hy => exact ylds _ _ rfl rfl Tryd.underlying55 rfl rfl (fun w' hS => hS.cellv rfl)
        try simp only [Act.put, List.getElem_toArray, List.getElem_cons_succ, List.getElem_cons_zero, List.setIfInBounds_toArray, List.set_cons_succ, List.set_cons_zero]
        apply takeH (i := 3) 23 rfl (by kernel_rfl) (by kernel_rfl) (by kernel_rfl) (fun _ _ _ h => h) rfl (M.out.blk 0 rfl)
        case' hy =>
          refine Or.inl ⟨by first | rfl | (go_simp; done), ?_⟩
          intro w hS
          clear hS
          go_simp
          try with_reducible rfl
        try simp only [Act.put, List.getElem_toArray, List.getElem_cons_succ, List.getElem_cons_zero, List.setIfInBounds_toArray, List.set_cons_succ, List.set_cons_zero]
        apply takeH (i := 6) 26 rfl (by kernel_rfl) (by kernel_rfl) (by kernel_rfl) (fun _ _ _ h => h) rfl (M.out.blk 0 rfl)
        case' hy =>
          refine Or.inl ⟨by first | rfl | (go_simp; done), ?_⟩
          intro w hS
          clear hS
          go_simp
          try with_reducible rfl
        try simp only [Act.put, List.getElem_toArray, List.getElem_cons_succ, List.getElem_cons_zero, List.setIfInBounds_toArray, List.set_cons_succ, List.set_cons_zero]
        apply takeH (i := 7) 27 rfl (by kernel_rfl) (by kernel_rfl) (by kernel_rfl) (fun _ _ _ h => h) rfl (M.out.blk 0 rfl)
        case' hy => exact ylds _ _ rfl rfl Tryd.underlying55 rfl rfl (fun w' hS => hS.cellv rfl)
        try simp only [Act.put, List.getElem_toArray, List.getElem_cons_succ, List.getElem_cons_zero, List.setIfInBounds_toArray, List.set_cons_succ, List.set_cons_zero]
        apply takeH (i := 8) 28 rfl (by kernel_rfl) (by kernel_rfl) (by kernel_rfl) (fun _ _ _ h => h) rfl (M.out.blk 0 rfl)
        case' hy =>
          refine Or.inl ⟨by first | rfl | (go_simp; done), ?_⟩
          intro w hS
          clear hS
          go_simp
          try with_reducible rfl
        try simp only [Act.put, List.getElem_toArray, List.getElem_cons_succ, List.getElem_cons_zero, List.setIfInBounds_toArray, List.set_cons_succ, List.set_cons_zero]
        apply takeH (i := 12) 32 rfl (by kernel_rfl) (by kernel_rfl) (by kernel_rfl) (fun _ _ _ h => h) rfl (M.out.blk 0 rfl)
        case' hy =>
          refine Or.inl ⟨by first | rfl | (go_simp; done), ?_⟩
          intro w hS
          clear hS
          go_simp
          try with_reducible rfl
        try simp only [Act.put, List.getElem_toArray, List.getElem_cons_succ, List.getElem_cons_zero, List.setIfInBounds_toArray, List.set_cons_succ, List.set_cons_zero]
        apply takeH (i := 13) 33 rfl (by kernel_rfl) (by kernel_rfl) (by kernel_rfl) (fun _ _ _ h => h) rfl (M.out.blk 0 rfl)
        case' hy => exact ylds _ _ rfl rfl Tryd.underlying55 rfl rfl (fun w' hS => hS.cellv rfl)
        try simp only [Act.put, List.getElem_toArray, List.getElem_cons_succ, List.getElem_cons_zero, List.setIfInBounds_toArray, List.set_cons_succ, List.set_cons_zero]
        apply takeH (i := 14) 34 rfl (by kernel_rfl) (by kernel_rfl) (by kernel_rfl) (fun _ _ _ h => h) rfl (M.out.blk 0 rfl)
        case' hy =>
          refine Or.inl ⟨by first | rfl | (go_simp; done), ?_⟩
          intro w hS
          clear hS
          go_simp
          try with_reducible rfl
        try simp only [Act.put, List.getElem_toArray, List.getElem_cons_succ, List.getElem_cons_zero, List.setIfInBounds_toArray, List.set_cons_succ, List.set_cons_zero]
        apply takeH (i := 18) 38 rfl (by kernel_rfl) (by kernel_rfl) (by kernel_rfl) (fun _ _ _ h => h) rfl (M.out.blk 0 rfl)
        case' hy =>
          refine Or.inl ⟨by first | rfl | (go_simp; done), ?_⟩
          intro w hS
          clear hS
          go_simp
          try with_reducible rfl
        try simp only [Act.put, List.getElem_toArray, List.getElem_cons_succ, List.getElem_cons_zero, List.setIfInBounds_toArray, List.set_cons_succ, List.set_cons_zero]
        apply takeH (i := 19) 39 rfl (by kernel_rfl) (by kernel_rfl) (by kernel_rfl) (fun _ _ _ h => h) rfl (M.out.blk 0 rfl)
        case' hy => exact ylds _ _ rfl rfl Tryd.underlying55 rfl rfl (fun w' hS => hS.cellv rfl)
        try simp only [Act.put, List.getElem_toArray, List.getElem_cons_succ, List.getElem_cons_zero, List.setIfInBounds_toArray, List.set_cons_succ, List.set_cons_zero]
        apply takeH (i := 20) 40 rfl (by kernel_rfl) (by kernel_rfl) (by kernel_rfl) (fun _ _ _ h => h) rfl (M.out.blk 0 rfl)
        case' hy =>
          refine Or.inl ⟨by first | rfl | (go_simp; done), ?_⟩
          intro w hS
          clear hS
          go_simp
          try with_reducible rfl
        try simp only [Act.put, List.getElem_toArray, List.getElem_cons_succ, List.getElem_cons_zero, List.setIfInBounds_toArray, List.set_cons_succ, List.set_cons_zero]
        refine any1H 4 (by kernel_rfl) rfl (fun K hK => ?_)
        go_wp2_with (first | ((with_reducible refine gate_dst (N := 22) rfl ?_); go_must (refine M.out.ev_ld 0 _ _ rfl rfl rfl Tryd.underlying55 rfl rfl (by first | assumption | rfl) ?_)) | ((with_reducible refine gate_dst (N := 25) rfl ?_); go_must (refine ev_cat _ _ _ _ rfl rfl _ _ rfl rfl rfl (by simp only [List.length_append, List.length_cons, List.length_nil]; omega) ?_)) | ((with_reducible refine gate_dst (N := 27) rfl ?_); go_must (refine M.out.ev_ld 0 _ _ rfl rfl rfl Tryd.underlying55 rfl rfl (by first | assumption | rfl) ?_)) | ((with_reducible refine gate_dst (N := 30) rfl ?_); go_must (refine ev_cat _ _ _ _ rfl rfl _ _ rfl rfl rfl (by simp only [List.length_append, List.length_cons, List.length_nil]; omega) ?_)) | ((with_reducible refine gate_dst (N := 31) rfl ?_); go_must (refine ev_cat _ _ _ _ rfl rfl _ _ rfl rfl rfl (by simp only [List.length_append, List.length_cons, List.length_nil]; omega) ?_)) | ((with_reducible refine gate_dst (N := 33) rfl ?_); go_must (refine M.out.ev_ld 0 _ _ rfl rfl rfl Tryd.underlying55 rfl rfl (by first | assumption | rfl) ?_)) | ((with_reducible refine gate_dst (N := 36) rfl ?_); go_must (refine ev_cat _ _ _ _ rfl rfl _ _ rfl rfl rfl (by simp only [List.length_append, List.length_cons, List.length_nil]; omega) ?_)) | ((with_reducible refine gate_dst (N := 37) rfl ?_); go_must (refine ev_cat _ _ _ _ rfl rfl _ _ rfl rfl rfl (by simp only [List.length_append, List.length_cons, List.length_nil]; omega) ?_)) | ((with_reducible refine gate_dst (N := 39) rfl ?_); go_must (refine M.out.ev_ld 0 _ _ rfl rfl rfl Tryd.underlying55 rfl rfl (by first | assumption | rfl) ?_)) | ((with_reducible refine gate_dst (N := 42) rfl ?_); go_must (refine ev_cat _ _ _ _ rfl rfl _ _ rfl rfl rfl (by simp only [List.length_append, List.length_cons, List.length_nil]; omega) ?_)) | ((with_reducible refine gate_dst (N := 43) rfl ?_); go_must (refine ev_cat _ _ _ _ rfl rfl _ _ rfl rfl rfl (by simp only [List.length_append, List.length_cons, List.length_nil]; omega) ?_)) | (go_at_call 68; go_must (first | (refine Calls.mono (calls_args (by with_reducible rfl) (Df1.out _)) ?_) | (refine Calls.mono (calls_args (by with_reducible rfl) (Df2.out _)) ?_) | (refine Calls.mono (calls_args (by with_reducible rfl) (Df3.out _)) ?_) | (refine Calls.mono (calls_args (by with_reducible rfl) (Df4.out _)) ?_)); rintro e w_ ⟨rfl, N_⟩; have m := M.out.join N_; clear N_; simp only [List.cons_append, List.nil_append, List.append_nil] at m; have M := Lib.hid m; clear m))
        refine onward_normal (hK _ _ ⟨(M.out.blk 0 rfl), ?_⟩)
        clear hK K
        try simp only [Act.put, List.getElem_toArray, List.getElem_cons_succ, List.getElem_cons_zero, List.setIfInBounds_toArray, List.set_cons_succ, List.set_cons_zero]
        apply takeH (i := 5) 25 rfl (by kernel_rfl) (by kernel_rfl) (by kernel_rfl) (fun _ _ _ h => h) rfl (M.out.blk 0 rfl)
        case' hy => exact yld_cat _ _ _ _ rfl rfl _ _ rfl rfl rfl (by simp only [List.length_append, List.length_cons, List.length_nil]; omega)
        try simp only [Act.put, List.getElem_toArray, List.getElem_cons_succ, List.getElem_cons_zero, List.setIfInBounds_toArray, List.set_cons_succ, List.set_cons_zero]
        refine any1H 9 (by kernel_rfl) rfl (fun K hK => ?_)
        go_wp2_with (first | ((with_reducible refine gate_dst (N := 22) rfl ?_); go_must (refine M.out.ev_ld 0 _ _ rfl rfl rfl Tryd.underlying55 rfl rfl (by first | assumption | rfl) ?_)) | ((with_reducible refine gate_dst (N := 25) rfl ?_); go_must (refine ev_cat _ _ _ _ rfl rfl _ _ rfl rfl rfl (by simp only [List.length_append, List.length_cons, List.length_nil]; omega) ?_)) | ((with_reducible refine gate_dst (N := 27) rfl ?_); go_must (refine M.out.ev_ld 0 _ _ rfl rfl rfl Tryd.underlying55 rfl rfl (by first | assumption | rfl) ?_)) | ((with_reducible refine gate_dst (N := 30) rfl ?_); go_must (refine ev_cat _ _ _ _ rfl rfl _ _ rfl rfl rfl (by simp only [List.length_append, List.length_cons, List.length_nil]; omega) ?_)) | ((with_reducible refine gate_dst (N := 31) rfl ?_); go_must (refine ev_cat _ _ _ _ rfl rfl _ _ rfl rfl rfl (by simp only [List.length_append, List.length_cons, List.length_nil]; omega) ?_)) | ((with_reducible refine gate_dst (N := 33) rfl ?_); go_must (refine M.out.ev_ld 0 _ _ rfl rfl rfl Tryd.underlying55 rfl rfl (by first | assumption | rfl) ?_)) | ((with_reducible refine gate_dst (N := 36) rfl ?_); go_must (refine ev_cat _ _ _ _ rfl rfl _ _ rfl rfl rfl (by simp only [List.length_append, List.length_cons, List.length_nil]; omega) ?_)) | ((with_reducible refine gate_dst (N := 37) rfl ?_); go_must (refine ev_cat _ _ _ _ rfl rfl _ _ rfl rfl rfl (by simp only [List.length_append, List.length_cons, List.length_nil]; omega) ?_)) | ((with_reducible refine gate_dst (N := 39) rfl ?_); go_must (refine M.out.ev_ld 0 _ _ rfl rfl rfl Tryd.underlying55 rfl rfl (by first | assumption | rfl) ?_)) | ((with_reducible refine gate_dst (N := 42) rfl ?_); go_must (refine ev_cat _ _ _ _ rfl rfl _ _ rfl rfl rfl (by simp only [List.length_append, List.length_cons, List.length_nil]; omega) ?_)) | ((with_reducible refine gate_dst (N := 43) rfl ?_); go_must (refine ev_cat _ _ _ _ rfl rfl _ _ rfl rfl rfl (by simp only [List.length_append, List.length_cons, List.length_nil]; omega) ?_)) | (go_at_call 68; go_must (first | (refine Calls.mono (calls_args (by with_reducible rfl) (Df1.out _)) ?_) | (refine Calls.mono (calls_args (by with_reducible rfl) (Df2.out _)) ?_) | (refine Calls.mono (calls_args (by with_reducible rfl) (Df3.out _)) ?_) | (refine Calls.mono (calls_args (by with_reducible rfl) (Df4.out _)) ?_)); rintro e w_ ⟨rfl, N_⟩; have m := M.out.join N_; clear N_; simp only [List.cons_append, List.nil_append, List.append_nil] at m; have M := Lib.hid m; clear m))
        refine onward_normal (hK _ _ ⟨(M.out.blk 0 rfl), ?_⟩)
        clear hK K
        try simp only [Act.put, List.getElem_toArray, List.getElem_cons_succ, List.getElem_cons_zero, List.setIfInBounds_toArray, List.set_cons_succ, List.set_cons_zero]
        apply takeH (i := 10) 30 rfl (by kernel_rfl) (by kernel_rfl) (by kernel_rfl) (fun _ _ _ h => h) rfl (M.out.blk 0 rfl)
        case' hy => exact yld_cat _ _ _ _ rfl rfl _ _ rfl rfl rfl (by simp only [List.length_append, List.length_cons, List.length_nil]; omega)
        try simp only [Act.put, List.getElem_toArray, List.getElem_cons_succ, List.getElem_cons_zero, List.setIfInBounds_toArray, List.set_cons_succ, List.set_cons_zero]
        apply takeH (i := 11) 31 rfl (by kernel_rfl) (by kernel_rfl) (by kernel_rfl) (fun _ _ _ h => h) rfl (M.out.blk 0 rfl)
        case' hy => exact yld_cat _ _ _ _ rfl rfl _ _ rfl rfl rfl (by simp only [List.length_append, List.length_cons, List.length_nil]; omega)
        try simp only [Act.put, List.getElem_toArray, List.getElem_cons_succ, List.getElem_cons_zero, List.setIfInBounds_toArray, List.set_cons_succ, List.set_cons_zero]
        refine any1H 15 (by kernel_rfl) rfl (fun K hK => ?_)
        go_wp2_with (first | ((with_reducible refine gate_dst (N := 22) rfl ?_); go_must (refine M.out.ev_ld 0 _ _ rfl rfl rfl Tryd.underlying55 rfl rfl (by first | assumption | rfl) ?_)) | ((with_reducible refine gate_dst (N := 25) rfl ?_); go_must (refine ev_cat _ _ _ _ rfl rfl _ _ rfl rfl rfl (by simp only [List.length_append, List.length_cons, List.length_nil]; omega) ?_)) | ((with_reducible refine gate_dst (N := 27) rfl ?_); go_must (refine M.out.ev_ld 0 _ _ rfl rfl rfl Tryd.underlying55 rfl rfl (by first | assumption | rfl) ?_)) | ((with_reducible refine gate_dst (N := 30) rfl ?_); go_must (refine ev_cat _ _ _ _ rfl rfl _ _ rfl rfl rfl (by simp only [List.length_append, List.length_cons, List.length_nil]; omega) ?_)) | ((with_reducible refine gate_dst (N := 31) rfl ?_); go_must (refine ev_cat _ _ _ _ rfl rfl _ _ rfl rfl rfl (by simp only [List.length_append, List.length_cons, List.length_nil]; omega) ?_)) | ((with_reducible refine gate_dst (N := 33) rfl ?_); go_must (refine M.out.ev_ld 0 _ _ rfl rfl rfl Tryd.underlying55 rfl rfl (by first | assumption | rfl) ?_)) | ((with_reducible refine gate_dst (N := 36) rfl ?_); go_must (refine ev_cat _ _ _ _ rfl rfl _ _ rfl rfl rfl (by simp only [List.length_append, List.length_cons, List.length_nil]; omega) ?_)) | ((with_reducible refine gate_dst (N := 37) rfl ?_); go_must (refine ev_cat _ _ _ _ rfl rfl _ _ rfl rfl rfl (by simp only [List.length_append, List.length_cons, List.length_nil]; omega) ?_)) | ((with_reducible refine gate_dst (N := 39) rfl ?_); go_must (refine M.out.ev_ld 0 _ _ rfl rfl rfl Tryd.underlying55 rfl rfl (by first | assumption | rfl) ?_)) | ((with_reducible refine gate_dst (N := 42) rfl ?_); go_must (refine ev_cat _ _ _ _ rfl rfl _ _ rfl rfl rfl (by simp only [List.length_append, List.length_cons, List.length_nil]; omega) ?_)) | ((with_reducible refine gate_dst (N := 43) rfl ?_); go_must (refine ev_cat _ _ _ _ rfl rfl _ _ rfl rfl rfl (by simp only [List.length_append, List.length_cons, List.length_nil]; omega) ?_)) | (go_at_call 68; go_must (first | (refine Calls.mono (calls_args (by with_reducible rfl) (Df1.out _)) ?_) | (refine Calls.mono (calls_args (by with_reducible rfl) (Df2.out _)) ?_) | (refine Calls.mono (calls_args (by with_reducible rfl) (Df3.out _)) ?_) | (refine Calls.mono (calls_args (by with_reducible rfl) (Df4.out _)) ?_)); rintro e w_ ⟨rfl, N_⟩; have m := M.out.join N_; clear N_; simp only [List.cons_append, List.nil_append, List.append_nil] at m; have M := Lib.hid m; clear m))
        refine onward_normal (hK _ _ ⟨(M.out.blk 0 rfl), ?_⟩)
        clear hK K
        try simp only [Act.put, List.getElem_toArray, List.getElem_cons_succ, List.getElem_cons_zero, List.setIfInBounds_toArray, List.set_cons_succ, List.set_cons_zero]
        apply takeH (i := 16) 36 rfl (by kernel_rfl) (by kernel_rfl) (by kernel_rfl) (fun _ _ _ h => h) rfl (M.out.blk 0 rfl)
        case' hy => exact yld_cat _ _ _ _ rfl rfl _ _ rfl rfl rfl (by simp only [List.length_append, List.length_cons, List.length_nil]; omega)
        try simp only [Act.put, List.getElem_toArray, List.getElem_cons_succ, List.getElem_cons_zero, List.setIfInBounds_toArray, List.set_cons_succ, List.set_cons_zero]
        apply takeH (i := 17) 37 rfl (by kernel_rfl) (by kernel_rfl) (by kernel_rfl) (fun _ _ _ h => h) rfl (M.out.blk 0 rfl)
        case' hy => exact yld_cat _ _ _ _ rfl rfl _ _ rfl rfl rfl (by simp only [List.length_append, List.length_cons, List.length_nil]; omega)
        try simp only [Act.put, List.getElem_toArray, List.getElem_cons_succ, List.getElem_cons_zero, List.setIfInBounds_toArray, List.set_cons_succ, List.set_cons_zero]
        refine any1H 21 (by kernel_rfl) rfl (fun K hK => ?_)
        go_wp2_with (first | ((with_reducible refine gate_dst (N := 22) rfl ?_); go_must (refine M.out.ev_ld 0 _ _ rfl rfl rfl Tryd.underlying55 rfl rfl (by first | assumption | rfl) ?_)) | ((with_reducible refine gate_dst (N := 25) rfl ?_); go_must (refine ev_cat _ _ _ _ rfl rfl _ _ rfl rfl rfl (by simp only [List.length_append, List.length_cons, List.length_nil]; omega) ?_)) | ((with_reducible refine gate_dst (N := 27) rfl ?_); go_must (refine M.out.ev_ld 0 _ _ rfl rfl rfl Tryd.underlying55 rfl rfl (by first | assumption | rfl) ?_)) | ((with_reducible refine gate_dst (N := 30) rfl ?_); go_must (refine ev_cat _ _ _ _ rfl rfl _ _ rfl rfl rfl (by simp only [List.length_append, List.length_cons, List.length_nil]; omega) ?_)) | ((with_reducible refine gate_dst (N := 31) rfl ?_); go_must (refine ev_cat _ _ _ _ rfl rfl _ _ rfl rfl rfl (by simp only [List.length_append, List.length_cons, List.length_nil]; omega) ?_)) | ((with_reducible refine gate_dst (N := 33) rfl ?_); go_must (refine M.out.ev_ld 0 _ _ rfl rfl rfl Tryd.underlying55 rfl rfl (by first | assumption | rfl) ?_)) | ((with_reducible refine gate_dst (N := 36) rfl ?_); go_must (refine ev_cat _ _ _ _ rfl rfl _ _ rfl rfl rfl (by simp only [List.length_append, List.length_cons, List.length_nil]; omega) ?_)) | ((with_reducible refine gate_dst (N := 37) rfl ?_); go_must (refine ev_cat _ _ _ _ rfl rfl _ _ rfl rfl rfl (by simp only [List.length_append, List.length_cons, List.length_nil]; omega) ?_)) | ((with_reducible refine gate_dst (N := 39) rfl ?_); go_must (refine M.out.ev_ld 0 _ _ rfl rfl rfl Tryd.underlying55 rfl rfl (by first | assumption | rfl) ?_)) | ((with_reducible refine gate_dst (N := 42) rfl ?_); go_must (refine ev_cat _ _ _ _ rfl rfl _ _ rfl rfl rfl (by simp only [List.length_append, List.length_cons, List.length_nil]; omega) ?_)) | ((with_reducible refine gate_dst (N := 43) rfl ?_); go_must (refine ev_cat _ _ _ _ rfl rfl _ _ rfl rfl rfl (by simp only [List.length_append, List.length_cons, List.length_nil]; omega) ?_)) | (go_at_call 68; go_must (first | (refine Calls.mono (calls_args (by with_reducible rfl) (Df1.out _)) ?_) | (refine Calls.mono (calls_args (by with_reducible rfl) (Df2.out _)) ?_) | (refine Calls.mono (calls_args (by with_reducible rfl) (Df3.out _)) ?_) | (refine Calls.mono (calls_args (by with_reducible rfl) (Df4.out _)) ?_)); rintro e w_ ⟨rfl, N_⟩; have m := M.out.join N_; clear N_; simp only [List.cons_append, List.nil_append, List.append_nil] at m; have M := Lib.hid m; clear m))
        refine onward_normal (hK _ _ ⟨(M.out.blk 0 rfl), ?_⟩)
        clear hK K
        try simp only [Act.put, List.getElem_toArray, List.getElem_cons_succ, List.getElem_cons_zero, List.setIfInBounds_toArray, List.set_cons_succ, List.set_cons_zero]
        apply takeH (i := 22) 42 rfl (by kernel_rfl) (by kernel_rfl) (by kernel_rfl) (fun _ _ _ h => h) rfl (M.out.blk 0 rfl)
        case' hy => exact yld_cat _ _ _ _ rfl rfl _ _ rfl rfl rfl (by simp only [List.length_append, List.length_cons, List.length_nil]; omega)
        try simp only [Act.put, List.getElem_toArray, List.getElem_cons_succ, List.getElem_cons_zero, List.setIfInBounds_toArray, List.set_cons_succ, List.set_cons_zero]
        apply takeH (i := 23) 43 rfl (by kernel_rfl) (by kernel_rfl) (by kernel_rfl) (fun _ _ _ h => h) rfl (M.out.blk 0 rfl)
        case' hy => exact yld_cat _ _ _ _ rfl rfl _ _ rfl rfl rfl (by simp only [List.length_append, List.length_cons, List.length_nil]; omega)
        try simp only [Act.put, List.getElem_toArray, List.getElem_cons_succ, List.getElem_cons_zero, List.setIfInBounds_toArray, List.set_cons_succ, List.set_cons_zero]
        apply takeH (i := 24) 3 rfl (by kernel_rfl) (by kernel_rfl) (by kernel_rfl) (fun _ _ _ h => h) rfl (M.out.blk 0 rfl)
        case' hy =>
          refine Or.inl ⟨by first | rfl | (go_simp; done), ?_⟩
          intro w hS
          clear hS
          go_simp
          try with_reducible rfl
        try simp only [Act.put, List.getElem_toArray, List.getElem_cons_succ, List.getElem_cons_zero, List.setIfInBounds_toArray, List.set_cons_succ, List.set_cons_zero]
        refine wpAnyH_done (by kernel_rfl) ?_ _
        all_goals
          go_wp2
          exact ⟨⟨k + 1, by omega, by go_num, by rw [HO.out, HW.out]; simp only [List.append_assoc, List.cons_append, List.nil_append], M.out.take 0⟩, by simp [intOf]; omega⟩
    · obtain rfl : k = xs.length := by omega
      have i1 : ¬ ((xs.length : Int) < (xs.length : Int)) := by omega
      have HA := Lib.hid (show wordsT (xs.map Net.word) xs.length = joinS 32 (xs.map Net.word) by have := wordsT_all (xs.map Net.word); rwa [List.length_map] at this)
      rw [HA.out]
      go_wp2
      go_ret
      exact ⟨rfl, M.out⟩
set_option maxRecDepth 100000 in
set_option maxHeartbeats 8000000 in
theorem l04Plain_any (A : Option Addr) (n : Nat) (xs : List Net) (hx : ∀ x ∈ xs, x.ok) (hl : xs.length ≤ 1048576) (w : World) (hs : Sl w 4 A xs.length (flat Net.vals xs)) :
    Calls Tryd.prog 48 #[.slice A xs.length n] w fun e w' => e = .returned (.bool (xs.all Net.plain && decide (xs.length ≤ 20))) ∧ Mem w w' [] := by
  have M := Lib.hid (Mem.start w)
  have HX := Lib.hid hx
  have HS := Lib.hid hs
  clear hx hs
  go_enter Tryd.func48, Tryd.ntmps48
  go_wp2
  go_loopw [3] (fun v wr => ∃ k : Nat, k ≤ xs.length ∧ v = .int .i64 k ∧ (∀ x ∈ xs.take k, x.plain = true) ∧ Mem w wr [])
    (fun v _ => xs.length - (intOf v).toNat)
  case atStart => exact ⟨0, by omega, rfl, fun x h => absurd h (by simp), M.out⟩
  case round =>
    clear M
    obtain ⟨k, hk, rfl, he, m⟩ := hrel
    have M := Lib.hid m
    have HE := Lib.hid he
    clear m he
    by_cases hlt : k < xs.length
    · obtain ⟨b, off, rfl, hr⟩ := (M.out.sl HS.out).2 (by omega)
      have R := Lib.hid (range_at Net.vl hr (List.getElem?_eq_getElem hlt))
      have hO := HX.out xs[k] (List.getElem_mem hlt)
      have HM := Lib.hid (List.getElem_mem hlt)
      have HN := Lib.hid (fun h => allT_succ (p := fun x : Net => x.plain = true) hlt HE.out h)
      have i0 : (0 : Int) ≤ (k : Int) := by omega
      have i1 : (k : Int) < (xs.length : Int) := by omega
      obtain ⟨z, hz⟩ : ∃ z, z = xs[k] := ⟨_, rfl⟩
      rw [← hz] at R hO HM HN
      clear hr hz
      obtain ⟨l0, u0⟩ := hO.x
      have e0 : IntKind.i64.wrap z.x = z.x := IntWalk.i64_in _ (by omega)
      obtain ⟨l1, u1⟩ := hO.y
      have e1 : IntKind.i64.wrap z.y = z.y := IntWalk.i64_in _ (by omega)
      obtain ⟨l2, u2⟩ := hO.wide
      have e2 : IntKind.i64.wrap z.wide = z.wide := IntWalk.i64_in _ (by omega)
      obtain ⟨l3, u3⟩ := hO.high
      have e3 : IntKind.i64.wrap z.high = z.high := IntWalk.i64_in _ (by omega)
      have HFN := Lib.hid (show z.plain = (inB z.x 0 9 && (inB z.y 0 9 && (inB z.wide 1 10 && inB z.high 1 10))) from rfl)
      have R2 := Lib.hid (show wr.rangeAt b (off + k * 4) [.int .i8 z.x, .int .i8 z.y, .int .i8 z.wide, .int .i8 z.high] from R.out)
      clear hO R
      cases q0 : inB z.x 0 9 <;> cases q1 : inB z.y 0 9 <;> cases q2 : inB z.wide 1 10 <;> cases q3 : inB z.high 1 10 <;>
      · have H0 := Lib.hid q0
        have H1 := Lib.hid q1
        have H2 := Lib.hid q2
        have H3 := Lib.hid q3
        clear q0 q1 q2 q3
        go_wp2_with (first
          | ((with_reducible refine gate_dst (N := 14) rfl ?_); go_must (refine ev_ldr _ _ rfl rfl (R2.out) Tryd.underlying85 rfl (by first | exact sz85 | (rw [S1.out]; exact sz85)) rfl ?_))
          | ((with_reducible refine gate_dst (N := 4) rfl ?_); go_must (refine M.out.ev_new rfl (by first | (go_simp; done) | (go_simp; rfl)) ?_); intro g4 w4 m; simp only [List.cons_append, List.nil_append] at m; have M := Lib.hid m; clear m; try have q0_1 := M.out.cell (j := 1) 0 rfl (by first | assumption | rfl); try have q0_2 := M.out.cell (j := 2) 0 rfl (by first | assumption | rfl); try have q0_3 := M.out.cell (j := 3) 0 rfl (by first | assumption | rfl))
          | ((with_reducible refine gate_store (x := .tmp 4) rfl ?_); go_must (refine M.out.ev_stw 0 _ _ _ rfl rfl rfl rfl _ rfl (by first | rfl | (simp only [S1.out]; rfl) | (simp only [S1.out, S2.out]; rfl) | (simp only [S3.out]; rfl) | (simp only [S1.out, S2.out, S3.out]; rfl)) (by first | exact sz85 | (rw [S1.out]; exact sz85) | (rw [S2.out]; exact sz85) | (rw [S3.out]; exact sz85)) (by first | exact ints_one _ _ | exact Fld.one _ | exact O1.out | exact Net.one _ | rfl | (simp [Value.oneCell']; done)) rfl ?_); intro wn m; simp only [List.set_cons_succ, List.set_cons_zero, List.setIfInBounds_toArray] at m; have M := Lib.hid m; clear m; try have q0_1 := M.out.cell (j := 1) 0 rfl (by first | assumption | rfl); try have q0_2 := M.out.cell (j := 2) 0 rfl (by first | assumption | rfl); try have q0_3 := M.out.cell (j := 3) 0 rfl (by first | assumption | rfl))
          | ((with_reducible refine gate_dst (N := 16) rfl ?_); go_must (refine M.out.ev_ld 0 _ _ rfl rfl rfl Tryd.underlying55 rfl rfl (by first | assumption | rfl) ?_))
          | (go_at_call 63; go_must (refine (l00In_any _ _ _ _).mono ?_); rintro e w_ ⟨rfl, rfl⟩; first | rw [H0.out] | rw [H1.out] | rw [H2.out] | rw [H3.out])
          )
        first
          | exact ⟨⟨k + 1, by omega, by go_num, HN.out (by rw [HFN.out, H0.out, H1.out, H2.out, H3.out]; rfl), M.out.take 0⟩, by simp [intOf]; omega⟩
          | (go_ret; exact ⟨ret_bool (by rw [not_allT HM.out (by rw [HFN.out, H0.out, H1.out, H2.out, H3.out]; rfl)]; rfl), M.out.take 0⟩)
    · obtain rfl : k = xs.length := by omega
      have i1 : ¬ ((xs.length : Int) < (xs.length : Int)) := by omega
      have HA := Lib.hid (allT_of HE.out)
      by_cases h9 : xs.length ≤ 20
      · have i9 : (xs.length : Int) ≤ 20 := by omega
        clear HE
        go_wp2
        go_ret
        exact ⟨ret_bool (by first | rfl | ((rw [HA.out]) <;> simp [h9])), M.out⟩
      · have i9 : ¬ ((xs.length : Int) ≤ 20) := by omega
        clear HE
        go_wp2
        go_ret
        exact ⟨ret_bool (by first | rfl | ((rw [HA.out]) <;> simp [h9])), M.out⟩
set_option maxRecDepth 100000 in
set_option maxHeartbeats 4000000 in
theorem spec_NetsText_any (A : Option Addr) (n : Nat) (xs : List Net) (hx : ∀ x ∈ xs, x.ok) (hl : xs.length ≤ 1048576) (w : World) (hs : Sl w 4 A xs.length (flat Net.vals xs)) :
    Calls Tryd.prog 19 #[.slice A xs.length n] w fun e w' => e = .returned (.string ⟨(netsT xs).toArray⟩) ∧ Mem w w' [] := by
  have M := Lib.hid (Mem.start w)
  have HX := Lib.hid hx
  have HS := Lib.hid hs
  clear hx hs
  cases hq : (xs.all Net.plain && decide (xs.length ≤ 20))
  · have HQ := Lib.hid hq
    have HD := Lib.hid (show netsT xs = [] by
      rw [Bool.and_eq_false_iff] at hq
      unfold netsT
      rcases hq with h | h
      · rw [if_neg (by rw [h]; decide)]
      · rw [if_neg (of_decide_eq_false h)]; split <;> rfl)
    clear hq
    go_enter Tryd.func19, Tryd.ntmps19
    go_wp2_with (first
      | (go_at_call 48; go_must (refine (l04Plain_any A n xs HX.out hl _ (M.out.sl HS.out)).mono ?_); rintro e w_ ⟨rfl, N_⟩; have m := M.out.join N_; clear N_; simp only [List.cons_append, List.nil_append, List.append_nil] at m; have M := Lib.hid m; clear m; rw [HQ.out])
      )
    go_ret
    exact ⟨by rw [HD.out]; rfl, M.out⟩
  · have HQ := Lib.hid hq
    rw [Bool.and_eq_true] at hq
    have h9 := of_decide_eq_true hq.2
    have HP := Lib.hid (fun x hx => List.all_eq_true.1 hq.1 x hx : ∀ x ∈ xs, x.plain = true)
    have HD := Lib.hid (show netsT xs = joinS 32 (xs.map Net.word) by rw [netsT, if_pos hq.1, if_pos h9])
    clear hq
    go_enter Tryd.func19, Tryd.ntmps19
    go_wp2_with (first
      | (go_at_call 48; go_must (refine (l04Plain_any A n xs HX.out hl _ (M.out.sl HS.out)).mono ?_); rintro e w_ ⟨rfl, N_⟩; have m := M.out.join N_; clear N_; simp only [List.cons_append, List.nil_append, List.append_nil] at m; have M := Lib.hid m; clear m; rw [HQ.out])
      | (go_at_call 49; go_must (refine (l04Text_any A n xs HX.out HP.out h9 _ (M.out.sl HS.out)).mono ?_); rintro e w_ ⟨rfl, N_⟩; have m := M.out.join N_; clear N_; simp only [List.cons_append, List.nil_append, List.append_nil] at m; have M := Lib.hid m; clear m)
      )
    go_ret
    exact ⟨by rw [HD.out]; rfl, M.out⟩
set_option maxRecDepth 100000 in
set_option maxHeartbeats 8000000 in
theorem impl_NetsText_any (A : Option Addr) (n : Nat) (xs : List Net) (hx : ∀ x ∈ xs, x.ok) (hl : xs.length ≤ 1048576) (w : World) (ht : Tab w) (hs : Sl w 4 A xs.length (flat Net.vals xs)) :
    Calls Tryd.prog 21 #[.slice A xs.length n] w fun e w' => e = .returned (.string ⟨(netsT xs).toArray⟩) ∧ Mem w w' [] := by
  have M := Lib.hid (Mem.start w)
  have HX := Lib.hid hx
  have HS := Lib.hid hs
  have HT := Lib.hid ht
  clear hx hs ht
  go_enter Tryd.func21, Tryd.ntmps21
  go_wp2_with (first
    | ((with_reducible refine gate_dst (N := 6) rfl ?_); go_must (refine M.out.ev_bs0 elem_string rfl rfl ?_); intro g0 w0 m; simp only [List.nil_append] at m; have M := Lib.hid m; clear m)
    )
  go_loopw [3, 9] (fun s v wr => ∃ k : Nat, k ≤ xs.length ∧ v = .int .i64 k ∧ (∀ x ∈ xs.take k, x.plain = true) ∧ (0 < k → xs.length ≤ 20) ∧ Mem w wr [.row s 9 1 k (flat oneS (strsOf ((xs.map Net.word).take k)))])
    (fun _ v _ => xs.length - (intOf v).toNat)
  case atStart => exact ⟨0, by omega, rfl, fun x h => absurd h (by simp), fun h => by omega, M.out⟩
  case round =>
    clear M
    obtain ⟨k, hk, rfl, he, h100, m⟩ := hrel
    have M := Lib.hid m
    have HE := Lib.hid he
    clear m he
    by_cases hlt : k < xs.length
    · obtain ⟨b, off, rfl, hr⟩ := HS.out.2 (by omega)
      have R := Lib.hid (range_at Net.vl hr (List.getElem?_eq_getElem hlt))
      have HO := Lib.hid (HX.out xs[k] (List.getElem_mem hlt))
      have HM := Lib.hid (List.getElem_mem hlt)
      have i0 : (0 : Int) ≤ (k : Int) := by omega
      have i1 : (k : Int) < (xs.length : Int) := by omega
      clear hr
      cases hf : xs[k].plain
      · have HFN := Lib.hid hf
        clear hf h100
        go_wp2_with (first
          | ((with_reducible refine gate_dst (N := 12) rfl ?_); go_must (refine ev_ldr _ _ rfl rfl (M.out.argT R.out) Tryd.underlying85 rfl (by first | exact sz85 | (rw [S1.out]; exact sz85)) rfl ?_))
          | ((with_reducible refine gate_dst (N := 5) rfl ?_); go_must (refine M.out.ev_new rfl (by first | (go_simp; done) | (go_simp; rfl)) ?_); intro g5 w5 m; simp only [List.cons_append, List.nil_append] at m; have M := Lib.hid m; clear m; try have q1_0 := M.out.cell (j := 0) 1 rfl (by first | assumption | rfl); try have q1_1 := M.out.cell (j := 1) 1 rfl (by first | assumption | rfl); try have q1_2 := M.out.cell (j := 2) 1 rfl (by first | assumption | rfl); try have q1_3 := M.out.cell (j := 3) 1 rfl (by first | assumption | rfl))
          | ((with_reducible refine gate_store (x := .tmp 5) rfl ?_); go_must (refine M.out.ev_stw 1 _ _ _ rfl rfl rfl rfl _ rfl (by first | rfl | (simp only [S1.out]; rfl) | (simp only [S1.out, S2.out]; rfl) | (simp only [S3.out]; rfl) | (simp only [S1.out, S2.out, S3.out]; rfl)) (by first | exact sz85 | (rw [S1.out]; exact sz85) | (rw [S2.out]; exact sz85) | (rw [S3.out]; exact sz85)) (by first | exact ints_one _ _ | exact Fld.one _ | exact O1.out | exact Net.one _ | rfl | (simp [Value.oneCell']; done)) rfl ?_); intro wn m; simp only [List.set_cons_succ, List.set_cons_zero, List.setIfInBounds_toArray] at m; have M := Lib.hid m; clear m; try have q1_0 := M.out.cell (j := 0) 1 rfl (by first | assumption | rfl); try have q1_1 := M.out.cell (j := 1) 1 rfl (by first | assumption | rfl); try have q1_2 := M.out.cell (j := 2) 1 rfl (by first | assumption | rfl); try have q1_3 := M.out.cell (j := 3) 1 rfl (by first | assumption | rfl))
          | ((with_reducible refine gate_dst (N := 13) rfl ?_); go_must (refine M.out.ev_ldw 1 _ _ rfl rfl rfl Tryd.underlying85 rfl (by first | exact sz85 | (rw [S1.out]; exact sz85) | (rw [S2.out]; exact sz85) | (rw [S3.out]; exact sz85)) rfl ?_))
          | ((with_reducible refine gate_dst (N := 23) rfl ?_); go_must (refine M.out.ev_ld 1 _ _ rfl rfl rfl Tryd.underlying55 rfl rfl (by first | assumption | rfl) ?_))
          | ((with_reducible refine gate_dst (N := 25) rfl ?_); go_must (refine ev_cat _ _ _ _ rfl rfl _ _ rfl rfl rfl (by simp only [List.length_append, List.length_cons, List.length_nil]; omega) ?_))
          | ((with_reducible refine gate_dst (N := 27) rfl ?_); go_must (refine M.out.ev_ld 1 _ _ rfl rfl rfl Tryd.underlying55 rfl rfl (by first | assumption | rfl) ?_))
          | ((with_reducible refine gate_dst (N := 29) rfl ?_); go_must (refine ev_cat _ _ _ _ rfl rfl _ _ rfl rfl rfl (by simp only [List.length_append, List.length_cons, List.length_nil]; omega) ?_))
          | ((with_reducible refine gate_dst (N := 30) rfl ?_); go_must (refine ev_cat _ _ _ _ rfl rfl _ _ rfl rfl rfl (by simp only [List.length_append, List.length_cons, List.length_nil]; omega) ?_))
          | ((with_reducible refine gate_dst (N := 32) rfl ?_); go_must (refine M.out.ev_ld 1 _ _ rfl rfl rfl Tryd.underlying55 rfl rfl (by first | assumption | rfl) ?_))
          | ((with_reducible refine gate_dst (N := 34) rfl ?_); go_must (refine ev_cat _ _ _ _ rfl rfl _ _ rfl rfl rfl (by simp only [List.length_append, List.length_cons, List.length_nil]; omega) ?_))
          | ((with_reducible refine gate_dst (N := 35) rfl ?_); go_must (refine ev_cat _ _ _ _ rfl rfl _ _ rfl rfl rfl (by simp only [List.length_append, List.length_cons, List.length_nil]; omega) ?_))
          | ((with_reducible refine gate_dst (N := 37) rfl ?_); go_must (refine M.out.ev_ld 1 _ _ rfl rfl rfl Tryd.underlying55 rfl rfl (by first | assumption | rfl) ?_))
          | ((with_reducible refine gate_dst (N := 39) rfl ?_); go_must (refine ev_cat _ _ _ _ rfl rfl _ _ rfl rfl rfl (by simp only [List.length_append, List.length_cons, List.length_nil]; omega) ?_))
          | (go_at_call 51; go_must (refine (isPlainN_any _ HO.out _).mono ?_); rintro e w_ ⟨rfl, N_⟩; have m := M.out.join N_; clear N_; simp only [List.cons_append, List.nil_append, List.append_nil] at m; have M := Lib.hid m; clear m; rw [HFN.out])
          )
        go_ret
        exact ⟨by rw [netsT, if_neg (by rw [not_allT HM.out HFN.out]; decide)]; rfl, M.out.take 0⟩
      · have HFN := Lib.hid hf
        clear hf
        by_cases h9 : xs.length ≤ 20
        · have i9 : ¬ ((20 : Int) < (xs.length : Int)) := by omega
          have HSU := Lib.hid (show strsOf ((xs.map Net.word).take (k + 1)) = strsOf ((xs.map Net.word).take k) ++ [⟨xs[k].word.toArray⟩] by rw [strsOf_succ (by simpa using hlt)]; simp)
          have hpl := HFN.out
          rw [Net.plain] at hpl
          simp only [Bool.and_eq_true] at hpl
          obtain ⟨p0, p1, p2, p3⟩ := hpl
          have q0 := inB_iff.1 p0
          have q1 := inB_iff.1 p1
          have q2 := inB_iff.1 p2
          have q3 := inB_iff.1 p3
          have HW := Lib.hid (show xs[k].word = dec xs[k].x ++ [44] ++ dec xs[k].y ++ [58] ++ dec xs[k].wide ++ [120] ++ dec xs[k].high from rfl)
          have HV := Lib.hid (show xs[k].vals.toArray = #[.int .i8 xs[k].x, .int .i8 xs[k].y, .int .i8 xs[k].wide, .int .i8 xs[k].high] from rfl)
          obtain ⟨f1, hf1⟩ : ∃ c, c = xs[k].x := ⟨_, rfl⟩
          rw [← hf1] at q0 HW HV
          obtain ⟨f2, hf2⟩ : ∃ c, c = xs[k].y := ⟨_, rfl⟩
          rw [← hf2] at q1 HW HV
          obtain ⟨f3, hf3⟩ : ∃ c, c = xs[k].wide := ⟨_, rfl⟩
          rw [← hf3] at q2 HW HV
          obtain ⟨f4, hf4⟩ : ∃ c, c = xs[k].high := ⟨_, rfl⟩
          rw [← hf4] at q3 HW HV
          unfold dec at HW
          have Df1 := Lib.hid (fun w ht => decimal8_any f1 (by omega) (by omega) w ht)
          have lf1 := dec_b (n := f1) (by omega) (by omega)
          unfold dec at lf1
          have Df2 := Lib.hid (fun w ht => decimal8_any f2 (by omega) (by omega) w ht)
          have lf2 := dec_b (n := f2) (by omega) (by omega)
          unfold dec at lf2
          have Df3 := Lib.hid (fun w ht => decimal8_any f3 (by omega) (by omega) w ht)
          have lf3 := dec_b (n := f3) (by omega) (by omega)
          unfold dec at lf3
          have Df4 := Lib.hid (fun w ht => decimal8_any f4 (by omega) (by omega) w ht)
          have lf4 := dec_b (n := f4) (by omega) (by omega)
          unfold dec at lf4
          obtain ⟨Sf1, hSf1⟩ : ∃ O, O = Lib.itoa f1 := ⟨_, rfl⟩
          rw [← hSf1] at lf1 Df1 HW
          obtain ⟨Sf2, hSf2⟩ : ∃ O, O = Lib.itoa f2 := ⟨_, rfl⟩
          rw [← hSf2] at lf2 Df2 HW
          obtain ⟨Sf3, hSf3⟩ : ∃ O, O = Lib.itoa f3 := ⟨_, rfl⟩
          rw [← hSf3] at lf3 Df3 HW
          obtain ⟨Sf4, hSf4⟩ : ∃ O, O = Lib.itoa f4 := ⟨_, rfl⟩
          rw [← hSf4] at lf4 Df4 HW
          clear hf1 hf2 hf3 hf4 hSf1 hSf2 hSf3 hSf4
          go_wp2_with (first
            | ((with_reducible refine gate_dst (N := 12) rfl ?_); go_must (refine ev_ldr _ _ rfl rfl (M.out.argT R.out) Tryd.underlying85 rfl (by first | exact sz85 | (rw [S1.out]; exact sz85)) rfl ?_))
            | ((with_reducible refine gate_dst (N := 5) rfl ?_); go_must (refine M.out.ev_new rfl (by first | (go_simp; done) | (go_simp; rfl)) ?_); intro g5 w5 m; simp only [List.cons_append, List.nil_append] at m; have M := Lib.hid m; clear m; try have q1_0 := M.out.cell (j := 0) 1 rfl (by first | assumption | rfl); try have q1_1 := M.out.cell (j := 1) 1 rfl (by first | assumption | rfl); try have q1_2 := M.out.cell (j := 2) 1 rfl (by first | assumption | rfl); try have q1_3 := M.out.cell (j := 3) 1 rfl (by first | assumption | rfl))
            | ((with_reducible refine gate_store (x := .tmp 5) rfl ?_); go_must (refine M.out.ev_stw 1 _ _ _ rfl rfl rfl rfl _ rfl (by first | rfl | (simp only [S1.out]; rfl) | (simp only [S1.out, S2.out]; rfl) | (simp only [S3.out]; rfl) | (simp only [S1.out, S2.out, S3.out]; rfl)) (by first | exact sz85 | (rw [S1.out]; exact sz85) | (rw [S2.out]; exact sz85) | (rw [S3.out]; exact sz85)) (by first | exact ints_one _ _ | exact Fld.one _ | exact O1.out | exact Net.one _ | rfl | (simp [Value.oneCell']; done)) rfl ?_); intro wn m; simp only [List.set_cons_succ, List.set_cons_zero, List.setIfInBounds_toArray] at m; have M := Lib.hid m; clear m; try have q1_0 := M.out.cell (j := 0) 1 rfl (by first | assumption | rfl); try have q1_1 := M.out.cell (j := 1) 1 rfl (by first | assumption | rfl); try have q1_2 := M.out.cell (j := 2) 1 rfl (by first | assumption | rfl); try have q1_3 := M.out.cell (j := 3) 1 rfl (by first | assumption | rfl))
            | ((with_reducible refine gate_dst (N := 13) rfl ?_); go_must (refine M.out.ev_ldw 1 _ _ rfl rfl rfl Tryd.underlying85 rfl (by first | exact sz85 | (rw [S1.out]; exact sz85) | (rw [S2.out]; exact sz85) | (rw [S3.out]; exact sz85)) rfl ?_))
            | ((with_reducible refine gate_dst (N := 23) rfl ?_); go_must (refine M.out.ev_ld 1 _ _ rfl rfl rfl Tryd.underlying55 rfl rfl (by first | assumption | rfl) ?_))
            | ((with_reducible refine gate_dst (N := 25) rfl ?_); go_must (refine ev_cat _ _ _ _ rfl rfl _ _ rfl rfl rfl (by simp only [List.length_append, List.length_cons, List.length_nil]; omega) ?_))
            | ((with_reducible refine gate_dst (N := 27) rfl ?_); go_must (refine M.out.ev_ld 1 _ _ rfl rfl rfl Tryd.underlying55 rfl rfl (by first | assumption | rfl) ?_))
            | ((with_reducible refine gate_dst (N := 29) rfl ?_); go_must (refine ev_cat _ _ _ _ rfl rfl _ _ rfl rfl rfl (by simp only [List.length_append, List.length_cons, List.length_nil]; omega) ?_))
            | ((with_reducible refine gate_dst (N := 30) rfl ?_); go_must (refine ev_cat _ _ _ _ rfl rfl _ _ rfl rfl rfl (by simp only [List.length_append, List.length_cons, List.length_nil]; omega) ?_))
            | ((with_reducible refine gate_dst (N := 32) rfl ?_); go_must (refine M.out.ev_ld 1 _ _ rfl rfl rfl Tryd.underlying55 rfl rfl (by first | assumption | rfl) ?_))
            | ((with_reducible refine gate_dst (N := 34) rfl ?_); go_must (refine ev_cat _ _ _ _ rfl rfl _ _ rfl rfl rfl (by simp only [List.length_append, List.length_cons, List.length_nil]; omega) ?_))
            | ((with_reducible refine gate_dst (N := 35) rfl ?_); go_must (refine ev_cat _ _ _ _ rfl rfl _ _ rfl rfl rfl (by simp only [List.length_append, List.length_cons, List.length_nil]; omega) ?_))
            | ((with_reducible refine gate_dst (N := 37) rfl ?_); go_must (refine M.out.ev_ld 1 _ _ rfl rfl rfl Tryd.underlying55 rfl rfl (by first | assumption | rfl) ?_))
            | ((with_reducible refine gate_dst (N := 39) rfl ?_); go_must (refine ev_cat _ _ _ _ rfl rfl _ _ rfl rfl rfl (by simp only [List.length_append, List.length_cons, List.length_nil]; omega) ?_))
            | (go_at_call 51; go_must (refine (isPlainN_any _ HO.out _).mono ?_); rintro e w_ ⟨rfl, N_⟩; have m := M.out.join N_; clear N_; simp only [List.cons_append, List.nil_append, List.append_nil] at m; have M := Lib.hid m; clear m; rw [HFN.out])
            )
          have m := M.out
          rw [HV.out] at m
          have M := Lib.hid m
          clear m
          refine region_anyH (fun w' => Blk w' g5 85 #[.int .i8 f1, .int .i8 f2, .int .i8 f3, .int .i8 f4]) (by kernel_rfl) ?_
          have m := M.out.drew
          clear M
          have M := Lib.hid m
          clear m
          apply takeH (i := 0) 21 rfl (by kernel_rfl) (by kernel_rfl) (by kernel_rfl) (fun _ _ _ h => h) rfl (M.out.blk 1 rfl)
          case' hy =>
            refine Or.inl ⟨by first | rfl | (go_simp; done), ?_⟩
            intro w hS
            clear hS
            go_simp
            try with_reducible rfl
          try simp only [Act.put, List.getElem_toArray, List.getElem_cons_succ, List.getElem_cons_zero, List.setIfInBounds_toArray, List.set_cons_succ, List.set_cons_zero]
          apply takeH (i := 1) 22 rfl (by kernel_rfl) (by kernel_rfl) (by kernel_rfl) (fun _ _ _ h => h) rfl (M.out.blk 1 rfl)
          case' hy =>
            refine Or.inl ⟨by first | rfl | (go_simp; done), ?_⟩
            intro w hS
            clear hS
            go_simp
            try with_reducible rfl
          try simp only [Act.put, List.getElem_toArray, List.getElem_cons_succ, List.getElem_cons_zero, List.setIfInBounds_toArray, List.set_cons_succ, List.set_cons_zero]
          apply takeH (i := 2) 23 rfl (by kernel_rfl) (by kernel_rfl) (by kernel_rfl) (fun _ _ _ h => h) rfl (M.out.blk 1 rfl)
          case' hy => exact ylds _ _ rfl rfl Tryd.underlying55 rfl rfl (fun w' hS => hS.cellv rfl)
          try simp only [Act.put, List.getElem_toArray, List.getElem_cons_succ, List.getElem_cons_zero, List.setIfInBounds_toArray, List.set_cons_succ, List.set_cons_zero]
          apply takeH (i := 5) 26 rfl (by kernel_rfl) (by kernel_rfl) (by kernel_rfl) (fun _ _ _ h => h) rfl (M.out.blk 1 rfl)
          case' hy =>
            refine Or.inl ⟨by first | rfl | (go_simp; done), ?_⟩
            intro w hS
            clear hS
            go_simp
            try with_reducible rfl
          try simp only [Act.put, List.getElem_toArray, List.getElem_cons_succ, List.getElem_cons_zero, List.setIfInBounds_toArray, List.set_cons_succ, List.set_cons_zero]
          apply takeH (i := 6) 27 rfl (by kernel_rfl) (by kernel_rfl) (by kernel_rfl) (fun _ _ _ h => h) rfl (M.out.blk 1 rfl)
          case' hy => exact ylds _ _ rfl rfl Tryd.underlying55 rfl rfl (fun w' hS => hS.cellv rfl)
          try simp only [Act.put, List.getElem_toArray, List.getElem_cons_succ, List.getElem_cons_zero, List.setIfInBounds_toArray, List.set_cons_succ, List.set_cons_zero]
          apply takeH (i := 10) 31 rfl (by kernel_rfl) (by kernel_rfl) (by kernel_rfl) (fun _ _ _ h => h) rfl (M.out.blk 1 rfl)
          case' hy =>
            refine Or.inl ⟨by first | rfl | (go_simp; done), ?_⟩
            intro w hS
            clear hS
            go_simp
            try with_reducible rfl
          try simp only [Act.put, List.getElem_toArray, List.getElem_cons_succ, List.getElem_cons_zero, List.setIfInBounds_toArray, List.set_cons_succ, List.set_cons_zero]
          apply takeH (i := 11) 32 rfl (by kernel_rfl) (by kernel_rfl) (by kernel_rfl) (fun _ _ _ h => h) rfl (M.out.blk 1 rfl)
          case' hy => exact ylds _ _ rfl rfl Tryd.underlying55 rfl rfl (fun w' hS => hS.cellv rfl)
          try simp only [Act.put, List.getElem_toArray, List.getElem_cons_succ, List.getElem_cons_zero, List.setIfInBounds_toArray, List.set_cons_succ, List.set_cons_zero]
          apply takeH (i := 15) 36 rfl (by kernel_rfl) (by kernel_rfl) (by kernel_rfl) (fun _ _ _ h => h) rfl (M.out.blk 1 rfl)
          case' hy =>
            refine Or.inl ⟨by first | rfl | (go_simp; done), ?_⟩
            intro w hS
            clear hS
            go_simp
            try with_reducible rfl
          try simp only [Act.put, List.getElem_toArray, List.getElem_cons_succ, List.getElem_cons_zero, List.setIfInBounds_toArray, List.set_cons_succ, List.set_cons_zero]
          apply takeH (i := 16) 37 rfl (by kernel_rfl) (by kernel_rfl) (by kernel_rfl) (fun _ _ _ h => h) rfl (M.out.blk 1 rfl)
          case' hy => exact ylds _ _ rfl rfl Tryd.underlying55 rfl rfl (fun w' hS => hS.cellv rfl)
          try simp only [Act.put, List.getElem_toArray, List.getElem_cons_succ, List.getElem_cons_zero, List.setIfInBounds_toArray, List.set_cons_succ, List.set_cons_zero]
          refine any1H 3 (by kernel_rfl) rfl (fun K hK => ?_)
          go_wp2_with (first | ((with_reducible refine gate_dst (N := 23) rfl ?_); go_must (refine M.out.ev_ld 1 _ _ rfl rfl rfl Tryd.underlying55 rfl rfl (by first | assumption | rfl) ?_)) | ((with_reducible refine gate_dst (N := 25) rfl ?_); go_must (refine ev_cat _ _ _ _ rfl rfl _ _ rfl rfl rfl (by simp only [List.length_append, List.length_cons, List.length_nil]; omega) ?_)) | ((with_reducible refine gate_dst (N := 27) rfl ?_); go_must (refine M.out.ev_ld 1 _ _ rfl rfl rfl Tryd.underlying55 rfl rfl (by first | assumption | rfl) ?_)) | ((with_reducible refine gate_dst (N := 29) rfl ?_); go_must (refine ev_cat _ _ _ _ rfl rfl _ _ rfl rfl rfl (by simp only [List.length_append, List.length_cons, List.length_nil]; omega) ?_)) | ((with_reducible refine gate_dst (N := 30) rfl ?_); go_must (refine ev_cat _ _ _ _ rfl rfl _ _ rfl rfl rfl (by simp only [List.length_append, List.length_cons, List.length_nil]; omega) ?_)) | ((with_reducible refine gate_dst (N := 32) rfl ?_); go_must (refine M.out.ev_ld 1 _ _ rfl rfl rfl Tryd.underlying55 rfl rfl (by first | assumption | rfl) ?_)) | ((with_reducible refine gate_dst (N := 34) rfl ?_); go_must (refine ev_cat _ _ _ _ rfl rfl _ _ rfl rfl rfl (by simp only [List.length_append, List.length_cons, List.length_nil]; omega) ?_)) | ((with_reducible refine gate_dst (N := 35) rfl ?_); go_must (refine ev_cat _ _ _ _ rfl rfl _ _ rfl rfl rfl (by simp only [List.length_append, List.length_cons, List.length_nil]; omega) ?_)) | ((with_reducible refine gate_dst (N := 37) rfl ?_); go_must (refine M.out.ev_ld 1 _ _ rfl rfl rfl Tryd.underlying55 rfl rfl (by first | assumption | rfl) ?_)) | ((with_reducible refine gate_dst (N := 39) rfl ?_); go_must (refine ev_cat _ _ _ _ rfl rfl _ _ rfl rfl rfl (by simp only [List.length_append, List.length_cons, List.length_nil]; omega) ?_)) | (go_at_call 45; go_must (first | (refine Calls.mono (calls_args (by with_reducible rfl) (Df1.out _ (M.out.tab HT.out))) ?_) | (refine Calls.mono (calls_args (by with_reducible rfl) (Df2.out _ (M.out.tab HT.out))) ?_) | (refine Calls.mono (calls_args (by with_reducible rfl) (Df3.out _ (M.out.tab HT.out))) ?_) | (refine Calls.mono (calls_args (by with_reducible rfl) (Df4.out _ (M.out.tab HT.out))) ?_)); rintro e w_ ⟨rfl, N_⟩; have m := M.out.join N_; clear N_; simp only [List.cons_append, List.nil_append, List.append_nil] at m; have M := Lib.hid m; clear m) | ((with_reducible refine gate_dst (N := 40) rfl ?_); go_must (refine M.out.ev_bs1 elem_string rfl _ rfl #[.string _] rfl rfl (by decide) ?_); intro g40 w40 m; simp only [List.cons_append, List.nil_append] at m; have M := Lib.hid m; clear m) | ((with_reducible refine gate_dst (N := 41) rfl ?_); go_must (refine M.out.ev_append1 0 2 elem_string rfl _ _ rfl rfl rfl rfl rfl rfl (by simp [Value.oneCell']) (by omega) (by decide) ?_); intro v41 w41 m; simp only [List.set_cons_succ, List.set_cons_zero] at m; have M := Lib.hid m; clear m))
          refine onward_normal (hK _ _ ⟨(M.out.blk 1 rfl), ?_⟩)
          clear hK K
          try simp only [Act.put, List.getElem_toArray, List.getElem_cons_succ, List.getElem_cons_zero, List.setIfInBounds_toArray, List.set_cons_succ, List.set_cons_zero]
          apply takeH (i := 4) 25 rfl (by kernel_rfl) (by kernel_rfl) (by kernel_rfl) (fun _ _ _ h => h) rfl (M.out.blk 1 rfl)
          case' hy => exact yld_cat _ _ _ _ rfl rfl _ _ rfl rfl rfl (by simp only [List.length_append, List.length_cons, List.length_nil]; omega)
          try simp only [Act.put, List.getElem_toArray, List.getElem_cons_succ, List.getElem_cons_zero, List.setIfInBounds_toArray, List.set_cons_succ, List.set_cons_zero]
          refine any1H 7 (by kernel_rfl) rfl (fun K hK => ?_)
          go_wp2_with (first | ((with_reducible refine gate_dst (N := 23) rfl ?_); go_must (refine M.out.ev_ld 1 _ _ rfl rfl rfl Tryd.underlying55 rfl rfl (by first | assumption | rfl) ?_)) | ((with_reducible refine gate_dst (N := 25) rfl ?_); go_must (refine ev_cat _ _ _ _ rfl rfl _ _ rfl rfl rfl (by simp only [List.length_append, List.length_cons, List.length_nil]; omega) ?_)) | ((with_reducible refine gate_dst (N := 27) rfl ?_); go_must (refine M.out.ev_ld 1 _ _ rfl rfl rfl Tryd.underlying55 rfl rfl (by first | assumption | rfl) ?_)) | ((with_reducible refine gate_dst (N := 29) rfl ?_); go_must (refine ev_cat _ _ _ _ rfl rfl _ _ rfl rfl rfl (by simp only [List.length_append, List.length_cons, List.length_nil]; omega) ?_)) | ((with_reducible refine gate_dst (N := 30) rfl ?_); go_must (refine ev_cat _ _ _ _ rfl rfl _ _ rfl rfl rfl (by simp only [List.length_append, List.length_cons, List.length_nil]; omega) ?_)) | ((with_reducible refine gate_dst (N := 32) rfl ?_); go_must (refine M.out.ev_ld 1 _ _ rfl rfl rfl Tryd.underlying55 rfl rfl (by first | assumption | rfl) ?_)) | ((with_reducible refine gate_dst (N := 34) rfl ?_); go_must (refine ev_cat _ _ _ _ rfl rfl _ _ rfl rfl rfl (by simp only [List.length_append, List.length_cons, List.length_nil]; omega) ?_)) | ((with_reducible refine gate_dst (N := 35) rfl ?_); go_must (refine ev_cat _ _ _ _ rfl rfl _ _ rfl rfl rfl (by simp only [List.length_append, List.length_cons, List.length_nil]; omega) ?_)) | ((with_reducible refine gate_dst (N := 37) rfl ?_); go_must (refine M.out.ev_ld 1 _ _ rfl rfl rfl Tryd.underlying55 rfl rfl (by first | assumption | rfl) ?_)) | ((with_reducible refine gate_dst (N := 39) rfl ?_); go_must (refine ev_cat _ _ _ _ rfl rfl _ _ rfl rfl rfl (by simp only [List.length_append, List.length_cons, List.length_nil]; omega) ?_)) | (go_at_call 45; go_must (first | (refine Calls.mono (calls_args (by with_reducible rfl) (Df1.out _ (M.out.tab HT.out))) ?_) | (refine Calls.mono (calls_args (by with_reducible rfl) (Df2.out _ (M.out.tab HT.out))) ?_) | (refine Calls.mono (calls_args (by with_reducible rfl) (Df3.out _ (M.out.tab HT.out))) ?_) | (refine Calls.mono (calls_args (by with_reducible rfl) (Df4.out _ (M.out.tab HT.out))) ?_)); rintro e w_ ⟨rfl, N_⟩; have m := M.out.join N_; clear N_; simp only [List.cons_append, List.nil_append, List.append_nil] at m; have M := Lib.hid m; clear m) | ((with_reducible refine gate_dst (N := 40) rfl ?_); go_must (refine M.out.ev_bs1 elem_string rfl _ rfl #[.string _] rfl rfl (by decide) ?_); intro g40 w40 m; simp only [List.cons_append, List.nil_append] at m; have M := Lib.hid m; clear m) | ((with_reducible refine gate_dst (N := 41) rfl ?_); go_must (refine M.out.ev_append1 0 2 elem_string rfl _ _ rfl rfl rfl rfl rfl rfl (by simp [Value.oneCell']) (by omega) (by decide) ?_); intro v41 w41 m; simp only [List.set_cons_succ, List.set_cons_zero] at m; have M := Lib.hid m; clear m))
          refine onward_normal (hK _ _ ⟨(M.out.blk 1 rfl), ?_⟩)
          clear hK K
          try simp only [Act.put, List.getElem_toArray, List.getElem_cons_succ, List.getElem_cons_zero, List.setIfInBounds_toArray, List.set_cons_succ, List.set_cons_zero]
          apply takeH (i := 8) 29 rfl (by kernel_rfl) (by kernel_rfl) (by kernel_rfl) (fun _ _ _ h => h) rfl (M.out.blk 1 rfl)
          case' hy => exact yld_cat _ _ _ _ rfl rfl _ _ rfl rfl rfl (by simp only [List.length_append, List.length_cons, List.length_nil]; omega)
          try simp only [Act.put, List.getElem_toArray, List.getElem_cons_succ, List.getElem_cons_zero, List.setIfInBounds_toArray, List.set_cons_succ, List.set_cons_zero]
          apply takeH (i := 9) 30 rfl (by kernel_rfl) (by kernel_rfl) (by kernel_rfl) (fun _ _ _ h => h) rfl (M.out.blk 1 rfl)
          case' hy => exact yld_cat _ _ _ _ rfl rfl _ _ rfl rfl rfl (by simp only [List.length_append, List.length_cons, List.length_nil]; omega)
          try simp only [Act.put, List.getElem_toArray, List.getElem_cons_succ, List.getElem_cons_zero, List.setIfInBounds_toArray, List.set_cons_succ, List.set_cons_zero]
          refine any1H 12 (by kernel_rfl) rfl (fun K hK => ?_)
          go_wp2_with (first | ((with_reducible refine gate_dst (N := 23) rfl ?_); go_must (refine M.out.ev_ld 1 _ _ rfl rfl rfl Tryd.underlying55 rfl rfl (by first | assumption | rfl) ?_)) | ((with_reducible refine gate_dst (N := 25) rfl ?_); go_must (refine ev_cat _ _ _ _ rfl rfl _ _ rfl rfl rfl (by simp only [List.length_append, List.length_cons, List.length_nil]; omega) ?_)) | ((with_reducible refine gate_dst (N := 27) rfl ?_); go_must (refine M.out.ev_ld 1 _ _ rfl rfl rfl Tryd.underlying55 rfl rfl (by first | assumption | rfl) ?_)) | ((with_reducible refine gate_dst (N := 29) rfl ?_); go_must (refine ev_cat _ _ _ _ rfl rfl _ _ rfl rfl rfl (by simp only [List.length_append, List.length_cons, List.length_nil]; omega) ?_)) | ((with_reducible refine gate_dst (N := 30) rfl ?_); go_must (refine ev_cat _ _ _ _ rfl rfl _ _ rfl rfl rfl (by simp only [List.length_append, List.length_cons, List.length_nil]; omega) ?_)) | ((with_reducible refine gate_dst (N := 32) rfl ?_); go_must (refine M.out.ev_ld 1 _ _ rfl rfl rfl Tryd.underlying55 rfl rfl (by first | assumption | rfl) ?_)) | ((with_reducible refine gate_dst (N := 34) rfl ?_); go_must (refine ev_cat _ _ _ _ rfl rfl _ _ rfl rfl rfl (by simp only [List.length_append, List.length_cons, List.length_nil]; omega) ?_)) | ((with_reducible refine gate_dst (N := 35) rfl ?_); go_must (refine ev_cat _ _ _ _ rfl rfl _ _ rfl rfl rfl (by simp only [List.length_append, List.length_cons, List.length_nil]; omega) ?_)) | ((with_reducible refine gate_dst (N := 37) rfl ?_); go_must (refine M.out.ev_ld 1 _ _ rfl rfl rfl Tryd.underlying55 rfl rfl (by first | assumption | rfl) ?_)) | ((with_reducible refine gate_dst (N := 39) rfl ?_); go_must (refine ev_cat _ _ _ _ rfl rfl _ _ rfl rfl rfl (by simp only [List.length_append, List.length_cons, List.length_nil]; omega) ?_)) | (go_at_call 45; go_must (first | (refine Calls.mono (calls_args (by with_reducible rfl) (Df1.out _ (M.out.tab HT.out))) ?_) | (refine Calls.mono (calls_args (by with_reducible rfl) (Df2.out _ (M.out.tab HT.out))) ?_) | (refine Calls.mono (calls_args (by with_reducible rfl) (Df3.out _ (M.out.tab HT.out))) ?_) | (refine Calls.mono (calls_args (by with_reducible rfl) (Df4.out _ (M.out.tab HT.out))) ?_)); rintro e w_ ⟨rfl, N_⟩; have m := M.out.join N_; clear N_; simp only [List.cons_append, List.nil_append, List.append_nil] at m; have M := Lib.hid m; clear m) | ((with_reducible refine gate_dst (N := 40) rfl ?_); go_must (refine M.out.ev_bs1 elem_string rfl _ rfl #[.string _] rfl rfl (by decide) ?_); intro g40 w40 m; simp only [List.cons_append, List.nil_append] at m; have M := Lib.hid m; clear m) | ((with_reducible refine gate_dst (N := 41) rfl ?_); go_must (refine M.out.ev_append1 0 2 elem_string rfl _ _ rfl rfl rfl rfl rfl rfl (by simp [Value.oneCell']) (by omega) (by decide) ?_); intro v41 w41 m; simp only [List.set_cons_succ, List.set_cons_zero] at m; have M := Lib.hid m; clear m))
          refine onward_normal (hK _ _ ⟨(M.out.blk 1 rfl), ?_⟩)
          clear hK K
          try simp only [Act.put, List.getElem_toArray, List.getElem_cons_succ, List.getElem_cons_zero, List.setIfInBounds_toArray, List.set_cons_succ, List.set_cons_zero]
          apply takeH (i := 13) 34 rfl (by kernel_rfl) (by kernel_rfl) (by kernel_rfl) (fun _ _ _ h => h) rfl (M.out.blk 1 rfl)
          case' hy => exact yld_cat _ _ _ _ rfl rfl _ _ rfl rfl rfl (by simp only [List.length_append, List.length_cons, List.length_nil]; omega)
          try simp only [Act.put, List.getElem_toArray, List.getElem_cons_succ, List.getElem_cons_zero, List.setIfInBounds_toArray, List.set_cons_succ, List.set_cons_zero]
          apply takeH (i := 14) 35 rfl (by kernel_rfl) (by kernel_rfl) (by kernel_rfl) (fun _ _ _ h => h) rfl (M.out.blk 1 rfl)
          case' hy => exact yld_cat _ _ _ _ rfl rfl _ _ rfl rfl rfl (by simp only [List.length_append, List.length_cons, List.length_nil]; omega)
          try simp only [Act.put, List.getElem_toArray, List.getElem_cons_succ, List.getElem_cons_zero, List.setIfInBounds_toArray, List.set_cons_succ, List.set_cons_zero]
          refine any1H 17 (by kernel_rfl) rfl (fun K hK => ?_)
          go_wp2_with (first | ((with_reducible refine gate_dst (N := 23) rfl ?_); go_must (refine M.out.ev_ld 1 _ _ rfl rfl rfl Tryd.underlying55 rfl rfl (by first | assumption | rfl) ?_)) | ((with_reducible refine gate_dst (N := 25) rfl ?_); go_must (refine ev_cat _ _ _ _ rfl rfl _ _ rfl rfl rfl (by simp only [List.length_append, List.length_cons, List.length_nil]; omega) ?_)) | ((with_reducible refine gate_dst (N := 27) rfl ?_); go_must (refine M.out.ev_ld 1 _ _ rfl rfl rfl Tryd.underlying55 rfl rfl (by first | assumption | rfl) ?_)) | ((with_reducible refine gate_dst (N := 29) rfl ?_); go_must (refine ev_cat _ _ _ _ rfl rfl _ _ rfl rfl rfl (by simp only [List.length_append, List.length_cons, List.length_nil]; omega) ?_)) | ((with_reducible refine gate_dst (N := 30) rfl ?_); go_must (refine ev_cat _ _ _ _ rfl rfl _ _ rfl rfl rfl (by simp only [List.length_append, List.length_cons, List.length_nil]; omega) ?_)) | ((with_reducible refine gate_dst (N := 32) rfl ?_); go_must (refine M.out.ev_ld 1 _ _ rfl rfl rfl Tryd.underlying55 rfl rfl (by first | assumption | rfl) ?_)) | ((with_reducible refine gate_dst (N := 34) rfl ?_); go_must (refine ev_cat _ _ _ _ rfl rfl _ _ rfl rfl rfl (by simp only [List.length_append, List.length_cons, List.length_nil]; omega) ?_)) | ((with_reducible refine gate_dst (N := 35) rfl ?_); go_must (refine ev_cat _ _ _ _ rfl rfl _ _ rfl rfl rfl (by simp only [List.length_append, List.length_cons, List.length_nil]; omega) ?_)) | ((with_reducible refine gate_dst (N := 37) rfl ?_); go_must (refine M.out.ev_ld 1 _ _ rfl rfl rfl Tryd.underlying55 rfl rfl (by first | assumption | rfl) ?_)) | ((with_reducible refine gate_dst (N := 39) rfl ?_); go_must (refine ev_cat _ _ _ _ rfl rfl _ _ rfl rfl rfl (by simp only [List.length_append, List.length_cons, List.length_nil]; omega) ?_)) | (go_at_call 45; go_must (first | (refine Calls.mono (calls_args (by with_reducible rfl) (Df1.out _ (M.out.tab HT.out))) ?_) | (refine Calls.mono (calls_args (by with_reducible rfl) (Df2.out _ (M.out.tab HT.out))) ?_) | (refine Calls.mono (calls_args (by with_reducible rfl) (Df3.out _ (M.out.tab HT.out))) ?_) | (refine Calls.mono (calls_args (by with_reducible rfl) (Df4.out _ (M.out.tab HT.out))) ?_)); rintro e w_ ⟨rfl, N_⟩; have m := M.out.join N_; clear N_; simp only [List.cons_append, List.nil_append, List.append_nil] at m; have M := Lib.hid m; clear m) | ((with_reducible refine gate_dst (N := 40) rfl ?_); go_must (refine M.out.ev_bs1 elem_string rfl _ rfl #[.string _] rfl rfl (by decide) ?_); intro g40 w40 m; simp only [List.cons_append, List.nil_append] at m; have M := Lib.hid m; clear m) | ((with_reducible refine gate_dst (N := 41) rfl ?_); go_must (refine M.out.ev_append1 0 2 elem_string rfl _ _ rfl rfl rfl rfl rfl rfl (by simp [Value.oneCell']) (by omega) (by decide) ?_); intro v41 w41 m; simp only [List.set_cons_succ, List.set_cons_zero] at m; have M := Lib.hid m; clear m))
          refine onward_normal (hK _ _ ⟨(M.out.blk 1 rfl), ?_⟩)
          clear hK K
          try simp only [Act.put, List.getElem_toArray, List.getElem_cons_succ, List.getElem_cons_zero, List.setIfInBounds_toArray, List.set_cons_succ, List.set_cons_zero]
          apply takeH (i := 18) 39 rfl (by kernel_rfl) (by kernel_rfl) (by kernel_rfl) (fun _ _ _ h => h) rfl (M.out.blk 1 rfl)
          case' hy => exact yld_cat _ _ _ _ rfl rfl _ _ rfl rfl rfl (by simp only [List.length_append, List.length_cons, List.length_nil]; omega)
          try simp only [Act.put, List.getElem_toArray, List.getElem_cons_succ, List.getElem_cons_zero, List.setIfInBounds_toArray, List.set_cons_succ, List.set_cons_zero]
          refine any1H 19 (by kernel_rfl) rfl (fun K hK => ?_)
          go_wp2_with (first | ((with_reducible refine gate_dst (N := 23) rfl ?_); go_must (refine M.out.ev_ld 1 _ _ rfl rfl rfl Tryd.underlying55 rfl rfl (by first | assumption | rfl) ?_)) | ((with_reducible refine gate_dst (N := 25) rfl ?_); go_must (refine ev_cat _ _ _ _ rfl rfl _ _ rfl rfl rfl (by simp only [List.length_append, List.length_cons, List.length_nil]; omega) ?_)) | ((with_reducible refine gate_dst (N := 27) rfl ?_); go_must (refine M.out.ev_ld 1 _ _ rfl rfl rfl Tryd.underlying55 rfl rfl (by first | assumption | rfl) ?_)) | ((with_reducible refine gate_dst (N := 29) rfl ?_); go_must (refine ev_cat _ _ _ _ rfl rfl _ _ rfl rfl rfl (by simp only [List.length_append, List.length_cons, List.length_nil]; omega) ?_)) | ((with_reducible refine gate_dst (N := 30) rfl ?_); go_must (refine ev_cat _ _ _ _ rfl rfl _ _ rfl rfl rfl (by simp only [List.length_append, List.length_cons, List.length_nil]; omega) ?_)) | ((with_reducible refine gate_dst (N := 32) rfl ?_); go_must (refine M.out.ev_ld 1 _ _ rfl rfl rfl Tryd.underlying55 rfl rfl (by first | assumption | rfl) ?_)) | ((with_reducible refine gate_dst (N := 34) rfl ?_); go_must (refine ev_cat _ _ _ _ rfl rfl _ _ rfl rfl rfl (by simp only [List.length_append, List.length_cons, List.length_nil]; omega) ?_)) | ((with_reducible refine gate_dst (N := 35) rfl ?_); go_must (refine ev_cat _ _ _ _ rfl rfl _ _ rfl rfl rfl (by simp only [List.length_append, List.length_cons, List.length_nil]; omega) ?_)) | ((with_reducible refine gate_dst (N := 37) rfl ?_); go_must (refine M.out.ev_ld 1 _ _ rfl rfl rfl Tryd.underlying55 rfl rfl (by first | assumption | rfl) ?_)) | ((with_reducible refine gate_dst (N := 39) rfl ?_); go_must (refine ev_cat _ _ _ _ rfl rfl _ _ rfl rfl rfl (by simp only [List.length_append, List.length_cons, List.length_nil]; omega) ?_)) | (go_at_call 45; go_must (first | (refine Calls.mono (calls_args (by with_reducible rfl) (Df1.out _ (M.out.tab HT.out))) ?_) | (refine Calls.mono (calls_args (by with_reducible rfl) (Df2.out _ (M.out.tab HT.out))) ?_) | (refine Calls.mono (calls_args (by with_reducible rfl) (Df3.out _ (M.out.tab HT.out))) ?_) | (refine Calls.mono (calls_args (by with_reducible rfl) (Df4.out _ (M.out.tab HT.out))) ?_)); rintro e w_ ⟨rfl, N_⟩; have m := M.out.join N_; clear N_; simp only [List.cons_append, List.nil_append, List.append_nil] at m; have M := Lib.hid m; clear m) | ((with_reducible refine gate_dst (N := 40) rfl ?_); go_must (refine M.out.ev_bs1 elem_string rfl _ rfl #[.string _] rfl rfl (by decide) ?_); intro g40 w40 m; simp only [List.cons_append, List.nil_append] at m; have M := Lib.hid m; clear m) | ((with_reducible refine gate_dst (N := 41) rfl ?_); go_must (refine M.out.ev_append1 0 2 elem_string rfl _ _ rfl rfl rfl rfl rfl rfl (by simp [Value.oneCell']) (by omega) (by decide) ?_); intro v41 w41 m; simp only [List.set_cons_succ, List.set_cons_zero] at m; have M := Lib.hid m; clear m))
          refine onward_normal (hK _ _ ⟨(M.out.blk 1 rfl), ?_⟩)
          clear hK K
          try simp only [Act.put, List.getElem_toArray, List.getElem_cons_succ, List.getElem_cons_zero, List.setIfInBounds_toArray, List.set_cons_succ, List.set_cons_zero]
          refine any1H 20 (by kernel_rfl) rfl (fun K hK => ?_)
          go_wp2_with (first | ((with_reducible refine gate_dst (N := 23) rfl ?_); go_must (refine M.out.ev_ld 1 _ _ rfl rfl rfl Tryd.underlying55 rfl rfl (by first | assumption | rfl) ?_)) | ((with_reducible refine gate_dst (N := 25) rfl ?_); go_must (refine ev_cat _ _ _ _ rfl rfl _ _ rfl rfl rfl (by simp only [List.length_append, List.length_cons, List.length_nil]; omega) ?_)) | ((with_reducible refine gate_dst (N := 27) rfl ?_); go_must (refine M.out.ev_ld 1 _ _ rfl rfl rfl Tryd.underlying55 rfl rfl (by first | assumption | rfl) ?_)) | ((with_reducible refine gate_dst (N := 29) rfl ?_); go_must (refine ev_cat _ _ _ _ rfl rfl _ _ rfl rfl rfl (by simp only [List.length_append, List.length_cons, List.length_nil]; omega) ?_)) | ((with_reducible refine gate_dst (N := 30) rfl ?_); go_must (refine ev_cat _ _ _ _ rfl rfl _ _ rfl rfl rfl (by simp only [List.length_append, List.length_cons, List.length_nil]; omega) ?_)) | ((with_reducible refine gate_dst (N := 32) rfl ?_); go_must (refine M.out.ev_ld 1 _ _ rfl rfl rfl Tryd.underlying55 rfl rfl (by first | assumption | rfl) ?_)) | ((with_reducible refine gate_dst (N := 34) rfl ?_); go_must (refine ev_cat _ _ _ _ rfl rfl _ _ rfl rfl rfl (by simp only [List.length_append, List.length_cons, List.length_nil]; omega) ?_)) | ((with_reducible refine gate_dst (N := 35) rfl ?_); go_must (refine ev_cat _ _ _ _ rfl rfl _ _ rfl rfl rfl (by simp only [List.length_append, List.length_cons, List.length_nil]; omega) ?_)) | ((with_reducible refine gate_dst (N := 37) rfl ?_); go_must (refine M.out.ev_ld 1 _ _ rfl rfl rfl Tryd.underlying55 rfl rfl (by first | assumption | rfl) ?_)) | ((with_reducible refine gate_dst (N := 39) rfl ?_); go_must (refine ev_cat _ _ _ _ rfl rfl _ _ rfl rfl rfl (by simp only [List.length_append, List.length_cons, List.length_nil]; omega) ?_)) | (go_at_call 45; go_must (first | (refine Calls.mono (calls_args (by with_reducible rfl) (Df1.out _ (M.out.tab HT.out))) ?_) | (refine Calls.mono (calls_args (by with_reducible rfl) (Df2.out _ (M.out.tab HT.out))) ?_) | (refine Calls.mono (calls_args (by with_reducible rfl) (Df3.out _ (M.out.tab HT.out))) ?_) | (refine Calls.mono (calls_args (by with_reducible rfl) (Df4.out _ (M.out.tab HT.out))) ?_)); rintro e w_ ⟨rfl, N_⟩; have m := M.out.join N_; clear N_; simp only [List.cons_append, List.nil_append, List.append_nil] at m; have M := Lib.hid m; clear m) | ((with_reducible refine gate_dst (N := 40) rfl ?_); go_must (refine M.out.ev_bs1 elem_string rfl _ rfl #[.string _] rfl rfl (by decide) ?_); intro g40 w40 m; simp only [List.cons_append, List.nil_append] at m; have M := Lib.hid m; clear m) | ((with_reducible refine gate_dst (N := 41) rfl ?_); go_must (refine M.out.ev_append1 0 2 elem_string rfl _ _ rfl rfl rfl rfl rfl rfl (by simp [Value.oneCell']) (by omega) (by decide) ?_); intro v41 w41 m; simp only [List.set_cons_succ, List.set_cons_zero] at m; have M := Lib.hid m; clear m))
          refine onward_normal (hK _ _ ⟨(M.out.blk 1 rfl), ?_⟩)
          clear hK K
          try simp only [Act.put, List.getElem_toArray, List.getElem_cons_succ, List.getElem_cons_zero, List.setIfInBounds_toArray, List.set_cons_succ, List.set_cons_zero]
          apply takeH (i := 21) 3 rfl (by kernel_rfl) (by kernel_rfl) (by kernel_rfl) (fun _ _ _ h => h) rfl (M.out.blk 1 rfl)
          case' hy =>
            refine Or.inl ⟨by first | rfl | (go_simp; done), ?_⟩
            intro w hS
            clear hS
            go_simp
            try with_reducible rfl
          try simp only [Act.put, List.getElem_toArray, List.getElem_cons_succ, List.getElem_cons_zero, List.setIfInBounds_toArray, List.set_cons_succ, List.set_cons_zero]
          refine wpAnyH_done (by kernel_rfl) ?_ _
          all_goals
            go_wp2
            refine ⟨⟨k + 1, by omega, by go_num, allT_succ hlt HE.out HFN.out, fun _ => h9, ?_⟩, by simp [intOf]; omega⟩
            have m := M.out.take 1
            rw [HSU.out, flat_snoc, HW.out]
            simp only [List.append_assoc, List.cons_append, List.nil_append] at m ⊢
            exact m
        · have i9 : (20 : Int) < (xs.length : Int) := by omega
          have HD := Lib.hid (show netsT xs = [] by
            unfold netsT
            rw [if_neg h9]
            split <;> rfl)
          clear h100
          go_wp2_with (first
            | ((with_reducible refine gate_dst (N := 12) rfl ?_); go_must (refine ev_ldr _ _ rfl rfl (M.out.argT R.out) Tryd.underlying85 rfl (by first | exact sz85 | (rw [S1.out]; exact sz85)) rfl ?_))
            | ((with_reducible refine gate_dst (N := 5) rfl ?_); go_must (refine M.out.ev_new rfl (by first | (go_simp; done) | (go_simp; rfl)) ?_); intro g5 w5 m; simp only [List.cons_append, List.nil_append] at m; have M := Lib.hid m; clear m; try have q1_0 := M.out.cell (j := 0) 1 rfl (by first | assumption | rfl); try have q1_1 := M.out.cell (j := 1) 1 rfl (by first | assumption | rfl); try have q1_2 := M.out.cell (j := 2) 1 rfl (by first | assumption | rfl); try have q1_3 := M.out.cell (j := 3) 1 rfl (by first | assumption | rfl))
            | ((with_reducible refine gate_store (x := .tmp 5) rfl ?_); go_must (refine M.out.ev_stw 1 _ _ _ rfl rfl rfl rfl _ rfl (by first | rfl | (simp only [S1.out]; rfl) | (simp only [S1.out, S2.out]; rfl) | (simp only [S3.out]; rfl) | (simp only [S1.out, S2.out, S3.out]; rfl)) (by first | exact sz85 | (rw [S1.out]; exact sz85) | (rw [S2.out]; exact sz85) | (rw [S3.out]; exact sz85)) (by first | exact ints_one _ _ | exact Fld.one _ | exact O1.out | exact Net.one _ | rfl | (simp [Value.oneCell']; done)) rfl ?_); intro wn m; simp only [List.set_cons_succ, List.set_cons_zero, List.setIfInBounds_toArray] at m; have M := Lib.hid m; clear m; try have q1_0 := M.out.cell (j := 0) 1 rfl (by first | assumption | rfl); try have q1_1 := M.out.cell (j := 1) 1 rfl (by first | assumption | rfl); try have q1_2 := M.out.cell (j := 2) 1 rfl (by first | assumption | rfl); try have q1_3 := M.out.cell (j := 3) 1 rfl (by first | assumption | rfl))
            | ((with_reducible refine gate_dst (N := 13) rfl ?_); go_must (refine M.out.ev_ldw 1 _ _ rfl rfl rfl Tryd.underlying85 rfl (by first | exact sz85 | (rw [S1.out]; exact sz85) | (rw [S2.out]; exact sz85) | (rw [S3.out]; exact sz85)) rfl ?_))
            | ((with_reducible refine gate_dst (N := 23) rfl ?_); go_must (refine M.out.ev_ld 1 _ _ rfl rfl rfl Tryd.underlying55 rfl rfl (by first | assumption | rfl) ?_))
            | ((with_reducible refine gate_dst (N := 25) rfl ?_); go_must (refine ev_cat _ _ _ _ rfl rfl _ _ rfl rfl rfl (by simp only [List.length_append, List.length_cons, List.length_nil]; omega) ?_))
            | ((with_reducible refine gate_dst (N := 27) rfl ?_); go_must (refine M.out.ev_ld 1 _ _ rfl rfl rfl Tryd.underlying55 rfl rfl (by first | assumption | rfl) ?_))
            | ((with_reducible refine gate_dst (N := 29) rfl ?_); go_must (refine ev_cat _ _ _ _ rfl rfl _ _ rfl rfl rfl (by simp only [List.length_append, List.length_cons, List.length_nil]; omega) ?_))
            | ((with_reducible refine gate_dst (N := 30) rfl ?_); go_must (refine ev_cat _ _ _ _ rfl rfl _ _ rfl rfl rfl (by simp only [List.length_append, List.length_cons, List.length_nil]; omega) ?_))
            | ((with_reducible refine gate_dst (N := 32) rfl ?_); go_must (refine M.out.ev_ld 1 _ _ rfl rfl rfl Tryd.underlying55 rfl rfl (by first | assumption | rfl) ?_))
            | ((with_reducible refine gate_dst (N := 34) rfl ?_); go_must (refine ev_cat _ _ _ _ rfl rfl _ _ rfl rfl rfl (by simp only [List.length_append, List.length_cons, List.length_nil]; omega) ?_))
            | ((with_reducible refine gate_dst (N := 35) rfl ?_); go_must (refine ev_cat _ _ _ _ rfl rfl _ _ rfl rfl rfl (by simp only [List.length_append, List.length_cons, List.length_nil]; omega) ?_))
            | ((with_reducible refine gate_dst (N := 37) rfl ?_); go_must (refine M.out.ev_ld 1 _ _ rfl rfl rfl Tryd.underlying55 rfl rfl (by first | assumption | rfl) ?_))
            | ((with_reducible refine gate_dst (N := 39) rfl ?_); go_must (refine ev_cat _ _ _ _ rfl rfl _ _ rfl rfl rfl (by simp only [List.length_append, List.length_cons, List.length_nil]; omega) ?_))
            | (go_at_call 51; go_must (refine (isPlainN_any _ HO.out _).mono ?_); rintro e w_ ⟨rfl, N_⟩; have m := M.out.join N_; clear N_; simp only [List.cons_append, List.nil_append, List.append_nil] at m; have M := Lib.hid m; clear m; rw [HFN.out])
            )
          go_ret
          exact ⟨by rw [HD.out]; rfl, M.out.take 0⟩
    · obtain rfl : k = xs.length := by omega
      have i1 : ¬ ((xs.length : Int) < (xs.length : Int)) := by omega
      have HA := Lib.hid (allT_of HE.out)
      have HD := Lib.hid (show netsT xs = joinS 32 (xs.map Net.word) by
        rw [netsT, if_pos HA.out]
        rcases Nat.eq_zero_or_pos xs.length with h | h
        · rw [if_pos (by omega)]
        · rw [if_pos (h100 h)])
      have HN : xs.length ≤ 20 := by
        rcases Nat.eq_zero_or_pos xs.length with h | h
        · omega
        · exact h100 h
      have m := M.out
      rw [show (xs.map Net.word).take xs.length = xs.map Net.word from List.take_of_length_le (by simp)] at m
      obtain ⟨B, cp, rfl, hc, _⟩ := m.row_slice 0 rfl
      have hsl : (strsOf (xs.map Net.word)).length = xs.length := by rw [strsOf_len, List.length_map]
      have JO := Lib.hid (fun w1 (M : Mem w w1 [.row (.slice B (strsOf (xs.map Net.word)).length cp) 9 1 (strsOf (xs.map Net.word)).length (flat oneS (strsOf (xs.map Net.word)))]) => Join_any M 0 rfl ⟨#[32]⟩ (by rw [hsl]; omega) (by
        rw [strsOf_join]
        have := netsT_len HX.out (k := xs.length) (by omega)
        rw [show wordsT (xs.map Net.word) xs.length = joinS 32 (xs.map Net.word) by have := wordsT_all (xs.map Net.word); rwa [List.length_map] at this] at this
        omega))
      rw [hsl, strsOf_join] at JO
      have M := Lib.hid m
      clear m h100 HE hsl
      go_wp2_with (first
        | (go_at_call 46; go_must (refine (JO.out _ M.out).mono ?_); rintro e w_ ⟨rfl, N_⟩; have m := M.out.join N_; clear N_; simp only [List.cons_append, List.nil_append, List.append_nil] at m; have M := Lib.hid m; clear m)
        )
      go_ret
      exact ⟨by rw [HD.out]; rfl, M.out.take 0⟩
end Go.Proofs.YtifacledmmpnkaaDoor
