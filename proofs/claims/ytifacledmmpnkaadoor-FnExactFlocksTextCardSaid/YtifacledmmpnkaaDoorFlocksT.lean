/- The text of FlocksText: the walks of both. -/
import Derived.Test.YtifacledmmpnkaaDoorTextP
import Derived.Test.YtifacledmmpnkaaDoorDec
import Derived.Test.YtifacledmmpnkaaDoorBirds
namespace Go.Proofs.YtifacledmmpnkaaDoor
set_option linter.unusedSimpArgs false
set_option linter.unusedVariables false
open Go.RowKit
attribute [local go_sem] cell?_mk frozen?_mk
--ONES exact Flock.one _

theorem Flock.word_join (x : Flock) : joinS 47 (x.nums.map dec) = x.word := by simp [joinS, Flock.nums, Flock.word]
theorem Flock.nums_b {x : Flock} (h : x.ok) (j : Nat) : -32768 ≤ gi x.nums j ∧ gi x.nums j ≤ 32767 := by
  have h0 := h.tree; have h1 := h.birds; have h2 := h.eats; have h3 := h.bold; have h4 := h.reach; have h5 := h.taste
  match j with
  | 0 => exact h0
  | 1 => exact h1
  | 2 => exact h2
  | 3 => exact h3
  | 4 => exact h4
  | 5 => exact ⟨by show -32768 ≤ x.taste; omega, by show x.taste ≤ 32767; omega⟩
  | j + 6 => exact ⟨by show (-32768 : Int) ≤ 0; omega, by show (0 : Int) ≤ 32767; omega⟩
def flocksT (xs : List Flock) : List UInt8 := if xs.all Flock.plain = true then if xs.length ≤ 12 then joinS 32 (xs.map Flock.word) else [] else []
theorem flocksT_len {xs : List Flock} (hx : ∀ x ∈ xs, x.ok) {k : Nat} (hk : k ≤ 1048576) : (wordsT (xs.map Flock.word) k).length ≤ 1000000000 := wordsT_len (fun w hw => by
  obtain ⟨x, h1, rfl⟩ := List.mem_map.1 hw
  exact Flock.word_len (hx x h1)) hk
set_option maxRecDepth 100000 in
set_option maxHeartbeats 8000000 in
theorem l02Text_any (A : Option Addr) (n : Nat) (xs : List Flock) (hx : ∀ x ∈ xs, x.ok) (hp : ∀ x ∈ xs, x.plain = true) (hl : xs.length ≤ 12) (w : World) (hs : Sl w 6 A xs.length (flat Flock.vals xs)) :
    Calls Tryd.prog 54 #[.slice A xs.length n] w fun e w' => e = .returned (.string ⟨(joinS 32 (xs.map Flock.word)).toArray⟩) ∧ Mem w w' [] := by
  have M := Lib.hid (Mem.start w)
  have HX := Lib.hid hx
  have HP := Lib.hid hp
  have HS := Lib.hid hs
  clear hx hp hs
  go_enter Tryd.func54, Tryd.ntmps54
  go_wp2
  go_loopw [3, 4] (fun s v wr => ∃ k : Nat, k ≤ xs.length ∧ v = .int .i64 k ∧ s = .string ⟨(wordsT (xs.map Flock.word) k).toArray⟩ ∧ Mem w wr [])
    (fun _ v _ => xs.length - (intOf v).toNat)
  case atStart => exact ⟨0, by omega, rfl, by rw [wordsT_0], M.out⟩
  case round =>
    clear M
    obtain ⟨k, hk, rfl, rfl, m⟩ := hrel
    have M := Lib.hid m
    clear m
    by_cases hlt : k < xs.length
    · obtain ⟨b, off, rfl, hr⟩ := (M.out.sl HS.out).2 (by omega)
      have R := Lib.hid (range_at Flock.vl hr (List.getElem?_eq_getElem hlt))
      have HFN := Lib.hid (HP.out _ (List.getElem_mem hlt))
      have lo := flocksT_len HX.out (k := k) (by omega)
      have i0 : (0 : Int) ≤ (k : Int) := by omega
      have i1 : (k : Int) < (xs.length : Int) := by omega
      have hpl := HFN.out
      rw [Flock.plain_eq] at hpl
      simp only [Bool.and_eq_true] at hpl
      obtain ⟨p0, p1, p2, p3, p4, p5⟩ := hpl
      have q0 := inB_iff.1 p0
      have q1 := inB_iff.1 p1
      have q2 := inB_iff.1 p2
      have q3 := inB_iff.1 p3
      have q4 := inB_iff.1 p4
      have q5 := inB_iff.1 p5
      have HW := Lib.hid (show xs[k].word = dec xs[k].tree ++ [47] ++ dec xs[k].birds ++ [47] ++ dec xs[k].eats ++ [47] ++ dec xs[k].bold ++ [47] ++ dec xs[k].reach ++ [47] ++ dec xs[k].taste from rfl)
      have HV := Lib.hid (show xs[k].vals.toArray = #[.int .i16 xs[k].tree, .int .i16 xs[k].birds, .int .i16 xs[k].eats, .int .i16 xs[k].bold, .int .i16 xs[k].reach, .int .i8 xs[k].taste] from rfl)
      obtain ⟨f1, hf1⟩ := Int.eq_ofNat_of_zero_le (show 0 ≤ xs[k].tree by omega)
      rw [hf1] at q0 HW HV
      rw [dec_nat] at HW
      obtain ⟨f2, hf2⟩ := Int.eq_ofNat_of_zero_le (show 0 ≤ xs[k].birds by omega)
      rw [hf2] at q1 HW HV
      rw [dec_nat] at HW
      obtain ⟨f3, hf3⟩ := Int.eq_ofNat_of_zero_le (show 0 ≤ xs[k].eats by omega)
      rw [hf3] at q2 HW HV
      rw [dec_nat] at HW
      obtain ⟨f4, hf4⟩ := Int.eq_ofNat_of_zero_le (show 0 ≤ xs[k].bold by omega)
      rw [hf4] at q3 HW HV
      rw [dec_nat] at HW
      obtain ⟨f5, hf5⟩ := Int.eq_ofNat_of_zero_le (show 0 ≤ xs[k].reach by omega)
      rw [hf5] at q4 HW HV
      rw [dec_nat] at HW
      obtain ⟨f6, hf6⟩ := Int.eq_ofNat_of_zero_le (show 0 ≤ xs[k].taste by omega)
      rw [hf6] at q5 HW HV
      rw [dec_nat] at HW
      have Df1 := Lib.hid (Decimal_any f1 (by omega))
      have lf1 := dec_len (n := f1) (by omega)
      have ef1 : IntKind.i64.wrap (f1 : Int) = (f1 : Int) := IntWalk.i64_in _ (by omega)
      have Df2 := Lib.hid (Decimal_any f2 (by omega))
      have lf2 := dec_len (n := f2) (by omega)
      have ef2 : IntKind.i64.wrap (f2 : Int) = (f2 : Int) := IntWalk.i64_in _ (by omega)
      have Df3 := Lib.hid (Decimal_any f3 (by omega))
      have lf3 := dec_len (n := f3) (by omega)
      have ef3 : IntKind.i64.wrap (f3 : Int) = (f3 : Int) := IntWalk.i64_in _ (by omega)
      have Df4 := Lib.hid (Decimal_any f4 (by omega))
      have lf4 := dec_len (n := f4) (by omega)
      have ef4 : IntKind.i64.wrap (f4 : Int) = (f4 : Int) := IntWalk.i64_in _ (by omega)
      have Df5 := Lib.hid (Decimal_any f5 (by omega))
      have lf5 := dec_len (n := f5) (by omega)
      have ef5 : IntKind.i64.wrap (f5 : Int) = (f5 : Int) := IntWalk.i64_in _ (by omega)
      have Df6 := Lib.hid (Decimal_any f6 (by omega))
      have lf6 := dec_len (n := f6) (by omega)
      have ef6 : IntKind.i64.wrap (f6 : Int) = (f6 : Int) := IntWalk.i64_in _ (by omega)
      obtain ⟨Sf1, hSf1⟩ : ∃ O, O = Lib.decDigits f1 := ⟨_, rfl⟩
      rw [← hSf1] at lf1 Df1 HW
      obtain ⟨Sf2, hSf2⟩ : ∃ O, O = Lib.decDigits f2 := ⟨_, rfl⟩
      rw [← hSf2] at lf2 Df2 HW
      obtain ⟨Sf3, hSf3⟩ : ∃ O, O = Lib.decDigits f3 := ⟨_, rfl⟩
      rw [← hSf3] at lf3 Df3 HW
      obtain ⟨Sf4, hSf4⟩ : ∃ O, O = Lib.decDigits f4 := ⟨_, rfl⟩
      rw [← hSf4] at lf4 Df4 HW
      obtain ⟨Sf5, hSf5⟩ : ∃ O, O = Lib.decDigits f5 := ⟨_, rfl⟩
      rw [← hSf5] at lf5 Df5 HW
      obtain ⟨Sf6, hSf6⟩ : ∃ O, O = Lib.decDigits f6 := ⟨_, rfl⟩
      rw [← hSf6] at lf6 Df6 HW
      clear hf1 hf2 hf3 hf4 hf5 hf6 hSf1 hSf2 hSf3 hSf4 hSf5 hSf6
      clear hr
      by_cases k0 : k = 0
      · have i2 : ¬ ((0 : Int) < (k : Int)) := by omega
        have HO := Lib.hid (wordsT_next0 Flock.word hlt k0)
        have K0 := Lib.hid k0
        clear k0
        obtain ⟨O, hO⟩ : ∃ O, O = wordsT (xs.map Flock.word) k := ⟨_, rfl⟩
        rw [← hO] at HO lo ⊢
        clear hO
        go_wp2_with (first
          | ((with_reducible refine gate_dst (N := 19) rfl ?_); go_must (refine ev_ldr _ _ rfl rfl (R.out) Tryd.underlying91 rfl (by first | exact sz91 | (rw [S1.out]; exact sz91)) rfl ?_))
          | ((with_reducible refine gate_dst (N := 15) rfl ?_); go_must (refine ev_cat _ _ _ _ rfl rfl _ _ rfl rfl rfl (by simp only [List.length_append, List.length_cons, List.length_nil]; omega) ?_))
          | ((with_reducible refine gate_dst (N := 5) rfl ?_); go_must (refine M.out.ev_new rfl (by first | (go_simp; done) | (go_simp; rfl)) ?_); intro g5 w5 m; simp only [List.cons_append, List.nil_append] at m; have M := Lib.hid m; clear m; try have q0_0 := M.out.cell (j := 0) 0 rfl (by first | assumption | rfl); try have q0_1 := M.out.cell (j := 1) 0 rfl (by first | assumption | rfl); try have q0_2 := M.out.cell (j := 2) 0 rfl (by first | assumption | rfl); try have q0_3 := M.out.cell (j := 3) 0 rfl (by first | assumption | rfl); try have q0_4 := M.out.cell (j := 4) 0 rfl (by first | assumption | rfl); try have q0_5 := M.out.cell (j := 5) 0 rfl (by first | assumption | rfl))
          | ((with_reducible refine gate_store (x := .tmp 5) rfl ?_); go_must (refine M.out.ev_stw 0 _ _ _ rfl rfl rfl rfl _ rfl (by first | rfl | (simp only [S1.out]; rfl) | (simp only [S1.out, S2.out]; rfl) | (simp only [S3.out]; rfl) | (simp only [S1.out, S2.out, S3.out]; rfl)) (by first | exact sz91 | (rw [S1.out]; exact sz91) | (rw [S2.out]; exact sz91) | (rw [S3.out]; exact sz91)) (by first | exact ints_one _ _ | exact Fld.one _ | exact O1.out | exact Flock.one _ | rfl | (simp [Value.oneCell']; done)) rfl ?_); intro wn m; simp only [List.set_cons_succ, List.set_cons_zero, List.setIfInBounds_toArray] at m; have M := Lib.hid m; clear m; try have q0_0 := M.out.cell (j := 0) 0 rfl (by first | assumption | rfl); try have q0_1 := M.out.cell (j := 1) 0 rfl (by first | assumption | rfl); try have q0_2 := M.out.cell (j := 2) 0 rfl (by first | assumption | rfl); try have q0_3 := M.out.cell (j := 3) 0 rfl (by first | assumption | rfl); try have q0_4 := M.out.cell (j := 4) 0 rfl (by first | assumption | rfl); try have q0_5 := M.out.cell (j := 5) 0 rfl (by first | assumption | rfl))
          | ((with_reducible refine gate_dst (N := 22) rfl ?_); go_must (refine M.out.ev_ld 0 _ _ rfl rfl rfl Tryd.underlying56 rfl rfl (by first | assumption | rfl) ?_))
          | ((with_reducible refine gate_dst (N := 25) rfl ?_); go_must (refine ev_cat _ _ _ _ rfl rfl _ _ rfl rfl rfl (by simp only [List.length_append, List.length_cons, List.length_nil]; omega) ?_))
          | ((with_reducible refine gate_dst (N := 27) rfl ?_); go_must (refine M.out.ev_ld 0 _ _ rfl rfl rfl Tryd.underlying56 rfl rfl (by first | assumption | rfl) ?_))
          | ((with_reducible refine gate_dst (N := 30) rfl ?_); go_must (refine ev_cat _ _ _ _ rfl rfl _ _ rfl rfl rfl (by simp only [List.length_append, List.length_cons, List.length_nil]; omega) ?_))
          | ((with_reducible refine gate_dst (N := 31) rfl ?_); go_must (refine ev_cat _ _ _ _ rfl rfl _ _ rfl rfl rfl (by simp only [List.length_append, List.length_cons, List.length_nil]; omega) ?_))
          | ((with_reducible refine gate_dst (N := 33) rfl ?_); go_must (refine M.out.ev_ld 0 _ _ rfl rfl rfl Tryd.underlying56 rfl rfl (by first | assumption | rfl) ?_))
          | ((with_reducible refine gate_dst (N := 36) rfl ?_); go_must (refine ev_cat _ _ _ _ rfl rfl _ _ rfl rfl rfl (by simp only [List.length_append, List.length_cons, List.length_nil]; omega) ?_))
          | ((with_reducible refine gate_dst (N := 37) rfl ?_); go_must (refine ev_cat _ _ _ _ rfl rfl _ _ rfl rfl rfl (by simp only [List.length_append, List.length_cons, List.length_nil]; omega) ?_))
          | ((with_reducible refine gate_dst (N := 40) rfl ?_); go_must (refine M.out.ev_ld 0 _ _ rfl rfl rfl Tryd.underlying56 rfl rfl (by first | assumption | rfl) ?_))
          | ((with_reducible refine gate_dst (N := 43) rfl ?_); go_must (refine ev_cat _ _ _ _ rfl rfl _ _ rfl rfl rfl (by simp only [List.length_append, List.length_cons, List.length_nil]; omega) ?_))
          | ((with_reducible refine gate_dst (N := 44) rfl ?_); go_must (refine ev_cat _ _ _ _ rfl rfl _ _ rfl rfl rfl (by simp only [List.length_append, List.length_cons, List.length_nil]; omega) ?_))
          | ((with_reducible refine gate_dst (N := 46) rfl ?_); go_must (refine M.out.ev_ld 0 _ _ rfl rfl rfl Tryd.underlying56 rfl rfl (by first | assumption | rfl) ?_))
          | ((with_reducible refine gate_dst (N := 49) rfl ?_); go_must (refine ev_cat _ _ _ _ rfl rfl _ _ rfl rfl rfl (by simp only [List.length_append, List.length_cons, List.length_nil]; omega) ?_))
          | ((with_reducible refine gate_dst (N := 50) rfl ?_); go_must (refine ev_cat _ _ _ _ rfl rfl _ _ rfl rfl rfl (by simp only [List.length_append, List.length_cons, List.length_nil]; omega) ?_))
          | ((with_reducible refine gate_dst (N := 52) rfl ?_); go_must (refine M.out.ev_ld 0 _ _ rfl rfl rfl Tryd.underlying55 rfl rfl (by first | assumption | rfl) ?_))
          | ((with_reducible refine gate_dst (N := 55) rfl ?_); go_must (refine ev_cat _ _ _ _ rfl rfl _ _ rfl rfl rfl (by simp only [List.length_append, List.length_cons, List.length_nil]; omega) ?_))
          | ((with_reducible refine gate_dst (N := 56) rfl ?_); go_must (refine ev_cat _ _ _ _ rfl rfl _ _ rfl rfl rfl (by simp only [List.length_append, List.length_cons, List.length_nil]; omega) ?_))
          )
        have m := M.out
        rw [HV.out] at m
        have M := Lib.hid m
        clear m
        refine region_anyH (fun w' => Blk w' g5 91 #[.int .i16 f1, .int .i16 f2, .int .i16 f3, .int .i16 f4, .int .i16 f5, .int .i8 f6]) (by kernel_rfl) ?_
        have m := M.out.drew
        clear M
        have M := Lib.hid m
        clear m
        apply takeH (i := 0) 20 rfl (by kernel_rfl) (by kernel_rfl) (by kernel_rfl) (fun _ _ _ h => h) rfl (M.out.blk 0 rfl)
        case' hy =>
          refine Or.inl ⟨by first | rfl | (go_simp; done), ?_⟩
          intro w hS
          clear hS
          go_simp
          try with_reducible rfl
        try simp only [Act.put, List.getElem_toArray, List.getElem_cons_succ, List.getElem_cons_zero, List.setIfInBounds_toArray, List.set_cons_succ, List.set_cons_zero]
        apply takeH (i := 1) 21 rfl (by kernel_rfl) (by kernel_rfl) (by kernel_rfl) (fun _ _ _ h => h) rfl (M.out.blk 0 rfl)
        case' hy =>
          refine Or.inl ⟨by first | rfl | (go_simp; done), ?_⟩
          intro w hS
          clear hS
          go_simp
          try with_reducible rfl
        try simp only [Act.put, List.getElem_toArray, List.getElem_cons_succ, List.getElem_cons_zero, List.setIfInBounds_toArray, List.set_cons_succ, List.set_cons_zero]
        apply takeH (i := 2) 22 rfl (by kernel_rfl) (by kernel_rfl) (by kernel_rfl) (fun _ _ _ h => h) rfl (M.out.blk 0 rfl)
        case' hy => exact ylds _ _ rfl rfl Tryd.underlying56 rfl rfl (fun w' hS => hS.cellv rfl)
        try simp only [Act.put, List.getElem_toArray, List.getElem_cons_succ, List.getElem_cons_zero, List.setIfInBounds_toArray, List.set_cons_succ, List.set_cons_zero]
        apply takeH (i := 3) 23 rfl (by kernel_rfl) (by kernel_rfl) (by kernel_rfl) (fun _ _ _ h => h) rfl (M.out.blk 0 rfl)
        case' hy =>
          refine Or.inl ⟨by first | rfl | (go_simp; done), ?_⟩
          intro w hS
          clear hS
          go_simp
          try with_reducible rfl
        try simp only [Act.put, List.getElem_toArray, List.getElem_cons_succ, List.getElem_cons_zero, List.setIfInBounds_toArray, List.set_cons_succ, List.set_cons_zero]
        apply takeH (i := 6) 26 rfl (by kernel_rfl) (by kernel_rfl) (by kernel_rfl) (fun _ _ _ h => h) rfl (M.out.blk 0 rfl)
        case' hy =>
          refine Or.inl ⟨by first | rfl | (go_simp; done), ?_⟩
          intro w hS
          clear hS
          go_simp
          try with_reducible rfl
        try simp only [Act.put, List.getElem_toArray, List.getElem_cons_succ, List.getElem_cons_zero, List.setIfInBounds_toArray, List.set_cons_succ, List.set_cons_zero]
        apply takeH (i := 7) 27 rfl (by kernel_rfl) (by kernel_rfl) (by kernel_rfl) (fun _ _ _ h => h) rfl (M.out.blk 0 rfl)
        case' hy => exact ylds _ _ rfl rfl Tryd.underlying56 rfl rfl (fun w' hS => hS.cellv rfl)
        try simp only [Act.put, List.getElem_toArray, List.getElem_cons_succ, List.getElem_cons_zero, List.setIfInBounds_toArray, List.set_cons_succ, List.set_cons_zero]
        apply takeH (i := 8) 28 rfl (by kernel_rfl) (by kernel_rfl) (by kernel_rfl) (fun _ _ _ h => h) rfl (M.out.blk 0 rfl)
        case' hy =>
          refine Or.inl ⟨by first | rfl | (go_simp; done), ?_⟩
          intro w hS
          clear hS
          go_simp
          try with_reducible rfl
        try simp only [Act.put, List.getElem_toArray, List.getElem_cons_succ, List.getElem_cons_zero, List.setIfInBounds_toArray, List.set_cons_succ, List.set_cons_zero]
        apply takeH (i := 12) 32 rfl (by kernel_rfl) (by kernel_rfl) (by kernel_rfl) (fun _ _ _ h => h) rfl (M.out.blk 0 rfl)
        case' hy =>
          refine Or.inl ⟨by first | rfl | (go_simp; done), ?_⟩
          intro w hS
          clear hS
          go_simp
          try with_reducible rfl
        try simp only [Act.put, List.getElem_toArray, List.getElem_cons_succ, List.getElem_cons_zero, List.setIfInBounds_toArray, List.set_cons_succ, List.set_cons_zero]
        apply takeH (i := 13) 33 rfl (by kernel_rfl) (by kernel_rfl) (by kernel_rfl) (fun _ _ _ h => h) rfl (M.out.blk 0 rfl)
        case' hy => exact ylds _ _ rfl rfl Tryd.underlying56 rfl rfl (fun w' hS => hS.cellv rfl)
        try simp only [Act.put, List.getElem_toArray, List.getElem_cons_succ, List.getElem_cons_zero, List.setIfInBounds_toArray, List.set_cons_succ, List.set_cons_zero]
        apply takeH (i := 14) 34 rfl (by kernel_rfl) (by kernel_rfl) (by kernel_rfl) (fun _ _ _ h => h) rfl (M.out.blk 0 rfl)
        case' hy =>
          refine Or.inl ⟨by first | rfl | (go_simp; done), ?_⟩
          intro w hS
          clear hS
          go_simp
          try with_reducible rfl
        try simp only [Act.put, List.getElem_toArray, List.getElem_cons_succ, List.getElem_cons_zero, List.setIfInBounds_toArray, List.set_cons_succ, List.set_cons_zero]
        refine any1H 4 (by kernel_rfl) rfl (fun K hK => ?_)
        go_wp2_with (first | ((with_reducible refine gate_dst (N := 22) rfl ?_); go_must (refine M.out.ev_ld 0 _ _ rfl rfl rfl Tryd.underlying56 rfl rfl (by first | assumption | rfl) ?_)) | ((with_reducible refine gate_dst (N := 25) rfl ?_); go_must (refine ev_cat _ _ _ _ rfl rfl _ _ rfl rfl rfl (by simp only [List.length_append, List.length_cons, List.length_nil]; omega) ?_)) | ((with_reducible refine gate_dst (N := 27) rfl ?_); go_must (refine M.out.ev_ld 0 _ _ rfl rfl rfl Tryd.underlying56 rfl rfl (by first | assumption | rfl) ?_)) | ((with_reducible refine gate_dst (N := 30) rfl ?_); go_must (refine ev_cat _ _ _ _ rfl rfl _ _ rfl rfl rfl (by simp only [List.length_append, List.length_cons, List.length_nil]; omega) ?_)) | ((with_reducible refine gate_dst (N := 31) rfl ?_); go_must (refine ev_cat _ _ _ _ rfl rfl _ _ rfl rfl rfl (by simp only [List.length_append, List.length_cons, List.length_nil]; omega) ?_)) | ((with_reducible refine gate_dst (N := 33) rfl ?_); go_must (refine M.out.ev_ld 0 _ _ rfl rfl rfl Tryd.underlying56 rfl rfl (by first | assumption | rfl) ?_)) | ((with_reducible refine gate_dst (N := 36) rfl ?_); go_must (refine ev_cat _ _ _ _ rfl rfl _ _ rfl rfl rfl (by simp only [List.length_append, List.length_cons, List.length_nil]; omega) ?_)) | ((with_reducible refine gate_dst (N := 37) rfl ?_); go_must (refine ev_cat _ _ _ _ rfl rfl _ _ rfl rfl rfl (by simp only [List.length_append, List.length_cons, List.length_nil]; omega) ?_)) | (go_at_call 68; go_must (first | (refine Calls.mono (calls_args (by with_reducible rfl) (Df1.out _)) ?_) | (refine Calls.mono (calls_args (by with_reducible rfl) (Df2.out _)) ?_) | (refine Calls.mono (calls_args (by with_reducible rfl) (Df3.out _)) ?_)); rintro e w_ ⟨rfl, N_⟩; have m := M.out.join N_; clear N_; simp only [List.cons_append, List.nil_append, List.append_nil] at m; have M := Lib.hid m; clear m))
        refine onward_normal (hK _ _ ⟨(M.out.blk 0 rfl), ?_⟩)
        clear hK K
        try simp only [Act.put, List.getElem_toArray, List.getElem_cons_succ, List.getElem_cons_zero, List.setIfInBounds_toArray, List.set_cons_succ, List.set_cons_zero]
        apply takeH (i := 5) 25 rfl (by kernel_rfl) (by kernel_rfl) (by kernel_rfl) (fun _ _ _ h => h) rfl (M.out.blk 0 rfl)
        case' hy => exact yld_cat _ _ _ _ rfl rfl _ _ rfl rfl rfl (by simp only [List.length_append, List.length_cons, List.length_nil]; omega)
        try simp only [Act.put, List.getElem_toArray, List.getElem_cons_succ, List.getElem_cons_zero, List.setIfInBounds_toArray, List.set_cons_succ, List.set_cons_zero]
        refine any1H 9 (by kernel_rfl) rfl (fun K hK => ?_)
        go_wp2_with (first | ((with_reducible refine gate_dst (N := 22) rfl ?_); go_must (refine M.out.ev_ld 0 _ _ rfl rfl rfl Tryd.underlying56 rfl rfl (by first | assumption | rfl) ?_)) | ((with_reducible refine gate_dst (N := 25) rfl ?_); go_must (refine ev_cat _ _ _ _ rfl rfl _ _ rfl rfl rfl (by simp only [List.length_append, List.length_cons, List.length_nil]; omega) ?_)) | ((with_reducible refine gate_dst (N := 27) rfl ?_); go_must (refine M.out.ev_ld 0 _ _ rfl rfl rfl Tryd.underlying56 rfl rfl (by first | assumption | rfl) ?_)) | ((with_reducible refine gate_dst (N := 30) rfl ?_); go_must (refine ev_cat _ _ _ _ rfl rfl _ _ rfl rfl rfl (by simp only [List.length_append, List.length_cons, List.length_nil]; omega) ?_)) | ((with_reducible refine gate_dst (N := 31) rfl ?_); go_must (refine ev_cat _ _ _ _ rfl rfl _ _ rfl rfl rfl (by simp only [List.length_append, List.length_cons, List.length_nil]; omega) ?_)) | ((with_reducible refine gate_dst (N := 33) rfl ?_); go_must (refine M.out.ev_ld 0 _ _ rfl rfl rfl Tryd.underlying56 rfl rfl (by first | assumption | rfl) ?_)) | ((with_reducible refine gate_dst (N := 36) rfl ?_); go_must (refine ev_cat _ _ _ _ rfl rfl _ _ rfl rfl rfl (by simp only [List.length_append, List.length_cons, List.length_nil]; omega) ?_)) | ((with_reducible refine gate_dst (N := 37) rfl ?_); go_must (refine ev_cat _ _ _ _ rfl rfl _ _ rfl rfl rfl (by simp only [List.length_append, List.length_cons, List.length_nil]; omega) ?_)) | (go_at_call 68; go_must (first | (refine Calls.mono (calls_args (by with_reducible rfl) (Df1.out _)) ?_) | (refine Calls.mono (calls_args (by with_reducible rfl) (Df2.out _)) ?_) | (refine Calls.mono (calls_args (by with_reducible rfl) (Df3.out _)) ?_)); rintro e w_ ⟨rfl, N_⟩; have m := M.out.join N_; clear N_; simp only [List.cons_append, List.nil_append, List.append_nil] at m; have M := Lib.hid m; clear m))
        refine onward_normal (hK _ _ ⟨(M.out.blk 0 rfl), ?_⟩)
        clear hK K
        try simp only [Act.put, List.getElem_toArray, List.getElem_cons_succ, List.getElem_cons_zero, List.setIfInBounds_toArray, List.set_cons_succ, List.set_cons_zero]
        apply takeH (i := 10) 30 rfl (by kernel_rfl) (by kernel_rfl) (by kernel_rfl) (fun _ _ _ h => h) rfl (M.out.blk 0 rfl)
        case' hy => exact yld_cat _ _ _ _ rfl rfl _ _ rfl rfl rfl (by simp only [List.length_append, List.length_cons, List.length_nil]; omega)
        try simp only [Act.put, List.getElem_toArray, List.getElem_cons_succ, List.getElem_cons_zero, List.setIfInBounds_toArray, List.set_cons_succ, List.set_cons_zero]
        apply takeH (i := 11) 31 rfl (by kernel_rfl) (by kernel_rfl) (by kernel_rfl) (fun _ _ _ h => h) rfl (M.out.blk 0 rfl)
        case' hy => exact yld_cat _ _ _ _ rfl rfl _ _ rfl rfl rfl (by simp only [List.length_append, List.length_cons, List.length_nil]; omega)
        try simp only [Act.put, List.getElem_toArray, List.getElem_cons_succ, List.getElem_cons_zero, List.setIfInBounds_toArray, List.set_cons_succ, List.set_cons_zero]
        refine any1H 15 (by kernel_rfl) rfl (fun K hK => ?_)
        go_wp2_with (first | ((with_reducible refine gate_dst (N := 22) rfl ?_); go_must (refine M.out.ev_ld 0 _ _ rfl rfl rfl Tryd.underlying56 rfl rfl (by first | assumption | rfl) ?_)) | ((with_reducible refine gate_dst (N := 25) rfl ?_); go_must (refine ev_cat _ _ _ _ rfl rfl _ _ rfl rfl rfl (by simp only [List.length_append, List.length_cons, List.length_nil]; omega) ?_)) | ((with_reducible refine gate_dst (N := 27) rfl ?_); go_must (refine M.out.ev_ld 0 _ _ rfl rfl rfl Tryd.underlying56 rfl rfl (by first | assumption | rfl) ?_)) | ((with_reducible refine gate_dst (N := 30) rfl ?_); go_must (refine ev_cat _ _ _ _ rfl rfl _ _ rfl rfl rfl (by simp only [List.length_append, List.length_cons, List.length_nil]; omega) ?_)) | ((with_reducible refine gate_dst (N := 31) rfl ?_); go_must (refine ev_cat _ _ _ _ rfl rfl _ _ rfl rfl rfl (by simp only [List.length_append, List.length_cons, List.length_nil]; omega) ?_)) | ((with_reducible refine gate_dst (N := 33) rfl ?_); go_must (refine M.out.ev_ld 0 _ _ rfl rfl rfl Tryd.underlying56 rfl rfl (by first | assumption | rfl) ?_)) | ((with_reducible refine gate_dst (N := 36) rfl ?_); go_must (refine ev_cat _ _ _ _ rfl rfl _ _ rfl rfl rfl (by simp only [List.length_append, List.length_cons, List.length_nil]; omega) ?_)) | ((with_reducible refine gate_dst (N := 37) rfl ?_); go_must (refine ev_cat _ _ _ _ rfl rfl _ _ rfl rfl rfl (by simp only [List.length_append, List.length_cons, List.length_nil]; omega) ?_)) | (go_at_call 68; go_must (first | (refine Calls.mono (calls_args (by with_reducible rfl) (Df1.out _)) ?_) | (refine Calls.mono (calls_args (by with_reducible rfl) (Df2.out _)) ?_) | (refine Calls.mono (calls_args (by with_reducible rfl) (Df3.out _)) ?_)); rintro e w_ ⟨rfl, N_⟩; have m := M.out.join N_; clear N_; simp only [List.cons_append, List.nil_append, List.append_nil] at m; have M := Lib.hid m; clear m))
        refine onward_normal (hK _ _ ⟨(M.out.blk 0 rfl), ?_⟩)
        clear hK K
        try simp only [Act.put, List.getElem_toArray, List.getElem_cons_succ, List.getElem_cons_zero, List.setIfInBounds_toArray, List.set_cons_succ, List.set_cons_zero]
        apply takeH (i := 16) 36 rfl (by kernel_rfl) (by kernel_rfl) (by kernel_rfl) (fun _ _ _ h => h) rfl (M.out.blk 0 rfl)
        case' hy => exact yld_cat _ _ _ _ rfl rfl _ _ rfl rfl rfl (by simp only [List.length_append, List.length_cons, List.length_nil]; omega)
        try simp only [Act.put, List.getElem_toArray, List.getElem_cons_succ, List.getElem_cons_zero, List.setIfInBounds_toArray, List.set_cons_succ, List.set_cons_zero]
        apply takeH (i := 17) 37 rfl (by kernel_rfl) (by kernel_rfl) (by kernel_rfl) (fun _ _ _ h => h) rfl (M.out.blk 0 rfl)
        case' hy => exact yld_cat _ _ _ _ rfl rfl _ _ rfl rfl rfl (by simp only [List.length_append, List.length_cons, List.length_nil]; omega)
        try simp only [Act.put, List.getElem_toArray, List.getElem_cons_succ, List.getElem_cons_zero, List.setIfInBounds_toArray, List.set_cons_succ, List.set_cons_zero]
        apply takeH (i := 18) 3 rfl (by kernel_rfl) (by kernel_rfl) (by kernel_rfl) (fun _ _ _ h => h) rfl (M.out.blk 0 rfl)
        case' hy =>
          refine Or.inl ⟨by first | rfl | (go_simp; done), ?_⟩
          intro w hS
          clear hS
          go_simp
          try with_reducible rfl
        try simp only [Act.put, List.getElem_toArray, List.getElem_cons_succ, List.getElem_cons_zero, List.setIfInBounds_toArray, List.set_cons_succ, List.set_cons_zero]
        refine wpAnyH_done (by kernel_rfl) ?_ _
        go_wp2
        refine region_anyH (fun w' => Blk w' g5 91 #[.int .i16 f1, .int .i16 f2, .int .i16 f3, .int .i16 f4, .int .i16 f5, .int .i8 f6]) (by kernel_rfl) ?_
        have m := M.out.drew
        clear M
        have M := Lib.hid m
        clear m
        apply takeH (i := 0) 38 rfl (by kernel_rfl) (by kernel_rfl) (by kernel_rfl) (fun _ _ _ h => h) rfl (M.out.blk 0 rfl)
        case' hy =>
          refine Or.inl ⟨by first | rfl | (go_simp; done), ?_⟩
          intro w hS
          clear hS
          go_simp
          try with_reducible rfl
        try simp only [Act.put, List.getElem_toArray, List.getElem_cons_succ, List.getElem_cons_zero, List.setIfInBounds_toArray, List.set_cons_succ, List.set_cons_zero]
        apply takeH (i := 1) 39 rfl (by kernel_rfl) (by kernel_rfl) (by kernel_rfl) (fun _ _ _ h => h) rfl (M.out.blk 0 rfl)
        case' hy =>
          refine Or.inl ⟨by first | rfl | (go_simp; done), ?_⟩
          intro w hS
          clear hS
          go_simp
          try with_reducible rfl
        try simp only [Act.put, List.getElem_toArray, List.getElem_cons_succ, List.getElem_cons_zero, List.setIfInBounds_toArray, List.set_cons_succ, List.set_cons_zero]
        apply takeH (i := 2) 40 rfl (by kernel_rfl) (by kernel_rfl) (by kernel_rfl) (fun _ _ _ h => h) rfl (M.out.blk 0 rfl)
        case' hy => exact ylds _ _ rfl rfl Tryd.underlying56 rfl rfl (fun w' hS => hS.cellv rfl)
        try simp only [Act.put, List.getElem_toArray, List.getElem_cons_succ, List.getElem_cons_zero, List.setIfInBounds_toArray, List.set_cons_succ, List.set_cons_zero]
        apply takeH (i := 3) 41 rfl (by kernel_rfl) (by kernel_rfl) (by kernel_rfl) (fun _ _ _ h => h) rfl (M.out.blk 0 rfl)
        case' hy =>
          refine Or.inl ⟨by first | rfl | (go_simp; done), ?_⟩
          intro w hS
          clear hS
          go_simp
          try with_reducible rfl
        try simp only [Act.put, List.getElem_toArray, List.getElem_cons_succ, List.getElem_cons_zero, List.setIfInBounds_toArray, List.set_cons_succ, List.set_cons_zero]
        apply takeH (i := 7) 45 rfl (by kernel_rfl) (by kernel_rfl) (by kernel_rfl) (fun _ _ _ h => h) rfl (M.out.blk 0 rfl)
        case' hy =>
          refine Or.inl ⟨by first | rfl | (go_simp; done), ?_⟩
          intro w hS
          clear hS
          go_simp
          try with_reducible rfl
        try simp only [Act.put, List.getElem_toArray, List.getElem_cons_succ, List.getElem_cons_zero, List.setIfInBounds_toArray, List.set_cons_succ, List.set_cons_zero]
        apply takeH (i := 8) 46 rfl (by kernel_rfl) (by kernel_rfl) (by kernel_rfl) (fun _ _ _ h => h) rfl (M.out.blk 0 rfl)
        case' hy => exact ylds _ _ rfl rfl Tryd.underlying56 rfl rfl (fun w' hS => hS.cellv rfl)
        try simp only [Act.put, List.getElem_toArray, List.getElem_cons_succ, List.getElem_cons_zero, List.setIfInBounds_toArray, List.set_cons_succ, List.set_cons_zero]
        apply takeH (i := 9) 47 rfl (by kernel_rfl) (by kernel_rfl) (by kernel_rfl) (fun _ _ _ h => h) rfl (M.out.blk 0 rfl)
        case' hy =>
          refine Or.inl ⟨by first | rfl | (go_simp; done), ?_⟩
          intro w hS
          clear hS
          go_simp
          try with_reducible rfl
        try simp only [Act.put, List.getElem_toArray, List.getElem_cons_succ, List.getElem_cons_zero, List.setIfInBounds_toArray, List.set_cons_succ, List.set_cons_zero]
        apply takeH (i := 13) 51 rfl (by kernel_rfl) (by kernel_rfl) (by kernel_rfl) (fun _ _ _ h => h) rfl (M.out.blk 0 rfl)
        case' hy =>
          refine Or.inl ⟨by first | rfl | (go_simp; done), ?_⟩
          intro w hS
          clear hS
          go_simp
          try with_reducible rfl
        try simp only [Act.put, List.getElem_toArray, List.getElem_cons_succ, List.getElem_cons_zero, List.setIfInBounds_toArray, List.set_cons_succ, List.set_cons_zero]
        apply takeH (i := 14) 52 rfl (by kernel_rfl) (by kernel_rfl) (by kernel_rfl) (fun _ _ _ h => h) rfl (M.out.blk 0 rfl)
        case' hy => exact ylds _ _ rfl rfl Tryd.underlying55 rfl rfl (fun w' hS => hS.cellv rfl)
        try simp only [Act.put, List.getElem_toArray, List.getElem_cons_succ, List.getElem_cons_zero, List.setIfInBounds_toArray, List.set_cons_succ, List.set_cons_zero]
        apply takeH (i := 15) 53 rfl (by kernel_rfl) (by kernel_rfl) (by kernel_rfl) (fun _ _ _ h => h) rfl (M.out.blk 0 rfl)
        case' hy =>
          refine Or.inl ⟨by first | rfl | (go_simp; done), ?_⟩
          intro w hS
          clear hS
          go_simp
          try with_reducible rfl
        try simp only [Act.put, List.getElem_toArray, List.getElem_cons_succ, List.getElem_cons_zero, List.setIfInBounds_toArray, List.set_cons_succ, List.set_cons_zero]
        refine any1H 4 (by kernel_rfl) rfl (fun K hK => ?_)
        go_wp2_with (first | ((with_reducible refine gate_dst (N := 40) rfl ?_); go_must (refine M.out.ev_ld 0 _ _ rfl rfl rfl Tryd.underlying56 rfl rfl (by first | assumption | rfl) ?_)) | ((with_reducible refine gate_dst (N := 43) rfl ?_); go_must (refine ev_cat _ _ _ _ rfl rfl _ _ rfl rfl rfl (by simp only [List.length_append, List.length_cons, List.length_nil]; omega) ?_)) | ((with_reducible refine gate_dst (N := 44) rfl ?_); go_must (refine ev_cat _ _ _ _ rfl rfl _ _ rfl rfl rfl (by simp only [List.length_append, List.length_cons, List.length_nil]; omega) ?_)) | ((with_reducible refine gate_dst (N := 46) rfl ?_); go_must (refine M.out.ev_ld 0 _ _ rfl rfl rfl Tryd.underlying56 rfl rfl (by first | assumption | rfl) ?_)) | ((with_reducible refine gate_dst (N := 49) rfl ?_); go_must (refine ev_cat _ _ _ _ rfl rfl _ _ rfl rfl rfl (by simp only [List.length_append, List.length_cons, List.length_nil]; omega) ?_)) | ((with_reducible refine gate_dst (N := 50) rfl ?_); go_must (refine ev_cat _ _ _ _ rfl rfl _ _ rfl rfl rfl (by simp only [List.length_append, List.length_cons, List.length_nil]; omega) ?_)) | ((with_reducible refine gate_dst (N := 52) rfl ?_); go_must (refine M.out.ev_ld 0 _ _ rfl rfl rfl Tryd.underlying55 rfl rfl (by first | assumption | rfl) ?_)) | ((with_reducible refine gate_dst (N := 55) rfl ?_); go_must (refine ev_cat _ _ _ _ rfl rfl _ _ rfl rfl rfl (by simp only [List.length_append, List.length_cons, List.length_nil]; omega) ?_)) | ((with_reducible refine gate_dst (N := 56) rfl ?_); go_must (refine ev_cat _ _ _ _ rfl rfl _ _ rfl rfl rfl (by simp only [List.length_append, List.length_cons, List.length_nil]; omega) ?_)) | (go_at_call 68; go_must (first | (refine Calls.mono (calls_args (by with_reducible rfl) (Df4.out _)) ?_) | (refine Calls.mono (calls_args (by with_reducible rfl) (Df5.out _)) ?_) | (refine Calls.mono (calls_args (by with_reducible rfl) (Df6.out _)) ?_)); rintro e w_ ⟨rfl, N_⟩; have m := M.out.join N_; clear N_; simp only [List.cons_append, List.nil_append, List.append_nil] at m; have M := Lib.hid m; clear m))
        refine onward_normal (hK _ _ ⟨(M.out.blk 0 rfl), ?_⟩)
        clear hK K
        try simp only [Act.put, List.getElem_toArray, List.getElem_cons_succ, List.getElem_cons_zero, List.setIfInBounds_toArray, List.set_cons_succ, List.set_cons_zero]
        apply takeH (i := 5) 43 rfl (by kernel_rfl) (by kernel_rfl) (by kernel_rfl) (fun _ _ _ h => h) rfl (M.out.blk 0 rfl)
        case' hy => exact yld_cat _ _ _ _ rfl rfl _ _ rfl rfl rfl (by simp only [List.length_append, List.length_cons, List.length_nil]; omega)
        try simp only [Act.put, List.getElem_toArray, List.getElem_cons_succ, List.getElem_cons_zero, List.setIfInBounds_toArray, List.set_cons_succ, List.set_cons_zero]
        apply takeH (i := 6) 44 rfl (by kernel_rfl) (by kernel_rfl) (by kernel_rfl) (fun _ _ _ h => h) rfl (M.out.blk 0 rfl)
        case' hy => exact yld_cat _ _ _ _ rfl rfl _ _ rfl rfl rfl (by simp only [List.length_append, List.length_cons, List.length_nil]; omega)
        try simp only [Act.put, List.getElem_toArray, List.getElem_cons_succ, List.getElem_cons_zero, List.setIfInBounds_toArray, List.set_cons_succ, List.set_cons_zero]
        refine any1H 10 (by kernel_rfl) rfl (fun K hK => ?_)
        go_wp2_with (first | ((with_reducible refine gate_dst (N := 40) rfl ?_); go_must (refine M.out.ev_ld 0 _ _ rfl rfl rfl Tryd.underlying56 rfl rfl (by first | assumption | rfl) ?_)) | ((with_reducible refine gate_dst (N := 43) rfl ?_); go_must (refine ev_cat _ _ _ _ rfl rfl _ _ rfl rfl rfl (by simp only [List.length_append, List.length_cons, List.length_nil]; omega) ?_)) | ((with_reducible refine gate_dst (N := 44) rfl ?_); go_must (refine ev_cat _ _ _ _ rfl rfl _ _ rfl rfl rfl (by simp only [List.length_append, List.length_cons, List.length_nil]; omega) ?_)) | ((with_reducible refine gate_dst (N := 46) rfl ?_); go_must (refine M.out.ev_ld 0 _ _ rfl rfl rfl Tryd.underlying56 rfl rfl (by first | assumption | rfl) ?_)) | ((with_reducible refine gate_dst (N := 49) rfl ?_); go_must (refine ev_cat _ _ _ _ rfl rfl _ _ rfl rfl rfl (by simp only [List.length_append, List.length_cons, List.length_nil]; omega) ?_)) | ((with_reducible refine gate_dst (N := 50) rfl ?_); go_must (refine ev_cat _ _ _ _ rfl rfl _ _ rfl rfl rfl (by simp only [List.length_append, List.length_cons, List.length_nil]; omega) ?_)) | ((with_reducible refine gate_dst (N := 52) rfl ?_); go_must (refine M.out.ev_ld 0 _ _ rfl rfl rfl Tryd.underlying55 rfl rfl (by first | assumption | rfl) ?_)) | ((with_reducible refine gate_dst (N := 55) rfl ?_); go_must (refine ev_cat _ _ _ _ rfl rfl _ _ rfl rfl rfl (by simp only [List.length_append, List.length_cons, List.length_nil]; omega) ?_)) | ((with_reducible refine gate_dst (N := 56) rfl ?_); go_must (refine ev_cat _ _ _ _ rfl rfl _ _ rfl rfl rfl (by simp only [List.length_append, List.length_cons, List.length_nil]; omega) ?_)) | (go_at_call 68; go_must (first | (refine Calls.mono (calls_args (by with_reducible rfl) (Df4.out _)) ?_) | (refine Calls.mono (calls_args (by with_reducible rfl) (Df5.out _)) ?_) | (refine Calls.mono (calls_args (by with_reducible rfl) (Df6.out _)) ?_)); rintro e w_ ⟨rfl, N_⟩; have m := M.out.join N_; clear N_; simp only [List.cons_append, List.nil_append, List.append_nil] at m; have M := Lib.hid m; clear m))
        refine onward_normal (hK _ _ ⟨(M.out.blk 0 rfl), ?_⟩)
        clear hK K
        try simp only [Act.put, List.getElem_toArray, List.getElem_cons_succ, List.getElem_cons_zero, List.setIfInBounds_toArray, List.set_cons_succ, List.set_cons_zero]
        apply takeH (i := 11) 49 rfl (by kernel_rfl) (by kernel_rfl) (by kernel_rfl) (fun _ _ _ h => h) rfl (M.out.blk 0 rfl)
        case' hy => exact yld_cat _ _ _ _ rfl rfl _ _ rfl rfl rfl (by simp only [List.length_append, List.length_cons, List.length_nil]; omega)
        try simp only [Act.put, List.getElem_toArray, List.getElem_cons_succ, List.getElem_cons_zero, List.setIfInBounds_toArray, List.set_cons_succ, List.set_cons_zero]
        apply takeH (i := 12) 50 rfl (by kernel_rfl) (by kernel_rfl) (by kernel_rfl) (fun _ _ _ h => h) rfl (M.out.blk 0 rfl)
        case' hy => exact yld_cat _ _ _ _ rfl rfl _ _ rfl rfl rfl (by simp only [List.length_append, List.length_cons, List.length_nil]; omega)
        try simp only [Act.put, List.getElem_toArray, List.getElem_cons_succ, List.getElem_cons_zero, List.setIfInBounds_toArray, List.set_cons_succ, List.set_cons_zero]
        refine any1H 16 (by kernel_rfl) rfl (fun K hK => ?_)
        go_wp2_with (first | ((with_reducible refine gate_dst (N := 40) rfl ?_); go_must (refine M.out.ev_ld 0 _ _ rfl rfl rfl Tryd.underlying56 rfl rfl (by first | assumption | rfl) ?_)) | ((with_reducible refine gate_dst (N := 43) rfl ?_); go_must (refine ev_cat _ _ _ _ rfl rfl _ _ rfl rfl rfl (by simp only [List.length_append, List.length_cons, List.length_nil]; omega) ?_)) | ((with_reducible refine gate_dst (N := 44) rfl ?_); go_must (refine ev_cat _ _ _ _ rfl rfl _ _ rfl rfl rfl (by simp only [List.length_append, List.length_cons, List.length_nil]; omega) ?_)) | ((with_reducible refine gate_dst (N := 46) rfl ?_); go_must (refine M.out.ev_ld 0 _ _ rfl rfl rfl Tryd.underlying56 rfl rfl (by first | assumption | rfl) ?_)) | ((with_reducible refine gate_dst (N := 49) rfl ?_); go_must (refine ev_cat _ _ _ _ rfl rfl _ _ rfl rfl rfl (by simp only [List.length_append, List.length_cons, List.length_nil]; omega) ?_)) | ((with_reducible refine gate_dst (N := 50) rfl ?_); go_must (refine ev_cat _ _ _ _ rfl rfl _ _ rfl rfl rfl (by simp only [List.length_append, List.length_cons, List.length_nil]; omega) ?_)) | ((with_reducible refine gate_dst (N := 52) rfl ?_); go_must (refine M.out.ev_ld 0 _ _ rfl rfl rfl Tryd.underlying55 rfl rfl (by first | assumption | rfl) ?_)) | ((with_reducible refine gate_dst (N := 55) rfl ?_); go_must (refine ev_cat _ _ _ _ rfl rfl _ _ rfl rfl rfl (by simp only [List.length_append, List.length_cons, List.length_nil]; omega) ?_)) | ((with_reducible refine gate_dst (N := 56) rfl ?_); go_must (refine ev_cat _ _ _ _ rfl rfl _ _ rfl rfl rfl (by simp only [List.length_append, List.length_cons, List.length_nil]; omega) ?_)) | (go_at_call 68; go_must (first | (refine Calls.mono (calls_args (by with_reducible rfl) (Df4.out _)) ?_) | (refine Calls.mono (calls_args (by with_reducible rfl) (Df5.out _)) ?_) | (refine Calls.mono (calls_args (by with_reducible rfl) (Df6.out _)) ?_)); rintro e w_ ⟨rfl, N_⟩; have m := M.out.join N_; clear N_; simp only [List.cons_append, List.nil_append, List.append_nil] at m; have M := Lib.hid m; clear m))
        refine onward_normal (hK _ _ ⟨(M.out.blk 0 rfl), ?_⟩)
        clear hK K
        try simp only [Act.put, List.getElem_toArray, List.getElem_cons_succ, List.getElem_cons_zero, List.setIfInBounds_toArray, List.set_cons_succ, List.set_cons_zero]
        apply takeH (i := 17) 55 rfl (by kernel_rfl) (by kernel_rfl) (by kernel_rfl) (fun _ _ _ h => h) rfl (M.out.blk 0 rfl)
        case' hy => exact yld_cat _ _ _ _ rfl rfl _ _ rfl rfl rfl (by simp only [List.length_append, List.length_cons, List.length_nil]; omega)
        try simp only [Act.put, List.getElem_toArray, List.getElem_cons_succ, List.getElem_cons_zero, List.setIfInBounds_toArray, List.set_cons_succ, List.set_cons_zero]
        apply takeH (i := 18) 56 rfl (by kernel_rfl) (by kernel_rfl) (by kernel_rfl) (fun _ _ _ h => h) rfl (M.out.blk 0 rfl)
        case' hy => exact yld_cat _ _ _ _ rfl rfl _ _ rfl rfl rfl (by simp only [List.length_append, List.length_cons, List.length_nil]; omega)
        try simp only [Act.put, List.getElem_toArray, List.getElem_cons_succ, List.getElem_cons_zero, List.setIfInBounds_toArray, List.set_cons_succ, List.set_cons_zero]
        apply takeH (i := 19) 3 rfl (by kernel_rfl) (by kernel_rfl) (by kernel_rfl) (fun _ _ _ h => h) rfl (M.out.blk 0 rfl)
        case' hy =>
          refine Or.inl ⟨by first | rfl | (go_simp; done), ?_⟩
          intro w hS
          clear hS
          go_simp
          try with_reducible rfl
        try simp only [Act.put, List.getElem_toArray, List.getElem_cons_succ, List.getElem_cons_zero, List.setIfInBounds_toArray, List.set_cons_succ, List.set_cons_zero]
        refine wpAnyH_done (by kernel_rfl) ?_ _
        all_goals
          go_wp2
          exact ⟨⟨k + 1, by omega, by go_num, by rw [HO.out, HW.out]; simp only [List.append_assoc, List.cons_append, List.nil_append], M.out.take 0⟩, by simp [intOf]; omega⟩
      · have i2 : (0 : Int) < (k : Int) := by omega
        have HO := Lib.hid (wordsT_next Flock.word hlt k0)
        have K0 := Lib.hid k0
        clear k0
        obtain ⟨O, hO⟩ : ∃ O, O = wordsT (xs.map Flock.word) k := ⟨_, rfl⟩
        rw [← hO] at HO lo ⊢
        clear hO
        go_wp2_with (first
          | ((with_reducible refine gate_dst (N := 19) rfl ?_); go_must (refine ev_ldr _ _ rfl rfl (R.out) Tryd.underlying91 rfl (by first | exact sz91 | (rw [S1.out]; exact sz91)) rfl ?_))
          | ((with_reducible refine gate_dst (N := 15) rfl ?_); go_must (refine ev_cat _ _ _ _ rfl rfl _ _ rfl rfl rfl (by simp only [List.length_append, List.length_cons, List.length_nil]; omega) ?_))
          | ((with_reducible refine gate_dst (N := 5) rfl ?_); go_must (refine M.out.ev_new rfl (by first | (go_simp; done) | (go_simp; rfl)) ?_); intro g5 w5 m; simp only [List.cons_append, List.nil_append] at m; have M := Lib.hid m; clear m; try have q0_0 := M.out.cell (j := 0) 0 rfl (by first | assumption | rfl); try have q0_1 := M.out.cell (j := 1) 0 rfl (by first | assumption | rfl); try have q0_2 := M.out.cell (j := 2) 0 rfl (by first | assumption | rfl); try have q0_3 := M.out.cell (j := 3) 0 rfl (by first | assumption | rfl); try have q0_4 := M.out.cell (j := 4) 0 rfl (by first | assumption | rfl); try have q0_5 := M.out.cell (j := 5) 0 rfl (by first | assumption | rfl))
          | ((with_reducible refine gate_store (x := .tmp 5) rfl ?_); go_must (refine M.out.ev_stw 0 _ _ _ rfl rfl rfl rfl _ rfl (by first | rfl | (simp only [S1.out]; rfl) | (simp only [S1.out, S2.out]; rfl) | (simp only [S3.out]; rfl) | (simp only [S1.out, S2.out, S3.out]; rfl)) (by first | exact sz91 | (rw [S1.out]; exact sz91) | (rw [S2.out]; exact sz91) | (rw [S3.out]; exact sz91)) (by first | exact ints_one _ _ | exact Fld.one _ | exact O1.out | exact Flock.one _ | rfl | (simp [Value.oneCell']; done)) rfl ?_); intro wn m; simp only [List.set_cons_succ, List.set_cons_zero, List.setIfInBounds_toArray] at m; have M := Lib.hid m; clear m; try have q0_0 := M.out.cell (j := 0) 0 rfl (by first | assumption | rfl); try have q0_1 := M.out.cell (j := 1) 0 rfl (by first | assumption | rfl); try have q0_2 := M.out.cell (j := 2) 0 rfl (by first | assumption | rfl); try have q0_3 := M.out.cell (j := 3) 0 rfl (by first | assumption | rfl); try have q0_4 := M.out.cell (j := 4) 0 rfl (by first | assumption | rfl); try have q0_5 := M.out.cell (j := 5) 0 rfl (by first | assumption | rfl))
          | ((with_reducible refine gate_dst (N := 22) rfl ?_); go_must (refine M.out.ev_ld 0 _ _ rfl rfl rfl Tryd.underlying56 rfl rfl (by first | assumption | rfl) ?_))
          | ((with_reducible refine gate_dst (N := 25) rfl ?_); go_must (refine ev_cat _ _ _ _ rfl rfl _ _ rfl rfl rfl (by simp only [List.length_append, List.length_cons, List.length_nil]; omega) ?_))
          | ((with_reducible refine gate_dst (N := 27) rfl ?_); go_must (refine M.out.ev_ld 0 _ _ rfl rfl rfl Tryd.underlying56 rfl rfl (by first | assumption | rfl) ?_))
          | ((with_reducible refine gate_dst (N := 30) rfl ?_); go_must (refine ev_cat _ _ _ _ rfl rfl _ _ rfl rfl rfl (by simp only [List.length_append, List.length_cons, List.length_nil]; omega) ?_))
          | ((with_reducible refine gate_dst (N := 31) rfl ?_); go_must (refine ev_cat _ _ _ _ rfl rfl _ _ rfl rfl rfl (by simp only [List.length_append, List.length_cons, List.length_nil]; omega) ?_))
          | ((with_reducible refine gate_dst (N := 33) rfl ?_); go_must (refine M.out.ev_ld 0 _ _ rfl rfl rfl Tryd.underlying56 rfl rfl (by first | assumption | rfl) ?_))
          | ((with_reducible refine gate_dst (N := 36) rfl ?_); go_must (refine ev_cat _ _ _ _ rfl rfl _ _ rfl rfl rfl (by simp only [List.length_append, List.length_cons, List.length_nil]; omega) ?_))
          | ((with_reducible refine gate_dst (N := 37) rfl ?_); go_must (refine ev_cat _ _ _ _ rfl rfl _ _ rfl rfl rfl (by simp only [List.length_append, List.length_cons, List.length_nil]; omega) ?_))
          | ((with_reducible refine gate_dst (N := 40) rfl ?_); go_must (refine M.out.ev_ld 0 _ _ rfl rfl rfl Tryd.underlying56 rfl rfl (by first | assumption | rfl) ?_))
          | ((with_reducible refine gate_dst (N := 43) rfl ?_); go_must (refine ev_cat _ _ _ _ rfl rfl _ _ rfl rfl rfl (by simp only [List.length_append, List.length_cons, List.length_nil]; omega) ?_))
          | ((with_reducible refine gate_dst (N := 44) rfl ?_); go_must (refine ev_cat _ _ _ _ rfl rfl _ _ rfl rfl rfl (by simp only [List.length_append, List.length_cons, List.length_nil]; omega) ?_))
          | ((with_reducible refine gate_dst (N := 46) rfl ?_); go_must (refine M.out.ev_ld 0 _ _ rfl rfl rfl Tryd.underlying56 rfl rfl (by first | assumption | rfl) ?_))
          | ((with_reducible refine gate_dst (N := 49) rfl ?_); go_must (refine ev_cat _ _ _ _ rfl rfl _ _ rfl rfl rfl (by simp only [List.length_append, List.length_cons, List.length_nil]; omega) ?_))
          | ((with_reducible refine gate_dst (N := 50) rfl ?_); go_must (refine ev_cat _ _ _ _ rfl rfl _ _ rfl rfl rfl (by simp only [List.length_append, List.length_cons, List.length_nil]; omega) ?_))
          | ((with_reducible refine gate_dst (N := 52) rfl ?_); go_must (refine M.out.ev_ld 0 _ _ rfl rfl rfl Tryd.underlying55 rfl rfl (by first | assumption | rfl) ?_))
          | ((with_reducible refine gate_dst (N := 55) rfl ?_); go_must (refine ev_cat _ _ _ _ rfl rfl _ _ rfl rfl rfl (by simp only [List.length_append, List.length_cons, List.length_nil]; omega) ?_))
          | ((with_reducible refine gate_dst (N := 56) rfl ?_); go_must (refine ev_cat _ _ _ _ rfl rfl _ _ rfl rfl rfl (by simp only [List.length_append, List.length_cons, List.length_nil]; omega) ?_))
          )
        have m := M.out
        rw [HV.out] at m
        have M := Lib.hid m
        clear m
        refine region_anyH (fun w' => Blk w' g5 91 #[.int .i16 f1, .int .i16 f2, .int .i16 f3, .int .i16 f4, .int .i16 f5, .int .i8 f6]) (by kernel_rfl) ?_
        have m := M.out.drew
        clear M
        have M := Lib.hid m
        clear m
        apply takeH (i := 0) 20 rfl (by kernel_rfl) (by kernel_rfl) (by kernel_rfl) (fun _ _ _ h => h) rfl (M.out.blk 0 rfl)
        case' hy =>
          refine Or.inl ⟨by first | rfl | (go_simp; done), ?_⟩
          intro w hS
          clear hS
          go_simp
          try with_reducible rfl
        try simp only [Act.put, List.getElem_toArray, List.getElem_cons_succ, List.getElem_cons_zero, List.setIfInBounds_toArray, List.set_cons_succ, List.set_cons_zero]
        apply takeH (i := 1) 21 rfl (by kernel_rfl) (by kernel_rfl) (by kernel_rfl) (fun _ _ _ h => h) rfl (M.out.blk 0 rfl)
        case' hy =>
          refine Or.inl ⟨by first | rfl | (go_simp; done), ?_⟩
          intro w hS
          clear hS
          go_simp
          try with_reducible rfl
        try simp only [Act.put, List.getElem_toArray, List.getElem_cons_succ, List.getElem_cons_zero, List.setIfInBounds_toArray, List.set_cons_succ, List.set_cons_zero]
        apply takeH (i := 2) 22 rfl (by kernel_rfl) (by kernel_rfl) (by kernel_rfl) (fun _ _ _ h => h) rfl (M.out.blk 0 rfl)
        case' hy => exact ylds _ _ rfl rfl Tryd.underlying56 rfl rfl (fun w' hS => hS.cellv rfl)
        try simp only [Act.put, List.getElem_toArray, List.getElem_cons_succ, List.getElem_cons_zero, List.setIfInBounds_toArray, List.set_cons_succ, List.set_cons_zero]
        apply takeH (i := 3) 23 rfl (by kernel_rfl) (by kernel_rfl) (by kernel_rfl) (fun _ _ _ h => h) rfl (M.out.blk 0 rfl)
        case' hy =>
          refine Or.inl ⟨by first | rfl | (go_simp; done), ?_⟩
          intro w hS
          clear hS
          go_simp
          try with_reducible rfl
        try simp only [Act.put, List.getElem_toArray, List.getElem_cons_succ, List.getElem_cons_zero, List.setIfInBounds_toArray, List.set_cons_succ, List.set_cons_zero]
        apply takeH (i := 6) 26 rfl (by kernel_rfl) (by kernel_rfl) (by kernel_rfl) (fun _ _ _ h => h) rfl (M.out.blk 0 rfl)
        case' hy =>
          refine Or.inl ⟨by first | rfl | (go_simp; done), ?_⟩
          intro w hS
          clear hS
          go_simp
          try with_reducible rfl
        try simp only [Act.put, List.getElem_toArray, List.getElem_cons_succ, List.getElem_cons_zero, List.setIfInBounds_toArray, List.set_cons_succ, List.set_cons_zero]
        apply takeH (i := 7) 27 rfl (by kernel_rfl) (by kernel_rfl) (by kernel_rfl) (fun _ _ _ h => h) rfl (M.out.blk 0 rfl)
        case' hy => exact ylds _ _ rfl rfl Tryd.underlying56 rfl rfl (fun w' hS => hS.cellv rfl)
        try simp only [Act.put, List.getElem_toArray, List.getElem_cons_succ, List.getElem_cons_zero, List.setIfInBounds_toArray, List.set_cons_succ, List.set_cons_zero]
        apply takeH (i := 8) 28 rfl (by kernel_rfl) (by kernel_rfl) (by kernel_rfl) (fun _ _ _ h => h) rfl (M.out.blk 0 rfl)
        case' hy =>
          refine Or.inl ⟨by first | rfl | (go_simp; done), ?_⟩
          intro w hS
          clear hS
          go_simp
          try with_reducible rfl
        try simp only [Act.put, List.getElem_toArray, List.getElem_cons_succ, List.getElem_cons_zero, List.setIfInBounds_toArray, List.set_cons_succ, List.set_cons_zero]
        apply takeH (i := 12) 32 rfl (by kernel_rfl) (by kernel_rfl) (by kernel_rfl) (fun _ _ _ h => h) rfl (M.out.blk 0 rfl)
        case' hy =>
          refine Or.inl ⟨by first | rfl | (go_simp; done), ?_⟩
          intro w hS
          clear hS
          go_simp
          try with_reducible rfl
        try simp only [Act.put, List.getElem_toArray, List.getElem_cons_succ, List.getElem_cons_zero, List.setIfInBounds_toArray, List.set_cons_succ, List.set_cons_zero]
        apply takeH (i := 13) 33 rfl (by kernel_rfl) (by kernel_rfl) (by kernel_rfl) (fun _ _ _ h => h) rfl (M.out.blk 0 rfl)
        case' hy => exact ylds _ _ rfl rfl Tryd.underlying56 rfl rfl (fun w' hS => hS.cellv rfl)
        try simp only [Act.put, List.getElem_toArray, List.getElem_cons_succ, List.getElem_cons_zero, List.setIfInBounds_toArray, List.set_cons_succ, List.set_cons_zero]
        apply takeH (i := 14) 34 rfl (by kernel_rfl) (by kernel_rfl) (by kernel_rfl) (fun _ _ _ h => h) rfl (M.out.blk 0 rfl)
        case' hy =>
          refine Or.inl ⟨by first | rfl | (go_simp; done), ?_⟩
          intro w hS
          clear hS
          go_simp
          try with_reducible rfl
        try simp only [Act.put, List.getElem_toArray, List.getElem_cons_succ, List.getElem_cons_zero, List.setIfInBounds_toArray, List.set_cons_succ, List.set_cons_zero]
        refine any1H 4 (by kernel_rfl) rfl (fun K hK => ?_)
        go_wp2_with (first | ((with_reducible refine gate_dst (N := 22) rfl ?_); go_must (refine M.out.ev_ld 0 _ _ rfl rfl rfl Tryd.underlying56 rfl rfl (by first | assumption | rfl) ?_)) | ((with_reducible refine gate_dst (N := 25) rfl ?_); go_must (refine ev_cat _ _ _ _ rfl rfl _ _ rfl rfl rfl (by simp only [List.length_append, List.length_cons, List.length_nil]; omega) ?_)) | ((with_reducible refine gate_dst (N := 27) rfl ?_); go_must (refine M.out.ev_ld 0 _ _ rfl rfl rfl Tryd.underlying56 rfl rfl (by first | assumption | rfl) ?_)) | ((with_reducible refine gate_dst (N := 30) rfl ?_); go_must (refine ev_cat _ _ _ _ rfl rfl _ _ rfl rfl rfl (by simp only [List.length_append, List.length_cons, List.length_nil]; omega) ?_)) | ((with_reducible refine gate_dst (N := 31) rfl ?_); go_must (refine ev_cat _ _ _ _ rfl rfl _ _ rfl rfl rfl (by simp only [List.length_append, List.length_cons, List.length_nil]; omega) ?_)) | ((with_reducible refine gate_dst (N := 33) rfl ?_); go_must (refine M.out.ev_ld 0 _ _ rfl rfl rfl Tryd.underlying56 rfl rfl (by first | assumption | rfl) ?_)) | ((with_reducible refine gate_dst (N := 36) rfl ?_); go_must (refine ev_cat _ _ _ _ rfl rfl _ _ rfl rfl rfl (by simp only [List.length_append, List.length_cons, List.length_nil]; omega) ?_)) | ((with_reducible refine gate_dst (N := 37) rfl ?_); go_must (refine ev_cat _ _ _ _ rfl rfl _ _ rfl rfl rfl (by simp only [List.length_append, List.length_cons, List.length_nil]; omega) ?_)) | (go_at_call 68; go_must (first | (refine Calls.mono (calls_args (by with_reducible rfl) (Df1.out _)) ?_) | (refine Calls.mono (calls_args (by with_reducible rfl) (Df2.out _)) ?_) | (refine Calls.mono (calls_args (by with_reducible rfl) (Df3.out _)) ?_)); rintro e w_ ⟨rfl, N_⟩; have m := M.out.join N_; clear N_; simp only [List.cons_append, List.nil_append, List.append_nil] at m; have M := Lib.hid m; clear m))
        refine onward_normal (hK _ _ ⟨(M.out.blk 0 rfl), ?_⟩)
        clear hK K
        try simp only [Act.put, List.getElem_toArray, List.getElem_cons_succ, List.getElem_cons_zero, List.setIfInBounds_toArray, List.set_cons_succ, List.set_cons_zero]
        apply takeH (i := 5) 25 rfl (by kernel_rfl) (by kernel_rfl) (by kernel_rfl) (fun _ _ _ h => h) rfl (M.out.blk 0 rfl)
        case' hy => exact yld_cat _ _ _ _ rfl rfl _ _ rfl rfl rfl (by simp only [List.length_append, List.length_cons, List.length_nil]; omega)
        try simp only [Act.put, List.getElem_toArray, List.getElem_cons_succ, List.getElem_cons_zero, List.setIfInBounds_toArray, List.set_cons_succ, List.set_cons_zero]
        refine any1H 9 (by kernel_rfl) rfl (fun K hK => ?_)
        go_wp2_with (first | ((with_reducible refine gate_dst (N := 22) rfl ?_); go_must (refine M.out.ev_ld 0 _ _ rfl rfl rfl Tryd.underlying56 rfl rfl (by first | assumption | rfl) ?_)) | ((with_reducible refine gate_dst (N := 25) rfl ?_); go_must (refine ev_cat _ _ _ _ rfl rfl _ _ rfl rfl rfl (by simp only [List.length_append, List.length_cons, List.length_nil]; omega) ?_)) | ((with_reducible refine gate_dst (N := 27) rfl ?_); go_must (refine M.out.ev_ld 0 _ _ rfl rfl rfl Tryd.underlying56 rfl rfl (by first | assumption | rfl) ?_)) | ((with_reducible refine gate_dst (N := 30) rfl ?_); go_must (refine ev_cat _ _ _ _ rfl rfl _ _ rfl rfl rfl (by simp only [List.length_append, List.length_cons, List.length_nil]; omega) ?_)) | ((with_reducible refine gate_dst (N := 31) rfl ?_); go_must (refine ev_cat _ _ _ _ rfl rfl _ _ rfl rfl rfl (by simp only [List.length_append, List.length_cons, List.length_nil]; omega) ?_)) | ((with_reducible refine gate_dst (N := 33) rfl ?_); go_must (refine M.out.ev_ld 0 _ _ rfl rfl rfl Tryd.underlying56 rfl rfl (by first | assumption | rfl) ?_)) | ((with_reducible refine gate_dst (N := 36) rfl ?_); go_must (refine ev_cat _ _ _ _ rfl rfl _ _ rfl rfl rfl (by simp only [List.length_append, List.length_cons, List.length_nil]; omega) ?_)) | ((with_reducible refine gate_dst (N := 37) rfl ?_); go_must (refine ev_cat _ _ _ _ rfl rfl _ _ rfl rfl rfl (by simp only [List.length_append, List.length_cons, List.length_nil]; omega) ?_)) | (go_at_call 68; go_must (first | (refine Calls.mono (calls_args (by with_reducible rfl) (Df1.out _)) ?_) | (refine Calls.mono (calls_args (by with_reducible rfl) (Df2.out _)) ?_) | (refine Calls.mono (calls_args (by with_reducible rfl) (Df3.out _)) ?_)); rintro e w_ ⟨rfl, N_⟩; have m := M.out.join N_; clear N_; simp only [List.cons_append, List.nil_append, List.append_nil] at m; have M := Lib.hid m; clear m))
        refine onward_normal (hK _ _ ⟨(M.out.blk 0 rfl), ?_⟩)
        clear hK K
        try simp only [Act.put, List.getElem_toArray, List.getElem_cons_succ, List.getElem_cons_zero, List.setIfInBounds_toArray, List.set_cons_succ, List.set_cons_zero]
        apply takeH (i := 10) 30 rfl (by kernel_rfl) (by kernel_rfl) (by kernel_rfl) (fun _ _ _ h => h) rfl (M.out.blk 0 rfl)
        case' hy => exact yld_cat _ _ _ _ rfl rfl _ _ rfl rfl rfl (by simp only [List.length_append, List.length_cons, List.length_nil]; omega)
        try simp only [Act.put, List.getElem_toArray, List.getElem_cons_succ, List.getElem_cons_zero, List.setIfInBounds_toArray, List.set_cons_succ, List.set_cons_zero]
        apply takeH (i := 11) 31 rfl (by kernel_rfl) (by kernel_rfl) (by kernel_rfl) (fun _ _ _ h => h) rfl (M.out.blk 0 rfl)
        case' hy => exact yld_cat _ _ _ _ rfl rfl _ _ rfl rfl rfl (by simp only [List.length_append, List.length_cons, List.length_nil]; omega)
        try simp only [Act.put, List.getElem_toArray, List.getElem_cons_succ, List.getElem_cons_zero, List.setIfInBounds_toArray, List.set_cons_succ, List.set_cons_zero]
        refine any1H 15 (by kernel_rfl) rfl (fun K hK => ?_)
        go_wp2_with (first | ((with_reducible refine gate_dst (N := 22) rfl ?_); go_must (refine M.out.ev_ld 0 _ _ rfl rfl rfl Tryd.underlying56 rfl rfl (by first | assumption | rfl) ?_)) | ((with_reducible refine gate_dst (N := 25) rfl ?_); go_must (refine ev_cat _ _ _ _ rfl rfl _ _ rfl rfl rfl (by simp only [List.length_append, List.length_cons, List.length_nil]; omega) ?_)) | ((with_reducible refine gate_dst (N := 27) rfl ?_); go_must (refine M.out.ev_ld 0 _ _ rfl rfl rfl Tryd.underlying56 rfl rfl (by first | assumption | rfl) ?_)) | ((with_reducible refine gate_dst (N := 30) rfl ?_); go_must (refine ev_cat _ _ _ _ rfl rfl _ _ rfl rfl rfl (by simp only [List.length_append, List.length_cons, List.length_nil]; omega) ?_)) | ((with_reducible refine gate_dst (N := 31) rfl ?_); go_must (refine ev_cat _ _ _ _ rfl rfl _ _ rfl rfl rfl (by simp only [List.length_append, List.length_cons, List.length_nil]; omega) ?_)) | ((with_reducible refine gate_dst (N := 33) rfl ?_); go_must (refine M.out.ev_ld 0 _ _ rfl rfl rfl Tryd.underlying56 rfl rfl (by first | assumption | rfl) ?_)) | ((with_reducible refine gate_dst (N := 36) rfl ?_); go_must (refine ev_cat _ _ _ _ rfl rfl _ _ rfl rfl rfl (by simp only [List.length_append, List.length_cons, List.length_nil]; omega) ?_)) | ((with_reducible refine gate_dst (N := 37) rfl ?_); go_must (refine ev_cat _ _ _ _ rfl rfl _ _ rfl rfl rfl (by simp only [List.length_append, List.length_cons, List.length_nil]; omega) ?_)) | (go_at_call 68; go_must (first | (refine Calls.mono (calls_args (by with_reducible rfl) (Df1.out _)) ?_) | (refine Calls.mono (calls_args (by with_reducible rfl) (Df2.out _)) ?_) | (refine Calls.mono (calls_args (by with_reducible rfl) (Df3.out _)) ?_)); rintro e w_ ⟨rfl, N_⟩; have m := M.out.join N_; clear N_; simp only [List.cons_append, List.nil_append, List.append_nil] at m; have M := Lib.hid m; clear m))
        refine onward_normal (hK _ _ ⟨(M.out.blk 0 rfl), ?_⟩)
        clear hK K
        try simp only [Act.put, List.getElem_toArray, List.getElem_cons_succ, List.getElem_cons_zero, List.setIfInBounds_toArray, List.set_cons_succ, List.set_cons_zero]
        apply takeH (i := 16) 36 rfl (by kernel_rfl) (by kernel_rfl) (by kernel_rfl) (fun _ _ _ h => h) rfl (M.out.blk 0 rfl)
        case' hy => exact yld_cat _ _ _ _ rfl rfl _ _ rfl rfl rfl (by simp only [List.length_append, List.length_cons, List.length_nil]; omega)
        try simp only [Act.put, List.getElem_toArray, List.getElem_cons_succ, List.getElem_cons_zero, List.setIfInBounds_toArray, List.set_cons_succ, List.set_cons_zero]
        apply takeH (i := 17) 37 rfl (by kernel_rfl) (by kernel_rfl) (by kernel_rfl) (fun _ _ _ h => h) rfl (M.out.blk 0 rfl)
        case' hy => exact yld_cat _ _ _ _ rfl rfl _ _ rfl rfl rfl (by simp only [List.length_append, List.length_cons, List.length_nil]; omega)
        try simp only [Act.put, List.getElem_toArray, List.getElem_cons_succ, List.getElem_cons_zero, List.setIfInBounds_toArray, List.set_cons_succ, List.set_cons_zero]
        apply takeH (i := 18) 3 rfl (by kernel_rfl) (by kernel_rfl) (by kernel_rfl) (fun _ _ _ h => h) rfl (M.out.blk 0 rfl)
        case' hy =>
          refine Or.inl ⟨by first | rfl | (go_simp; done), ?_⟩
          intro w hS
          clear hS
          go_simp
          try with_reducible rfl
        try simp only [Act.put, List.getElem_toArray, List.getElem_cons_succ, List.getElem_cons_zero, List.setIfInBounds_toArray, List.set_cons_succ, List.set_cons_zero]
        refine wpAnyH_done (by kernel_rfl) ?_ _
        go_wp2
        refine region_anyH (fun w' => Blk w' g5 91 #[.int .i16 f1, .int .i16 f2, .int .i16 f3, .int .i16 f4, .int .i16 f5, .int .i8 f6]) (by kernel_rfl) ?_
        have m := M.out.drew
        clear M
        have M := Lib.hid m
        clear m
        apply takeH (i := 0) 38 rfl (by kernel_rfl) (by kernel_rfl) (by kernel_rfl) (fun _ _ _ h => h) rfl (M.out.blk 0 rfl)
        case' hy =>
          refine Or.inl ⟨by first | rfl | (go_simp; done), ?_⟩
          intro w hS
          clear hS
          go_simp
          try with_reducible rfl
        try simp only [Act.put, List.getElem_toArray, List.getElem_cons_succ, List.getElem_cons_zero, List.setIfInBounds_toArray, List.set_cons_succ, List.set_cons_zero]
        apply takeH (i := 1) 39 rfl (by kernel_rfl) (by kernel_rfl) (by kernel_rfl) (fun _ _ _ h => h) rfl (M.out.blk 0 rfl)
        case' hy =>
          refine Or.inl ⟨by first | rfl | (go_simp; done), ?_⟩
          intro w hS
          clear hS
          go_simp
          try with_reducible rfl
        try simp only [Act.put, List.getElem_toArray, List.getElem_cons_succ, List.getElem_cons_zero, List.setIfInBounds_toArray, List.set_cons_succ, List.set_cons_zero]
        apply takeH (i := 2) 40 rfl (by kernel_rfl) (by kernel_rfl) (by kernel_rfl) (fun _ _ _ h => h) rfl (M.out.blk 0 rfl)
        case' hy => exact ylds _ _ rfl rfl Tryd.underlying56 rfl rfl (fun w' hS => hS.cellv rfl)
        try simp only [Act.put, List.getElem_toArray, List.getElem_cons_succ, List.getElem_cons_zero, List.setIfInBounds_toArray, List.set_cons_succ, List.set_cons_zero]
        apply takeH (i := 3) 41 rfl (by kernel_rfl) (by kernel_rfl) (by kernel_rfl) (fun _ _ _ h => h) rfl (M.out.blk 0 rfl)
        case' hy =>
          refine Or.inl ⟨by first | rfl | (go_simp; done), ?_⟩
          intro w hS
          clear hS
          go_simp
          try with_reducible rfl
        try simp only [Act.put, List.getElem_toArray, List.getElem_cons_succ, List.getElem_cons_zero, List.setIfInBounds_toArray, List.set_cons_succ, List.set_cons_zero]
        apply takeH (i := 7) 45 rfl (by kernel_rfl) (by kernel_rfl) (by kernel_rfl) (fun _ _ _ h => h) rfl (M.out.blk 0 rfl)
        case' hy =>
          refine Or.inl ⟨by first | rfl | (go_simp; done), ?_⟩
          intro w hS
          clear hS
          go_simp
          try with_reducible rfl
        try simp only [Act.put, List.getElem_toArray, List.getElem_cons_succ, List.getElem_cons_zero, List.setIfInBounds_toArray, List.set_cons_succ, List.set_cons_zero]
        apply takeH (i := 8) 46 rfl (by kernel_rfl) (by kernel_rfl) (by kernel_rfl) (fun _ _ _ h => h) rfl (M.out.blk 0 rfl)
        case' hy => exact ylds _ _ rfl rfl Tryd.underlying56 rfl rfl (fun w' hS => hS.cellv rfl)
        try simp only [Act.put, List.getElem_toArray, List.getElem_cons_succ, List.getElem_cons_zero, List.setIfInBounds_toArray, List.set_cons_succ, List.set_cons_zero]
        apply takeH (i := 9) 47 rfl (by kernel_rfl) (by kernel_rfl) (by kernel_rfl) (fun _ _ _ h => h) rfl (M.out.blk 0 rfl)
        case' hy =>
          refine Or.inl ⟨by first | rfl | (go_simp; done), ?_⟩
          intro w hS
          clear hS
          go_simp
          try with_reducible rfl
        try simp only [Act.put, List.getElem_toArray, List.getElem_cons_succ, List.getElem_cons_zero, List.setIfInBounds_toArray, List.set_cons_succ, List.set_cons_zero]
        apply takeH (i := 13) 51 rfl (by kernel_rfl) (by kernel_rfl) (by kernel_rfl) (fun _ _ _ h => h) rfl (M.out.blk 0 rfl)
        case' hy =>
          refine Or.inl ⟨by first | rfl | (go_simp; done), ?_⟩
          intro w hS
          clear hS
          go_simp
          try with_reducible rfl
        try simp only [Act.put, List.getElem_toArray, List.getElem_cons_succ, List.getElem_cons_zero, List.setIfInBounds_toArray, List.set_cons_succ, List.set_cons_zero]
        apply takeH (i := 14) 52 rfl (by kernel_rfl) (by kernel_rfl) (by kernel_rfl) (fun _ _ _ h => h) rfl (M.out.blk 0 rfl)
        case' hy => exact ylds _ _ rfl rfl Tryd.underlying55 rfl rfl (fun w' hS => hS.cellv rfl)
        try simp only [Act.put, List.getElem_toArray, List.getElem_cons_succ, List.getElem_cons_zero, List.setIfInBounds_toArray, List.set_cons_succ, List.set_cons_zero]
        apply takeH (i := 15) 53 rfl (by kernel_rfl) (by kernel_rfl) (by kernel_rfl) (fun _ _ _ h => h) rfl (M.out.blk 0 rfl)
        case' hy =>
          refine Or.inl ⟨by first | rfl | (go_simp; done), ?_⟩
          intro w hS
          clear hS
          go_simp
          try with_reducible rfl
        try simp only [Act.put, List.getElem_toArray, List.getElem_cons_succ, List.getElem_cons_zero, List.setIfInBounds_toArray, List.set_cons_succ, List.set_cons_zero]
        refine any1H 4 (by kernel_rfl) rfl (fun K hK => ?_)
        go_wp2_with (first | ((with_reducible refine gate_dst (N := 40) rfl ?_); go_must (refine M.out.ev_ld 0 _ _ rfl rfl rfl Tryd.underlying56 rfl rfl (by first | assumption | rfl) ?_)) | ((with_reducible refine gate_dst (N := 43) rfl ?_); go_must (refine ev_cat _ _ _ _ rfl rfl _ _ rfl rfl rfl (by simp only [List.length_append, List.length_cons, List.length_nil]; omega) ?_)) | ((with_reducible refine gate_dst (N := 44) rfl ?_); go_must (refine ev_cat _ _ _ _ rfl rfl _ _ rfl rfl rfl (by simp only [List.length_append, List.length_cons, List.length_nil]; omega) ?_)) | ((with_reducible refine gate_dst (N := 46) rfl ?_); go_must (refine M.out.ev_ld 0 _ _ rfl rfl rfl Tryd.underlying56 rfl rfl (by first | assumption | rfl) ?_)) | ((with_reducible refine gate_dst (N := 49) rfl ?_); go_must (refine ev_cat _ _ _ _ rfl rfl _ _ rfl rfl rfl (by simp only [List.length_append, List.length_cons, List.length_nil]; omega) ?_)) | ((with_reducible refine gate_dst (N := 50) rfl ?_); go_must (refine ev_cat _ _ _ _ rfl rfl _ _ rfl rfl rfl (by simp only [List.length_append, List.length_cons, List.length_nil]; omega) ?_)) | ((with_reducible refine gate_dst (N := 52) rfl ?_); go_must (refine M.out.ev_ld 0 _ _ rfl rfl rfl Tryd.underlying55 rfl rfl (by first | assumption | rfl) ?_)) | ((with_reducible refine gate_dst (N := 55) rfl ?_); go_must (refine ev_cat _ _ _ _ rfl rfl _ _ rfl rfl rfl (by simp only [List.length_append, List.length_cons, List.length_nil]; omega) ?_)) | ((with_reducible refine gate_dst (N := 56) rfl ?_); go_must (refine ev_cat _ _ _ _ rfl rfl _ _ rfl rfl rfl (by simp only [List.length_append, List.length_cons, List.length_nil]; omega) ?_)) | (go_at_call 68; go_must (first | (refine Calls.mono (calls_args (by with_reducible rfl) (Df4.out _)) ?_) | (refine Calls.mono (calls_args (by with_reducible rfl) (Df5.out _)) ?_) | (refine Calls.mono (calls_args (by with_reducible rfl) (Df6.out _)) ?_)); rintro e w_ ⟨rfl, N_⟩; have m := M.out.join N_; clear N_; simp only [List.cons_append, List.nil_append, List.append_nil] at m; have M := Lib.hid m; clear m))
        refine onward_normal (hK _ _ ⟨(M.out.blk 0 rfl), ?_⟩)
        clear hK K
        try simp only [Act.put, List.getElem_toArray, List.getElem_cons_succ, List.getElem_cons_zero, List.setIfInBounds_toArray, List.set_cons_succ, List.set_cons_zero]
        apply takeH (i := 5) 43 rfl (by kernel_rfl) (by kernel_rfl) (by kernel_rfl) (fun _ _ _ h => h) rfl (M.out.blk 0 rfl)
        case' hy => exact yld_cat _ _ _ _ rfl rfl _ _ rfl rfl rfl (by simp only [List.length_append, List.length_cons, List.length_nil]; omega)
        try simp only [Act.put, List.getElem_toArray, List.getElem_cons_succ, List.getElem_cons_zero, List.setIfInBounds_toArray, List.set_cons_succ, List.set_cons_zero]
        apply takeH (i := 6) 44 rfl (by kernel_rfl) (by kernel_rfl) (by kernel_rfl) (fun _ _ _ h => h) rfl (M.out.blk 0 rfl)
        case' hy => exact yld_cat _ _ _ _ rfl rfl _ _ rfl rfl rfl (by simp only [List.length_append, List.length_cons, List.length_nil]; omega)
        try simp only [Act.put, List.getElem_toArray, List.getElem_cons_succ, List.getElem_cons_zero, List.setIfInBounds_toArray, List.set_cons_succ, List.set_cons_zero]
        refine any1H 10 (by kernel_rfl) rfl (fun K hK => ?_)
        go_wp2_with (first | ((with_reducible refine gate_dst (N := 40) rfl ?_); go_must (refine M.out.ev_ld 0 _ _ rfl rfl rfl Tryd.underlying56 rfl rfl (by first | assumption | rfl) ?_)) | ((with_reducible refine gate_dst (N := 43) rfl ?_); go_must (refine ev_cat _ _ _ _ rfl rfl _ _ rfl rfl rfl (by simp only [List.length_append, List.length_cons, List.length_nil]; omega) ?_)) | ((with_reducible refine gate_dst (N := 44) rfl ?_); go_must (refine ev_cat _ _ _ _ rfl rfl _ _ rfl rfl rfl (by simp only [List.length_append, List.length_cons, List.length_nil]; omega) ?_)) | ((with_reducible refine gate_dst (N := 46) rfl ?_); go_must (refine M.out.ev_ld 0 _ _ rfl rfl rfl Tryd.underlying56 rfl rfl (by first | assumption | rfl) ?_)) | ((with_reducible refine gate_dst (N := 49) rfl ?_); go_must (refine ev_cat _ _ _ _ rfl rfl _ _ rfl rfl rfl (by simp only [List.length_append, List.length_cons, List.length_nil]; omega) ?_)) | ((with_reducible refine gate_dst (N := 50) rfl ?_); go_must (refine ev_cat _ _ _ _ rfl rfl _ _ rfl rfl rfl (by simp only [List.length_append, List.length_cons, List.length_nil]; omega) ?_)) | ((with_reducible refine gate_dst (N := 52) rfl ?_); go_must (refine M.out.ev_ld 0 _ _ rfl rfl rfl Tryd.underlying55 rfl rfl (by first | assumption | rfl) ?_)) | ((with_reducible refine gate_dst (N := 55) rfl ?_); go_must (refine ev_cat _ _ _ _ rfl rfl _ _ rfl rfl rfl (by simp only [List.length_append, List.length_cons, List.length_nil]; omega) ?_)) | ((with_reducible refine gate_dst (N := 56) rfl ?_); go_must (refine ev_cat _ _ _ _ rfl rfl _ _ rfl rfl rfl (by simp only [List.length_append, List.length_cons, List.length_nil]; omega) ?_)) | (go_at_call 68; go_must (first | (refine Calls.mono (calls_args (by with_reducible rfl) (Df4.out _)) ?_) | (refine Calls.mono (calls_args (by with_reducible rfl) (Df5.out _)) ?_) | (refine Calls.mono (calls_args (by with_reducible rfl) (Df6.out _)) ?_)); rintro e w_ ⟨rfl, N_⟩; have m := M.out.join N_; clear N_; simp only [List.cons_append, List.nil_append, List.append_nil] at m; have M := Lib.hid m; clear m))
        refine onward_normal (hK _ _ ⟨(M.out.blk 0 rfl), ?_⟩)
        clear hK K
        try simp only [Act.put, List.getElem_toArray, List.getElem_cons_succ, List.getElem_cons_zero, List.setIfInBounds_toArray, List.set_cons_succ, List.set_cons_zero]
        apply takeH (i := 11) 49 rfl (by kernel_rfl) (by kernel_rfl) (by kernel_rfl) (fun _ _ _ h => h) rfl (M.out.blk 0 rfl)
        case' hy => exact yld_cat _ _ _ _ rfl rfl _ _ rfl rfl rfl (by simp only [List.length_append, List.length_cons, List.length_nil]; omega)
        try simp only [Act.put, List.getElem_toArray, List.getElem_cons_succ, List.getElem_cons_zero, List.setIfInBounds_toArray, List.set_cons_succ, List.set_cons_zero]
        apply takeH (i := 12) 50 rfl (by kernel_rfl) (by kernel_rfl) (by kernel_rfl) (fun _ _ _ h => h) rfl (M.out.blk 0 rfl)
        case' hy => exact yld_cat _ _ _ _ rfl rfl _ _ rfl rfl rfl (by simp only [List.length_append, List.length_cons, List.length_nil]; omega)
        try simp only [Act.put, List.getElem_toArray, List.getElem_cons_succ, List.getElem_cons_zero, List.setIfInBounds_toArray, List.set_cons_succ, List.set_cons_zero]
        refine any1H 16 (by kernel_rfl) rfl (fun K hK => ?_)
        go_wp2_with (first | ((with_reducible refine gate_dst (N := 40) rfl ?_); go_must (refine M.out.ev_ld 0 _ _ rfl rfl rfl Tryd.underlying56 rfl rfl (by first | assumption | rfl) ?_)) | ((with_reducible refine gate_dst (N := 43) rfl ?_); go_must (refine ev_cat _ _ _ _ rfl rfl _ _ rfl rfl rfl (by simp only [List.length_append, List.length_cons, List.length_nil]; omega) ?_)) | ((with_reducible refine gate_dst (N := 44) rfl ?_); go_must (refine ev_cat _ _ _ _ rfl rfl _ _ rfl rfl rfl (by simp only [List.length_append, List.length_cons, List.length_nil]; omega) ?_)) | ((with_reducible refine gate_dst (N := 46) rfl ?_); go_must (refine M.out.ev_ld 0 _ _ rfl rfl rfl Tryd.underlying56 rfl rfl (by first | assumption | rfl) ?_)) | ((with_reducible refine gate_dst (N := 49) rfl ?_); go_must (refine ev_cat _ _ _ _ rfl rfl _ _ rfl rfl rfl (by simp only [List.length_append, List.length_cons, List.length_nil]; omega) ?_)) | ((with_reducible refine gate_dst (N := 50) rfl ?_); go_must (refine ev_cat _ _ _ _ rfl rfl _ _ rfl rfl rfl (by simp only [List.length_append, List.length_cons, List.length_nil]; omega) ?_)) | ((with_reducible refine gate_dst (N := 52) rfl ?_); go_must (refine M.out.ev_ld 0 _ _ rfl rfl rfl Tryd.underlying55 rfl rfl (by first | assumption | rfl) ?_)) | ((with_reducible refine gate_dst (N := 55) rfl ?_); go_must (refine ev_cat _ _ _ _ rfl rfl _ _ rfl rfl rfl (by simp only [List.length_append, List.length_cons, List.length_nil]; omega) ?_)) | ((with_reducible refine gate_dst (N := 56) rfl ?_); go_must (refine ev_cat _ _ _ _ rfl rfl _ _ rfl rfl rfl (by simp only [List.length_append, List.length_cons, List.length_nil]; omega) ?_)) | (go_at_call 68; go_must (first | (refine Calls.mono (calls_args (by with_reducible rfl) (Df4.out _)) ?_) | (refine Calls.mono (calls_args (by with_reducible rfl) (Df5.out _)) ?_) | (refine Calls.mono (calls_args (by with_reducible rfl) (Df6.out _)) ?_)); rintro e w_ ⟨rfl, N_⟩; have m := M.out.join N_; clear N_; simp only [List.cons_append, List.nil_append, List.append_nil] at m; have M := Lib.hid m; clear m))
        refine onward_normal (hK _ _ ⟨(M.out.blk 0 rfl), ?_⟩)
        clear hK K
        try simp only [Act.put, List.getElem_toArray, List.getElem_cons_succ, List.getElem_cons_zero, List.setIfInBounds_toArray, List.set_cons_succ, List.set_cons_zero]
        apply takeH (i := 17) 55 rfl (by kernel_rfl) (by kernel_rfl) (by kernel_rfl) (fun _ _ _ h => h) rfl (M.out.blk 0 rfl)
        case' hy => exact yld_cat _ _ _ _ rfl rfl _ _ rfl rfl rfl (by simp only [List.length_append, List.length_cons, List.length_nil]; omega)
        try simp only [Act.put, List.getElem_toArray, List.getElem_cons_succ, List.getElem_cons_zero, List.setIfInBounds_toArray, List.set_cons_succ, List.set_cons_zero]
        apply takeH (i := 18) 56 rfl (by kernel_rfl) (by kernel_rfl) (by kernel_rfl) (fun _ _ _ h => h) rfl (M.out.blk 0 rfl)
        case' hy => exact yld_cat _ _ _ _ rfl rfl _ _ rfl rfl rfl (by simp only [List.length_append, List.length_cons, List.length_nil]; omega)
        try simp only [Act.put, List.getElem_toArray, List.getElem_cons_succ, List.getElem_cons_zero, List.setIfInBounds_toArray, List.set_cons_succ, List.set_cons_zero]
        apply takeH (i := 19) 3 rfl (by kernel_rfl) (by kernel_rfl) (by kernel_rfl) (fun _ _ _ h => h) rfl (M.out.blk 0 rfl)
        case' hy =>
          refine Or.inl ⟨by first | rfl | (go_simp; done), ?_⟩
          intro w hS
          clear hS
          go_simp
          try with_reducible rfl
        try simp only [Act.put, List.getElem_toArray, List.getElem_cons_succ, List.getElem_cons_zero, List.setIfInBounds_toArray, List.set_cons_succ, List.set_cons_zero]
        refine wpAnyH_done (by kernel_rfl) ?_ _
        all_goals
          go_wp2
          exact ⟨⟨k + 1, by omega, by go_num, by rw [HO.out, HW.out]; simp only [List.append_assoc, List.cons_append, List.nil_append], M.out.take 0⟩, by simp [intOf]; omega⟩
    · obtain rfl : k = xs.length := by omega
      have i1 : ¬ ((xs.length : Int) < (xs.length : Int)) := by omega
      have HA := Lib.hid (show wordsT (xs.map Flock.word) xs.length = joinS 32 (xs.map Flock.word) by have := wordsT_all (xs.map Flock.word); rwa [List.length_map] at this)
      rw [HA.out]
      go_wp2
      go_ret
      exact ⟨rfl, M.out⟩
set_option maxRecDepth 100000 in
set_option maxHeartbeats 8000000 in
theorem l02Told_any (A : Option Addr) (n : Nat) (xs : List Flock) (hx : ∀ x ∈ xs, x.ok) (hl : xs.length ≤ 1048576) (w : World) (hs : Sl w 6 A xs.length (flat Flock.vals xs)) :
    Calls Tryd.prog 53 #[.slice A xs.length n] w fun e w' => e = .returned (.bool (xs.all Flock.plain && decide (xs.length ≤ 12))) ∧ Mem w w' [] := by
  have M := Lib.hid (Mem.start w)
  have HX := Lib.hid hx
  have HS := Lib.hid hs
  clear hx hs
  go_enter Tryd.func53, Tryd.ntmps53
  go_wp2
  go_loopw [3] (fun v wr => ∃ k : Nat, k ≤ xs.length ∧ v = .int .i64 k ∧ (∀ x ∈ xs.take k, x.plain = true) ∧ Mem w wr [])
    (fun v _ => xs.length - (intOf v).toNat)
  case atStart => exact ⟨0, by omega, rfl, fun x h => absurd h (by simp), M.out⟩
  case round =>
    clear M
    obtain ⟨k, hk, rfl, he, m⟩ := hrel
    have M := Lib.hid m
    have HE := Lib.hid he
    clear m he
    by_cases hlt : k < xs.length
    · obtain ⟨b, off, rfl, hr⟩ := (M.out.sl HS.out).2 (by omega)
      have R := Lib.hid (range_at Flock.vl hr (List.getElem?_eq_getElem hlt))
      have hO := HX.out xs[k] (List.getElem_mem hlt)
      have HM := Lib.hid (List.getElem_mem hlt)
      have HN := Lib.hid (fun h => allT_succ (p := fun x : Flock => x.plain = true) hlt HE.out h)
      have i0 : (0 : Int) ≤ (k : Int) := by omega
      have i1 : (k : Int) < (xs.length : Int) := by omega
      obtain ⟨z, hz⟩ : ∃ z, z = xs[k] := ⟨_, rfl⟩
      rw [← hz] at R hO HM HN
      clear hr hz
      have X0 : wr.cell? ⟨b, off + k * 6, none⟩ = some (.int .i16 z.tree) := R.out 0 _ rfl
      obtain ⟨l0, u0⟩ := hO.tree
      have e0 : IntKind.i64.wrap z.tree = z.tree := IntWalk.i64_in _ (by omega)
      have LP := Lib.hid (fun w hb => l02Plain_any b (off + k * 6) z hO w hb)
      have HFN := Lib.hid (Flock.plain_eq z)
      clear hO
      obtain ⟨B1, hB1⟩ : ∃ q, q = (inB z.birds 0 200 && (inB z.eats 0 20 && (inB z.bold 0 1000 && (inB z.reach 0 200 && inB z.taste 0 2)))) := ⟨_, rfl⟩
      rw [← hB1] at LP HFN
      clear hB1
      cases B1 <;> cases q0 : inB z.tree 0 99 <;>
      · have H0 := Lib.hid q0
        clear q0
        go_wp2_with (first
          | (go_at_call 74; go_must (refine (LP.out _ R.out).mono ?_); rintro e w_ ⟨rfl, rfl⟩)
          | (go_at_call 63; go_must (refine (l00In_any _ _ _ _).mono ?_); rintro e w_ ⟨rfl, rfl⟩; rw [H0.out])
          )
        first
          | exact ⟨⟨k + 1, by omega, by go_num, HN.out (by rw [HFN.out, H0.out]; rfl), M.out.take 0⟩, by simp [intOf]; omega⟩
          | (go_ret; exact ⟨ret_bool (by rw [not_allT HM.out (by rw [HFN.out, H0.out]; rfl)]; rfl), M.out.take 0⟩)
    · obtain rfl : k = xs.length := by omega
      have i1 : ¬ ((xs.length : Int) < (xs.length : Int)) := by omega
      have HA := Lib.hid (allT_of HE.out)
      by_cases h9 : xs.length ≤ 12
      · have i9 : (xs.length : Int) ≤ 12 := by omega
        clear HE
        go_wp2
        go_ret
        exact ⟨ret_bool (by first | rfl | ((rw [HA.out]) <;> simp [h9])), M.out⟩
      · have i9 : ¬ ((xs.length : Int) ≤ 12) := by omega
        clear HE
        go_wp2
        go_ret
        exact ⟨ret_bool (by first | rfl | ((rw [HA.out]) <;> simp [h9])), M.out⟩
set_option maxRecDepth 100000 in
set_option maxHeartbeats 4000000 in
theorem spec_FlocksText_any (A : Option Addr) (n : Nat) (xs : List Flock) (hx : ∀ x ∈ xs, x.ok) (hl : xs.length ≤ 1048576) (w : World) (hs : Sl w 6 A xs.length (flat Flock.vals xs)) :
    Calls Tryd.prog 24 #[.slice A xs.length n] w fun e w' => e = .returned (.string ⟨(flocksT xs).toArray⟩) ∧ Mem w w' [] := by
  have M := Lib.hid (Mem.start w)
  have HX := Lib.hid hx
  have HS := Lib.hid hs
  clear hx hs
  cases hq : (xs.all Flock.plain && decide (xs.length ≤ 12))
  · have HQ := Lib.hid hq
    have HD := Lib.hid (show flocksT xs = [] by
      rw [Bool.and_eq_false_iff] at hq
      unfold flocksT
      rcases hq with h | h
      · rw [if_neg (by rw [h]; decide)]
      · rw [if_neg (of_decide_eq_false h)]; split <;> rfl)
    clear hq
    go_enter Tryd.func24, Tryd.ntmps24
    go_wp2_with (first
      | (go_at_call 53; go_must (refine (l02Told_any A n xs HX.out hl _ (M.out.sl HS.out)).mono ?_); rintro e w_ ⟨rfl, N_⟩; have m := M.out.join N_; clear N_; simp only [List.cons_append, List.nil_append, List.append_nil] at m; have M := Lib.hid m; clear m; rw [HQ.out])
      )
    go_ret
    exact ⟨by rw [HD.out]; rfl, M.out⟩
  · have HQ := Lib.hid hq
    rw [Bool.and_eq_true] at hq
    have h9 := of_decide_eq_true hq.2
    have HP := Lib.hid (fun x hx => List.all_eq_true.1 hq.1 x hx : ∀ x ∈ xs, x.plain = true)
    have HD := Lib.hid (show flocksT xs = joinS 32 (xs.map Flock.word) by rw [flocksT, if_pos hq.1, if_pos h9])
    clear hq
    go_enter Tryd.func24, Tryd.ntmps24
    go_wp2_with (first
      | (go_at_call 53; go_must (refine (l02Told_any A n xs HX.out hl _ (M.out.sl HS.out)).mono ?_); rintro e w_ ⟨rfl, N_⟩; have m := M.out.join N_; clear N_; simp only [List.cons_append, List.nil_append, List.append_nil] at m; have M := Lib.hid m; clear m; rw [HQ.out])
      | (go_at_call 54; go_must (refine (l02Text_any A n xs HX.out HP.out h9 _ (M.out.sl HS.out)).mono ?_); rintro e w_ ⟨rfl, N_⟩; have m := M.out.join N_; clear N_; simp only [List.cons_append, List.nil_append, List.append_nil] at m; have M := Lib.hid m; clear m)
      )
    go_ret
    exact ⟨by rw [HD.out]; rfl, M.out⟩
set_option maxRecDepth 100000 in
set_option maxHeartbeats 8000000 in
theorem impl_FlocksText_any (A : Option Addr) (n : Nat) (xs : List Flock) (hx : ∀ x ∈ xs, x.ok) (hl : xs.length ≤ 1048576) (w : World) (ht : Tab w) (hs : Sl w 6 A xs.length (flat Flock.vals xs)) :
    Calls Tryd.prog 26 #[.slice A xs.length n] w fun e w' => e = .returned (.string ⟨(flocksT xs).toArray⟩) ∧ Mem w w' [] := by
  have M := Lib.hid (Mem.start w)
  have HX := Lib.hid hx
  have HS := Lib.hid hs
  have HT := Lib.hid ht
  clear hx hs ht
  go_enter Tryd.func26, Tryd.ntmps26
  go_wp2_with (first
    | ((with_reducible refine gate_dst (N := 10) rfl ?_); go_must (refine M.out.ev_bs0 elem_string rfl rfl ?_); intro g0 w0 m; simp only [List.nil_append] at m; have M := Lib.hid m; clear m)
    )
  go_loopw [3, 13] (fun s v wr => ∃ k : Nat, k ≤ xs.length ∧ v = .int .i64 k ∧ (∀ x ∈ xs.take k, x.plain = true) ∧ (0 < k → xs.length ≤ 12) ∧ Mem w wr [.row s 9 1 k (flat oneS (strsOf ((xs.map Flock.word).take k)))])
    (fun _ v _ => xs.length - (intOf v).toNat)
  case atStart => exact ⟨0, by omega, rfl, fun x h => absurd h (by simp), fun h => by omega, M.out⟩
  case round =>
    clear M
    obtain ⟨k, hk, rfl, he, h100, m⟩ := hrel
    have M := Lib.hid m
    have HE := Lib.hid he
    clear m he
    by_cases hlt : k < xs.length
    · obtain ⟨b, off, rfl, hr⟩ := HS.out.2 (by omega)
      have R := Lib.hid (range_at Flock.vl hr (List.getElem?_eq_getElem hlt))
      have HO := Lib.hid (HX.out xs[k] (List.getElem_mem hlt))
      have HM := Lib.hid (List.getElem_mem hlt)
      have i0 : (0 : Int) ≤ (k : Int) := by omega
      have i1 : (k : Int) < (xs.length : Int) := by omega
      clear hr
      cases hf : xs[k].plain
      · have HFN := Lib.hid hf
        clear hf h100
        go_wp2_with (first
          | ((with_reducible refine gate_dst (N := 16) rfl ?_); go_must (refine ev_ldr _ _ rfl rfl (M.out.argT R.out) Tryd.underlying91 rfl (by first | exact sz91 | (rw [S1.out]; exact sz91)) rfl ?_))
          | ((with_reducible refine gate_dst (N := 5) rfl ?_); go_must (refine M.out.ev_new rfl (by first | (go_simp; done) | (go_simp; rfl)) ?_); intro g5 w5 m; simp only [List.cons_append, List.nil_append] at m; have M := Lib.hid m; clear m)
          | ((with_reducible refine gate_store (x := .tmp 5) rfl ?_); go_must (refine M.out.ev_stw 1 _ _ _ rfl rfl rfl rfl _ rfl (by first | rfl | (simp only [S1.out]; rfl) | (simp only [S1.out, S2.out]; rfl) | (simp only [S3.out]; rfl) | (simp only [S1.out, S2.out, S3.out]; rfl)) (by first | exact sz91 | (rw [S1.out]; exact sz91) | (rw [S2.out]; exact sz91) | (rw [S3.out]; exact sz91)) (by first | exact ints_one _ _ | exact Fld.one _ | exact O1.out | exact Flock.one _ | rfl | (simp [Value.oneCell']; done)) rfl ?_); intro wn m; simp only [List.set_cons_succ, List.set_cons_zero, List.setIfInBounds_toArray] at m; have M := Lib.hid m; clear m)
          | ((with_reducible refine gate_dst (N := 7) rfl ?_); go_must (refine M.out.ev_new rfl (by first | (go_simp; done) | (go_simp; rfl)) ?_); intro g7 w7 m; simp only [List.cons_append, List.nil_append] at m; have M := Lib.hid m; clear m)
          | ((with_reducible refine gate_store (x := .tmp 7) rfl ?_); go_must (refine M.out.ev_stw 1 _ _ _ rfl rfl rfl rfl _ rfl (by first | rfl | (simp only [S1.out]; rfl) | (simp only [S1.out, S2.out]; rfl) | (simp only [S3.out]; rfl) | (simp only [S1.out, S2.out, S3.out]; rfl)) (by first | exact sz94 | (rw [S1.out]; exact sz94) | (rw [S2.out]; exact sz94) | (rw [S3.out]; exact sz94)) (by first | exact ints_one _ _ | exact Fld.one _ | exact O1.out | exact Flock.one _ | rfl | (simp [Value.oneCell']; done)) rfl ?_); intro wn m; simp only [List.set_cons_succ, List.set_cons_zero, List.setIfInBounds_toArray] at m; have M := Lib.hid m; clear m)
          | ((with_reducible refine gate_store (x := .tmp 7) rfl ?_); go_must (refine M.out.ev_stw 1 _ _ _ rfl rfl rfl rfl _ rfl (by first | rfl | (simp only [S1.out]; rfl) | (simp only [S1.out, S2.out]; rfl) | (simp only [S3.out]; rfl) | (simp only [S1.out, S2.out, S3.out]; rfl)) (by first | exact sz94 | (rw [S1.out]; exact sz94) | (rw [S2.out]; exact sz94) | (rw [S3.out]; exact sz94)) (by first | exact ints_one _ _ | exact Fld.one _ | exact O1.out | exact Flock.one _ | rfl | (simp [Value.oneCell']; done)) rfl ?_); intro wn m; simp only [List.set_cons_succ, List.set_cons_zero, List.setIfInBounds_toArray] at m; have M := Lib.hid m; clear m)
          | ((with_reducible refine gate_dst (N := 30) rfl ?_); go_must (refine M.out.ev_ldw 1 _ _ rfl rfl rfl Tryd.underlying94 rfl (by first | exact sz94 | (rw [S1.out]; exact sz94) | (rw [S2.out]; exact sz94) | (rw [S3.out]; exact sz94)) rfl ?_))
          | (go_at_call 56; go_must (refine (isPlainF_any g5 _ HO.out _ (M.out.blk 1 rfl)).mono ?_); rintro e w_ ⟨rfl, N_⟩; have m := M.out.join N_; clear N_; simp only [List.cons_append, List.nil_append, List.append_nil] at m; have M := Lib.hid m; clear m; rw [HFN.out])
          )
        go_ret
        exact ⟨by rw [flocksT, if_neg (by rw [not_allT HM.out HFN.out]; decide)]; rfl, M.out.take 0⟩
      · have HFN := Lib.hid hf
        clear hf
        by_cases h9 : xs.length ≤ 12
        · have i9 : ¬ ((12 : Int) < (xs.length : Int)) := by omega
          have HSU := Lib.hid (show strsOf ((xs.map Flock.word).take (k + 1)) = strsOf ((xs.map Flock.word).take k) ++ [⟨xs[k].word.toArray⟩] by rw [strsOf_succ (by simpa using hlt)]; simp)
          have HWJ := Lib.hid (Flock.word_join xs[k])
          have hok := HO.out
          obtain ⟨NS, hNS⟩ : ∃ z, z = xs[k].nums := ⟨_, rfl⟩
          have S1 := Lib.hid (show (ints .i64 NS).size = 6 by rw [hNS]; rfl)
          have HNL := Lib.hid (show NS.length = 6 by rw [hNS]; rfl)
          have HNB := Lib.hid (fun j => show -32768 ≤ gi NS j ∧ gi NS j ≤ 32767 by rw [hNS]; exact Flock.nums_b hok j)
          rw [← hNS] at HWJ
          have NO := Lib.hid (fun (g : Nat) (w : World) (hb : Blk w g 91 xs[k].vals.toArray) => numbersOf_any g xs[k] hok w hb)
          rw [← hNS] at NO
          clear hNS hok
          obtain ⟨WB, wc, hW9, hwc, _⟩ := M.out.row_slice 0 rfl
          subst hW9
          go_wp2_with (first
            | ((with_reducible refine gate_dst (N := 16) rfl ?_); go_must (refine ev_ldr _ _ rfl rfl (M.out.argT R.out) Tryd.underlying91 rfl (by first | exact sz91 | (rw [S1.out]; exact sz91)) rfl ?_))
            | ((with_reducible refine gate_dst (N := 5) rfl ?_); go_must (refine M.out.ev_new rfl (by first | (go_simp; done) | (go_simp; rfl)) ?_); intro g5 w5 m; simp only [List.cons_append, List.nil_append] at m; have M := Lib.hid m; clear m)
            | ((with_reducible refine gate_store (x := .tmp 5) rfl ?_); go_must (refine M.out.ev_stw 1 _ _ _ rfl rfl rfl rfl _ rfl (by first | rfl | (simp only [S1.out]; rfl) | (simp only [S1.out, S2.out]; rfl) | (simp only [S3.out]; rfl) | (simp only [S1.out, S2.out, S3.out]; rfl)) (by first | exact sz91 | (rw [S1.out]; exact sz91) | (rw [S2.out]; exact sz91) | (rw [S3.out]; exact sz91)) (by first | exact ints_one _ _ | exact Fld.one _ | exact O1.out | exact Flock.one _ | rfl | (simp [Value.oneCell']; done)) rfl ?_); intro wn m; simp only [List.set_cons_succ, List.set_cons_zero, List.setIfInBounds_toArray] at m; have M := Lib.hid m; clear m)
            | ((with_reducible refine gate_dst (N := 7) rfl ?_); go_must (refine M.out.ev_new rfl (by first | (go_simp; done) | (go_simp; rfl)) ?_); intro g7 w7 m; simp only [List.cons_append, List.nil_append] at m; have M := Lib.hid m; clear m)
            | ((with_reducible refine gate_store (x := .tmp 7) rfl ?_); go_must (refine M.out.ev_stw 3 _ _ _ rfl rfl rfl rfl _ rfl (by first | rfl | (simp only [S1.out]; rfl) | (simp only [S1.out, S2.out]; rfl) | (simp only [S3.out]; rfl) | (simp only [S1.out, S2.out, S3.out]; rfl)) (by first | exact sz94 | (rw [S1.out]; exact sz94) | (rw [S2.out]; exact sz94) | (rw [S3.out]; exact sz94)) (by first | exact ints_one _ _ | exact Fld.one _ | exact O1.out | exact Flock.one _ | rfl | (simp [Value.oneCell']; done)) rfl ?_); intro wn m; simp only [List.set_cons_succ, List.set_cons_zero, List.setIfInBounds_toArray] at m; have M := Lib.hid m; clear m)
            | ((with_reducible refine gate_store (x := .tmp 7) rfl ?_); go_must (refine M.out.ev_stw 3 _ _ _ rfl rfl rfl rfl _ rfl (by first | rfl | (simp only [S1.out]; rfl) | (simp only [S1.out, S2.out]; rfl) | (simp only [S3.out]; rfl) | (simp only [S1.out, S2.out, S3.out]; rfl)) (by first | exact sz94 | (rw [S1.out]; exact sz94) | (rw [S2.out]; exact sz94) | (rw [S3.out]; exact sz94)) (by first | exact ints_one _ _ | exact Fld.one _ | exact O1.out | exact Flock.one _ | rfl | (simp [Value.oneCell']; done)) rfl ?_); intro wn m; simp only [List.set_cons_succ, List.set_cons_zero, List.setIfInBounds_toArray] at m; have M := Lib.hid m; clear m)
            | ((with_reducible refine gate_dst (N := 30) rfl ?_); go_must (refine M.out.ev_ldw 3 _ _ rfl rfl rfl Tryd.underlying94 rfl (by first | exact sz94 | (rw [S1.out]; exact sz94) | (rw [S2.out]; exact sz94) | (rw [S3.out]; exact sz94)) rfl ?_))
            | (go_at_call 56; go_must (refine (isPlainF_any g5 _ HO.out _ (M.out.blk 1 rfl)).mono ?_); rintro e w_ ⟨rfl, N_⟩; have m := M.out.join N_; clear N_; simp only [List.cons_append, List.nil_append, List.append_nil] at m; have M := Lib.hid m; clear m; rw [HFN.out])
            | ((with_reducible refine gate_dst (N := 24) rfl ?_); go_must (refine M.out.ev_bs0 elem_string rfl rfl ?_); intro gp wp m; simp only [List.cons_append, List.nil_append] at m; have M := Lib.hid m; clear m)
            | (go_at_call 57; go_must (refine (NO.out _ _ (M.out.blk 1 rfl)).mono ?_); rintro e w_ ⟨rfl, N_⟩; have m := M.out.join N_; clear N_; simp only [List.cons_append, List.nil_append, List.append_nil] at m; have M := Lib.hid m; clear m)
            )
          have m := M.out.only [0, 2] (K := [_, _]) rfl (by decide)
          have M := Lib.hid m
          clear m
          go_loopw [6, 31] (fun s v wr2 => ∃ i : Nat, i ≤ 6 ∧ v = .int .i64 i ∧ Mem w wr2 [.row (.slice WB k wc) 9 1 k (flat oneS (strsOf ((xs.map Flock.word).take k))), .row s 9 1 i (flat oneS (strsOf ((NS.map dec).take i)))])
            (fun _ v _ => 6 - (intOf v).toNat)
          case atStart => exact ⟨0, by omega, rfl, M.out⟩
          case round =>
            clear M
            obtain ⟨i, hi, rfl, m⟩ := hrel
            have M := Lib.hid m
            clear m
            by_cases hlt2 : i < 6
            · have x0 : (ints .i64 NS)[i]? = some (.int .i64 (gi NS i)) := ints_at (by rw [HNL.out]; exact hlt2)
              have j0 : (0 : Int) ≤ (i : Int) := by omega
              have j1 : (i : Int) < 6 := by omega
              have hix : ∀ w, (Instr.index 94 (.agg (ints .i64 NS)) (.int .i64 i)).run Tryd.prog w = .ok (.int .i64 (gi NS i)) w := fun w => run_index1 w _ 2 6 _ i _ Tryd.underlying94 hlt2 sz2 Tryd.underlying2 rfl x0
              have hb := HNB.out i
              have DC := Lib.hid (fun w ht => decimal64_any (gi NS i) (by omega) (by omega) w ht)
              have HSI := Lib.hid (show strsOf ((NS.map dec).take (i + 1)) = strsOf ((NS.map dec).take i) ++ [⟨(Lib.itoa (gi NS i)).toArray⟩] by
                rw [strsOf_succ (by rw [List.length_map, HNL.out]; exact hlt2)]
                congr 3
                rw [List.getElem_map]
                unfold dec gi
                rw [List.getD_eq_getElem?_getD, List.getElem?_eq_getElem (by rw [HNL.out]; exact hlt2)]
                rfl)
              go_wp2_with (first
                | (go_at_call 58; go_must (refine (DC.out _ (M.out.tab HT.out)).mono ?_); rintro e w_ ⟨rfl, N_⟩; have m := M.out.join N_; clear N_; simp only [List.cons_append, List.nil_append, List.append_nil] at m; have M := Lib.hid m; clear m)
                | ((with_reducible refine gate_dst (N := 37) rfl ?_); go_must (refine M.out.ev_bs1 elem_string rfl _ rfl #[.string _] rfl rfl (by decide) ?_); intro g37 w37 m; simp only [List.cons_append, List.nil_append] at m; have M := Lib.hid m; clear m)
                | ((with_reducible refine gate_dst (N := 38) rfl ?_); go_must (refine M.out.ev_append1 1 2 elem_string rfl _ _ rfl rfl rfl rfl rfl rfl (by simp [Value.oneCell']) (by omega) (by decide) ?_); intro v38 w38 m; simp only [List.set_cons_succ, List.set_cons_zero] at m; have M := Lib.hid m; clear m)
                )
              refine ⟨⟨i + 1, by omega, by go_num, ?_⟩, by simp [intOf]; omega⟩
              have m := M.out.take 2
              rw [HSI.out, flat_snoc]
              exact m
            · obtain rfl : i = 6 := by omega
              have j1 : ¬ (((6 : Nat) : Int) < 6) := by omega
              have m := M.out
              rw [show (NS.map dec).take 6 = NS.map dec from List.take_of_length_le (by rw [List.length_map, HNL.out]; omega)] at m
              obtain ⟨PB, pc, hP9, hpc, _⟩ := m.row_slice 1 rfl
              subst hP9
              have hsl : (strsOf (NS.map dec)).length = 6 := by rw [strsOf_len, List.length_map, HNL.out]
              have JO := Lib.hid (fun w1 (M : Mem w w1 [.row (.slice WB k wc) 9 1 k (flat oneS (strsOf ((xs.map Flock.word).take k))), .row (.slice PB (strsOf (NS.map dec)).length pc) 9 1 (strsOf (NS.map dec)).length (flat oneS (strsOf (NS.map dec)))]) => Join_any M 1 rfl ⟨#[47]⟩ (by rw [hsl]; omega) (by
                rw [strsOf_join, HWJ.out]
                have := Flock.word_len HO.out
                omega))
              rw [hsl, strsOf_join, HWJ.out] at JO
              have M := Lib.hid m
              clear m hsl
              go_wp2_with (first
                | (go_at_call 46; go_must (refine (JO.out _ M.out).mono ?_); rintro e w_ ⟨rfl, N_⟩; have m := M.out.join N_; clear N_; simp only [List.cons_append, List.nil_append, List.append_nil] at m; have M := Lib.hid m; clear m)
                | ((with_reducible refine gate_dst (N := 43) rfl ?_); go_must (refine M.out.ev_bs1 elem_string rfl _ rfl #[.string _] rfl rfl (by decide) ?_); intro g43 w43 m; simp only [List.cons_append, List.nil_append] at m; have M := Lib.hid m; clear m)
                | ((with_reducible refine gate_dst (N := 44) rfl ?_); go_must (refine M.out.ev_append1 0 2 elem_string rfl _ _ rfl rfl rfl rfl rfl rfl (by simp [Value.oneCell']) (by omega) (by decide) ?_); intro v44 w44 m; simp only [List.set_cons_succ, List.set_cons_zero] at m; have M := Lib.hid m; clear m)
                )
              refine ⟨⟨k + 1, by omega, by go_num, allT_succ hlt HE.out HFN.out, fun _ => h9, ?_⟩, by simp [intOf]; omega⟩
              have m := M.out.take 1
              rw [HSU.out, flat_snoc]
              exact m
        · have i9 : (12 : Int) < (xs.length : Int) := by omega
          have HD := Lib.hid (show flocksT xs = [] by
            unfold flocksT
            rw [if_neg h9]
            split <;> rfl)
          clear h100
          go_wp2_with (first
            | ((with_reducible refine gate_dst (N := 16) rfl ?_); go_must (refine ev_ldr _ _ rfl rfl (M.out.argT R.out) Tryd.underlying91 rfl (by first | exact sz91 | (rw [S1.out]; exact sz91)) rfl ?_))
            | ((with_reducible refine gate_dst (N := 5) rfl ?_); go_must (refine M.out.ev_new rfl (by first | (go_simp; done) | (go_simp; rfl)) ?_); intro g5 w5 m; simp only [List.cons_append, List.nil_append] at m; have M := Lib.hid m; clear m)
            | ((with_reducible refine gate_store (x := .tmp 5) rfl ?_); go_must (refine M.out.ev_stw 1 _ _ _ rfl rfl rfl rfl _ rfl (by first | rfl | (simp only [S1.out]; rfl) | (simp only [S1.out, S2.out]; rfl) | (simp only [S3.out]; rfl) | (simp only [S1.out, S2.out, S3.out]; rfl)) (by first | exact sz91 | (rw [S1.out]; exact sz91) | (rw [S2.out]; exact sz91) | (rw [S3.out]; exact sz91)) (by first | exact ints_one _ _ | exact Fld.one _ | exact O1.out | exact Flock.one _ | rfl | (simp [Value.oneCell']; done)) rfl ?_); intro wn m; simp only [List.set_cons_succ, List.set_cons_zero, List.setIfInBounds_toArray] at m; have M := Lib.hid m; clear m)
            | ((with_reducible refine gate_dst (N := 7) rfl ?_); go_must (refine M.out.ev_new rfl (by first | (go_simp; done) | (go_simp; rfl)) ?_); intro g7 w7 m; simp only [List.cons_append, List.nil_append] at m; have M := Lib.hid m; clear m)
            | ((with_reducible refine gate_store (x := .tmp 7) rfl ?_); go_must (refine M.out.ev_stw 1 _ _ _ rfl rfl rfl rfl _ rfl (by first | rfl | (simp only [S1.out]; rfl) | (simp only [S1.out, S2.out]; rfl) | (simp only [S3.out]; rfl) | (simp only [S1.out, S2.out, S3.out]; rfl)) (by first | exact sz94 | (rw [S1.out]; exact sz94) | (rw [S2.out]; exact sz94) | (rw [S3.out]; exact sz94)) (by first | exact ints_one _ _ | exact Fld.one _ | exact O1.out | exact Flock.one _ | rfl | (simp [Value.oneCell']; done)) rfl ?_); intro wn m; simp only [List.set_cons_succ, List.set_cons_zero, List.setIfInBounds_toArray] at m; have M := Lib.hid m; clear m)
            | ((with_reducible refine gate_store (x := .tmp 7) rfl ?_); go_must (refine M.out.ev_stw 1 _ _ _ rfl rfl rfl rfl _ rfl (by first | rfl | (simp only [S1.out]; rfl) | (simp only [S1.out, S2.out]; rfl) | (simp only [S3.out]; rfl) | (simp only [S1.out, S2.out, S3.out]; rfl)) (by first | exact sz94 | (rw [S1.out]; exact sz94) | (rw [S2.out]; exact sz94) | (rw [S3.out]; exact sz94)) (by first | exact ints_one _ _ | exact Fld.one _ | exact O1.out | exact Flock.one _ | rfl | (simp [Value.oneCell']; done)) rfl ?_); intro wn m; simp only [List.set_cons_succ, List.set_cons_zero, List.setIfInBounds_toArray] at m; have M := Lib.hid m; clear m)
            | ((with_reducible refine gate_dst (N := 30) rfl ?_); go_must (refine M.out.ev_ldw 1 _ _ rfl rfl rfl Tryd.underlying94 rfl (by first | exact sz94 | (rw [S1.out]; exact sz94) | (rw [S2.out]; exact sz94) | (rw [S3.out]; exact sz94)) rfl ?_))
            | (go_at_call 56; go_must (refine (isPlainF_any g5 _ HO.out _ (M.out.blk 1 rfl)).mono ?_); rintro e w_ ⟨rfl, N_⟩; have m := M.out.join N_; clear N_; simp only [List.cons_append, List.nil_append, List.append_nil] at m; have M := Lib.hid m; clear m; rw [HFN.out])
            )
          go_ret
          exact ⟨by rw [HD.out]; rfl, M.out.take 0⟩
    · obtain rfl : k = xs.length := by omega
      have i1 : ¬ ((xs.length : Int) < (xs.length : Int)) := by omega
      have HA := Lib.hid (allT_of HE.out)
      have HD := Lib.hid (show flocksT xs = joinS 32 (xs.map Flock.word) by
        rw [flocksT, if_pos HA.out]
        rcases Nat.eq_zero_or_pos xs.length with h | h
        · rw [if_pos (by omega)]
        · rw [if_pos (h100 h)])
      have HN : xs.length ≤ 12 := by
        rcases Nat.eq_zero_or_pos xs.length with h | h
        · omega
        · exact h100 h
      have m := M.out
      rw [show (xs.map Flock.word).take xs.length = xs.map Flock.word from List.take_of_length_le (by simp)] at m
      obtain ⟨B, cp, rfl, hc, _⟩ := m.row_slice 0 rfl
      have hsl : (strsOf (xs.map Flock.word)).length = xs.length := by rw [strsOf_len, List.length_map]
      have JO := Lib.hid (fun w1 (M : Mem w w1 [.row (.slice B (strsOf (xs.map Flock.word)).length cp) 9 1 (strsOf (xs.map Flock.word)).length (flat oneS (strsOf (xs.map Flock.word)))]) => Join_any M 0 rfl ⟨#[32]⟩ (by rw [hsl]; omega) (by
        rw [strsOf_join]
        have := flocksT_len HX.out (k := xs.length) (by omega)
        rw [show wordsT (xs.map Flock.word) xs.length = joinS 32 (xs.map Flock.word) by have := wordsT_all (xs.map Flock.word); rwa [List.length_map] at this] at this
        omega))
      rw [hsl, strsOf_join] at JO
      have M := Lib.hid m
      clear m h100 HE hsl
      go_wp2_with (first
        | (go_at_call 46; go_must (refine (JO.out _ M.out).mono ?_); rintro e w_ ⟨rfl, N_⟩; have m := M.out.join N_; clear N_; simp only [List.cons_append, List.nil_append, List.append_nil] at m; have M := Lib.hid m; clear m)
        )
      go_ret
      exact ⟨by rw [HD.out]; rfl, M.out.take 0⟩
end Go.Proofs.YtifacledmmpnkaaDoor
