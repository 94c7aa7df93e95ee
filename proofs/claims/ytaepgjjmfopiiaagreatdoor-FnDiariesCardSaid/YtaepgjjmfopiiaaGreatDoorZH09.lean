/- Texts of a proof, laid together: PlotsOf. -/
import Derived.Test.YtaepgjjmfopiiaaGreatDoorZH08
import Derived.Test.YtaepgjjmfopiiaaGreatDoorZH01
import Derived.Test.YtaepgjjmfopiiaaGreatDoorZH02
import Derived.Test.YtaepgjjmfopiiaaGreatDoorZH06
namespace Go.Proofs.YtaepgjjmfopiiaaGreatDoor
set_option linter.unusedSimpArgs false
set_option linter.unusedVariables false
open Go.RowKit
attribute [local go_sem] cell?_mk frozen?_mk
--ONES exact Plot.one _ | exact Fld.one _

def plotAt (F : Fld) (k : Nat) : List Plot := if 0 < F.seed k then [⟨F.seed k, 2, 3, 1⟩] else []
def plotsIn (F : Fld) (ks : List Nat) : List Plot := ks.flatMap (plotAt F)
theorem plotsIn_snoc (F : Fld) (ks : List Nat) (k : Nat) : plotsIn F (ks ++ [k]) = plotsIn F ks ++ plotAt F k := by simp [plotsIn]
theorem plotsIn_filter {F : Fld} (p : Nat → Bool) : ∀ ks : List Nat, (∀ k ∈ ks, p k = false → F.seed k = 0) → plotsIn F (ks.filter p) = plotsIn F ks
  | [], _ => rfl
  | k :: r, h => by
    have ih := plotsIn_filter (F := F) p r fun j hj => h j (List.mem_cons_of_mem _ hj)
    unfold plotsIn at ih ⊢
    rw [List.filter_cons, List.flatMap_cons]
    by_cases hk : p k = true
    · rw [if_pos hk, List.flatMap_cons, ih]
    · rw [if_neg hk, ih]
      have e := h k (by simp) (by simpa using hk)
      rw [show plotAt F k = [] by unfold plotAt; rw [if_neg (by omega)], List.nil_append]
theorem plotsIn_len (F : Fld) : ∀ ks : List Nat, (plotsIn F ks).length ≤ ks.length
  | [] => by simp [plotsIn]
  | k :: r => by
    have h1 : (plotAt F k).length ≤ 1 := by unfold plotAt; split <;> simp
    have h2 := plotsIn_len F r
    unfold plotsIn at h2 ⊢
    rw [List.flatMap_cons, List.length_append, List.length_cons]
    omega
theorem plotsIn_all {F : Fld} (hv : F.valid = true) : plotsIn F F.all = plotsIn F (List.range 100) := by
  have e : F.all = (List.range 100).filter fun (k : Nat) => F.has k := rfl
  rw [e]
  refine plotsIn_filter (fun k => F.has (k : Nat)) _ fun k hk hh => ?_
  have f := Fld.okAt_iff.1 (Fld.valid_at hv (List.mem_range.1 hk))
  exact (f.2.2.2.2.2 hh).2
def pofR (F : Fld) : List Plot := if (plotsIn F (List.range 100)).length ≤ 6 then plotsIn F (List.range 100) else []
def pofC (F : Fld) : Int := if (plotsIn F (List.range 100)).length ≤ 6 then 0 else 3
theorem pof_yes {F : Fld} (h : (plotsIn F (List.range 100)).length ≤ 6) : pofR F = plotsIn F (List.range 100) ∧ pofC F = 0 := by unfold pofR pofC; rw [if_pos h, if_pos h]; exact ⟨rfl, rfl⟩
theorem pof_no {F : Fld} (h : ¬ (plotsIn F (List.range 100)).length ≤ 6) : pofR F = [] ∧ pofC F = 3 := by unfold pofR pofC; rw [if_neg h, if_neg h]; exact ⟨rfl, rfl⟩
set_option maxRecDepth 100000 in
set_option maxHeartbeats 2000000 in
theorem pofAsk_any (a b d : Nat) {ta tb td : TypeId} (w : World) (ha : Blk w a ta #[.int .i64 2]) (hb : Blk w b tb #[.int .i64 3]) (hd : Blk w d td #[.int .i64 1]) :
    Calls Tryz.prog 50 #[.pointer (some ⟨a, 0, none⟩), .pointer (some ⟨b, 0, none⟩), .pointer (some ⟨d, 0, none⟩)] w fun e w' => e = .returned (.bool true) ∧ Mem w w' [] := by
  have M := Lib.hid (Mem.start w)
  have a0 := ha.cellv (i := 0) rfl
  have b0 := hb.cellv (i := 0) rfl
  have d0 := hd.cellv (i := 0) rfl
  have q1 : inB 2 0 20 = true := by decide
  have q2 : inB 3 0 20 = true := by decide
  have q3 : inB 1 0 1000 = true := by decide
  clear ha hb hd
  go_enter Tryz.func50, Tryz.ntmps50
  go_wp2_with (first
    | (go_at_call 41; go_must (refine (within_any _ _ _ _).mono ?_); rintro e w_ ⟨rfl, rfl⟩; first | rw [q1] | rw [q2] | rw [q3])
    )
  go_ret
  exact ⟨rfl, M.out⟩
set_option maxRecDepth 100000 in
set_option maxHeartbeats 1000000 in
theorem l01Seeds1_any (w : World) : Calls Tryz.prog 52 #[.int .i64 1] w fun e w' => e = .returned (.bool true) ∧ w = w' := by
  have q3 : inB 1 0 1000 = true := by decide
  go_enter Tryz.func52, Tryz.ntmps52
  go_wp2_with (first
    | (go_at_call 51; go_must (refine (l00In_any _ _ _ _).mono ?_); rintro e w_ ⟨rfl, rfl⟩; rw [q3]))
  go_ret
  exact ⟨rfl, rfl⟩
set_option maxRecDepth 100000 in
set_option maxHeartbeats 4000000 in
theorem impl_PlotsOf_any (F : Fld) (hF : F.ok) (hv : F.valid = true) (w : World) :
    Calls Tryz.prog 21 #[.agg F.cells, .int .i64 2, .int .i64 3, .int .i64 1] w (RetRowC w 95 4 (pofR F).length (flat Plot.vals (pofR F)) (pofC F)) := by
  have M := Lib.hid (Mem.start w)
  have S1 := Lib.hid (Fld.size hF.toLen)
  have HV := Lib.hid hv
  have HF := Lib.hid hF
  have LW := Lib.hid (plotsIn_len F)
  clear hv
  go_enter Tryz.func21, Tryz.ntmps21
  go_wp2_with (first
    | ((with_reducible refine gate_dst (N := 4) rfl ?_); go_must (refine M.out.ev_new rfl (by first | (go_simp; done) | (go_simp; rfl)) ?_); intro g4 w4 m; simp only [List.cons_append, List.nil_append] at m; have M := Lib.hid m; clear m; try have q1_0 := M.out.cell (j := 0) 1 rfl (by first | assumption | rfl); try have q2_0 := M.out.cell (j := 0) 2 rfl (by first | assumption | rfl); try have q3_0 := M.out.cell (j := 0) 3 rfl (by first | assumption | rfl))
    | ((with_reducible refine gate_dst (N := 5) rfl ?_); go_must (refine M.out.ev_new rfl (by first | (go_simp; done) | (go_simp; rfl)) ?_); intro g5 w5 m; simp only [List.cons_append, List.nil_append] at m; have M := Lib.hid m; clear m; try have q1_0 := M.out.cell (j := 0) 1 rfl (by first | assumption | rfl); try have q2_0 := M.out.cell (j := 0) 2 rfl (by first | assumption | rfl); try have q3_0 := M.out.cell (j := 0) 3 rfl (by first | assumption | rfl))
    | ((with_reducible refine gate_dst (N := 6) rfl ?_); go_must (refine M.out.ev_new rfl (by first | (go_simp; done) | (go_simp; rfl)) ?_); intro g6 w6 m; simp only [List.cons_append, List.nil_append] at m; have M := Lib.hid m; clear m; try have q1_0 := M.out.cell (j := 0) 1 rfl (by first | assumption | rfl); try have q2_0 := M.out.cell (j := 0) 2 rfl (by first | assumption | rfl); try have q3_0 := M.out.cell (j := 0) 3 rfl (by first | assumption | rfl))
    | ((with_reducible refine gate_dst (N := 7) rfl ?_); go_must (refine M.out.ev_new rfl (by first | (go_simp; done) | (go_simp; rfl)) ?_); intro g7 w7 m; simp only [List.cons_append, List.nil_append] at m; have M := Lib.hid m; clear m; try have q1_0 := M.out.cell (j := 0) 1 rfl (by first | assumption | rfl); try have q2_0 := M.out.cell (j := 0) 2 rfl (by first | assumption | rfl); try have q3_0 := M.out.cell (j := 0) 3 rfl (by first | assumption | rfl))
    | ((with_reducible refine gate_dst (N := 29) rfl ?_); go_must (refine M.out.ev_ld 0 _ _ rfl rfl rfl Tryz.underlying26 rfl rfl (by first | assumption | rfl) ?_))
    | ((with_reducible refine gate_dst (N := 35) rfl ?_); go_must (refine M.out.ev_ld 0 _ _ rfl rfl rfl Tryz.underlying26 rfl rfl (by first | assumption | rfl) ?_))
    | ((with_reducible refine gate_dst (N := 36) rfl ?_); go_must (refine M.out.ev_ld 1 _ _ rfl rfl rfl Tryz.underlying2 rfl rfl (by first | assumption | rfl) ?_))
    | ((with_reducible refine gate_dst (N := 38) rfl ?_); go_must (refine M.out.ev_ld 2 _ _ rfl rfl rfl Tryz.underlying2 rfl rfl (by first | assumption | rfl) ?_))
    | ((with_reducible refine gate_dst (N := 40) rfl ?_); go_must (refine M.out.ev_ld 3 _ _ rfl rfl rfl Tryz.underlying2 rfl rfl (by first | assumption | rfl) ?_))
    | (go_at_call 49; go_must (refine (fieldCode_any g4 F HF.out 50 #[.pointer (some ⟨g5, 0, none⟩), .pointer (some ⟨g6, 0, none⟩), .pointer (some ⟨g7, 0, none⟩)] true _ (M.out.blk 0 rfl) (fun _ _ => by go_simp) (fun w1 m1 => pofAsk_any g5 g6 g7 w1 ((M.out.join m1).blk 1 rfl) ((M.out.join m1).blk 2 rfl) ((M.out.join m1).blk 3 rfl))).mono ?_); rintro e w_ ⟨rfl, N_⟩; have m := M.out.join N_; clear N_; simp only [List.cons_append, List.nil_append, List.append_nil] at m; have M := Lib.hid m; clear m; rw [HV.out, show okCode true true = 0 from rfl])
    | ((with_reducible refine gate_dst (N := 19) rfl ?_); go_must (refine M.out.ev_bs0 elem_Plot rfl rfl ?_); intro g19 w19 m; simp only [List.cons_append, List.nil_append] at m; have M := Lib.hid m; clear m)
    | (go_at_call 48; go_must (refine (cells_any g4 F HF.out _ (M.out.blk 0 rfl)).mono ?_); rintro e w_ ⟨A_, c_, rfl, hc_, N_⟩; have m := M.out.join N_; clear N_; simp only [List.cons_append, List.nil_append, List.append_nil] at m; have M := Lib.hid m; clear m)
    )
  have hal : F.all.length ≤ 100 := F.below_len 100
  go_loopw [11, 22] (fun o v wr => ∃ (i : Nat) (B : Option Addr) (cp : Nat), i ≤ F.all.length ∧ v = .int .i64 i ∧ o = .slice B (plotsIn F (F.all.take i)).length cp ∧ Mem w wr [.blk g4 29 F.cells, .blk g5 2 #[.int .i64 2], .blk g6 2 #[.int .i64 3], .blk g7 2 #[.int .i64 1], .row (.slice B (plotsIn F (F.all.take i)).length cp) 95 4 (plotsIn F (F.all.take i)).length (flat Plot.vals (plotsIn F (F.all.take i))), .row (.slice A_ F.all.length c_) 2 1 F.all.length (flat one64 F.all)])
    (fun _ v _ => F.all.length - (intOf v).toNat)
  case atStart => exact ⟨0, some ⟨g19, 0, none⟩, 0, by omega, rfl, rfl, M.out⟩
  case round =>
    clear M
    obtain ⟨i, B, cp, hi, rfl, rfl, m⟩ := hrel
    have M := Lib.hid m
    clear m
    have lw := LW.out (F.all.take i)
    rw [List.length_take] at lw
    by_cases hlt : i < F.all.length
    · obtain ⟨gc, cc, hA_, _⟩ := M.out.row_form 5 rfl (by omega)
      injection hA_ with hA1 _ hA3
      subst hA1
      clear hA3
      have HAC := Lib.hid (show (flat one64 F.all)[i]? = some (.int .i64 F.all[i]) by simpa [nat64] using flat_at one64_len (List.getElem?_eq_getElem hlt) (j := 0) rfl)
      obtain ⟨k, hk0⟩ : ∃ k, k = F.all[i] := ⟨_, rfl⟩
      have hk : k < 100 := by rw [hk0]; exact (Fld.all_has (List.getElem_mem hlt)).1
      have HTS := Lib.hid (show F.all.take (i + 1) = F.all.take i ++ [k] by rw [List.take_succ_eq_append_getElem hlt, hk0])
      rw [← hk0] at HAC
      clear hk0
      have i0 : (0 : Int) ≤ (i : Int) := by omega
      have i1 : (i : Int) < (F.all.length : Int) := by omega
      have k0 : (0 : Int) ≤ (k : Int) := by omega
      have k1 : (k : Int) < 100 := by omega
      have KF := Lib.hid (Fld.cellS HF.out.toLen hk)
      obtain ⟨d, hd⟩ : ∃ d, d = F.seed k := ⟨_, rfl⟩
      have WA := Lib.hid (show plotAt F k = if 0 < d then [⟨d, 2, 3, 1⟩] else [] by unfold plotAt; rw [← hd])
      rw [← hd] at KF
      obtain ⟨X, hX⟩ : ∃ X, X = plotsIn F (F.all.take i) := ⟨_, rfl⟩
      have HXS := Lib.hid (show ∀ ys, plotAt F k = ys → plotsIn F (F.all.take (i + 1)) = X ++ ys from fun ys h => by rw [HTS.out, plotsIn_snoc, h, hX])
      rw [← hX] at M lw ⊢
      clear hX HTS hd
      have e2 : IntKind.i16.wrap 2 = 2 := by decide
      have e3 : IntKind.i16.wrap 3 = 3 := by decide
      have e4 : IntKind.i16.wrap 1 = 1 := by decide
      by_cases c1 : 0 < d
      · have d1 : decide (0 < d) = true := decide_eq_true c1
        have HY := Lib.hid (HXS.out [⟨d, 2, 3, 1⟩] (by rw [WA.out, if_pos c1]))
        clear HXS WA
        go_wp2_with (first
          | ((with_reducible refine gate_dst (N := 25) rfl ?_); go_must (refine ev_get _ _ rfl rfl (M.out.row_cell 5 rfl HAC.out) Tryz.underlying2 rfl rfl ?_))
          | ((with_reducible refine gate_dst (N := 29) rfl ?_); go_must (refine ev_get _ _ rfl rfl (M.out.cell 0 rfl KF.out) Tryz.underlying26 rfl rfl ?_))
          )
        refine region_anyH (fun w' => Mem w w' [.blk g4 29 F.cells, .blk g5 2 #[.int .i64 2], .blk g6 2 #[.int .i64 3], .blk g7 2 #[.int .i64 1]]) (by kernel_rfl) ?_
        have m := M.out.drew
        clear M
        have M := Lib.hid m
        clear m
        apply takeH (i := 0) 31 rfl (by kernel_rfl) (by kernel_rfl) (by kernel_rfl) (fun _ _ _ h => h) rfl (by first | exact M.out | exact M.out.take 4)
        case' hy =>
          refine Or.inl ⟨by first | rfl | (go_simp; done), ?_⟩
          intro w hS
          clear hS
          go_simp
          try with_reducible rfl
        try simp only [Act.put, List.getElem_toArray, List.getElem_cons_succ, List.getElem_cons_zero, List.setIfInBounds_toArray, List.set_cons_succ, List.set_cons_zero]
        apply takeH (i := 1) 32 rfl (by kernel_rfl) (by kernel_rfl) (by kernel_rfl) (fun _ _ _ h => h) rfl (by first | exact M.out | exact M.out.take 4)
        case' hy =>
          refine Or.inl ⟨by first | rfl | (go_simp; done), ?_⟩
          intro w hS
          clear hS
          go_simp
          try with_reducible rfl
        try simp only [Act.put, List.getElem_toArray, List.getElem_cons_succ, List.getElem_cons_zero, List.setIfInBounds_toArray, List.set_cons_succ, List.set_cons_zero]
        apply takeH (i := 2) 33 rfl (by kernel_rfl) (by kernel_rfl) (by kernel_rfl) (fun _ _ _ h => h) rfl (by first | exact M.out | exact M.out.take 4)
        case' hy =>
          refine Or.inl ⟨by first | rfl | (go_simp; done), ?_⟩
          intro w hS
          clear hS
          go_simp
          try with_reducible rfl
        try simp only [Act.put, List.getElem_toArray, List.getElem_cons_succ, List.getElem_cons_zero, List.setIfInBounds_toArray, List.set_cons_succ, List.set_cons_zero]
        apply takeH (i := 3) 34 rfl (by kernel_rfl) (by kernel_rfl) (by kernel_rfl) (fun _ _ _ h => h) rfl (by first | exact M.out | exact M.out.take 4)
        case' hy =>
          refine Or.inl ⟨by first | rfl | (go_simp; done), ?_⟩
          intro w hS
          clear hS
          go_simp
          try with_reducible rfl
        try simp only [Act.put, List.getElem_toArray, List.getElem_cons_succ, List.getElem_cons_zero, List.setIfInBounds_toArray, List.set_cons_succ, List.set_cons_zero]
        apply takeH (i := 4) 35 rfl (by kernel_rfl) (by kernel_rfl) (by kernel_rfl) (fun _ _ _ h => h) rfl (by first | exact M.out | exact M.out.take 4)
        case' hy => exact ylds _ _ rfl rfl Tryz.underlying26 rfl rfl (fun w' hS => hS.cell 0 rfl KF.out)
        try simp only [Act.put, List.getElem_toArray, List.getElem_cons_succ, List.getElem_cons_zero, List.setIfInBounds_toArray, List.set_cons_succ, List.set_cons_zero]
        apply takeH (i := 5) 36 rfl (by kernel_rfl) (by kernel_rfl) (by kernel_rfl) (fun _ _ _ h => h) rfl (by first | exact M.out | exact M.out.take 4)
        case' hy => exact ylds _ _ rfl rfl Tryz.underlying2 rfl rfl (fun w' hS => hS.cell 1 rfl rfl)
        try simp only [Act.put, List.getElem_toArray, List.getElem_cons_succ, List.getElem_cons_zero, List.setIfInBounds_toArray, List.set_cons_succ, List.set_cons_zero]
        apply takeH (i := 6) 37 rfl (by kernel_rfl) (by kernel_rfl) (by kernel_rfl) (fun _ _ _ h => h) rfl (by first | exact M.out | exact M.out.take 4)
        case' hy =>
          refine Or.inl ⟨by first | rfl | (go_simp; done), ?_⟩
          intro w hS
          clear hS
          go_simp
          try with_reducible rfl
        try simp only [Act.put, List.getElem_toArray, List.getElem_cons_succ, List.getElem_cons_zero, List.setIfInBounds_toArray, List.set_cons_succ, List.set_cons_zero]
        apply takeH (i := 7) 38 rfl (by kernel_rfl) (by kernel_rfl) (by kernel_rfl) (fun _ _ _ h => h) rfl (by first | exact M.out | exact M.out.take 4)
        case' hy => exact ylds _ _ rfl rfl Tryz.underlying2 rfl rfl (fun w' hS => hS.cell 2 rfl rfl)
        try simp only [Act.put, List.getElem_toArray, List.getElem_cons_succ, List.getElem_cons_zero, List.setIfInBounds_toArray, List.set_cons_succ, List.set_cons_zero]
        apply takeH (i := 8) 39 rfl (by kernel_rfl) (by kernel_rfl) (by kernel_rfl) (fun _ _ _ h => h) rfl (by first | exact M.out | exact M.out.take 4)
        case' hy =>
          refine Or.inl ⟨by first | rfl | (go_simp; done), ?_⟩
          intro w hS
          clear hS
          go_simp
          try with_reducible rfl
        try simp only [Act.put, List.getElem_toArray, List.getElem_cons_succ, List.getElem_cons_zero, List.setIfInBounds_toArray, List.set_cons_succ, List.set_cons_zero]
        apply takeH (i := 9) 40 rfl (by kernel_rfl) (by kernel_rfl) (by kernel_rfl) (fun _ _ _ h => h) rfl (by first | exact M.out | exact M.out.take 4)
        case' hy => exact ylds _ _ rfl rfl Tryz.underlying2 rfl rfl (fun w' hS => hS.cell 3 rfl rfl)
        try simp only [Act.put, List.getElem_toArray, List.getElem_cons_succ, List.getElem_cons_zero, List.setIfInBounds_toArray, List.set_cons_succ, List.set_cons_zero]
        apply takeH (i := 10) 41 rfl (by kernel_rfl) (by kernel_rfl) (by kernel_rfl) (fun _ _ _ h => h) rfl (by first | exact M.out | exact M.out.take 4)
        case' hy =>
          refine Or.inl ⟨by first | rfl | (go_simp; done), ?_⟩
          intro w hS
          clear hS
          go_simp
          try with_reducible rfl
        try simp only [Act.put, List.getElem_toArray, List.getElem_cons_succ, List.getElem_cons_zero, List.setIfInBounds_toArray, List.set_cons_succ, List.set_cons_zero]
        apply takeH (i := 11) 42 rfl (by kernel_rfl) (by kernel_rfl) (by kernel_rfl) (fun _ _ _ h => h) rfl (by first | exact M.out | exact M.out.take 4)
        case' hy =>
          refine Or.inl ⟨by first | rfl | (go_simp; done), ?_⟩
          intro w hS
          clear hS
          go_simp
          try with_reducible rfl
        try simp only [Act.put, List.getElem_toArray, List.getElem_cons_succ, List.getElem_cons_zero, List.setIfInBounds_toArray, List.set_cons_succ, List.set_cons_zero]
        refine any1H 12 (by kernel_rfl) rfl (fun K hK => ?_)
        go_wp2_with (first | ((with_reducible refine gate_dst (N := 35) rfl ?_); go_must (refine M.out.ev_ld 0 _ _ rfl rfl rfl Tryz.underlying26 rfl rfl (by first | assumption | rfl) ?_)) | ((with_reducible refine gate_dst (N := 36) rfl ?_); go_must (refine M.out.ev_ld 1 _ _ rfl rfl rfl Tryz.underlying2 rfl rfl (by first | assumption | rfl) ?_)) | ((with_reducible refine gate_dst (N := 38) rfl ?_); go_must (refine M.out.ev_ld 2 _ _ rfl rfl rfl Tryz.underlying2 rfl rfl (by first | assumption | rfl) ?_)) | ((with_reducible refine gate_dst (N := 40) rfl ?_); go_must (refine M.out.ev_ld 3 _ _ rfl rfl rfl Tryz.underlying2 rfl rfl (by first | assumption | rfl) ?_)) | ((with_reducible refine gate_dst (N := 43) rfl ?_); go_must (refine M.out.ev_bs1 elem_Plot rfl _ rfl (Plot.vals ⟨d, 2, 3, 1⟩).toArray rfl rfl (by decide) ?_); intro g43 w43 m; simp only [List.cons_append, List.nil_append] at m; have M := Lib.hid m; clear m) | ((with_reducible refine gate_dst (N := 44) rfl ?_); go_must (refine M.out.ev_append1 4 6 elem_Plot rfl _ _ rfl rfl rfl rfl rfl rfl (Plot.one _) (by omega) (by decide) ?_); intro v44 w44 m; simp only [List.set_cons_succ, List.set_cons_zero] at m; have M := Lib.hid m; clear m))
        refine onward_normal (hK _ _ ⟨(by first | exact M.out | exact M.out.take 4), ?_⟩)
        clear hK K
        try simp only [Act.put, List.getElem_toArray, List.getElem_cons_succ, List.getElem_cons_zero, List.setIfInBounds_toArray, List.set_cons_succ, List.set_cons_zero]
        refine any1H 13 (by kernel_rfl) rfl (fun K hK => ?_)
        go_wp2_with (first | ((with_reducible refine gate_dst (N := 35) rfl ?_); go_must (refine M.out.ev_ld 0 _ _ rfl rfl rfl Tryz.underlying26 rfl rfl (by first | assumption | rfl) ?_)) | ((with_reducible refine gate_dst (N := 36) rfl ?_); go_must (refine M.out.ev_ld 1 _ _ rfl rfl rfl Tryz.underlying2 rfl rfl (by first | assumption | rfl) ?_)) | ((with_reducible refine gate_dst (N := 38) rfl ?_); go_must (refine M.out.ev_ld 2 _ _ rfl rfl rfl Tryz.underlying2 rfl rfl (by first | assumption | rfl) ?_)) | ((with_reducible refine gate_dst (N := 40) rfl ?_); go_must (refine M.out.ev_ld 3 _ _ rfl rfl rfl Tryz.underlying2 rfl rfl (by first | assumption | rfl) ?_)) | ((with_reducible refine gate_dst (N := 43) rfl ?_); go_must (refine M.out.ev_bs1 elem_Plot rfl _ rfl (Plot.vals ⟨d, 2, 3, 1⟩).toArray rfl rfl (by decide) ?_); intro g43 w43 m; simp only [List.cons_append, List.nil_append] at m; have M := Lib.hid m; clear m) | ((with_reducible refine gate_dst (N := 44) rfl ?_); go_must (refine M.out.ev_append1 4 6 elem_Plot rfl _ _ rfl rfl rfl rfl rfl rfl (Plot.one _) (by omega) (by decide) ?_); intro v44 w44 m; simp only [List.set_cons_succ, List.set_cons_zero] at m; have M := Lib.hid m; clear m))
        refine onward_normal (hK _ _ ⟨(by first | exact M.out | exact M.out.take 4), ?_⟩)
        clear hK K
        try simp only [Act.put, List.getElem_toArray, List.getElem_cons_succ, List.getElem_cons_zero, List.setIfInBounds_toArray, List.set_cons_succ, List.set_cons_zero]
        apply takeH (i := 14) 11 rfl (by kernel_rfl) (by kernel_rfl) (by kernel_rfl) (fun _ _ _ h => h) rfl (by first | exact M.out | exact M.out.take 4)
        case' hy =>
          refine Or.inl ⟨by first | rfl | (go_simp; done), ?_⟩
          intro w hS
          clear hS
          go_simp
          try with_reducible rfl
        try simp only [Act.put, List.getElem_toArray, List.getElem_cons_succ, List.getElem_cons_zero, List.setIfInBounds_toArray, List.set_cons_succ, List.set_cons_zero]
        refine wpAnyH_done (by kernel_rfl) ?_ _
        all_goals
          try go_wp2
          obtain ⟨A2, c2, rfl, hm2, _⟩ := M.out.row_slice 4 rfl
          have mm := M.out.take 6
          refine ⟨⟨i + 1, A2, c2, by omega, by go_num, ?_, ?_⟩, by simp [intOf]; omega⟩
          · rw [HY.out]
            simp
          · rw [HY.out, List.length_append, flat_append]
            exact mm
      · have d1 : decide (0 < d) = false := decide_eq_false c1
        have HY := Lib.hid (HXS.out [] (by rw [WA.out, if_neg c1]))
        clear HXS WA
        go_wp2_with (first
          | ((with_reducible refine gate_dst (N := 25) rfl ?_); go_must (refine ev_get _ _ rfl rfl (M.out.row_cell 5 rfl HAC.out) Tryz.underlying2 rfl rfl ?_))
          | ((with_reducible refine gate_dst (N := 29) rfl ?_); go_must (refine ev_get _ _ rfl rfl (M.out.cell 0 rfl KF.out) Tryz.underlying26 rfl rfl ?_))
          )
        refine ⟨⟨i + 1, B, cp, by omega, by go_num, ?_, ?_⟩, by simp [intOf]; omega⟩
        · rw [HY.out, List.append_nil]
        · rw [HY.out, List.append_nil]
          exact M.out
    · obtain rfl : i = F.all.length := by omega
      rw [List.take_length, plotsIn_all HV.out] at M
      rw [List.take_length, plotsIn_all HV.out]
      have hcp := (M.out.row_le 4 rfl).1
      by_cases h6 : (plotsIn F (List.range 100)).length ≤ 6
      · have P := Lib.hid (pof_yes h6)
        have c6 : decide ((6 : Int) < ((plotsIn F (List.range 100)).length : Int)) = false := decide_eq_false (by omega)
        generalize plotsIn F (List.range 100) = X at *
        go_wp2
        go_ret2
        rw [P.out.1, P.out.2]
        exact ⟨B, cp, rfl, hcp, M.out.only [4] (K := [_]) rfl (by decide)⟩
      · have P := Lib.hid (pof_no h6)
        have c6 : decide ((6 : Int) < ((plotsIn F (List.range 100)).length : Int)) = true := decide_eq_true (by omega)
        generalize plotsIn F (List.range 100) = X at *
        go_wp2
        go_ret2
        rw [P.out.1, P.out.2]
        have m := (M.out.take 0).nilrow 95 4
        exact ⟨none, 0, rfl, by simp, m⟩
set_option maxRecDepth 100000 in
set_option maxHeartbeats 4000000 in
theorem spec_PlotsOf_any (F : Fld) (hF : F.ok) (hv : F.valid = true) (w : World) :
    Calls Tryz.prog 22 #[.agg F.cells, .int .i64 2, .int .i64 3, .int .i64 1] w (RetRowC w 95 4 (pofR F).length (flat Plot.vals (pofR F)) (pofC F)) := by
  have M := Lib.hid (Mem.start w)
  have S1 := Lib.hid (Fld.size hF.toLen)
  have HV := Lib.hid hv
  have HF := Lib.hid hF
  have LW := Lib.hid (plotsIn_len F)
  clear hv
  go_enter Tryz.func22, Tryz.ntmps22
  have q1 : inB 2 0 20 = true := by decide
  have q2 : inB 3 0 20 = true := by decide
  have q3 : inB 1 0 1000 = true := by decide
  go_wp2_with (first
    | ((with_reducible refine gate_dst (N := 4) rfl ?_); go_must (refine M.out.ev_new rfl (by first | (go_simp; done) | (go_simp; rfl)) ?_); intro g4 w4 m; simp only [List.cons_append, List.nil_append] at m; have M := Lib.hid m; clear m)
    | ((with_reducible refine gate_dst (N := 37) rfl ?_); go_must (refine M.out.ev_ld 0 _ _ rfl rfl rfl Tryz.underlying26 rfl rfl (by first | assumption | rfl) ?_))
    | ((with_reducible refine gate_dst (N := 43) rfl ?_); go_must (refine M.out.ev_ld 0 _ _ rfl rfl rfl Tryz.underlying26 rfl rfl (by first | assumption | rfl) ?_))
    | ((with_reducible refine gate_dst (N := 12) rfl ?_); go_must (refine M.out.ev_bs0 elem_Plot rfl rfl ?_); intro g19 w19 m; simp only [List.cons_append, List.nil_append] at m; have M := Lib.hid m; clear m)
    | (go_at_call 43; go_must (refine (l01Ok_any g4 F HF.out _ (M.out.blk 0 rfl)).mono ?_); rintro e w_ ⟨rfl, rfl⟩; rw [HV.out])
    | (go_at_call 51; go_must (refine (l00In_any _ _ _ _).mono ?_); rintro e w_ ⟨rfl, rfl⟩; first | rw [q1] | rw [q2] | rw [q3])
    | (go_at_call 52; go_must (refine (l01Seeds1_any _).mono ?_); rintro e w_ ⟨rfl, rfl⟩)
    )
  clear q1 q2 q3
  go_loopw [10, 11] (fun o v wr => ∃ (i : Nat) (B : Option Addr) (cp : Nat), i ≤ 100 ∧ v = .int .i64 i ∧ o = .slice B (plotsIn F (List.range i)).length cp ∧ Mem w wr [.blk g4 29 F.cells, .row (.slice B (plotsIn F (List.range i)).length cp) 95 4 (plotsIn F (List.range i)).length (flat Plot.vals (plotsIn F (List.range i)))])
    (fun _ v _ => 100 - (intOf v).toNat)
  case atStart => exact ⟨0, some ⟨g19, 0, none⟩, 0, by omega, rfl, rfl, M.out⟩
  case round =>
    clear M
    obtain ⟨i, B, cp, hi, rfl, rfl, m⟩ := hrel
    have M := Lib.hid m
    clear m
    have lw := LW.out (List.range i)
    rw [List.length_range] at lw
    by_cases hlt : i < 100
    · have hk : i < 100 := by omega
      have HTS := Lib.hid (show List.range (i + 1) = List.range i ++ [i] from List.range_succ)
      have k0 : (0 : Int) ≤ (i : Int) := by omega
      have k1 : (i : Int) < 100 := by omega
      have KF := Lib.hid (Fld.cellS HF.out.toLen hk)
      obtain ⟨d, hd⟩ : ∃ d, d = F.seed i := ⟨_, rfl⟩
      have WA := Lib.hid (show plotAt F i = if 0 < d then [⟨d, 2, 3, 1⟩] else [] by unfold plotAt; rw [← hd])
      rw [← hd] at KF
      obtain ⟨X, hX⟩ : ∃ X, X = plotsIn F (List.range i) := ⟨_, rfl⟩
      have HXS := Lib.hid (show ∀ ys, plotAt F i = ys → plotsIn F (List.range (i + 1)) = X ++ ys from fun ys h => by rw [HTS.out, plotsIn_snoc, h, hX])
      rw [← hX] at M lw ⊢
      clear hX HTS hd
      have e2 : IntKind.i16.wrap 2 = 2 := by decide
      have e3 : IntKind.i16.wrap 3 = 3 := by decide
      have e4 : IntKind.i16.wrap 1 = 1 := by decide
      by_cases c1 : 0 < d
      · have d1 : decide (0 < d) = true := decide_eq_true c1
        have HY := Lib.hid (HXS.out [⟨d, 2, 3, 1⟩] (by rw [WA.out, if_pos c1]))
        clear HXS WA
        go_wp2_with (first
          | ((with_reducible refine gate_dst (N := 37) rfl ?_); go_must (refine ev_get _ _ rfl rfl (M.out.cell 0 rfl KF.out) Tryz.underlying26 rfl rfl ?_))
          | ((with_reducible refine gate_dst (N := 43) rfl ?_); go_must (refine ev_get _ _ rfl rfl (M.out.cell 0 rfl KF.out) Tryz.underlying26 rfl rfl ?_))
          | ((with_reducible refine gate_dst (N := 51) rfl ?_); go_must (refine M.out.ev_bs1 elem_Plot rfl _ rfl (Plot.vals ⟨d, 2, 3, 1⟩).toArray rfl rfl (by decide) ?_); intro g43 w43 m; simp only [List.cons_append, List.nil_append] at m; have M := Lib.hid m; clear m)
          | ((with_reducible refine gate_dst (N := 52) rfl ?_); go_must (refine M.out.ev_append1 1 2 elem_Plot rfl _ _ rfl rfl rfl rfl rfl rfl (Plot.one _) (by omega) (by decide) ?_); intro v44 w44 m; simp only [List.set_cons_succ, List.set_cons_zero] at m; have M := Lib.hid m; clear m)
          )
        obtain ⟨A2, c2, rfl, hm2, _⟩ := M.out.row_slice 1 rfl
        have mm := M.out.take 2
        refine ⟨⟨i + 1, A2, c2, by omega, by go_num, ?_, ?_⟩, by simp [intOf]; omega⟩
        · rw [HY.out]
          simp
        · rw [HY.out, List.length_append, flat_append]
          exact mm
      · have d1 : decide (0 < d) = false := decide_eq_false c1
        have HY := Lib.hid (HXS.out [] (by rw [WA.out, if_neg c1]))
        clear HXS WA
        go_wp2_with (first
          | ((with_reducible refine gate_dst (N := 37) rfl ?_); go_must (refine ev_get _ _ rfl rfl (M.out.cell 0 rfl KF.out) Tryz.underlying26 rfl rfl ?_))
          | ((with_reducible refine gate_dst (N := 43) rfl ?_); go_must (refine ev_get _ _ rfl rfl (M.out.cell 0 rfl KF.out) Tryz.underlying26 rfl rfl ?_))
          )
        refine ⟨⟨i + 1, B, cp, by omega, by go_num, ?_, ?_⟩, by simp [intOf]; omega⟩
        · rw [HY.out, List.append_nil]
        · rw [HY.out, List.append_nil]
          exact M.out
    · obtain rfl : i = 100 := by omega
      have hcp := (M.out.row_le 1 rfl).1
      by_cases h6 : (plotsIn F (List.range 100)).length ≤ 6
      · have P := Lib.hid (pof_yes h6)
        have c6 : decide ((6 : Int) < ((plotsIn F (List.range 100)).length : Int)) = false := decide_eq_false (by omega)
        generalize plotsIn F (List.range 100) = X at *
        go_wp2
        go_ret2
        rw [P.out.1, P.out.2]
        exact ⟨B, cp, rfl, hcp, M.out.only [1] (K := [_]) rfl (by decide)⟩
      · have P := Lib.hid (pof_no h6)
        have c6 : decide ((6 : Int) < ((plotsIn F (List.range 100)).length : Int)) = true := decide_eq_true (by omega)
        generalize plotsIn F (List.range 100) = X at *
        go_wp2_with (first
          | ((with_reducible refine gate_dst (N := 56) rfl ?_); go_must (refine M.out.ev_bs0 elem_Plot rfl rfl ?_); intro g56 w56 m; simp only [List.cons_append, List.nil_append] at m; have M := Lib.hid m; clear m)
          )
        go_ret2
        rw [P.out.1, P.out.2]
        exact ⟨_, _, rfl, Nat.le_refl _, M.out.only [2] (K := [_]) rfl (by decide)⟩
end Go.Proofs.YtaepgjjmfopiiaaGreatDoor
