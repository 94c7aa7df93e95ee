/- Texts of a proof, laid together: Way. -/
import Derived.Test.YtaepgjjmfopiiaaGreatDoorZH06
import Derived.Test.YtaepgjjmfopiiaaGreatDoorZH02
import Derived.Test.YtaepgjjmfopiiaaGreatDoorZH01
namespace Go.Proofs.YtaepgjjmfopiiaaGreatDoor
set_option linter.unusedSimpArgs false
set_option linter.unusedVariables false
open Go.RowKit
attribute [local go_sem] cell?_mk frozen?_mk
--ONES exact Entry.one _ | exact Fld.one _

/-- The diary that leads from a field to another. -/
def way (F G : Fld) : List Entry := wayOf F G (List.range 100)
theorem wayOf_snoc (F G : Fld) (ks : List Nat) (k : Nat) : wayOf F G (ks ++ [k]) = wayOf F G ks ++ wayAt F G k := by simp [wayOf]
theorem way_all {F G : Fld} (hv : F.valid = true) (hg : G.valid = true) (n : Near F G) : wayOf F G F.all = way F G := by
  have e : F.all = (List.range 100).filter fun (k : Nat) => F.has k := rfl
  rw [e]
  refine wayOf_filter (fun k => F.has (k : Nat)) _ fun k hk hh => ?_
  have hk := List.mem_range.1 hk
  have f := Fld.okAt_iff.1 (Fld.valid_at hv hk)
  have g := Fld.okAt_iff.1 (Fld.valid_at hg hk)
  rw [n.has] at g
  rw [(f.2.2.2.2.2 hh).2, (g.2.2.2.2.2 hh).2]
theorem neqKinds (F : Fld) (hF : F.len) (w : World) : (binOp .neq 25 (.agg (ints .u8 F.kinds)) (.agg (ints .u8 F.kinds))).run Tryz.prog w = .ok (.bool false) w := by
  have q1 := run_eqArr 9998 25 5 100 .u8 F.kinds hF.kl Tryz.underlying25 Tryz.underlying5 Tryz.isAgg5 Tryz.sizeOf5 w
  rw [run_neq_struct, show (10000 : Nat) = 9998 + 2 from rfl, q1]
  rfl
set_option maxRecDepth 100000 in
set_option maxHeartbeats 4000000 in
theorem impl_DiaryOf_any (F G : Fld) (hF : F.ok) (hv : F.valid = true) (hG : G.ok) (hg : G.valid = true) (hn : Near F G) (w : World) :
    Calls Tryz.prog 19 #[.agg F.cells, .agg G.cells] w (RetRowC w 45 3 (way F G).length (flat Entry.vals (way F G)) 0) := by
  have M := Lib.hid (Mem.start w)
  have S1 := Lib.hid (Fld.size hF.toLen)
  have S2 := Lib.hid (Fld.size hG.toLen)
  have HV := Lib.hid hv
  have HG := Lib.hid hg
  have HF := Lib.hid hF
  have HGO := Lib.hid hG
  have HN := Lib.hid hn
  have ew : G.wide = F.wide := hn.w
  have eh : G.high = F.high := hn.h
  have f1 : (F.wide != G.wide) = false := by rw [ew]; simp
  have f2 : (F.high != G.high) = false := by rw [eh]; simp
  have nk : ∀ w, (binOp .neq 25 (.agg (F.kinds.map (Value.int .u8)).toArray) (.agg (G.kinds.map (Value.int .u8)).toArray)).run Tryz.prog w = .ok (.bool false) w := fun w => by rw [hn.k]; exact neqKinds F hF.toLen w
  have LW := Lib.hid (wayOf_len F G)
  clear hv hg hn
  go_enter Tryz.func19, Tryz.ntmps19
  go_wp2_with (first
    | ((with_reducible refine gate_dst (N := 21) rfl ?_); go_must (refine M.out.ev_ld 0 _ _ rfl rfl rfl Tryz.underlying24 rfl rfl F.cell0 ?_))
    | ((with_reducible refine gate_dst (N := 23) rfl ?_); go_must (refine M.out.ev_ld 1 _ _ rfl rfl rfl Tryz.underlying24 rfl rfl G.cell0 ?_))
    | ((with_reducible refine gate_dst (N := 27) rfl ?_); refine gate_want rfl ?_; go_must (refine M.out.ev_ld 0 _ _ rfl rfl rfl Tryz.underlying24 rfl rfl F.cell1 ?_))
    | ((with_reducible refine gate_dst (N := 29) rfl ?_); refine gate_want rfl ?_; go_must (refine M.out.ev_ld 1 _ _ rfl rfl rfl Tryz.underlying24 rfl rfl G.cell1 ?_))
    | ((with_reducible refine gate_dst (N := 15) rfl ?_); refine gate_want rfl ?_; go_must (refine M.out.ev_ldw 1 _ _ rfl rfl rfl Tryz.underlying29 rfl (by rw [S2.out]; exact sz29) rfl ?_))
    | ((with_reducible refine gate_dst (N := 2) rfl ?_); go_must (refine M.out.ev_new rfl (by first | (go_simp; done) | (go_simp; rfl)) ?_); intro g2 w2 m; simp only [List.cons_append, List.nil_append] at m; have M := Lib.hid m; clear m; try have q0_1 := M.out.cell (j := 1) 0 rfl (by first | assumption | rfl); try have q1_1 := M.out.cell (j := 1) 1 rfl (by first | assumption | rfl))
    | ((with_reducible refine gate_dst (N := 3) rfl ?_); go_must (refine M.out.ev_new rfl (by first | (go_simp; done) | (go_simp; rfl)) ?_); intro g3 w3 m; simp only [List.cons_append, List.nil_append] at m; have M := Lib.hid m; clear m; try have q0_1 := M.out.cell (j := 1) 0 rfl (by first | assumption | rfl); try have q1_1 := M.out.cell (j := 1) 1 rfl (by first | assumption | rfl))
    | ((with_reducible refine gate_dst (N := 11) rfl ?_); go_must (refine M.out.ev_ldw 0 _ _ rfl rfl rfl Tryz.underlying29 rfl (by first | exact sz29 | (rw [S1.out]; exact sz29) | (rw [S2.out]; exact sz29) | (rw [S3.out]; exact sz29)) rfl ?_))
    | ((with_reducible refine gate_dst (N := 21) rfl ?_); go_must (refine M.out.ev_ld 0 _ _ rfl rfl rfl Tryz.underlying24 rfl rfl (by first | assumption | rfl) ?_))
    | ((with_reducible refine gate_dst (N := 23) rfl ?_); go_must (refine M.out.ev_ld 1 _ _ rfl rfl rfl Tryz.underlying24 rfl rfl (by first | assumption | rfl) ?_))
    | ((with_reducible refine gate_dst (N := 49) rfl ?_); go_must (refine M.out.ev_ld 1 _ _ rfl rfl rfl Tryz.underlying26 rfl rfl (by first | assumption | rfl) ?_))
    | ((with_reducible refine gate_dst (N := 53) rfl ?_); go_must (refine M.out.ev_ld 0 _ _ rfl rfl rfl Tryz.underlying26 rfl rfl (by first | assumption | rfl) ?_))
    | (go_at_call 15; go_must (first | (refine Calls.mono (calls_args (by with_reducible rfl) (ValidField_any F HF.out _)) ?_; rintro e w_ ⟨rfl, N_⟩; have m := M.out.join N_; clear N_; simp only [List.cons_append, List.nil_append, List.append_nil] at m; have M := Lib.hid m; clear m; rw [HV.out]) | (refine Calls.mono (calls_args (by with_reducible rfl) (ValidField_any G HGO.out _)) ?_; rintro e w_ ⟨rfl, N_⟩; have m := M.out.join N_; clear N_; simp only [List.cons_append, List.nil_append, List.append_nil] at m; have M := Lib.hid m; clear m; rw [HG.out])))
    | ((with_reducible refine gate_dst (N := 34) rfl ?_); refine gate_want rfl ?_; go_must (refine ev_ldr _ _ rfl rfl (blk_range (M.out.blk 0 rfl) 2 (F.kinds.map (Value.int .u8)) (fun j v hv => Fld.cellsK HF.out.toLen j v hv)) Tryz.underlying25 rfl (by rw [List.length_map, HF.out.kl]; exact sz25) rfl ?_))
    | ((with_reducible refine gate_dst (N := 36) rfl ?_); refine gate_want rfl ?_; go_must (refine ev_ldr _ _ rfl rfl (blk_range (M.out.blk 1 rfl) 2 (G.kinds.map (Value.int .u8)) (fun j v hv => Fld.cellsK HGO.out.toLen j v hv)) Tryz.underlying25 rfl (by rw [List.length_map, HGO.out.kl]; exact sz25) rfl ?_))
    | ((with_reducible refine gate_dst (N := 39) rfl ?_); go_must (refine M.out.ev_bs0 elem_Entry rfl rfl ?_); intro g39 w39 m; simp only [List.cons_append, List.nil_append] at m; have M := Lib.hid m; clear m)
    | (go_at_call 48; go_must (refine (cells_any g2 F HF.out _ (M.out.blk 0 rfl)).mono ?_); rintro e w_ ⟨A_, c_, rfl, hc_, N_⟩; have m := M.out.join N_; clear N_; simp only [List.cons_append, List.nil_append, List.append_nil] at m; have M := Lib.hid m; clear m)
    )
  have hal : F.all.length ≤ 100 := F.below_len 100
  go_loopw [6, 42] (fun o v wr => ∃ (i : Nat) (B : Option Addr) (cp : Nat), i ≤ F.all.length ∧ v = .int .i64 i ∧ o = .slice B (wayOf F G (F.all.take i)).length cp ∧ Mem w wr [.blk g2 29 F.cells, .blk g3 29 G.cells, .row (.slice B (wayOf F G (F.all.take i)).length cp) 45 3 (wayOf F G (F.all.take i)).length (flat Entry.vals (wayOf F G (F.all.take i))), .row (.slice A_ F.all.length c_) 2 1 F.all.length (flat one64 F.all)])
    (fun _ v _ => F.all.length - (intOf v).toNat)
  case atStart => exact ⟨0, some ⟨g39, 0, none⟩, 0, by omega, rfl, rfl, M.out⟩
  case round =>
    clear M
    obtain ⟨i, B, cp, hi, rfl, rfl, m⟩ := hrel
    have M := Lib.hid m
    clear m
    have lw := LW.out (F.all.take i)
    rw [List.length_take] at lw
    by_cases hlt : i < F.all.length
    · obtain ⟨gc, cc, hA_, _⟩ := M.out.row_form 3 rfl (by omega)
      injection hA_ with hA1 _ hA3
      subst hA1
      clear hA3
      have HAC := Lib.hid (show (flat one64 F.all)[i]? = some (.int .i64 F.all[i]) by simpa [nat64] using flat_at one64_len (List.getElem?_eq_getElem hlt) (j := 0) rfl)
      obtain ⟨k, hk0⟩ : ∃ k, k = F.all[i] := ⟨_, rfl⟩
      have hk : k < 100 := by rw [hk0]; exact (Fld.all_has (List.getElem_mem hlt)).1
      have HTS := Lib.hid (show F.all.take (i + 1) = F.all.take i ++ [k] by rw [List.take_succ_eq_append_getElem hlt, hk0])
      rw [← hk0] at HAC
      clear hk0
      have i0 : (0 : Int) ≤ (i : Int) := by omega
      have i1 : (i : Int) < (F.all.length : Int) := by omega
      have k0 : (0 : Int) ≤ (k : Int) := by omega
      have k1 : (k : Int) < 100 := by omega
      have KF := Lib.hid (Fld.cellS HF.out.toLen hk)
      have KG := Lib.hid (Fld.cellS HGO.out.toLen hk)
      have fb := Fld.okAt_iff.1 (Fld.valid_at HV.out hk)
      have gb := Fld.okAt_iff.1 (Fld.valid_at HG.out hk)
      obtain ⟨d, hd⟩ : ∃ d, d = G.seed k - F.seed k := ⟨_, rfl⟩
      have e1 : IntKind.i16.wrap (G.seed k - F.seed k) = d := by rw [hd]; exact IntWalk.i16_in _ (by omega)
      have e2 : IntKind.i16.wrap (k : Int) = (k : Int) := IntWalk.i16_in _ (by omega)
      have e3 : IntKind.i16.wrap (-d) = -d := IntWalk.i16_in _ (by omega)
      have WA := Lib.hid (show wayAt F G k = if 0 < d then [⟨0, k, d⟩] else if d < 0 then [⟨1, k, -d⟩] else [] by
        unfold wayAt
        rw [← hd, show F.seed k - G.seed k = -d by omega])
      obtain ⟨X, hX⟩ : ∃ X, X = wayOf F G (F.all.take i) := ⟨_, rfl⟩
      have HXS := Lib.hid (show ∀ ys, wayAt F G k = ys → wayOf F G (F.all.take (i + 1)) = X ++ ys from fun ys h => by rw [HTS.out, wayOf_snoc, h, hX])
      rw [← hX] at M lw ⊢
      clear hX HTS fb gb hd
      by_cases c1 : 0 < d
      · have d1 : decide (0 < d) = true := decide_eq_true c1
        have HY := Lib.hid (HXS.out [⟨0, k, d⟩] (by rw [WA.out, if_pos c1]))
        clear HXS WA
        go_wp2_with (first
          | ((with_reducible refine gate_dst (N := 45) rfl ?_); go_must (refine ev_get _ _ rfl rfl (M.out.row_cell 3 rfl HAC.out) Tryz.underlying2 rfl rfl ?_))
          )
        refine region_anyH (fun w' => Mem w w' [.blk g2 29 F.cells, .blk g3 29 G.cells]) (by kernel_rfl) ?_
        have m := M.out.drew
        clear M
        have M := Lib.hid m
        clear m
        apply takeH (i := 0) 46 rfl (by kernel_rfl) (by kernel_rfl) (by kernel_rfl) (fun _ _ _ h => h) rfl (by first | exact M.out | exact M.out.take 2)
        case' hy =>
          refine Or.inl ⟨by first | rfl | (go_simp; done), ?_⟩
          intro w hS
          clear hS
          go_simp
          try with_reducible rfl
        try simp only [Act.put, List.getElem_toArray, List.getElem_cons_succ, List.getElem_cons_zero, List.setIfInBounds_toArray, List.set_cons_succ, List.set_cons_zero]
        apply takeH (i := 1) 47 rfl (by kernel_rfl) (by kernel_rfl) (by kernel_rfl) (fun _ _ _ h => h) rfl (by first | exact M.out | exact M.out.take 2)
        case' hy =>
          refine Or.inl ⟨by first | rfl | (go_simp; done), ?_⟩
          intro w hS
          clear hS
          go_simp
          try with_reducible rfl
        try simp only [Act.put, List.getElem_toArray, List.getElem_cons_succ, List.getElem_cons_zero, List.setIfInBounds_toArray, List.set_cons_succ, List.set_cons_zero]
        apply takeH (i := 2) 48 rfl (by kernel_rfl) (by kernel_rfl) (by kernel_rfl) (fun _ _ _ h => h) rfl (by first | exact M.out | exact M.out.take 2)
        case' hy =>
          refine Or.inl ⟨by first | rfl | (go_simp; done), ?_⟩
          intro w hS
          clear hS
          go_simp
          try with_reducible rfl
        try simp only [Act.put, List.getElem_toArray, List.getElem_cons_succ, List.getElem_cons_zero, List.setIfInBounds_toArray, List.set_cons_succ, List.set_cons_zero]
        apply takeH (i := 3) 49 rfl (by kernel_rfl) (by kernel_rfl) (by kernel_rfl) (fun _ _ _ h => h) rfl (by first | exact M.out | exact M.out.take 2)
        case' hy => exact ylds _ _ rfl rfl Tryz.underlying26 rfl rfl (fun w' hS => hS.cell 1 rfl KG.out)
        try simp only [Act.put, List.getElem_toArray, List.getElem_cons_succ, List.getElem_cons_zero, List.setIfInBounds_toArray, List.set_cons_succ, List.set_cons_zero]
        apply takeH (i := 4) 50 rfl (by kernel_rfl) (by kernel_rfl) (by kernel_rfl) (fun _ _ _ h => h) rfl (by first | exact M.out | exact M.out.take 2)
        case' hy =>
          refine Or.inl ⟨by first | rfl | (go_simp; done), ?_⟩
          intro w hS
          clear hS
          go_simp
          try with_reducible rfl
        try simp only [Act.put, List.getElem_toArray, List.getElem_cons_succ, List.getElem_cons_zero, List.setIfInBounds_toArray, List.set_cons_succ, List.set_cons_zero]
        apply takeH (i := 5) 51 rfl (by kernel_rfl) (by kernel_rfl) (by kernel_rfl) (fun _ _ _ h => h) rfl (by first | exact M.out | exact M.out.take 2)
        case' hy =>
          refine Or.inl ⟨by first | rfl | (go_simp; done), ?_⟩
          intro w hS
          clear hS
          go_simp
          try with_reducible rfl
        try simp only [Act.put, List.getElem_toArray, List.getElem_cons_succ, List.getElem_cons_zero, List.setIfInBounds_toArray, List.set_cons_succ, List.set_cons_zero]
        apply takeH (i := 6) 52 rfl (by kernel_rfl) (by kernel_rfl) (by kernel_rfl) (fun _ _ _ h => h) rfl (by first | exact M.out | exact M.out.take 2)
        case' hy =>
          refine Or.inl ⟨by first | rfl | (go_simp; done), ?_⟩
          intro w hS
          clear hS
          go_simp
          try with_reducible rfl
        try simp only [Act.put, List.getElem_toArray, List.getElem_cons_succ, List.getElem_cons_zero, List.setIfInBounds_toArray, List.set_cons_succ, List.set_cons_zero]
        apply takeH (i := 7) 53 rfl (by kernel_rfl) (by kernel_rfl) (by kernel_rfl) (fun _ _ _ h => h) rfl (by first | exact M.out | exact M.out.take 2)
        case' hy => exact ylds _ _ rfl rfl Tryz.underlying26 rfl rfl (fun w' hS => hS.cell 0 rfl KF.out)
        try simp only [Act.put, List.getElem_toArray, List.getElem_cons_succ, List.getElem_cons_zero, List.setIfInBounds_toArray, List.set_cons_succ, List.set_cons_zero]
        apply takeH (i := 8) 54 rfl (by kernel_rfl) (by kernel_rfl) (by kernel_rfl) (fun _ _ _ h => h) rfl (by first | exact M.out | exact M.out.take 2)
        case' hy =>
          refine Or.inl ⟨by first | rfl | (go_simp; done), ?_⟩
          intro w hS
          clear hS
          go_simp
          try with_reducible rfl
        try simp only [Act.put, List.getElem_toArray, List.getElem_cons_succ, List.getElem_cons_zero, List.setIfInBounds_toArray, List.set_cons_succ, List.set_cons_zero]
        apply takeH (i := 9) 9 rfl (by kernel_rfl) (by kernel_rfl) (by kernel_rfl) (fun _ _ _ h => h) rfl (by first | exact M.out | exact M.out.take 2)
        case' hy =>
          refine Or.inl ⟨by first | rfl | (go_simp; done), ?_⟩
          intro w hS
          clear hS
          go_simp
          try with_reducible rfl
        try simp only [Act.put, List.getElem_toArray, List.getElem_cons_succ, List.getElem_cons_zero, List.setIfInBounds_toArray, List.set_cons_succ, List.set_cons_zero]
        refine wpAnyH_done (by kernel_rfl) ?_ _
        all_goals
          go_wp2_with (first
            | ((with_reducible refine gate_dst (N := 63) rfl ?_); go_must (refine M.out.ev_bs1 elem_Entry rfl _ rfl (Entry.vals ⟨0, k, d⟩).toArray rfl rfl (by decide) ?_); intro g63 w63 m; simp only [List.cons_append, List.nil_append] at m; have M := Lib.hid m; clear m)
            | ((with_reducible refine gate_dst (N := 64) rfl ?_); go_must (refine M.out.ev_append1 2 4 elem_Entry rfl _ _ rfl rfl rfl rfl rfl rfl (Entry.one _) (by omega) (by decide) ?_); intro v64 w64 m; simp only [List.set_cons_succ, List.set_cons_zero] at m; have M := Lib.hid m; clear m)
            )
          obtain ⟨A2, c2, rfl, hm2, _⟩ := M.out.row_slice 2 rfl
          have mm := M.out.take 4
          refine ⟨⟨i + 1, A2, c2, by omega, by go_num, ?_, ?_⟩, by simp [intOf]; omega⟩
          · rw [HY.out]
            simp
          · rw [HY.out, List.length_append, flat_append]
            exact mm
      · have d1 : decide (0 < d) = false := decide_eq_false c1
        by_cases c2 : d < 0
        · have d2 : decide (d < 0) = true := decide_eq_true c2
          have HY := Lib.hid (HXS.out [⟨1, k, -d⟩] (by rw [WA.out, if_neg c1, if_pos c2]))
          clear HXS WA
          go_wp2_with (first
            | ((with_reducible refine gate_dst (N := 45) rfl ?_); go_must (refine ev_get _ _ rfl rfl (M.out.row_cell 3 rfl HAC.out) Tryz.underlying2 rfl rfl ?_))
            )
          refine region_anyH (fun w' => Mem w w' [.blk g2 29 F.cells, .blk g3 29 G.cells]) (by kernel_rfl) ?_
          have m := M.out.drew
          clear M
          have M := Lib.hid m
          clear m
          apply takeH (i := 0) 46 rfl (by kernel_rfl) (by kernel_rfl) (by kernel_rfl) (fun _ _ _ h => h) rfl (by first | exact M.out | exact M.out.take 2)
          case' hy =>
            refine Or.inl ⟨by first | rfl | (go_simp; done), ?_⟩
            intro w hS
            clear hS
            go_simp
            try with_reducible rfl
          try simp only [Act.put, List.getElem_toArray, List.getElem_cons_succ, List.getElem_cons_zero, List.setIfInBounds_toArray, List.set_cons_succ, List.set_cons_zero]
          apply takeH (i := 1) 47 rfl (by kernel_rfl) (by kernel_rfl) (by kernel_rfl) (fun _ _ _ h => h) rfl (by first | exact M.out | exact M.out.take 2)
          case' hy =>
            refine Or.inl ⟨by first | rfl | (go_simp; done), ?_⟩
            intro w hS
            clear hS
            go_simp
            try with_reducible rfl
          try simp only [Act.put, List.getElem_toArray, List.getElem_cons_succ, List.getElem_cons_zero, List.setIfInBounds_toArray, List.set_cons_succ, List.set_cons_zero]
          apply takeH (i := 2) 48 rfl (by kernel_rfl) (by kernel_rfl) (by kernel_rfl) (fun _ _ _ h => h) rfl (by first | exact M.out | exact M.out.take 2)
          case' hy =>
            refine Or.inl ⟨by first | rfl | (go_simp; done), ?_⟩
            intro w hS
            clear hS
            go_simp
            try with_reducible rfl
          try simp only [Act.put, List.getElem_toArray, List.getElem_cons_succ, List.getElem_cons_zero, List.setIfInBounds_toArray, List.set_cons_succ, List.set_cons_zero]
          apply takeH (i := 3) 49 rfl (by kernel_rfl) (by kernel_rfl) (by kernel_rfl) (fun _ _ _ h => h) rfl (by first | exact M.out | exact M.out.take 2)
          case' hy => exact ylds _ _ rfl rfl Tryz.underlying26 rfl rfl (fun w' hS => hS.cell 1 rfl KG.out)
          try simp only [Act.put, List.getElem_toArray, List.getElem_cons_succ, List.getElem_cons_zero, List.setIfInBounds_toArray, List.set_cons_succ, List.set_cons_zero]
          apply takeH (i := 4) 50 rfl (by kernel_rfl) (by kernel_rfl) (by kernel_rfl) (fun _ _ _ h => h) rfl (by first | exact M.out | exact M.out.take 2)
          case' hy =>
            refine Or.inl ⟨by first | rfl | (go_simp; done), ?_⟩
            intro w hS
            clear hS
            go_simp
            try with_reducible rfl
          try simp only [Act.put, List.getElem_toArray, List.getElem_cons_succ, List.getElem_cons_zero, List.setIfInBounds_toArray, List.set_cons_succ, List.set_cons_zero]
          apply takeH (i := 5) 51 rfl (by kernel_rfl) (by kernel_rfl) (by kernel_rfl) (fun _ _ _ h => h) rfl (by first | exact M.out | exact M.out.take 2)
          case' hy =>
            refine Or.inl ⟨by first | rfl | (go_simp; done), ?_⟩
            intro w hS
            clear hS
            go_simp
            try with_reducible rfl
          try simp only [Act.put, List.getElem_toArray, List.getElem_cons_succ, List.getElem_cons_zero, List.setIfInBounds_toArray, List.set_cons_succ, List.set_cons_zero]
          apply takeH (i := 6) 52 rfl (by kernel_rfl) (by kernel_rfl) (by kernel_rfl) (fun _ _ _ h => h) rfl (by first | exact M.out | exact M.out.take 2)
          case' hy =>
            refine Or.inl ⟨by first | rfl | (go_simp; done), ?_⟩
            intro w hS
            clear hS
            go_simp
            try with_reducible rfl
          try simp only [Act.put, List.getElem_toArray, List.getElem_cons_succ, List.getElem_cons_zero, List.setIfInBounds_toArray, List.set_cons_succ, List.set_cons_zero]
          apply takeH (i := 7) 53 rfl (by kernel_rfl) (by kernel_rfl) (by kernel_rfl) (fun _ _ _ h => h) rfl (by first | exact M.out | exact M.out.take 2)
          case' hy => exact ylds _ _ rfl rfl Tryz.underlying26 rfl rfl (fun w' hS => hS.cell 0 rfl KF.out)
          try simp only [Act.put, List.getElem_toArray, List.getElem_cons_succ, List.getElem_cons_zero, List.setIfInBounds_toArray, List.set_cons_succ, List.set_cons_zero]
          apply takeH (i := 8) 54 rfl (by kernel_rfl) (by kernel_rfl) (by kernel_rfl) (fun _ _ _ h => h) rfl (by first | exact M.out | exact M.out.take 2)
          case' hy =>
            refine Or.inl ⟨by first | rfl | (go_simp; done), ?_⟩
            intro w hS
            clear hS
            go_simp
            try with_reducible rfl
          try simp only [Act.put, List.getElem_toArray, List.getElem_cons_succ, List.getElem_cons_zero, List.setIfInBounds_toArray, List.set_cons_succ, List.set_cons_zero]
          apply takeH (i := 9) 9 rfl (by kernel_rfl) (by kernel_rfl) (by kernel_rfl) (fun _ _ _ h => h) rfl (by first | exact M.out | exact M.out.take 2)
          case' hy =>
            refine Or.inl ⟨by first | rfl | (go_simp; done), ?_⟩
            intro w hS
            clear hS
            go_simp
            try with_reducible rfl
          try simp only [Act.put, List.getElem_toArray, List.getElem_cons_succ, List.getElem_cons_zero, List.setIfInBounds_toArray, List.set_cons_succ, List.set_cons_zero]
          refine wpAnyH_done (by kernel_rfl) ?_ _
          all_goals
            go_wp2_with (first
              | ((with_reducible refine gate_dst (N := 74) rfl ?_); go_must (refine M.out.ev_bs1 elem_Entry rfl _ rfl (Entry.vals ⟨1, k, -d⟩).toArray rfl rfl (by decide) ?_); intro g63 w63 m; simp only [List.cons_append, List.nil_append] at m; have M := Lib.hid m; clear m)
              | ((with_reducible refine gate_dst (N := 75) rfl ?_); go_must (refine M.out.ev_append1 2 4 elem_Entry rfl _ _ rfl rfl rfl rfl rfl rfl (Entry.one _) (by omega) (by decide) ?_); intro v64 w64 m; simp only [List.set_cons_succ, List.set_cons_zero] at m; have M := Lib.hid m; clear m)
              )
            obtain ⟨A2, c2, rfl, hm2, _⟩ := M.out.row_slice 2 rfl
            have mm := M.out.take 4
            refine ⟨⟨i + 1, A2, c2, by omega, by go_num, ?_, ?_⟩, by simp [intOf]; omega⟩
            · rw [HY.out]
              simp
            · rw [HY.out, List.length_append, flat_append]
              exact mm
        · have d2 : decide (d < 0) = false := decide_eq_false c2
          have HY := Lib.hid (HXS.out [] (by rw [WA.out, if_neg c1, if_neg c2]))
          clear HXS WA
          go_wp2_with (first
            | ((with_reducible refine gate_dst (N := 45) rfl ?_); go_must (refine ev_get _ _ rfl rfl (M.out.row_cell 3 rfl HAC.out) Tryz.underlying2 rfl rfl ?_))
            )
          refine region_anyH (fun w' => Mem w w' [.blk g2 29 F.cells, .blk g3 29 G.cells]) (by kernel_rfl) ?_
          have m := M.out.drew
          clear M
          have M := Lib.hid m
          clear m
          apply takeH (i := 0) 46 rfl (by kernel_rfl) (by kernel_rfl) (by kernel_rfl) (fun _ _ _ h => h) rfl (by first | exact M.out | exact M.out.take 2)
          case' hy =>
            refine Or.inl ⟨by first | rfl | (go_simp; done), ?_⟩
            intro w hS
            clear hS
            go_simp
            try with_reducible rfl
          try simp only [Act.put, List.getElem_toArray, List.getElem_cons_succ, List.getElem_cons_zero, List.setIfInBounds_toArray, List.set_cons_succ, List.set_cons_zero]
          apply takeH (i := 1) 47 rfl (by kernel_rfl) (by kernel_rfl) (by kernel_rfl) (fun _ _ _ h => h) rfl (by first | exact M.out | exact M.out.take 2)
          case' hy =>
            refine Or.inl ⟨by first | rfl | (go_simp; done), ?_⟩
            intro w hS
            clear hS
            go_simp
            try with_reducible rfl
          try simp only [Act.put, List.getElem_toArray, List.getElem_cons_succ, List.getElem_cons_zero, List.setIfInBounds_toArray, List.set_cons_succ, List.set_cons_zero]
          apply takeH (i := 2) 48 rfl (by kernel_rfl) (by kernel_rfl) (by kernel_rfl) (fun _ _ _ h => h) rfl (by first | exact M.out | exact M.out.take 2)
          case' hy =>
            refine Or.inl ⟨by first | rfl | (go_simp; done), ?_⟩
            intro w hS
            clear hS
            go_simp
            try with_reducible rfl
          try simp only [Act.put, List.getElem_toArray, List.getElem_cons_succ, List.getElem_cons_zero, List.setIfInBounds_toArray, List.set_cons_succ, List.set_cons_zero]
          apply takeH (i := 3) 49 rfl (by kernel_rfl) (by kernel_rfl) (by kernel_rfl) (fun _ _ _ h => h) rfl (by first | exact M.out | exact M.out.take 2)
          case' hy => exact ylds _ _ rfl rfl Tryz.underlying26 rfl rfl (fun w' hS => hS.cell 1 rfl KG.out)
          try simp only [Act.put, List.getElem_toArray, List.getElem_cons_succ, List.getElem_cons_zero, List.setIfInBounds_toArray, List.set_cons_succ, List.set_cons_zero]
          apply takeH (i := 4) 50 rfl (by kernel_rfl) (by kernel_rfl) (by kernel_rfl) (fun _ _ _ h => h) rfl (by first | exact M.out | exact M.out.take 2)
          case' hy =>
            refine Or.inl ⟨by first | rfl | (go_simp; done), ?_⟩
            intro w hS
            clear hS
            go_simp
            try with_reducible rfl
          try simp only [Act.put, List.getElem_toArray, List.getElem_cons_succ, List.getElem_cons_zero, List.setIfInBounds_toArray, List.set_cons_succ, List.set_cons_zero]
          apply takeH (i := 5) 51 rfl (by kernel_rfl) (by kernel_rfl) (by kernel_rfl) (fun _ _ _ h => h) rfl (by first | exact M.out | exact M.out.take 2)
          case' hy =>
            refine Or.inl ⟨by first | rfl | (go_simp; done), ?_⟩
            intro w hS
            clear hS
            go_simp
            try with_reducible rfl
          try simp only [Act.put, List.getElem_toArray, List.getElem_cons_succ, List.getElem_cons_zero, List.setIfInBounds_toArray, List.set_cons_succ, List.set_cons_zero]
          apply takeH (i := 6) 52 rfl (by kernel_rfl) (by kernel_rfl) (by kernel_rfl) (fun _ _ _ h => h) rfl (by first | exact M.out | exact M.out.take 2)
          case' hy =>
            refine Or.inl ⟨by first | rfl | (go_simp; done), ?_⟩
            intro w hS
            clear hS
            go_simp
            try with_reducible rfl
          try simp only [Act.put, List.getElem_toArray, List.getElem_cons_succ, List.getElem_cons_zero, List.setIfInBounds_toArray, List.set_cons_succ, List.set_cons_zero]
          apply takeH (i := 7) 53 rfl (by kernel_rfl) (by kernel_rfl) (by kernel_rfl) (fun _ _ _ h => h) rfl (by first | exact M.out | exact M.out.take 2)
          case' hy => exact ylds _ _ rfl rfl Tryz.underlying26 rfl rfl (fun w' hS => hS.cell 0 rfl KF.out)
          try simp only [Act.put, List.getElem_toArray, List.getElem_cons_succ, List.getElem_cons_zero, List.setIfInBounds_toArray, List.set_cons_succ, List.set_cons_zero]
          apply takeH (i := 8) 54 rfl (by kernel_rfl) (by kernel_rfl) (by kernel_rfl) (fun _ _ _ h => h) rfl (by first | exact M.out | exact M.out.take 2)
          case' hy =>
            refine Or.inl ⟨by first | rfl | (go_simp; done), ?_⟩
            intro w hS
            clear hS
            go_simp
            try with_reducible rfl
          try simp only [Act.put, List.getElem_toArray, List.getElem_cons_succ, List.getElem_cons_zero, List.setIfInBounds_toArray, List.set_cons_succ, List.set_cons_zero]
          apply takeH (i := 9) 9 rfl (by kernel_rfl) (by kernel_rfl) (by kernel_rfl) (fun _ _ _ h => h) rfl (by first | exact M.out | exact M.out.take 2)
          case' hy =>
            refine Or.inl ⟨by first | rfl | (go_simp; done), ?_⟩
            intro w hS
            clear hS
            go_simp
            try with_reducible rfl
          try simp only [Act.put, List.getElem_toArray, List.getElem_cons_succ, List.getElem_cons_zero, List.setIfInBounds_toArray, List.set_cons_succ, List.set_cons_zero]
          refine wpAnyH_done (by kernel_rfl) ?_ _
          all_goals
            go_wp2
            refine ⟨⟨i + 1, B, cp, by omega, by go_num, ?_, ?_⟩, by simp [intOf]; omega⟩
            · rw [HY.out, List.append_nil]
            · rw [HY.out, List.append_nil]
              exact M.out
    · obtain rfl : i = F.all.length := by omega
      rw [List.take_length, way_all HV.out HG.out HN.out] at M
      have hcp := (M.out.row_le 2 rfl).1
      rw [List.take_length, way_all HV.out HG.out HN.out]
      go_wp2
      go_ret2
      exact ⟨B, cp, rfl, hcp, M.out.only [2] (K := [_]) rfl (by decide)⟩
set_option maxRecDepth 100000 in
set_option maxHeartbeats 4000000 in
theorem spec_DiaryOf_any (F G : Fld) (hF : F.ok) (hv : F.valid = true) (hG : G.ok) (hg : G.valid = true) (hn : Near F G) (w : World) :
    Calls Tryz.prog 20 #[.agg F.cells, .agg G.cells] w (RetRowC w 45 3 (way F G).length (flat Entry.vals (way F G)) 0) := by
  have M := Lib.hid (Mem.start w)
  have S1 := Lib.hid (Fld.size hF.toLen)
  have S2 := Lib.hid (Fld.size hG.toLen)
  have HV := Lib.hid hv
  have HG := Lib.hid hg
  have HF := Lib.hid hF
  have HGO := Lib.hid hG
  have HN := Lib.hid hn
  have ew : G.wide = F.wide := hn.w
  have eh : G.high = F.high := hn.h
  have f1 : (F.wide != G.wide) = false := by rw [ew]; simp
  have f2 : (F.high != G.high) = false := by rw [eh]; simp
  have nk : ∀ w, (binOp .neq 25 (.agg (F.kinds.map (Value.int .u8)).toArray) (.agg (G.kinds.map (Value.int .u8)).toArray)).run Tryz.prog w = .ok (.bool false) w := fun w => by rw [hn.k]; exact neqKinds F hF.toLen w
  have LW := Lib.hid (wayOf_len F G)
  clear hv hg hn
  go_enter Tryz.func20, Tryz.ntmps20
  go_wp2_with (first
    | ((with_reducible refine gate_dst (N := 18) rfl ?_); go_must (refine M.out.ev_ld 0 _ _ rfl rfl rfl Tryz.underlying24 rfl rfl F.cell0 ?_))
    | ((with_reducible refine gate_dst (N := 20) rfl ?_); go_must (refine M.out.ev_ld 1 _ _ rfl rfl rfl Tryz.underlying24 rfl rfl G.cell0 ?_))
    | ((with_reducible refine gate_dst (N := 24) rfl ?_); refine gate_want rfl ?_; go_must (refine M.out.ev_ld 0 _ _ rfl rfl rfl Tryz.underlying24 rfl rfl F.cell1 ?_))
    | ((with_reducible refine gate_dst (N := 26) rfl ?_); refine gate_want rfl ?_; go_must (refine M.out.ev_ld 1 _ _ rfl rfl rfl Tryz.underlying24 rfl rfl G.cell1 ?_))
    | ((with_reducible refine gate_dst (N := 2) rfl ?_); go_must (refine M.out.ev_new rfl (by first | (go_simp; done) | (go_simp; rfl)) ?_); intro g2 w2 m; simp only [List.cons_append, List.nil_append] at m; have M := Lib.hid m; clear m; try have q0_1 := M.out.cell (j := 1) 0 rfl (by first | assumption | rfl); try have q1_1 := M.out.cell (j := 1) 1 rfl (by first | assumption | rfl))
    | ((with_reducible refine gate_dst (N := 3) rfl ?_); go_must (refine M.out.ev_new rfl (by first | (go_simp; done) | (go_simp; rfl)) ?_); intro g3 w3 m; simp only [List.cons_append, List.nil_append] at m; have M := Lib.hid m; clear m; try have q0_1 := M.out.cell (j := 1) 0 rfl (by first | assumption | rfl); try have q1_1 := M.out.cell (j := 1) 1 rfl (by first | assumption | rfl))
    | ((with_reducible refine gate_dst (N := 18) rfl ?_); go_must (refine M.out.ev_ld 0 _ _ rfl rfl rfl Tryz.underlying24 rfl rfl (by first | assumption | rfl) ?_))
    | ((with_reducible refine gate_dst (N := 20) rfl ?_); go_must (refine M.out.ev_ld 1 _ _ rfl rfl rfl Tryz.underlying24 rfl rfl (by first | assumption | rfl) ?_))
    | ((with_reducible refine gate_dst (N := 44) rfl ?_); go_must (refine M.out.ev_ld 1 _ _ rfl rfl rfl Tryz.underlying26 rfl rfl (by first | assumption | rfl) ?_))
    | ((with_reducible refine gate_dst (N := 48) rfl ?_); go_must (refine M.out.ev_ld 0 _ _ rfl rfl rfl Tryz.underlying26 rfl rfl (by first | assumption | rfl) ?_))
    | ((with_reducible refine gate_dst (N := 9) rfl ?_); go_must (refine M.out.ev_bs0 elem_Entry rfl rfl ?_); intro g39 w39 m; simp only [List.cons_append, List.nil_append] at m; have M := Lib.hid m; clear m)
    | (go_at_call 43; go_must (first | (refine Calls.mono (calls_args (by with_reducible rfl) (l01Ok_any g2 F HF.out _ (M.out.blk 0 rfl))) ?_; rintro e w_ ⟨rfl, rfl⟩; rw [HV.out]) | (refine Calls.mono (calls_args (by with_reducible rfl) (l01Ok_any g3 G HGO.out _ (M.out.blk 1 rfl))) ?_; rintro e w_ ⟨rfl, rfl⟩; rw [HG.out])))
    | ((with_reducible refine gate_dst (N := 31) rfl ?_); refine gate_want rfl ?_; go_must (refine ev_ldr _ _ rfl rfl (blk_range (M.out.blk 0 rfl) 2 (F.kinds.map (Value.int .u8)) (fun j v hv => Fld.cellsK HF.out.toLen j v hv)) Tryz.underlying25 rfl (by rw [List.length_map, HF.out.kl]; exact sz25) rfl ?_))
    | ((with_reducible refine gate_dst (N := 33) rfl ?_); refine gate_want rfl ?_; go_must (refine ev_ldr _ _ rfl rfl (blk_range (M.out.blk 1 rfl) 2 (G.kinds.map (Value.int .u8)) (fun j v hv => Fld.cellsK HGO.out.toLen j v hv)) Tryz.underlying25 rfl (by rw [List.length_map, HGO.out.kl]; exact sz25) rfl ?_))
    )
  go_loopw [6, 7] (fun o v wr => ∃ (i : Nat) (B : Option Addr) (cp : Nat), i ≤ 100 ∧ v = .int .i64 i ∧ o = .slice B (wayOf F G (List.range i)).length cp ∧ Mem w wr [.blk g2 29 F.cells, .blk g3 29 G.cells, .row (.slice B (wayOf F G (List.range i)).length cp) 45 3 (wayOf F G (List.range i)).length (flat Entry.vals (wayOf F G (List.range i)))])
    (fun _ v _ => 100 - (intOf v).toNat)
  case atStart => exact ⟨0, some ⟨g39, 0, none⟩, 0, by omega, rfl, rfl, M.out⟩
  case round =>
    clear M
    obtain ⟨i, B, cp, hi, rfl, rfl, m⟩ := hrel
    have M := Lib.hid m
    clear m
    have lw := LW.out (List.range i)
    rw [List.length_range] at lw
    by_cases hlt : i < 100
    · have hk : i < 100 := by omega
      have HTS := Lib.hid (show List.range (i + 1) = List.range i ++ [i] from List.range_succ)
      have k0 : (0 : Int) ≤ (i : Int) := by omega
      have k1 : (i : Int) < 100 := by omega
      have KF := Lib.hid (Fld.cellS HF.out.toLen hk)
      have KG := Lib.hid (Fld.cellS HGO.out.toLen hk)
      have fb := Fld.okAt_iff.1 (Fld.valid_at HV.out hk)
      have gb := Fld.okAt_iff.1 (Fld.valid_at HG.out hk)
      obtain ⟨d, hd⟩ : ∃ d, d = G.seed i - F.seed i := ⟨_, rfl⟩
      have e1 : IntKind.i16.wrap (G.seed i - F.seed i) = d := by rw [hd]; exact IntWalk.i16_in _ (by omega)
      have e2 : IntKind.i16.wrap (i : Int) = (i : Int) := IntWalk.i16_in _ (by omega)
      have e3 : IntKind.i16.wrap (-d) = -d := IntWalk.i16_in _ (by omega)
      have WA := Lib.hid (show wayAt F G i = if 0 < d then [⟨0, i, d⟩] else if d < 0 then [⟨1, i, -d⟩] else [] by
        unfold wayAt
        rw [← hd, show F.seed i - G.seed i = -d by omega])
      obtain ⟨X, hX⟩ : ∃ X, X = wayOf F G (List.range i) := ⟨_, rfl⟩
      have HXS := Lib.hid (show ∀ ys, wayAt F G i = ys → wayOf F G (List.range (i + 1)) = X ++ ys from fun ys h => by rw [HTS.out, wayOf_snoc, h, hX])
      rw [← hX] at M lw ⊢
      clear hX HTS fb gb hd
      by_cases c1 : 0 < d
      · have d1 : decide (0 < d) = true := decide_eq_true c1
        have HY := Lib.hid (HXS.out [⟨0, i, d⟩] (by rw [WA.out, if_pos c1]))
        clear HXS WA
        go_wp2
        refine region_anyH (fun w' => Mem w w' [.blk g2 29 F.cells, .blk g3 29 G.cells]) (by kernel_rfl) ?_
        have m := M.out.drew
        clear M
        have M := Lib.hid m
        clear m
        apply takeH (i := 0) 41 rfl (by kernel_rfl) (by kernel_rfl) (by kernel_rfl) (fun _ _ _ h => h) rfl (by first | exact M.out | exact M.out.take 2)
        case' hy =>
          refine Or.inl ⟨by first | rfl | (go_simp; done), ?_⟩
          intro w hS
          clear hS
          go_simp
          try with_reducible rfl
        try simp only [Act.put, List.getElem_toArray, List.getElem_cons_succ, List.getElem_cons_zero, List.setIfInBounds_toArray, List.set_cons_succ, List.set_cons_zero]
        apply takeH (i := 1) 42 rfl (by kernel_rfl) (by kernel_rfl) (by kernel_rfl) (fun _ _ _ h => h) rfl (by first | exact M.out | exact M.out.take 2)
        case' hy =>
          refine Or.inl ⟨by first | rfl | (go_simp; done), ?_⟩
          intro w hS
          clear hS
          go_simp
          try with_reducible rfl
        try simp only [Act.put, List.getElem_toArray, List.getElem_cons_succ, List.getElem_cons_zero, List.setIfInBounds_toArray, List.set_cons_succ, List.set_cons_zero]
        apply takeH (i := 2) 43 rfl (by kernel_rfl) (by kernel_rfl) (by kernel_rfl) (fun _ _ _ h => h) rfl (by first | exact M.out | exact M.out.take 2)
        case' hy =>
          refine Or.inl ⟨by first | rfl | (go_simp; done), ?_⟩
          intro w hS
          clear hS
          go_simp
          try with_reducible rfl
        try simp only [Act.put, List.getElem_toArray, List.getElem_cons_succ, List.getElem_cons_zero, List.setIfInBounds_toArray, List.set_cons_succ, List.set_cons_zero]
        apply takeH (i := 3) 44 rfl (by kernel_rfl) (by kernel_rfl) (by kernel_rfl) (fun _ _ _ h => h) rfl (by first | exact M.out | exact M.out.take 2)
        case' hy => exact ylds _ _ rfl rfl Tryz.underlying26 rfl rfl (fun w' hS => hS.cell 1 rfl KG.out)
        try simp only [Act.put, List.getElem_toArray, List.getElem_cons_succ, List.getElem_cons_zero, List.setIfInBounds_toArray, List.set_cons_succ, List.set_cons_zero]
        apply takeH (i := 4) 45 rfl (by kernel_rfl) (by kernel_rfl) (by kernel_rfl) (fun _ _ _ h => h) rfl (by first | exact M.out | exact M.out.take 2)
        case' hy =>
          refine Or.inl ⟨by first | rfl | (go_simp; done), ?_⟩
          intro w hS
          clear hS
          go_simp
          try with_reducible rfl
        try simp only [Act.put, List.getElem_toArray, List.getElem_cons_succ, List.getElem_cons_zero, List.setIfInBounds_toArray, List.set_cons_succ, List.set_cons_zero]
        apply takeH (i := 5) 46 rfl (by kernel_rfl) (by kernel_rfl) (by kernel_rfl) (fun _ _ _ h => h) rfl (by first | exact M.out | exact M.out.take 2)
        case' hy =>
          refine Or.inl ⟨by first | rfl | (go_simp; done), ?_⟩
          intro w hS
          clear hS
          go_simp
          try with_reducible rfl
        try simp only [Act.put, List.getElem_toArray, List.getElem_cons_succ, List.getElem_cons_zero, List.setIfInBounds_toArray, List.set_cons_succ, List.set_cons_zero]
        apply takeH (i := 6) 47 rfl (by kernel_rfl) (by kernel_rfl) (by kernel_rfl) (fun _ _ _ h => h) rfl (by first | exact M.out | exact M.out.take 2)
        case' hy =>
          refine Or.inl ⟨by first | rfl | (go_simp; done), ?_⟩
          intro w hS
          clear hS
          go_simp
          try with_reducible rfl
        try simp only [Act.put, List.getElem_toArray, List.getElem_cons_succ, List.getElem_cons_zero, List.setIfInBounds_toArray, List.set_cons_succ, List.set_cons_zero]
        apply takeH (i := 7) 48 rfl (by kernel_rfl) (by kernel_rfl) (by kernel_rfl) (fun _ _ _ h => h) rfl (by first | exact M.out | exact M.out.take 2)
        case' hy => exact ylds _ _ rfl rfl Tryz.underlying26 rfl rfl (fun w' hS => hS.cell 0 rfl KF.out)
        try simp only [Act.put, List.getElem_toArray, List.getElem_cons_succ, List.getElem_cons_zero, List.setIfInBounds_toArray, List.set_cons_succ, List.set_cons_zero]
        apply takeH (i := 8) 49 rfl (by kernel_rfl) (by kernel_rfl) (by kernel_rfl) (fun _ _ _ h => h) rfl (by first | exact M.out | exact M.out.take 2)
        case' hy =>
          refine Or.inl ⟨by first | rfl | (go_simp; done), ?_⟩
          intro w hS
          clear hS
          go_simp
          try with_reducible rfl
        try simp only [Act.put, List.getElem_toArray, List.getElem_cons_succ, List.getElem_cons_zero, List.setIfInBounds_toArray, List.set_cons_succ, List.set_cons_zero]
        apply takeH (i := 9) 8 rfl (by kernel_rfl) (by kernel_rfl) (by kernel_rfl) (fun _ _ _ h => h) rfl (by first | exact M.out | exact M.out.take 2)
        case' hy =>
          refine Or.inl ⟨by first | rfl | (go_simp; done), ?_⟩
          intro w hS
          clear hS
          go_simp
          try with_reducible rfl
        try simp only [Act.put, List.getElem_toArray, List.getElem_cons_succ, List.getElem_cons_zero, List.setIfInBounds_toArray, List.set_cons_succ, List.set_cons_zero]
        refine wpAnyH_done (by kernel_rfl) ?_ _
        all_goals
          go_wp2_with (first
            | ((with_reducible refine gate_dst (N := 58) rfl ?_); go_must (refine M.out.ev_bs1 elem_Entry rfl _ rfl (Entry.vals ⟨0, i, d⟩).toArray rfl rfl (by decide) ?_); intro g63 w63 m; simp only [List.cons_append, List.nil_append] at m; have M := Lib.hid m; clear m)
            | ((with_reducible refine gate_dst (N := 59) rfl ?_); go_must (refine M.out.ev_append1 2 3 elem_Entry rfl _ _ rfl rfl rfl rfl rfl rfl (Entry.one _) (by omega) (by decide) ?_); intro v64 w64 m; simp only [List.set_cons_succ, List.set_cons_zero] at m; have M := Lib.hid m; clear m)
            )
          obtain ⟨A2, c2, rfl, hm2, _⟩ := M.out.row_slice 2 rfl
          have mm := M.out.take 3
          refine ⟨⟨i + 1, A2, c2, by omega, by go_num, ?_, ?_⟩, by simp [intOf]; omega⟩
          · rw [HY.out]
            simp
          · rw [HY.out, List.length_append, flat_append]
            exact mm
      · have d1 : decide (0 < d) = false := decide_eq_false c1
        by_cases c2 : d < 0
        · have d2 : decide (d < 0) = true := decide_eq_true c2
          have HY := Lib.hid (HXS.out [⟨1, i, -d⟩] (by rw [WA.out, if_neg c1, if_pos c2]))
          clear HXS WA
          go_wp2
          refine region_anyH (fun w' => Mem w w' [.blk g2 29 F.cells, .blk g3 29 G.cells]) (by kernel_rfl) ?_
          have m := M.out.drew
          clear M
          have M := Lib.hid m
          clear m
          apply takeH (i := 0) 41 rfl (by kernel_rfl) (by kernel_rfl) (by kernel_rfl) (fun _ _ _ h => h) rfl (by first | exact M.out | exact M.out.take 2)
          case' hy =>
            refine Or.inl ⟨by first | rfl | (go_simp; done), ?_⟩
            intro w hS
            clear hS
            go_simp
            try with_reducible rfl
          try simp only [Act.put, List.getElem_toArray, List.getElem_cons_succ, List.getElem_cons_zero, List.setIfInBounds_toArray, List.set_cons_succ, List.set_cons_zero]
          apply takeH (i := 1) 42 rfl (by kernel_rfl) (by kernel_rfl) (by kernel_rfl) (fun _ _ _ h => h) rfl (by first | exact M.out | exact M.out.take 2)
          case' hy =>
            refine Or.inl ⟨by first | rfl | (go_simp; done), ?_⟩
            intro w hS
            clear hS
            go_simp
            try with_reducible rfl
          try simp only [Act.put, List.getElem_toArray, List.getElem_cons_succ, List.getElem_cons_zero, List.setIfInBounds_toArray, List.set_cons_succ, List.set_cons_zero]
          apply takeH (i := 2) 43 rfl (by kernel_rfl) (by kernel_rfl) (by kernel_rfl) (fun _ _ _ h => h) rfl (by first | exact M.out | exact M.out.take 2)
          case' hy =>
            refine Or.inl ⟨by first | rfl | (go_simp; done), ?_⟩
            intro w hS
            clear hS
            go_simp
            try with_reducible rfl
          try simp only [Act.put, List.getElem_toArray, List.getElem_cons_succ, List.getElem_cons_zero, List.setIfInBounds_toArray, List.set_cons_succ, List.set_cons_zero]
          apply takeH (i := 3) 44 rfl (by kernel_rfl) (by kernel_rfl) (by kernel_rfl) (fun _ _ _ h => h) rfl (by first | exact M.out | exact M.out.take 2)
          case' hy => exact ylds _ _ rfl rfl Tryz.underlying26 rfl rfl (fun w' hS => hS.cell 1 rfl KG.out)
          try simp only [Act.put, List.getElem_toArray, List.getElem_cons_succ, List.getElem_cons_zero, List.setIfInBounds_toArray, List.set_cons_succ, List.set_cons_zero]
          apply takeH (i := 4) 45 rfl (by kernel_rfl) (by kernel_rfl) (by kernel_rfl) (fun _ _ _ h => h) rfl (by first | exact M.out | exact M.out.take 2)
          case' hy =>
            refine Or.inl ⟨by first | rfl | (go_simp; done), ?_⟩
            intro w hS
            clear hS
            go_simp
            try with_reducible rfl
          try simp only [Act.put, List.getElem_toArray, List.getElem_cons_succ, List.getElem_cons_zero, List.setIfInBounds_toArray, List.set_cons_succ, List.set_cons_zero]
          apply takeH (i := 5) 46 rfl (by kernel_rfl) (by kernel_rfl) (by kernel_rfl) (fun _ _ _ h => h) rfl (by first | exact M.out | exact M.out.take 2)
          case' hy =>
            refine Or.inl ⟨by first | rfl | (go_simp; done), ?_⟩
            intro w hS
            clear hS
            go_simp
            try with_reducible rfl
          try simp only [Act.put, List.getElem_toArray, List.getElem_cons_succ, List.getElem_cons_zero, List.setIfInBounds_toArray, List.set_cons_succ, List.set_cons_zero]
          apply takeH (i := 6) 47 rfl (by kernel_rfl) (by kernel_rfl) (by kernel_rfl) (fun _ _ _ h => h) rfl (by first | exact M.out | exact M.out.take 2)
          case' hy =>
            refine Or.inl ⟨by first | rfl | (go_simp; done), ?_⟩
            intro w hS
            clear hS
            go_simp
            try with_reducible rfl
          try simp only [Act.put, List.getElem_toArray, List.getElem_cons_succ, List.getElem_cons_zero, List.setIfInBounds_toArray, List.set_cons_succ, List.set_cons_zero]
          apply takeH (i := 7) 48 rfl (by kernel_rfl) (by kernel_rfl) (by kernel_rfl) (fun _ _ _ h => h) rfl (by first | exact M.out | exact M.out.take 2)
          case' hy => exact ylds _ _ rfl rfl Tryz.underlying26 rfl rfl (fun w' hS => hS.cell 0 rfl KF.out)
          try simp only [Act.put, List.getElem_toArray, List.getElem_cons_succ, List.getElem_cons_zero, List.setIfInBounds_toArray, List.set_cons_succ, List.set_cons_zero]
          apply takeH (i := 8) 49 rfl (by kernel_rfl) (by kernel_rfl) (by kernel_rfl) (fun _ _ _ h => h) rfl (by first | exact M.out | exact M.out.take 2)
          case' hy =>
            refine Or.inl ⟨by first | rfl | (go_simp; done), ?_⟩
            intro w hS
            clear hS
            go_simp
            try with_reducible rfl
          try simp only [Act.put, List.getElem_toArray, List.getElem_cons_succ, List.getElem_cons_zero, List.setIfInBounds_toArray, List.set_cons_succ, List.set_cons_zero]
          apply takeH (i := 9) 8 rfl (by kernel_rfl) (by kernel_rfl) (by kernel_rfl) (fun _ _ _ h => h) rfl (by first | exact M.out | exact M.out.take 2)
          case' hy =>
            refine Or.inl ⟨by first | rfl | (go_simp; done), ?_⟩
            intro w hS
            clear hS
            go_simp
            try with_reducible rfl
          try simp only [Act.put, List.getElem_toArray, List.getElem_cons_succ, List.getElem_cons_zero, List.setIfInBounds_toArray, List.set_cons_succ, List.set_cons_zero]
          refine wpAnyH_done (by kernel_rfl) ?_ _
          all_goals
            go_wp2_with (first
              | ((with_reducible refine gate_dst (N := 69) rfl ?_); go_must (refine M.out.ev_bs1 elem_Entry rfl _ rfl (Entry.vals ⟨1, i, -d⟩).toArray rfl rfl (by decide) ?_); intro g63 w63 m; simp only [List.cons_append, List.nil_append] at m; have M := Lib.hid m; clear m)
              | ((with_reducible refine gate_dst (N := 70) rfl ?_); go_must (refine M.out.ev_append1 2 3 elem_Entry rfl _ _ rfl rfl rfl rfl rfl rfl (Entry.one _) (by omega) (by decide) ?_); intro v64 w64 m; simp only [List.set_cons_succ, List.set_cons_zero] at m; have M := Lib.hid m; clear m)
              )
            obtain ⟨A2, c2, rfl, hm2, _⟩ := M.out.row_slice 2 rfl
            have mm := M.out.take 3
            refine ⟨⟨i + 1, A2, c2, by omega, by go_num, ?_, ?_⟩, by simp [intOf]; omega⟩
            · rw [HY.out]
              simp
            · rw [HY.out, List.length_append, flat_append]
              exact mm
        · have d2 : decide (d < 0) = false := decide_eq_false c2
          have HY := Lib.hid (HXS.out [] (by rw [WA.out, if_neg c1, if_neg c2]))
          clear HXS WA
          go_wp2
          refine region_anyH (fun w' => Mem w w' [.blk g2 29 F.cells, .blk g3 29 G.cells]) (by kernel_rfl) ?_
          have m := M.out.drew
          clear M
          have M := Lib.hid m
          clear m
          apply takeH (i := 0) 41 rfl (by kernel_rfl) (by kernel_rfl) (by kernel_rfl) (fun _ _ _ h => h) rfl (by first | exact M.out | exact M.out.take 2)
          case' hy =>
            refine Or.inl ⟨by first | rfl | (go_simp; done), ?_⟩
            intro w hS
            clear hS
            go_simp
            try with_reducible rfl
          try simp only [Act.put, List.getElem_toArray, List.getElem_cons_succ, List.getElem_cons_zero, List.setIfInBounds_toArray, List.set_cons_succ, List.set_cons_zero]
          apply takeH (i := 1) 42 rfl (by kernel_rfl) (by kernel_rfl) (by kernel_rfl) (fun _ _ _ h => h) rfl (by first | exact M.out | exact M.out.take 2)
          case' hy =>
            refine Or.inl ⟨by first | rfl | (go_simp; done), ?_⟩
            intro w hS
            clear hS
            go_simp
            try with_reducible rfl
          try simp only [Act.put, List.getElem_toArray, List.getElem_cons_succ, List.getElem_cons_zero, List.setIfInBounds_toArray, List.set_cons_succ, List.set_cons_zero]
          apply takeH (i := 2) 43 rfl (by kernel_rfl) (by kernel_rfl) (by kernel_rfl) (fun _ _ _ h => h) rfl (by first | exact M.out | exact M.out.take 2)
          case' hy =>
            refine Or.inl ⟨by first | rfl | (go_simp; done), ?_⟩
            intro w hS
            clear hS
            go_simp
            try with_reducible rfl
          try simp only [Act.put, List.getElem_toArray, List.getElem_cons_succ, List.getElem_cons_zero, List.setIfInBounds_toArray, List.set_cons_succ, List.set_cons_zero]
          apply takeH (i := 3) 44 rfl (by kernel_rfl) (by kernel_rfl) (by kernel_rfl) (fun _ _ _ h => h) rfl (by first | exact M.out | exact M.out.take 2)
          case' hy => exact ylds _ _ rfl rfl Tryz.underlying26 rfl rfl (fun w' hS => hS.cell 1 rfl KG.out)
          try simp only [Act.put, List.getElem_toArray, List.getElem_cons_succ, List.getElem_cons_zero, List.setIfInBounds_toArray, List.set_cons_succ, List.set_cons_zero]
          apply takeH (i := 4) 45 rfl (by kernel_rfl) (by kernel_rfl) (by kernel_rfl) (fun _ _ _ h => h) rfl (by first | exact M.out | exact M.out.take 2)
          case' hy =>
            refine Or.inl ⟨by first | rfl | (go_simp; done), ?_⟩
            intro w hS
            clear hS
            go_simp
            try with_reducible rfl
          try simp only [Act.put, List.getElem_toArray, List.getElem_cons_succ, List.getElem_cons_zero, List.setIfInBounds_toArray, List.set_cons_succ, List.set_cons_zero]
          apply takeH (i := 5) 46 rfl (by kernel_rfl) (by kernel_rfl) (by kernel_rfl) (fun _ _ _ h => h) rfl (by first | exact M.out | exact M.out.take 2)
          case' hy =>
            refine Or.inl ⟨by first | rfl | (go_simp; done), ?_⟩
            intro w hS
            clear hS
            go_simp
            try with_reducible rfl
          try simp only [Act.put, List.getElem_toArray, List.getElem_cons_succ, List.getElem_cons_zero, List.setIfInBounds_toArray, List.set_cons_succ, List.set_cons_zero]
          apply takeH (i := 6) 47 rfl (by kernel_rfl) (by kernel_rfl) (by kernel_rfl) (fun _ _ _ h => h) rfl (by first | exact M.out | exact M.out.take 2)
          case' hy =>
            refine Or.inl ⟨by first | rfl | (go_simp; done), ?_⟩
            intro w hS
            clear hS
            go_simp
            try with_reducible rfl
          try simp only [Act.put, List.getElem_toArray, List.getElem_cons_succ, List.getElem_cons_zero, List.setIfInBounds_toArray, List.set_cons_succ, List.set_cons_zero]
          apply takeH (i := 7) 48 rfl (by kernel_rfl) (by kernel_rfl) (by kernel_rfl) (fun _ _ _ h => h) rfl (by first | exact M.out | exact M.out.take 2)
          case' hy => exact ylds _ _ rfl rfl Tryz.underlying26 rfl rfl (fun w' hS => hS.cell 0 rfl KF.out)
          try simp only [Act.put, List.getElem_toArray, List.getElem_cons_succ, List.getElem_cons_zero, List.setIfInBounds_toArray, List.set_cons_succ, List.set_cons_zero]
          apply takeH (i := 8) 49 rfl (by kernel_rfl) (by kernel_rfl) (by kernel_rfl) (fun _ _ _ h => h) rfl (by first | exact M.out | exact M.out.take 2)
          case' hy =>
            refine Or.inl ⟨by first | rfl | (go_simp; done), ?_⟩
            intro w hS
            clear hS
            go_simp
            try with_reducible rfl
          try simp only [Act.put, List.getElem_toArray, List.getElem_cons_succ, List.getElem_cons_zero, List.setIfInBounds_toArray, List.set_cons_succ, List.set_cons_zero]
          apply takeH (i := 9) 8 rfl (by kernel_rfl) (by kernel_rfl) (by kernel_rfl) (fun _ _ _ h => h) rfl (by first | exact M.out | exact M.out.take 2)
          case' hy =>
            refine Or.inl ⟨by first | rfl | (go_simp; done), ?_⟩
            intro w hS
            clear hS
            go_simp
            try with_reducible rfl
          try simp only [Act.put, List.getElem_toArray, List.getElem_cons_succ, List.getElem_cons_zero, List.setIfInBounds_toArray, List.set_cons_succ, List.set_cons_zero]
          refine wpAnyH_done (by kernel_rfl) ?_ _
          all_goals
            go_wp2
            refine ⟨⟨i + 1, B, cp, by omega, by go_num, ?_, ?_⟩, by simp [intOf]; omega⟩
            · rw [HY.out, List.append_nil]
            · rw [HY.out, List.append_nil]
              exact M.out
    · obtain rfl : i = 100 := by omega
      have hcp := (M.out.row_le 2 rfl).1
      have HW := Lib.hid (show wayOf F G (List.range 100) = way F G from rfl)
      rw [HW.out] at M hcp ⊢
      go_wp2
      go_ret2
      exact ⟨B, cp, rfl, hcp, M.out.only [2] (K := [_]) rfl (by decide)⟩
end Go.Proofs.YtaepgjjmfopiiaaGreatDoor
