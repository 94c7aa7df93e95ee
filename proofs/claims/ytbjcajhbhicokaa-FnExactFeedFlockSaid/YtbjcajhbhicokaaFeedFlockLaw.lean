/- The law of a flock that eats for a day: its walk. -/
import Derived.Test.YtbjcajhbhicokaaFeedAll
namespace Go.Proofs.Ytbjcajhbhicokaa
set_option linter.unusedSimpArgs false
set_option linter.unusedVariables false
open Go.RowKit
attribute [local go_sem] cell?_mk frozen?_mk

set_option maxRecDepth 100000 in
set_option maxHeartbeats 8000000 in
theorem lawFeedFlock_any (F : Fld) (hF : F.ok) (fs : List Int) (hfl : fs.length = 100) (hff : ∀ x ∈ fs, -32768 ≤ x ∧ x ≤ 32767) (x : Flock) (hx : x.ok) (w : World) :
    Calls Try.prog 11 #[.agg F.cells, .agg (ints .i16 fs), .agg x.vals.toArray] w fun e w' => e = .returned (.bool true) ∧ Mem w w' [] := by
  have M := Lib.hid (Mem.start w)
  have HFF := Lib.hid hff
  have S1 := Lib.hid (Fld.size hF.toLen)
  have S2 := Lib.hid (show (ints .i16 fs).size = 100 by rw [ints_size, hfl])
  have S3 := Lib.hid (Fld.size (faF_len hF fs [x]))
  have O1 := Lib.hid (Fld.one (faF F fs [x]))
  have LF := Lib.hid (faF_len hF fs [x])
  have hr := faV_len hF fs [x]
  have IM := Lib.hid (fun w => impl_FeedFlock_any F hF fs hfl HFF.out x hx w)
  have SP := Lib.hid (fun w => spec_FeedFlock_any F hF fs hfl HFF.out x hx w)
  obtain ⟨R, hR⟩ : ∃ R, R = faF F fs [x] := ⟨_, rfl⟩
  obtain ⟨V, hV⟩ : ∃ V, V = faV F fs [x] := ⟨_, rfl⟩
  obtain ⟨C, hC⟩ : ∃ C, C = birdsCode F fs [x] := ⟨_, rfl⟩
  rw [← hR, ← hV, ← hC] at IM SP
  rw [← hR] at S3 O1 LF
  rw [← hV] at hr
  have hk2 : ¬ (1 + 3 * (V.length : Int) < 0) := by omega
  clear hff hR hV hC
  go_enter Try.func11, Try.ntmps11
  go_wp2_with (first
    | ((with_reducible refine gate_dst (N := 3) rfl ?_); go_must (refine M.out.ev_new rfl (by first | (go_simp; done) | (go_simp; rfl)) ?_); intro g3 w3 m; simp only [List.cons_append, List.nil_append] at m; have M := Lib.hid m; clear m)
    | ((with_reducible refine gate_dst (N := 4) rfl ?_); go_must (refine M.out.ev_new rfl (by first | (go_simp; done) | (go_simp; rfl)) ?_); intro g4 w4 m; simp only [List.cons_append, List.nil_append] at m; have M := Lib.hid m; clear m)
    | ((with_reducible refine gate_dst (N := 5) rfl ?_); go_must (refine M.out.ev_new rfl (by first | (go_simp; done) | (go_simp; rfl)) ?_); intro g5 w5 m; simp only [List.cons_append, List.nil_append] at m; have M := Lib.hid m; clear m)
    | ((with_reducible refine gate_dst (N := 19) rfl ?_); go_must (refine M.out.ev_ldw 0 _ _ rfl rfl rfl Try.underlying27 rfl (by first | exact sz27 | (rw [S1.out]; exact sz27) | (rw [S2.out]; exact sz27) | (rw [S3.out]; exact sz27)) rfl ?_))
    | ((with_reducible refine gate_dst (N := 21) rfl ?_); go_must (refine M.out.ev_ldw 1 _ _ rfl rfl rfl Try.underlying25 rfl (by first | exact sz25 | (rw [S1.out]; exact sz25) | (rw [S2.out]; exact sz25) | (rw [S3.out]; exact sz25)) rfl ?_))
    | ((with_reducible refine gate_dst (N := 23) rfl ?_); go_must (refine M.out.ev_ldw 2 _ _ rfl rfl rfl Try.underlying29 rfl (by first | exact sz29 | (rw [S1.out]; exact sz29) | (rw [S2.out]; exact sz29) | (rw [S3.out]; exact sz29)) rfl ?_))
    | ((with_reducible refine gate_dst (N := 7) rfl ?_); go_must (refine M.out.ev_new rfl (by first | (go_simp; done) | (go_simp; rfl)) ?_); intro g7 w7 m; simp only [List.cons_append, List.nil_append] at m; have M := Lib.hid m; clear m)
    | ((with_reducible refine gate_store (x := .tmp 7) rfl ?_); go_must (refine M.out.ev_stw 4 _ _ _ rfl rfl rfl rfl _ rfl (by first | rfl | (simp only [S1.out]; rfl) | (simp only [S1.out, S2.out]; rfl) | (simp only [S3.out]; rfl) | (simp only [S1.out, S2.out, S3.out]; rfl)) (by first | exact sz35 | (rw [S1.out]; exact sz35) | (rw [S2.out]; exact sz35) | (rw [S3.out]; exact sz35)) (by first | exact ints_one _ _ | exact Fld.one _ | exact O1.out | rfl | (simp [Value.oneCell']; done)) rfl ?_); intro wn m; simp only [List.set_cons_succ, List.set_cons_zero, List.setIfInBounds_toArray] at m; have M := Lib.hid m; clear m)
    | ((with_reducible refine gate_dst (N := 30) rfl ?_); go_must (refine M.out.ev_ldw 0 _ _ rfl rfl rfl Try.underlying27 rfl (by first | exact sz27 | (rw [S1.out]; exact sz27) | (rw [S2.out]; exact sz27) | (rw [S3.out]; exact sz27)) rfl ?_))
    | ((with_reducible refine gate_dst (N := 32) rfl ?_); go_must (refine M.out.ev_ldw 1 _ _ rfl rfl rfl Try.underlying25 rfl (by first | exact sz25 | (rw [S1.out]; exact sz25) | (rw [S2.out]; exact sz25) | (rw [S3.out]; exact sz25)) rfl ?_))
    | ((with_reducible refine gate_dst (N := 34) rfl ?_); go_must (refine M.out.ev_ldw 2 _ _ rfl rfl rfl Try.underlying29 rfl (by first | exact sz29 | (rw [S1.out]; exact sz29) | (rw [S2.out]; exact sz29) | (rw [S3.out]; exact sz29)) rfl ?_))
    | ((with_reducible refine gate_dst (N := 10) rfl ?_); go_must (refine M.out.ev_new rfl (by first | (go_simp; done) | (go_simp; rfl)) ?_); intro g10 w10 m; simp only [List.cons_append, List.nil_append] at m; have M := Lib.hid m; clear m)
    | ((with_reducible refine gate_store (x := .tmp 10) rfl ?_); go_must (refine M.out.ev_stw 6 _ _ _ rfl rfl rfl rfl _ rfl (by first | rfl | (simp only [S1.out]; rfl) | (simp only [S1.out, S2.out]; rfl) | (simp only [S3.out]; rfl) | (simp only [S1.out, S2.out, S3.out]; rfl)) (by first | exact sz35 | (rw [S1.out]; exact sz35) | (rw [S2.out]; exact sz35) | (rw [S3.out]; exact sz35)) (by first | exact ints_one _ _ | exact Fld.one _ | exact O1.out | rfl | (simp [Value.oneCell']; done)) rfl ?_); intro wn m; simp only [List.set_cons_succ, List.set_cons_zero, List.setIfInBounds_toArray] at m; have M := Lib.hid m; clear m)
    | ((with_reducible refine gate_dst (N := 40) rfl ?_); go_must (refine M.out.ev_ldw 6 _ _ rfl rfl rfl Try.underlying35 rfl (by first | exact sz35 | (rw [S1.out]; exact sz35) | (rw [S2.out]; exact sz35) | (rw [S3.out]; exact sz35)) rfl ?_))
    | ((with_reducible refine gate_dst (N := 41) rfl ?_); go_must (refine M.out.ev_ldw 4 _ _ rfl rfl rfl Try.underlying35 rfl (by first | exact sz35 | (rw [S1.out]; exact sz35) | (rw [S2.out]; exact sz35) | (rw [S3.out]; exact sz35)) rfl ?_))
    | ((with_reducible refine gate_dst (N := 67) rfl ?_); go_must (refine M.out.ev_ldw 0 _ _ rfl rfl rfl Try.underlying27 rfl (by first | exact sz27 | (rw [S1.out]; exact sz27) | (rw [S2.out]; exact sz27) | (rw [S3.out]; exact sz27)) rfl ?_))
    | ((with_reducible refine gate_dst (N := 69) rfl ?_); go_must (refine M.out.ev_ldw 1 _ _ rfl rfl rfl Try.underlying25 rfl (by first | exact sz25 | (rw [S1.out]; exact sz25) | (rw [S2.out]; exact sz25) | (rw [S3.out]; exact sz25)) rfl ?_))
    | ((with_reducible refine gate_dst (N := 71) rfl ?_); go_must (refine M.out.ev_ldw 2 _ _ rfl rfl rfl Try.underlying29 rfl (by first | exact sz29 | (rw [S1.out]; exact sz29) | (rw [S2.out]; exact sz29) | (rw [S3.out]; exact sz29)) rfl ?_))
    | ((with_reducible refine gate_dst (N := 15) rfl ?_); go_must (refine M.out.ev_new rfl (by first | (go_simp; done) | (go_simp; rfl)) ?_); intro g15 w15 m; simp only [List.cons_append, List.nil_append] at m; have M := Lib.hid m; clear m)
    | ((with_reducible refine gate_store (x := .tmp 15) rfl ?_); go_must (refine M.out.ev_stw 8 _ _ _ rfl rfl rfl rfl _ rfl (by first | rfl | (simp only [S1.out]; rfl) | (simp only [S1.out, S2.out]; rfl) | (simp only [S3.out]; rfl) | (simp only [S1.out, S2.out, S3.out]; rfl)) (by first | exact sz35 | (rw [S1.out]; exact sz35) | (rw [S2.out]; exact sz35) | (rw [S3.out]; exact sz35)) (by first | exact ints_one _ _ | exact Fld.one _ | exact O1.out | rfl | (simp [Value.oneCell']; done)) rfl ?_); intro wn m; simp only [List.set_cons_succ, List.set_cons_zero, List.setIfInBounds_toArray] at m; have M := Lib.hid m; clear m)
    | ((with_reducible refine gate_dst (N := 77) rfl ?_); go_must (refine M.out.ev_ldw 8 _ _ rfl rfl rfl Try.underlying35 rfl (by first | exact sz35 | (rw [S1.out]; exact sz35) | (rw [S2.out]; exact sz35) | (rw [S3.out]; exact sz35)) rfl ?_))
    | ((with_reducible refine gate_dst (N := 78) rfl ?_); go_must (refine M.out.ev_ldw 4 _ _ rfl rfl rfl Try.underlying35 rfl (by first | exact sz35 | (rw [S1.out]; exact sz35) | (rw [S2.out]; exact sz35) | (rw [S3.out]; exact sz35)) rfl ?_))
    | (go_at_call 16; go_must (refine (toField_any F hF.toLen _).mono ?_); rintro e w_ ⟨rfl, hB_⟩; have M := Lib.hid (M.out.kept hB_); clear hB_)
    | (go_at_call 17; go_must (refine (toFears_any fs hfl _).mono ?_); rintro e w_ ⟨rfl, hB_⟩; have M := Lib.hid (M.out.kept hB_); clear hB_)
    | (go_at_call 18; go_must (refine (toFlock_any x _).mono ?_); rintro e w_ ⟨rfl, N_⟩; have m := M.out.join N_; clear N_; simp only [List.cons_append, List.nil_append, List.append_nil] at m; have M := Lib.hid m; clear m)
    | (go_at_call 48; go_must (first | (refine Calls.mono (calls_args (by with_reducible rfl) (eqVisitS_any _ _ _ _ V V _ hr (M.out.slof 5 rfl) (M.out.slof 3 rfl))) ?_) | (refine Calls.mono (calls_args (by with_reducible rfl) (eqVisitS_any _ _ _ _ V V _ hr (M.out.slof 7 rfl) (M.out.slof 3 rfl))) ?_)); rintro e w_ ⟨rfl, N_⟩; have m := M.out.join N_; clear N_; simp only [List.cons_append, List.nil_append, List.append_nil] at m; have M := Lib.hid m; clear m; rw [decide_eq_true rfl])
    | (go_at_call 49; go_must (first | (refine Calls.mono (calls_args (by with_reducible rfl) (markVisit_any 5 M.out _ _ V rfl hr)) ?_)); rintro e w_ ⟨rfl, m⟩; simp only [List.set_cons_succ, List.set_cons_zero] at m; have M := Lib.hid m; clear m)
    | (go_at_call 56; go_must (refine (heldVisit_any _ _ V.length hr _ (M.out.slof 5 rfl)).mono ?_); rintro e w_ ⟨rfl, rfl⟩)
    | (go_at_call 52; go_must (refine (eqField_any R LF.out _).mono ?_); rintro e w_ ⟨rfl, N_⟩; have m := M.out.join N_; clear N_; simp only [List.cons_append, List.nil_append, List.append_nil] at m; have M := Lib.hid m; clear m)
    )
  refine region_anyH (fun w' => Mem w w' [.blk g3 27 F.cells, .blk g4 25 (ints .i16 fs), .blk g5 29 x.vals.toArray]) (by kernel_rfl) ?_
  have M9 := M.out.drew
  clear M
  apply merge3
  case hA =>
    intro REST0
    apply merge3
    case hA =>
      intro REST1
      apply merge1
      case hA =>
        intro REST2
        apply merge1
        case hA =>
          intro REST3
          apply merge1
          case hA =>
            intro REST4
            have M := Lib.hid M9
            apply takeH (i := 0) 19 rfl (by kernel_rfl) (by kernel_rfl) (by kernel_rfl) (fun _ _ _ h => h) rfl (by first | exact M.out | exact M.out.take 3)
            case' hy => exact yldw _ _ rfl rfl Try.underlying27 rfl (by first | exact sz27 | (rw [S1.out]; exact sz27) | (rw [S2.out]; exact sz27) | (rw [S3.out]; exact sz27)) rfl (fun w' hS => hS.blk 0 rfl)
            try simp only [Act.put, List.getElem_toArray, List.getElem_cons_succ, List.getElem_cons_zero, List.setIfInBounds_toArray, List.set_cons_succ, List.set_cons_zero]
            apply takeH (i := 2) 21 rfl (by kernel_rfl) (by kernel_rfl) (by kernel_rfl) (fun _ _ _ h => h) rfl (by first | exact M.out | exact M.out.take 3)
            case' hy => exact yldw _ _ rfl rfl Try.underlying25 rfl (by first | exact sz25 | (rw [S1.out]; exact sz25) | (rw [S2.out]; exact sz25) | (rw [S3.out]; exact sz25)) rfl (fun w' hS => hS.blk 1 rfl)
            try simp only [Act.put, List.getElem_toArray, List.getElem_cons_succ, List.getElem_cons_zero, List.setIfInBounds_toArray, List.set_cons_succ, List.set_cons_zero]
            apply takeH (i := 4) 23 rfl (by kernel_rfl) (by kernel_rfl) (by kernel_rfl) (fun _ _ _ h => h) rfl (by first | exact M.out | exact M.out.take 3)
            case' hy => exact yldw _ _ rfl rfl Try.underlying29 rfl (by first | exact sz29 | (rw [S1.out]; exact sz29) | (rw [S2.out]; exact sz29) | (rw [S3.out]; exact sz29)) rfl (fun w' hS => hS.blk 2 rfl)
            try simp only [Act.put, List.getElem_toArray, List.getElem_cons_succ, List.getElem_cons_zero, List.setIfInBounds_toArray, List.set_cons_succ, List.set_cons_zero]
            refine any2H 1 11 (by kernel_rfl) rfl rfl (fun K hK => ?_) (fun K hK => ?_)
            rotate_right 1
            case' _ =>
              go_wp2_with (first | ((with_reducible refine gate_dst (N := 7) rfl ?_); go_must (refine M.out.ev_new rfl (by first | (go_simp; done) | (go_simp; rfl)) ?_); intro g7 w7 m; simp only [List.cons_append, List.nil_append] at m; have M := Lib.hid m; clear m))
              refine onward_normal (hK _ _ ⟨(by first | exact M.out | exact M.out.take 3), ?_⟩)
              clear hK K
              try simp only [Act.put, List.getElem_toArray, List.getElem_cons_succ, List.getElem_cons_zero, List.setIfInBounds_toArray, List.set_cons_succ, List.set_cons_zero]
              refine any1H 1 (by kernel_rfl) rfl (fun K hK => ?_)
              go_wp2_with (first | (go_at_call 16; go_must (refine (toField_any F hF.toLen _).mono ?_); rintro e w_ ⟨rfl, hB_⟩; have M := Lib.hid (M.out.kept hB_); clear hB_))
              refine onward_normal (hK _ _ ⟨(by first | exact M.out | exact M.out.take 3), ?_⟩)
              clear hK K
              try simp only [Act.put, List.getElem_toArray, List.getElem_cons_succ, List.getElem_cons_zero, List.setIfInBounds_toArray, List.set_cons_succ, List.set_cons_zero]
              exact REST4 g7 w_ M.out
            rotate_right 1
            case' _ =>
              go_wp2_with (first | (go_at_call 16; go_must (refine (toField_any F hF.toLen _).mono ?_); rintro e w_ ⟨rfl, hB_⟩; have M := Lib.hid (M.out.kept hB_); clear hB_))
              refine onward_normal (hK _ _ ⟨(by first | exact M.out | exact M.out.take 3), ?_⟩)
              clear hK K
              try simp only [Act.put, List.getElem_toArray, List.getElem_cons_succ, List.getElem_cons_zero, List.setIfInBounds_toArray, List.set_cons_succ, List.set_cons_zero]
              refine any2H 3 11 (by kernel_rfl) rfl rfl (fun K hK => ?_) (fun K hK => ?_)
              rotate_right 1
              case' _ =>
                go_wp2_with (first | ((with_reducible refine gate_dst (N := 7) rfl ?_); go_must (refine M.out.ev_new rfl (by first | (go_simp; done) | (go_simp; rfl)) ?_); intro g7 w7 m; simp only [List.cons_append, List.nil_append] at m; have M := Lib.hid m; clear m))
                refine onward_normal (hK _ _ ⟨(by first | exact M.out | exact M.out.take 3), ?_⟩)
                clear hK K
                try simp only [Act.put, List.getElem_toArray, List.getElem_cons_succ, List.getElem_cons_zero, List.setIfInBounds_toArray, List.set_cons_succ, List.set_cons_zero]
                exact REST4 g7 w7 M.out
              rotate_right 1
              case' _ =>
                go_wp2_with (first | (go_at_call 17; go_must (refine (toFears_any fs hfl _).mono ?_); rintro e w_ ⟨rfl, hB_⟩; have M := Lib.hid (M.out.kept hB_); clear hB_))
                refine onward_normal (hK _ _ ⟨(by first | exact M.out | exact M.out.take 3), ?_⟩)
                clear hK K
                try simp only [Act.put, List.getElem_toArray, List.getElem_cons_succ, List.getElem_cons_zero, List.setIfInBounds_toArray, List.set_cons_succ, List.set_cons_zero]
                refine any2H 5 11 (by kernel_rfl) rfl rfl (fun K hK => ?_) (fun K hK => ?_)
                rotate_right 1
                case' _ =>
                  go_wp2_with (first | ((with_reducible refine gate_dst (N := 7) rfl ?_); go_must (refine M.out.ev_new rfl (by first | (go_simp; done) | (go_simp; rfl)) ?_); intro g7 w7 m; simp only [List.cons_append, List.nil_append] at m; have M := Lib.hid m; clear m))
                  refine onward_normal (hK _ _ ⟨(by first | exact M.out | exact M.out.take 3), ?_⟩)
                  clear hK K
                  try simp only [Act.put, List.getElem_toArray, List.getElem_cons_succ, List.getElem_cons_zero, List.setIfInBounds_toArray, List.set_cons_succ, List.set_cons_zero]
                  exact REST3 g7 w7 M.out
                rotate_right 1
                case' _ =>
                  go_wp2_with (first | (go_at_call 18; go_must (refine (toFlock_any x _).mono ?_); rintro e w_ ⟨rfl, N_⟩; have m := M.out.join N_; clear N_; simp only [List.cons_append, List.nil_append, List.append_nil] at m; have M := Lib.hid m; clear m))
                  refine onward_normal (hK _ _ ⟨(by first | exact M.out | exact M.out.take 3), ?_⟩)
                  clear hK K
                  try simp only [Act.put, List.getElem_toArray, List.getElem_cons_succ, List.getElem_cons_zero, List.setIfInBounds_toArray, List.set_cons_succ, List.set_cons_zero]
                  refine any2H 6 11 (by kernel_rfl) rfl rfl (fun K hK => ?_) (fun K hK => ?_)
                  rotate_right 1
                  case' _ =>
                    go_wp2_with (first | ((with_reducible refine gate_dst (N := 7) rfl ?_); go_must (refine M.out.ev_new rfl (by first | (go_simp; done) | (go_simp; rfl)) ?_); intro g7 w7 m; simp only [List.cons_append, List.nil_append] at m; have M := Lib.hid m; clear m))
                    refine onward_normal (hK _ _ ⟨(by first | exact M.out | exact M.out.take 3), ?_⟩)
                    clear hK K
                    try simp only [Act.put, List.getElem_toArray, List.getElem_cons_succ, List.getElem_cons_zero, List.setIfInBounds_toArray, List.set_cons_succ, List.set_cons_zero]
                    exact REST2 g7 w7 M.out
                  rotate_right 1
                  case' _ =>
                    go_wp2_with (first | (go_at_call 54; go_must (refine (SP.out _).mono ?_); rintro e w_ ⟨A25, c25, rfl, hc25, N_⟩; have m := M.out.join N_; clear N_; simp only [List.cons_append, List.nil_append, List.append_nil] at m; have M := Lib.hid m; clear m))
                    refine onward_normal (hK _ _ ⟨(by first | exact M.out | exact M.out.take 3), ?_⟩)
                    clear hK K
                    try simp only [Act.put, List.getElem_toArray, List.getElem_cons_succ, List.getElem_cons_zero, List.setIfInBounds_toArray, List.set_cons_succ, List.set_cons_zero]
                    apply takeH (i := 7) 18 rfl (by kernel_rfl) (by kernel_rfl) (by kernel_rfl) (fun _ _ _ h => h) rfl (by first | exact M.out | exact M.out.take 3)
                    case' hy =>
                      refine Or.inl ⟨by first | rfl | (go_simp; done), ?_⟩
                      intro w hS
                      clear hS
                      go_simp
                      try with_reducible rfl
                    try simp only [Act.put, List.getElem_toArray, List.getElem_cons_succ, List.getElem_cons_zero, List.setIfInBounds_toArray, List.set_cons_succ, List.set_cons_zero]
                    apply takeH (i := 8) 26 rfl (by kernel_rfl) (by kernel_rfl) (by kernel_rfl) (fun _ _ _ h => h) rfl (by first | exact M.out | exact M.out.take 3)
                    case' hy =>
                      refine Or.inl ⟨by first | rfl | (go_simp; done), ?_⟩
                      intro w hS
                      clear hS
                      go_simp
                      try with_reducible rfl
                    try simp only [Act.put, List.getElem_toArray, List.getElem_cons_succ, List.getElem_cons_zero, List.setIfInBounds_toArray, List.set_cons_succ, List.set_cons_zero]
                    apply takeH (i := 9) 27 rfl (by kernel_rfl) (by kernel_rfl) (by kernel_rfl) (fun _ _ _ h => h) rfl (by first | exact M.out | exact M.out.take 3)
                    case' hy =>
                      refine Or.inl ⟨by first | rfl | (go_simp; done), ?_⟩
                      intro w hS
                      clear hS
                      go_simp
                      try with_reducible rfl
                    try simp only [Act.put, List.getElem_toArray, List.getElem_cons_succ, List.getElem_cons_zero, List.setIfInBounds_toArray, List.set_cons_succ, List.set_cons_zero]
                    apply takeH (i := 10) 28 rfl (by kernel_rfl) (by kernel_rfl) (by kernel_rfl) (fun _ _ _ h => h) rfl (by first | exact M.out | exact M.out.take 3)
                    case' hy =>
                      refine Or.inl ⟨by first | rfl | (go_simp; done), ?_⟩
                      intro w hS
                      clear hS
                      go_simp
                      try with_reducible rfl
                    try simp only [Act.put, List.getElem_toArray, List.getElem_cons_succ, List.getElem_cons_zero, List.setIfInBounds_toArray, List.set_cons_succ, List.set_cons_zero]
                    refine any1H 11 (by kernel_rfl) rfl (fun K hK => ?_)
                    go_wp2_with (first | ((with_reducible refine gate_dst (N := 7) rfl ?_); go_must (refine M.out.ev_new rfl (by first | (go_simp; done) | (go_simp; rfl)) ?_); intro g7 w7 m; simp only [List.cons_append, List.nil_append] at m; have M := Lib.hid m; clear m))
                    refine onward_normal (hK _ _ ⟨(by first | exact M.out | exact M.out.take 3), ?_⟩)
                    clear hK K
                    try simp only [Act.put, List.getElem_toArray, List.getElem_cons_succ, List.getElem_cons_zero, List.setIfInBounds_toArray, List.set_cons_succ, List.set_cons_zero]
                    exact REST1 A25 c25 g7 w7 M.out
          case hB =>
            intro g7 w_ m
            have M := Lib.hid m
            clear m
            refine any1H 3 (by kernel_rfl) rfl (fun K hK => ?_)
            go_wp2_with (first | (go_at_call 17; go_must (refine (toFears_any fs hfl _).mono ?_); rintro e w_ ⟨rfl, hB_⟩; have M := Lib.hid (M.out.kept hB_); clear hB_))
            refine onward_normal (hK _ _ ⟨(by first | exact M.out | exact M.out.take 3), ?_⟩)
            clear hK K
            try simp only [Act.put, List.getElem_toArray, List.getElem_cons_succ, List.getElem_cons_zero, List.setIfInBounds_toArray, List.set_cons_succ, List.set_cons_zero]
            exact REST3 g7 w_ M.out
        case hB =>
          intro g7 w_ m
          have M := Lib.hid m
          clear m
          refine any1H 5 (by kernel_rfl) rfl (fun K hK => ?_)
          go_wp2_with (first | (go_at_call 18; go_must (refine (toFlock_any x _).mono ?_); rintro e w_ ⟨rfl, N_⟩; have m := M.out.join N_; clear N_; simp only [List.cons_append, List.nil_append, List.append_nil] at m; have M := Lib.hid m; clear m))
          refine onward_normal (hK _ _ ⟨(by first | exact M.out | exact M.out.take 3), ?_⟩)
          clear hK K
          try simp only [Act.put, List.getElem_toArray, List.getElem_cons_succ, List.getElem_cons_zero, List.setIfInBounds_toArray, List.set_cons_succ, List.set_cons_zero]
          exact REST2 g7 w_ M.out
      case hB =>
        intro g7 w_ m
        have M := Lib.hid m
        clear m
        refine any1H 6 (by kernel_rfl) rfl (fun K hK => ?_)
        go_wp2_with (first | (go_at_call 54; go_must (refine (SP.out _).mono ?_); rintro e w_ ⟨A25, c25, rfl, hc25, N_⟩; have m := M.out.join N_; clear N_; simp only [List.cons_append, List.nil_append, List.append_nil] at m; have M := Lib.hid m; clear m))
        refine onward_normal (hK _ _ ⟨(by first | exact M.out | exact M.out.take 3), ?_⟩)
        clear hK K
        try simp only [Act.put, List.getElem_toArray, List.getElem_cons_succ, List.getElem_cons_zero, List.setIfInBounds_toArray, List.set_cons_succ, List.set_cons_zero]
        apply takeH (i := 7) 18 rfl (by kernel_rfl) (by kernel_rfl) (by kernel_rfl) (fun _ _ _ h => h) rfl (by first | exact M.out | exact M.out.take 3)
        case' hy =>
          refine Or.inl ⟨by first | rfl | (go_simp; done), ?_⟩
          intro w hS
          clear hS
          go_simp
          try with_reducible rfl
        try simp only [Act.put, List.getElem_toArray, List.getElem_cons_succ, List.getElem_cons_zero, List.setIfInBounds_toArray, List.set_cons_succ, List.set_cons_zero]
        apply takeH (i := 8) 26 rfl (by kernel_rfl) (by kernel_rfl) (by kernel_rfl) (fun _ _ _ h => h) rfl (by first | exact M.out | exact M.out.take 3)
        case' hy =>
          refine Or.inl ⟨by first | rfl | (go_simp; done), ?_⟩
          intro w hS
          clear hS
          go_simp
          try with_reducible rfl
        try simp only [Act.put, List.getElem_toArray, List.getElem_cons_succ, List.getElem_cons_zero, List.setIfInBounds_toArray, List.set_cons_succ, List.set_cons_zero]
        apply takeH (i := 9) 27 rfl (by kernel_rfl) (by kernel_rfl) (by kernel_rfl) (fun _ _ _ h => h) rfl (by first | exact M.out | exact M.out.take 3)
        case' hy =>
          refine Or.inl ⟨by first | rfl | (go_simp; done), ?_⟩
          intro w hS
          clear hS
          go_simp
          try with_reducible rfl
        try simp only [Act.put, List.getElem_toArray, List.getElem_cons_succ, List.getElem_cons_zero, List.setIfInBounds_toArray, List.set_cons_succ, List.set_cons_zero]
        apply takeH (i := 10) 28 rfl (by kernel_rfl) (by kernel_rfl) (by kernel_rfl) (fun _ _ _ h => h) rfl (by first | exact M.out | exact M.out.take 3)
        case' hy =>
          refine Or.inl ⟨by first | rfl | (go_simp; done), ?_⟩
          intro w hS
          clear hS
          go_simp
          try with_reducible rfl
        try simp only [Act.put, List.getElem_toArray, List.getElem_cons_succ, List.getElem_cons_zero, List.setIfInBounds_toArray, List.set_cons_succ, List.set_cons_zero]
        have m := M.out.only [0, 1, 2, 4, 3] (K := [_, _, _, _, _]) rfl (by decide)
        exact REST1 A25 c25 g7 w_ m
    case hB =>
      intro A25 c25 g7 w_ m
      have M := Lib.hid m
      clear m
      refine any1H 12 (by kernel_rfl) rfl (fun K hK => ?_)
      go_wp2_with (first | ((with_reducible refine gate_store (x := .tmp 7) rfl ?_); go_must (first | (refine M.out.ev_stw 3 _ _ _ rfl rfl rfl rfl _ rfl (by first | rfl | (simp only [S1.out]; rfl) | (simp only [S1.out, S2.out]; rfl) | (simp only [S3.out]; rfl) | (simp only [S1.out, S2.out, S3.out]; rfl)) (by first | exact sz35 | (rw [S1.out]; exact sz35) | (rw [S2.out]; exact sz35) | (rw [S3.out]; exact sz35)) (by first | exact ints_one _ _ | exact Fld.one _ | exact O1.out | rfl | (simp [Value.oneCell']; done)) rfl ?_) | (refine M.out.ev_stw 4 _ _ _ rfl rfl rfl rfl _ rfl (by first | rfl | (simp only [S1.out]; rfl) | (simp only [S1.out, S2.out]; rfl) | (simp only [S3.out]; rfl) | (simp only [S1.out, S2.out, S3.out]; rfl)) (by first | exact sz35 | (rw [S1.out]; exact sz35) | (rw [S2.out]; exact sz35) | (rw [S3.out]; exact sz35)) (by first | exact ints_one _ _ | exact Fld.one _ | exact O1.out | rfl | (simp [Value.oneCell']; done)) rfl ?_)); intro wn m; simp only [List.set_cons_succ, List.set_cons_zero, List.setIfInBounds_toArray] at m; have M := Lib.hid m; clear m))
      refine onward_normal (hK _ _ ⟨(by first | exact M.out | exact M.out.take 3), ?_⟩)
      clear hK K
      try simp only [Act.put, List.getElem_toArray, List.getElem_cons_succ, List.getElem_cons_zero, List.setIfInBounds_toArray, List.set_cons_succ, List.set_cons_zero]
      apply takeH (i := 13) 8 rfl (by kernel_rfl) (by kernel_rfl) (by kernel_rfl) (fun _ _ _ h => h) rfl (by first | exact M.out | exact M.out.take 3)
      case' hy =>
        refine Or.inl ⟨by first | rfl | (go_simp; done), ?_⟩
        intro w hS
        clear hS
        go_simp
        try with_reducible rfl
      try simp only [Act.put, List.getElem_toArray, List.getElem_cons_succ, List.getElem_cons_zero, List.setIfInBounds_toArray, List.set_cons_succ, List.set_cons_zero]
      apply takeH (i := 14) 9 rfl (by kernel_rfl) (by kernel_rfl) (by kernel_rfl) (fun _ _ _ h => h) rfl (by first | exact M.out | exact M.out.take 3)
      case' hy =>
        refine Or.inl ⟨by first | rfl | (go_simp; done), ?_⟩
        intro w hS
        clear hS
        go_simp
        try with_reducible rfl
      try simp only [Act.put, List.getElem_toArray, List.getElem_cons_succ, List.getElem_cons_zero, List.setIfInBounds_toArray, List.set_cons_succ, List.set_cons_zero]
      exact REST0 A25 c25 g7 wn M.out
  intro A25 c25 g7 w_ m
  have M := Lib.hid m
  clear m M9
  refine wpAnyH_done (by kernel_rfl) ?_ _
  go_wp2_with (first
    | ((with_reducible refine gate_dst (N := 3) rfl ?_); go_must (refine M.out.ev_new rfl (by first | (go_simp; done) | (go_simp; rfl)) ?_); intro g3 w3 m; simp only [List.cons_append, List.nil_append] at m; have M := Lib.hid m; clear m)
    | ((with_reducible refine gate_dst (N := 4) rfl ?_); go_must (refine M.out.ev_new rfl (by first | (go_simp; done) | (go_simp; rfl)) ?_); intro g4 w4 m; simp only [List.cons_append, List.nil_append] at m; have M := Lib.hid m; clear m)
    | ((with_reducible refine gate_dst (N := 5) rfl ?_); go_must (refine M.out.ev_new rfl (by first | (go_simp; done) | (go_simp; rfl)) ?_); intro g5 w5 m; simp only [List.cons_append, List.nil_append] at m; have M := Lib.hid m; clear m)
    | ((with_reducible refine gate_dst (N := 19) rfl ?_); go_must (refine M.out.ev_ldw 0 _ _ rfl rfl rfl Try.underlying27 rfl (by first | exact sz27 | (rw [S1.out]; exact sz27) | (rw [S2.out]; exact sz27) | (rw [S3.out]; exact sz27)) rfl ?_))
    | ((with_reducible refine gate_dst (N := 21) rfl ?_); go_must (refine M.out.ev_ldw 1 _ _ rfl rfl rfl Try.underlying25 rfl (by first | exact sz25 | (rw [S1.out]; exact sz25) | (rw [S2.out]; exact sz25) | (rw [S3.out]; exact sz25)) rfl ?_))
    | ((with_reducible refine gate_dst (N := 23) rfl ?_); go_must (refine M.out.ev_ldw 2 _ _ rfl rfl rfl Try.underlying29 rfl (by first | exact sz29 | (rw [S1.out]; exact sz29) | (rw [S2.out]; exact sz29) | (rw [S3.out]; exact sz29)) rfl ?_))
    | ((with_reducible refine gate_dst (N := 7) rfl ?_); go_must (refine M.out.ev_new rfl (by first | (go_simp; done) | (go_simp; rfl)) ?_); intro g7 w7 m; simp only [List.cons_append, List.nil_append] at m; have M := Lib.hid m; clear m)
    | ((with_reducible refine gate_store (x := .tmp 7) rfl ?_); go_must (refine M.out.ev_stw 4 _ _ _ rfl rfl rfl rfl _ rfl (by first | rfl | (simp only [S1.out]; rfl) | (simp only [S1.out, S2.out]; rfl) | (simp only [S3.out]; rfl) | (simp only [S1.out, S2.out, S3.out]; rfl)) (by first | exact sz35 | (rw [S1.out]; exact sz35) | (rw [S2.out]; exact sz35) | (rw [S3.out]; exact sz35)) (by first | exact ints_one _ _ | exact Fld.one _ | exact O1.out | rfl | (simp [Value.oneCell']; done)) rfl ?_); intro wn m; simp only [List.set_cons_succ, List.set_cons_zero, List.setIfInBounds_toArray] at m; have M := Lib.hid m; clear m)
    | ((with_reducible refine gate_dst (N := 30) rfl ?_); go_must (refine M.out.ev_ldw 0 _ _ rfl rfl rfl Try.underlying27 rfl (by first | exact sz27 | (rw [S1.out]; exact sz27) | (rw [S2.out]; exact sz27) | (rw [S3.out]; exact sz27)) rfl ?_))
    | ((with_reducible refine gate_dst (N := 32) rfl ?_); go_must (refine M.out.ev_ldw 1 _ _ rfl rfl rfl Try.underlying25 rfl (by first | exact sz25 | (rw [S1.out]; exact sz25) | (rw [S2.out]; exact sz25) | (rw [S3.out]; exact sz25)) rfl ?_))
    | ((with_reducible refine gate_dst (N := 34) rfl ?_); go_must (refine M.out.ev_ldw 2 _ _ rfl rfl rfl Try.underlying29 rfl (by first | exact sz29 | (rw [S1.out]; exact sz29) | (rw [S2.out]; exact sz29) | (rw [S3.out]; exact sz29)) rfl ?_))
    | ((with_reducible refine gate_dst (N := 10) rfl ?_); go_must (refine M.out.ev_new rfl (by first | (go_simp; done) | (go_simp; rfl)) ?_); intro g10 w10 m; simp only [List.cons_append, List.nil_append] at m; have M := Lib.hid m; clear m)
    | ((with_reducible refine gate_store (x := .tmp 10) rfl ?_); go_must (refine M.out.ev_stw 6 _ _ _ rfl rfl rfl rfl _ rfl (by first | rfl | (simp only [S1.out]; rfl) | (simp only [S1.out, S2.out]; rfl) | (simp only [S3.out]; rfl) | (simp only [S1.out, S2.out, S3.out]; rfl)) (by first | exact sz35 | (rw [S1.out]; exact sz35) | (rw [S2.out]; exact sz35) | (rw [S3.out]; exact sz35)) (by first | exact ints_one _ _ | exact Fld.one _ | exact O1.out | rfl | (simp [Value.oneCell']; done)) rfl ?_); intro wn m; simp only [List.set_cons_succ, List.set_cons_zero, List.setIfInBounds_toArray] at m; have M := Lib.hid m; clear m)
    | ((with_reducible refine gate_dst (N := 40) rfl ?_); go_must (refine M.out.ev_ldw 6 _ _ rfl rfl rfl Try.underlying35 rfl (by first | exact sz35 | (rw [S1.out]; exact sz35) | (rw [S2.out]; exact sz35) | (rw [S3.out]; exact sz35)) rfl ?_))
    | ((with_reducible refine gate_dst (N := 41) rfl ?_); go_must (refine M.out.ev_ldw 4 _ _ rfl rfl rfl Try.underlying35 rfl (by first | exact sz35 | (rw [S1.out]; exact sz35) | (rw [S2.out]; exact sz35) | (rw [S3.out]; exact sz35)) rfl ?_))
    | ((with_reducible refine gate_dst (N := 67) rfl ?_); go_must (refine M.out.ev_ldw 0 _ _ rfl rfl rfl Try.underlying27 rfl (by first | exact sz27 | (rw [S1.out]; exact sz27) | (rw [S2.out]; exact sz27) | (rw [S3.out]; exact sz27)) rfl ?_))
    | ((with_reducible refine gate_dst (N := 69) rfl ?_); go_must (refine M.out.ev_ldw 1 _ _ rfl rfl rfl Try.underlying25 rfl (by first | exact sz25 | (rw [S1.out]; exact sz25) | (rw [S2.out]; exact sz25) | (rw [S3.out]; exact sz25)) rfl ?_))
    | ((with_reducible refine gate_dst (N := 71) rfl ?_); go_must (refine M.out.ev_ldw 2 _ _ rfl rfl rfl Try.underlying29 rfl (by first | exact sz29 | (rw [S1.out]; exact sz29) | (rw [S2.out]; exact sz29) | (rw [S3.out]; exact sz29)) rfl ?_))
    | ((with_reducible refine gate_dst (N := 15) rfl ?_); go_must (refine M.out.ev_new rfl (by first | (go_simp; done) | (go_simp; rfl)) ?_); intro g15 w15 m; simp only [List.cons_append, List.nil_append] at m; have M := Lib.hid m; clear m)
    | ((with_reducible refine gate_store (x := .tmp 15) rfl ?_); go_must (refine M.out.ev_stw 8 _ _ _ rfl rfl rfl rfl _ rfl (by first | rfl | (simp only [S1.out]; rfl) | (simp only [S1.out, S2.out]; rfl) | (simp only [S3.out]; rfl) | (simp only [S1.out, S2.out, S3.out]; rfl)) (by first | exact sz35 | (rw [S1.out]; exact sz35) | (rw [S2.out]; exact sz35) | (rw [S3.out]; exact sz35)) (by first | exact ints_one _ _ | exact Fld.one _ | exact O1.out | rfl | (simp [Value.oneCell']; done)) rfl ?_); intro wn m; simp only [List.set_cons_succ, List.set_cons_zero, List.setIfInBounds_toArray] at m; have M := Lib.hid m; clear m)
    | ((with_reducible refine gate_dst (N := 77) rfl ?_); go_must (refine M.out.ev_ldw 8 _ _ rfl rfl rfl Try.underlying35 rfl (by first | exact sz35 | (rw [S1.out]; exact sz35) | (rw [S2.out]; exact sz35) | (rw [S3.out]; exact sz35)) rfl ?_))
    | ((with_reducible refine gate_dst (N := 78) rfl ?_); go_must (refine M.out.ev_ldw 4 _ _ rfl rfl rfl Try.underlying35 rfl (by first | exact sz35 | (rw [S1.out]; exact sz35) | (rw [S2.out]; exact sz35) | (rw [S3.out]; exact sz35)) rfl ?_))
    | (go_at_call 16; go_must (refine (toField_any F hF.toLen _).mono ?_); rintro e w_ ⟨rfl, hB_⟩; have M := Lib.hid (M.out.kept hB_); clear hB_)
    | (go_at_call 17; go_must (refine (toFears_any fs hfl _).mono ?_); rintro e w_ ⟨rfl, hB_⟩; have M := Lib.hid (M.out.kept hB_); clear hB_)
    | (go_at_call 18; go_must (refine (toFlock_any x _).mono ?_); rintro e w_ ⟨rfl, N_⟩; have m := M.out.join N_; clear N_; simp only [List.cons_append, List.nil_append, List.append_nil] at m; have M := Lib.hid m; clear m)
    | (go_at_call 48; go_must (first | (refine Calls.mono (calls_args (by with_reducible rfl) (eqVisitS_any _ _ _ _ V V _ hr (M.out.slof 5 rfl) (M.out.slof 3 rfl))) ?_) | (refine Calls.mono (calls_args (by with_reducible rfl) (eqVisitS_any _ _ _ _ V V _ hr (M.out.slof 7 rfl) (M.out.slof 3 rfl))) ?_)); rintro e w_ ⟨rfl, N_⟩; have m := M.out.join N_; clear N_; simp only [List.cons_append, List.nil_append, List.append_nil] at m; have M := Lib.hid m; clear m; rw [decide_eq_true rfl])
    | (go_at_call 49; go_must (first | (refine Calls.mono (calls_args (by with_reducible rfl) (markVisit_any 5 M.out _ _ V rfl hr)) ?_)); rintro e w_ ⟨rfl, m⟩; simp only [List.set_cons_succ, List.set_cons_zero] at m; have M := Lib.hid m; clear m)
    | (go_at_call 56; go_must (refine (heldVisit_any _ _ V.length hr _ (M.out.slof 5 rfl)).mono ?_); rintro e w_ ⟨rfl, rfl⟩)
    | (go_at_call 52; go_must (refine (eqField_any R LF.out _).mono ?_); rintro e w_ ⟨rfl, N_⟩; have m := M.out.join N_; clear N_; simp only [List.cons_append, List.nil_append, List.append_nil] at m; have M := Lib.hid m; clear m)
    )
  refine region_anyH (fun w' => Mem w w' [.blk g3 27 F.cells, .blk g4 25 (ints .i16 fs), .blk g5 29 x.vals.toArray]) (by kernel_rfl) ?_
  have M9 := M.out.drew
  clear M
  apply merge3
  case hA =>
    intro REST0
    apply merge3
    case hA =>
      intro REST1
      apply merge1
      case hA =>
        intro REST2
        apply merge1
        case hA =>
          intro REST3
          apply merge1
          case hA =>
            intro REST4
            have M := Lib.hid M9
            apply takeH (i := 0) 30 rfl (by kernel_rfl) (by kernel_rfl) (by kernel_rfl) (fun _ _ _ h => h) rfl (by first | exact M.out | exact M.out.take 3)
            case' hy => exact yldw _ _ rfl rfl Try.underlying27 rfl (by first | exact sz27 | (rw [S1.out]; exact sz27) | (rw [S2.out]; exact sz27) | (rw [S3.out]; exact sz27)) rfl (fun w' hS => hS.blk 0 rfl)
            try simp only [Act.put, List.getElem_toArray, List.getElem_cons_succ, List.getElem_cons_zero, List.setIfInBounds_toArray, List.set_cons_succ, List.set_cons_zero]
            apply takeH (i := 2) 32 rfl (by kernel_rfl) (by kernel_rfl) (by kernel_rfl) (fun _ _ _ h => h) rfl (by first | exact M.out | exact M.out.take 3)
            case' hy => exact yldw _ _ rfl rfl Try.underlying25 rfl (by first | exact sz25 | (rw [S1.out]; exact sz25) | (rw [S2.out]; exact sz25) | (rw [S3.out]; exact sz25)) rfl (fun w' hS => hS.blk 1 rfl)
            try simp only [Act.put, List.getElem_toArray, List.getElem_cons_succ, List.getElem_cons_zero, List.setIfInBounds_toArray, List.set_cons_succ, List.set_cons_zero]
            apply takeH (i := 4) 34 rfl (by kernel_rfl) (by kernel_rfl) (by kernel_rfl) (fun _ _ _ h => h) rfl (by first | exact M.out | exact M.out.take 3)
            case' hy => exact yldw _ _ rfl rfl Try.underlying29 rfl (by first | exact sz29 | (rw [S1.out]; exact sz29) | (rw [S2.out]; exact sz29) | (rw [S3.out]; exact sz29)) rfl (fun w' hS => hS.blk 2 rfl)
            try simp only [Act.put, List.getElem_toArray, List.getElem_cons_succ, List.getElem_cons_zero, List.setIfInBounds_toArray, List.set_cons_succ, List.set_cons_zero]
            refine any2H 1 11 (by kernel_rfl) rfl rfl (fun K hK => ?_) (fun K hK => ?_)
            rotate_right 1
            case' _ =>
              go_wp2_with (first | ((with_reducible refine gate_dst (N := 10) rfl ?_); go_must (refine M.out.ev_new rfl (by first | (go_simp; done) | (go_simp; rfl)) ?_); intro g10 w10 m; simp only [List.cons_append, List.nil_append] at m; have M := Lib.hid m; clear m))
              refine onward_normal (hK _ _ ⟨(by first | exact M.out | exact M.out.take 3), ?_⟩)
              clear hK K
              try simp only [Act.put, List.getElem_toArray, List.getElem_cons_succ, List.getElem_cons_zero, List.setIfInBounds_toArray, List.set_cons_succ, List.set_cons_zero]
              refine any1H 1 (by kernel_rfl) rfl (fun K hK => ?_)
              go_wp2_with (first | (go_at_call 16; go_must (refine (toField_any F hF.toLen _).mono ?_); rintro e w_ ⟨rfl, hB_⟩; have M := Lib.hid (M.out.kept hB_); clear hB_))
              refine onward_normal (hK _ _ ⟨(by first | exact M.out | exact M.out.take 3), ?_⟩)
              clear hK K
              try simp only [Act.put, List.getElem_toArray, List.getElem_cons_succ, List.getElem_cons_zero, List.setIfInBounds_toArray, List.set_cons_succ, List.set_cons_zero]
              exact REST4 g10 w_ M.out
            rotate_right 1
            case' _ =>
              go_wp2_with (first | (go_at_call 16; go_must (refine (toField_any F hF.toLen _).mono ?_); rintro e w_ ⟨rfl, hB_⟩; have M := Lib.hid (M.out.kept hB_); clear hB_))
              refine onward_normal (hK _ _ ⟨(by first | exact M.out | exact M.out.take 3), ?_⟩)
              clear hK K
              try simp only [Act.put, List.getElem_toArray, List.getElem_cons_succ, List.getElem_cons_zero, List.setIfInBounds_toArray, List.set_cons_succ, List.set_cons_zero]
              refine any2H 3 11 (by kernel_rfl) rfl rfl (fun K hK => ?_) (fun K hK => ?_)
              rotate_right 1
              case' _ =>
                go_wp2_with (first | ((with_reducible refine gate_dst (N := 10) rfl ?_); go_must (refine M.out.ev_new rfl (by first | (go_simp; done) | (go_simp; rfl)) ?_); intro g10 w10 m; simp only [List.cons_append, List.nil_append] at m; have M := Lib.hid m; clear m))
                refine onward_normal (hK _ _ ⟨(by first | exact M.out | exact M.out.take 3), ?_⟩)
                clear hK K
                try simp only [Act.put, List.getElem_toArray, List.getElem_cons_succ, List.getElem_cons_zero, List.setIfInBounds_toArray, List.set_cons_succ, List.set_cons_zero]
                exact REST4 g10 w10 M.out
              rotate_right 1
              case' _ =>
                go_wp2_with (first | (go_at_call 17; go_must (refine (toFears_any fs hfl _).mono ?_); rintro e w_ ⟨rfl, hB_⟩; have M := Lib.hid (M.out.kept hB_); clear hB_))
                refine onward_normal (hK _ _ ⟨(by first | exact M.out | exact M.out.take 3), ?_⟩)
                clear hK K
                try simp only [Act.put, List.getElem_toArray, List.getElem_cons_succ, List.getElem_cons_zero, List.setIfInBounds_toArray, List.set_cons_succ, List.set_cons_zero]
                refine any2H 5 11 (by kernel_rfl) rfl rfl (fun K hK => ?_) (fun K hK => ?_)
                rotate_right 1
                case' _ =>
                  go_wp2_with (first | ((with_reducible refine gate_dst (N := 10) rfl ?_); go_must (refine M.out.ev_new rfl (by first | (go_simp; done) | (go_simp; rfl)) ?_); intro g10 w10 m; simp only [List.cons_append, List.nil_append] at m; have M := Lib.hid m; clear m))
                  refine onward_normal (hK _ _ ⟨(by first | exact M.out | exact M.out.take 3), ?_⟩)
                  clear hK K
                  try simp only [Act.put, List.getElem_toArray, List.getElem_cons_succ, List.getElem_cons_zero, List.setIfInBounds_toArray, List.set_cons_succ, List.set_cons_zero]
                  exact REST3 g10 w10 M.out
                rotate_right 1
                case' _ =>
                  go_wp2_with (first | (go_at_call 18; go_must (refine (toFlock_any x _).mono ?_); rintro e w_ ⟨rfl, N_⟩; have m := M.out.join N_; clear N_; simp only [List.cons_append, List.nil_append, List.append_nil] at m; have M := Lib.hid m; clear m))
                  refine onward_normal (hK _ _ ⟨(by first | exact M.out | exact M.out.take 3), ?_⟩)
                  clear hK K
                  try simp only [Act.put, List.getElem_toArray, List.getElem_cons_succ, List.getElem_cons_zero, List.setIfInBounds_toArray, List.set_cons_succ, List.set_cons_zero]
                  refine any2H 6 11 (by kernel_rfl) rfl rfl (fun K hK => ?_) (fun K hK => ?_)
                  rotate_right 1
                  case' _ =>
                    go_wp2_with (first | ((with_reducible refine gate_dst (N := 10) rfl ?_); go_must (refine M.out.ev_new rfl (by first | (go_simp; done) | (go_simp; rfl)) ?_); intro g10 w10 m; simp only [List.cons_append, List.nil_append] at m; have M := Lib.hid m; clear m))
                    refine onward_normal (hK _ _ ⟨(by first | exact M.out | exact M.out.take 3), ?_⟩)
                    clear hK K
                    try simp only [Act.put, List.getElem_toArray, List.getElem_cons_succ, List.getElem_cons_zero, List.setIfInBounds_toArray, List.set_cons_succ, List.set_cons_zero]
                    exact REST2 g10 w10 M.out
                  rotate_right 1
                  case' _ =>
                    go_wp2_with (first | (go_at_call 55; go_must (refine (IM.out _).mono ?_); rintro e w_ ⟨A36, c36, rfl, hc36, N_⟩; have m := M.out.join N_; clear N_; simp only [List.cons_append, List.nil_append, List.append_nil] at m; have M := Lib.hid m; clear m))
                    refine onward_normal (hK _ _ ⟨(by first | exact M.out | exact M.out.take 3), ?_⟩)
                    clear hK K
                    try simp only [Act.put, List.getElem_toArray, List.getElem_cons_succ, List.getElem_cons_zero, List.setIfInBounds_toArray, List.set_cons_succ, List.set_cons_zero]
                    apply takeH (i := 7) 29 rfl (by kernel_rfl) (by kernel_rfl) (by kernel_rfl) (fun _ _ _ h => h) rfl (by first | exact M.out | exact M.out.take 3)
                    case' hy =>
                      refine Or.inl ⟨by first | rfl | (go_simp; done), ?_⟩
                      intro w hS
                      clear hS
                      go_simp
                      try with_reducible rfl
                    try simp only [Act.put, List.getElem_toArray, List.getElem_cons_succ, List.getElem_cons_zero, List.setIfInBounds_toArray, List.set_cons_succ, List.set_cons_zero]
                    apply takeH (i := 8) 37 rfl (by kernel_rfl) (by kernel_rfl) (by kernel_rfl) (fun _ _ _ h => h) rfl (by first | exact M.out | exact M.out.take 3)
                    case' hy =>
                      refine Or.inl ⟨by first | rfl | (go_simp; done), ?_⟩
                      intro w hS
                      clear hS
                      go_simp
                      try with_reducible rfl
                    try simp only [Act.put, List.getElem_toArray, List.getElem_cons_succ, List.getElem_cons_zero, List.setIfInBounds_toArray, List.set_cons_succ, List.set_cons_zero]
                    apply takeH (i := 9) 38 rfl (by kernel_rfl) (by kernel_rfl) (by kernel_rfl) (fun _ _ _ h => h) rfl (by first | exact M.out | exact M.out.take 3)
                    case' hy =>
                      refine Or.inl ⟨by first | rfl | (go_simp; done), ?_⟩
                      intro w hS
                      clear hS
                      go_simp
                      try with_reducible rfl
                    try simp only [Act.put, List.getElem_toArray, List.getElem_cons_succ, List.getElem_cons_zero, List.setIfInBounds_toArray, List.set_cons_succ, List.set_cons_zero]
                    apply takeH (i := 10) 39 rfl (by kernel_rfl) (by kernel_rfl) (by kernel_rfl) (fun _ _ _ h => h) rfl (by first | exact M.out | exact M.out.take 3)
                    case' hy =>
                      refine Or.inl ⟨by first | rfl | (go_simp; done), ?_⟩
                      intro w hS
                      clear hS
                      go_simp
                      try with_reducible rfl
                    try simp only [Act.put, List.getElem_toArray, List.getElem_cons_succ, List.getElem_cons_zero, List.setIfInBounds_toArray, List.set_cons_succ, List.set_cons_zero]
                    refine any1H 11 (by kernel_rfl) rfl (fun K hK => ?_)
                    go_wp2_with (first | ((with_reducible refine gate_dst (N := 10) rfl ?_); go_must (refine M.out.ev_new rfl (by first | (go_simp; done) | (go_simp; rfl)) ?_); intro g10 w10 m; simp only [List.cons_append, List.nil_append] at m; have M := Lib.hid m; clear m))
                    refine onward_normal (hK _ _ ⟨(by first | exact M.out | exact M.out.take 3), ?_⟩)
                    clear hK K
                    try simp only [Act.put, List.getElem_toArray, List.getElem_cons_succ, List.getElem_cons_zero, List.setIfInBounds_toArray, List.set_cons_succ, List.set_cons_zero]
                    exact REST1 A36 c36 g10 w10 M.out
          case hB =>
            intro g10 w_ m
            have M := Lib.hid m
            clear m
            refine any1H 3 (by kernel_rfl) rfl (fun K hK => ?_)
            go_wp2_with (first | (go_at_call 17; go_must (refine (toFears_any fs hfl _).mono ?_); rintro e w_ ⟨rfl, hB_⟩; have M := Lib.hid (M.out.kept hB_); clear hB_))
            refine onward_normal (hK _ _ ⟨(by first | exact M.out | exact M.out.take 3), ?_⟩)
            clear hK K
            try simp only [Act.put, List.getElem_toArray, List.getElem_cons_succ, List.getElem_cons_zero, List.setIfInBounds_toArray, List.set_cons_succ, List.set_cons_zero]
            exact REST3 g10 w_ M.out
        case hB =>
          intro g10 w_ m
          have M := Lib.hid m
          clear m
          refine any1H 5 (by kernel_rfl) rfl (fun K hK => ?_)
          go_wp2_with (first | (go_at_call 18; go_must (refine (toFlock_any x _).mono ?_); rintro e w_ ⟨rfl, N_⟩; have m := M.out.join N_; clear N_; simp only [List.cons_append, List.nil_append, List.append_nil] at m; have M := Lib.hid m; clear m))
          refine onward_normal (hK _ _ ⟨(by first | exact M.out | exact M.out.take 3), ?_⟩)
          clear hK K
          try simp only [Act.put, List.getElem_toArray, List.getElem_cons_succ, List.getElem_cons_zero, List.setIfInBounds_toArray, List.set_cons_succ, List.set_cons_zero]
          exact REST2 g10 w_ M.out
      case hB =>
        intro g10 w_ m
        have M := Lib.hid m
        clear m
        refine any1H 6 (by kernel_rfl) rfl (fun K hK => ?_)
        go_wp2_with (first | (go_at_call 55; go_must (refine (IM.out _).mono ?_); rintro e w_ ⟨A36, c36, rfl, hc36, N_⟩; have m := M.out.join N_; clear N_; simp only [List.cons_append, List.nil_append, List.append_nil] at m; have M := Lib.hid m; clear m))
        refine onward_normal (hK _ _ ⟨(by first | exact M.out | exact M.out.take 3), ?_⟩)
        clear hK K
        try simp only [Act.put, List.getElem_toArray, List.getElem_cons_succ, List.getElem_cons_zero, List.setIfInBounds_toArray, List.set_cons_succ, List.set_cons_zero]
        apply takeH (i := 7) 29 rfl (by kernel_rfl) (by kernel_rfl) (by kernel_rfl) (fun _ _ _ h => h) rfl (by first | exact M.out | exact M.out.take 3)
        case' hy =>
          refine Or.inl ⟨by first | rfl | (go_simp; done), ?_⟩
          intro w hS
          clear hS
          go_simp
          try with_reducible rfl
        try simp only [Act.put, List.getElem_toArray, List.getElem_cons_succ, List.getElem_cons_zero, List.setIfInBounds_toArray, List.set_cons_succ, List.set_cons_zero]
        apply takeH (i := 8) 37 rfl (by kernel_rfl) (by kernel_rfl) (by kernel_rfl) (fun _ _ _ h => h) rfl (by first | exact M.out | exact M.out.take 3)
        case' hy =>
          refine Or.inl ⟨by first | rfl | (go_simp; done), ?_⟩
          intro w hS
          clear hS
          go_simp
          try with_reducible rfl
        try simp only [Act.put, List.getElem_toArray, List.getElem_cons_succ, List.getElem_cons_zero, List.setIfInBounds_toArray, List.set_cons_succ, List.set_cons_zero]
        apply takeH (i := 9) 38 rfl (by kernel_rfl) (by kernel_rfl) (by kernel_rfl) (fun _ _ _ h => h) rfl (by first | exact M.out | exact M.out.take 3)
        case' hy =>
          refine Or.inl ⟨by first | rfl | (go_simp; done), ?_⟩
          intro w hS
          clear hS
          go_simp
          try with_reducible rfl
        try simp only [Act.put, List.getElem_toArray, List.getElem_cons_succ, List.getElem_cons_zero, List.setIfInBounds_toArray, List.set_cons_succ, List.set_cons_zero]
        apply takeH (i := 10) 39 rfl (by kernel_rfl) (by kernel_rfl) (by kernel_rfl) (fun _ _ _ h => h) rfl (by first | exact M.out | exact M.out.take 3)
        case' hy =>
          refine Or.inl ⟨by first | rfl | (go_simp; done), ?_⟩
          intro w hS
          clear hS
          go_simp
          try with_reducible rfl
        try simp only [Act.put, List.getElem_toArray, List.getElem_cons_succ, List.getElem_cons_zero, List.setIfInBounds_toArray, List.set_cons_succ, List.set_cons_zero]
        have m := M.out.only [0, 1, 2, 3, 4, 6, 5] (K := [_, _, _, _, _, _, _]) rfl (by decide)
        exact REST1 A36 c36 g10 w_ m
    case hB =>
      intro A36 c36 g10 w_ m
      have M := Lib.hid m
      clear m
      refine any1H 12 (by kernel_rfl) rfl (fun K hK => ?_)
      go_wp2_with (first | ((with_reducible refine gate_store (x := .tmp 10) rfl ?_); go_must (first | (refine M.out.ev_stw 5 _ _ _ rfl rfl rfl rfl _ rfl (by first | rfl | (simp only [S1.out]; rfl) | (simp only [S1.out, S2.out]; rfl) | (simp only [S3.out]; rfl) | (simp only [S1.out, S2.out, S3.out]; rfl)) (by first | exact sz35 | (rw [S1.out]; exact sz35) | (rw [S2.out]; exact sz35) | (rw [S3.out]; exact sz35)) (by first | exact ints_one _ _ | exact Fld.one _ | exact O1.out | rfl | (simp [Value.oneCell']; done)) rfl ?_) | (refine M.out.ev_stw 6 _ _ _ rfl rfl rfl rfl _ rfl (by first | rfl | (simp only [S1.out]; rfl) | (simp only [S1.out, S2.out]; rfl) | (simp only [S3.out]; rfl) | (simp only [S1.out, S2.out, S3.out]; rfl)) (by first | exact sz35 | (rw [S1.out]; exact sz35) | (rw [S2.out]; exact sz35) | (rw [S3.out]; exact sz35)) (by first | exact ints_one _ _ | exact Fld.one _ | exact O1.out | rfl | (simp [Value.oneCell']; done)) rfl ?_)); intro wn m; simp only [List.set_cons_succ, List.set_cons_zero, List.setIfInBounds_toArray] at m; have M := Lib.hid m; clear m))
      refine onward_normal (hK _ _ ⟨(by first | exact M.out | exact M.out.take 3), ?_⟩)
      clear hK K
      try simp only [Act.put, List.getElem_toArray, List.getElem_cons_succ, List.getElem_cons_zero, List.setIfInBounds_toArray, List.set_cons_succ, List.set_cons_zero]
      apply takeH (i := 13) 11 rfl (by kernel_rfl) (by kernel_rfl) (by kernel_rfl) (fun _ _ _ h => h) rfl (by first | exact M.out | exact M.out.take 3)
      case' hy =>
        refine Or.inl ⟨by first | rfl | (go_simp; done), ?_⟩
        intro w hS
        clear hS
        go_simp
        try with_reducible rfl
      try simp only [Act.put, List.getElem_toArray, List.getElem_cons_succ, List.getElem_cons_zero, List.setIfInBounds_toArray, List.set_cons_succ, List.set_cons_zero]
      apply takeH (i := 14) 12 rfl (by kernel_rfl) (by kernel_rfl) (by kernel_rfl) (fun _ _ _ h => h) rfl (by first | exact M.out | exact M.out.take 3)
      case' hy =>
        refine Or.inl ⟨by first | rfl | (go_simp; done), ?_⟩
        intro w hS
        clear hS
        go_simp
        try with_reducible rfl
      try simp only [Act.put, List.getElem_toArray, List.getElem_cons_succ, List.getElem_cons_zero, List.setIfInBounds_toArray, List.set_cons_succ, List.set_cons_zero]
      exact REST0 A36 c36 g10 wn M.out
  intro A36 c36 g10 w_ m
  have M := Lib.hid m
  clear m M9
  refine wpAnyH_done (by kernel_rfl) ?_ _
  go_wp2_with (first
    | ((with_reducible refine gate_dst (N := 3) rfl ?_); go_must (refine M.out.ev_new rfl (by first | (go_simp; done) | (go_simp; rfl)) ?_); intro g3 w3 m; simp only [List.cons_append, List.nil_append] at m; have M := Lib.hid m; clear m)
    | ((with_reducible refine gate_dst (N := 4) rfl ?_); go_must (refine M.out.ev_new rfl (by first | (go_simp; done) | (go_simp; rfl)) ?_); intro g4 w4 m; simp only [List.cons_append, List.nil_append] at m; have M := Lib.hid m; clear m)
    | ((with_reducible refine gate_dst (N := 5) rfl ?_); go_must (refine M.out.ev_new rfl (by first | (go_simp; done) | (go_simp; rfl)) ?_); intro g5 w5 m; simp only [List.cons_append, List.nil_append] at m; have M := Lib.hid m; clear m)
    | ((with_reducible refine gate_dst (N := 19) rfl ?_); go_must (refine M.out.ev_ldw 0 _ _ rfl rfl rfl Try.underlying27 rfl (by first | exact sz27 | (rw [S1.out]; exact sz27) | (rw [S2.out]; exact sz27) | (rw [S3.out]; exact sz27)) rfl ?_))
    | ((with_reducible refine gate_dst (N := 21) rfl ?_); go_must (refine M.out.ev_ldw 1 _ _ rfl rfl rfl Try.underlying25 rfl (by first | exact sz25 | (rw [S1.out]; exact sz25) | (rw [S2.out]; exact sz25) | (rw [S3.out]; exact sz25)) rfl ?_))
    | ((with_reducible refine gate_dst (N := 23) rfl ?_); go_must (refine M.out.ev_ldw 2 _ _ rfl rfl rfl Try.underlying29 rfl (by first | exact sz29 | (rw [S1.out]; exact sz29) | (rw [S2.out]; exact sz29) | (rw [S3.out]; exact sz29)) rfl ?_))
    | ((with_reducible refine gate_dst (N := 7) rfl ?_); go_must (refine M.out.ev_new rfl (by first | (go_simp; done) | (go_simp; rfl)) ?_); intro g7 w7 m; simp only [List.cons_append, List.nil_append] at m; have M := Lib.hid m; clear m)
    | ((with_reducible refine gate_store (x := .tmp 7) rfl ?_); go_must (refine M.out.ev_stw 4 _ _ _ rfl rfl rfl rfl _ rfl (by first | rfl | (simp only [S1.out]; rfl) | (simp only [S1.out, S2.out]; rfl) | (simp only [S3.out]; rfl) | (simp only [S1.out, S2.out, S3.out]; rfl)) (by first | exact sz35 | (rw [S1.out]; exact sz35) | (rw [S2.out]; exact sz35) | (rw [S3.out]; exact sz35)) (by first | exact ints_one _ _ | exact Fld.one _ | exact O1.out | rfl | (simp [Value.oneCell']; done)) rfl ?_); intro wn m; simp only [List.set_cons_succ, List.set_cons_zero, List.setIfInBounds_toArray] at m; have M := Lib.hid m; clear m)
    | ((with_reducible refine gate_dst (N := 30) rfl ?_); go_must (refine M.out.ev_ldw 0 _ _ rfl rfl rfl Try.underlying27 rfl (by first | exact sz27 | (rw [S1.out]; exact sz27) | (rw [S2.out]; exact sz27) | (rw [S3.out]; exact sz27)) rfl ?_))
    | ((with_reducible refine gate_dst (N := 32) rfl ?_); go_must (refine M.out.ev_ldw 1 _ _ rfl rfl rfl Try.underlying25 rfl (by first | exact sz25 | (rw [S1.out]; exact sz25) | (rw [S2.out]; exact sz25) | (rw [S3.out]; exact sz25)) rfl ?_))
    | ((with_reducible refine gate_dst (N := 34) rfl ?_); go_must (refine M.out.ev_ldw 2 _ _ rfl rfl rfl Try.underlying29 rfl (by first | exact sz29 | (rw [S1.out]; exact sz29) | (rw [S2.out]; exact sz29) | (rw [S3.out]; exact sz29)) rfl ?_))
    | ((with_reducible refine gate_dst (N := 10) rfl ?_); go_must (refine M.out.ev_new rfl (by first | (go_simp; done) | (go_simp; rfl)) ?_); intro g10 w10 m; simp only [List.cons_append, List.nil_append] at m; have M := Lib.hid m; clear m)
    | ((with_reducible refine gate_store (x := .tmp 10) rfl ?_); go_must (refine M.out.ev_stw 6 _ _ _ rfl rfl rfl rfl _ rfl (by first | rfl | (simp only [S1.out]; rfl) | (simp only [S1.out, S2.out]; rfl) | (simp only [S3.out]; rfl) | (simp only [S1.out, S2.out, S3.out]; rfl)) (by first | exact sz35 | (rw [S1.out]; exact sz35) | (rw [S2.out]; exact sz35) | (rw [S3.out]; exact sz35)) (by first | exact ints_one _ _ | exact Fld.one _ | exact O1.out | rfl | (simp [Value.oneCell']; done)) rfl ?_); intro wn m; simp only [List.set_cons_succ, List.set_cons_zero, List.setIfInBounds_toArray] at m; have M := Lib.hid m; clear m)
    | ((with_reducible refine gate_dst (N := 40) rfl ?_); go_must (refine M.out.ev_ldw 6 _ _ rfl rfl rfl Try.underlying35 rfl (by first | exact sz35 | (rw [S1.out]; exact sz35) | (rw [S2.out]; exact sz35) | (rw [S3.out]; exact sz35)) rfl ?_))
    | ((with_reducible refine gate_dst (N := 41) rfl ?_); go_must (refine M.out.ev_ldw 4 _ _ rfl rfl rfl Try.underlying35 rfl (by first | exact sz35 | (rw [S1.out]; exact sz35) | (rw [S2.out]; exact sz35) | (rw [S3.out]; exact sz35)) rfl ?_))
    | ((with_reducible refine gate_dst (N := 67) rfl ?_); go_must (refine M.out.ev_ldw 0 _ _ rfl rfl rfl Try.underlying27 rfl (by first | exact sz27 | (rw [S1.out]; exact sz27) | (rw [S2.out]; exact sz27) | (rw [S3.out]; exact sz27)) rfl ?_))
    | ((with_reducible refine gate_dst (N := 69) rfl ?_); go_must (refine M.out.ev_ldw 1 _ _ rfl rfl rfl Try.underlying25 rfl (by first | exact sz25 | (rw [S1.out]; exact sz25) | (rw [S2.out]; exact sz25) | (rw [S3.out]; exact sz25)) rfl ?_))
    | ((with_reducible refine gate_dst (N := 71) rfl ?_); go_must (refine M.out.ev_ldw 2 _ _ rfl rfl rfl Try.underlying29 rfl (by first | exact sz29 | (rw [S1.out]; exact sz29) | (rw [S2.out]; exact sz29) | (rw [S3.out]; exact sz29)) rfl ?_))
    | ((with_reducible refine gate_dst (N := 15) rfl ?_); go_must (refine M.out.ev_new rfl (by first | (go_simp; done) | (go_simp; rfl)) ?_); intro g15 w15 m; simp only [List.cons_append, List.nil_append] at m; have M := Lib.hid m; clear m)
    | ((with_reducible refine gate_store (x := .tmp 15) rfl ?_); go_must (refine M.out.ev_stw 8 _ _ _ rfl rfl rfl rfl _ rfl (by first | rfl | (simp only [S1.out]; rfl) | (simp only [S1.out, S2.out]; rfl) | (simp only [S3.out]; rfl) | (simp only [S1.out, S2.out, S3.out]; rfl)) (by first | exact sz35 | (rw [S1.out]; exact sz35) | (rw [S2.out]; exact sz35) | (rw [S3.out]; exact sz35)) (by first | exact ints_one _ _ | exact Fld.one _ | exact O1.out | rfl | (simp [Value.oneCell']; done)) rfl ?_); intro wn m; simp only [List.set_cons_succ, List.set_cons_zero, List.setIfInBounds_toArray] at m; have M := Lib.hid m; clear m)
    | ((with_reducible refine gate_dst (N := 77) rfl ?_); go_must (refine M.out.ev_ldw 8 _ _ rfl rfl rfl Try.underlying35 rfl (by first | exact sz35 | (rw [S1.out]; exact sz35) | (rw [S2.out]; exact sz35) | (rw [S3.out]; exact sz35)) rfl ?_))
    | ((with_reducible refine gate_dst (N := 78) rfl ?_); go_must (refine M.out.ev_ldw 4 _ _ rfl rfl rfl Try.underlying35 rfl (by first | exact sz35 | (rw [S1.out]; exact sz35) | (rw [S2.out]; exact sz35) | (rw [S3.out]; exact sz35)) rfl ?_))
    | (go_at_call 16; go_must (refine (toField_any F hF.toLen _).mono ?_); rintro e w_ ⟨rfl, hB_⟩; have M := Lib.hid (M.out.kept hB_); clear hB_)
    | (go_at_call 17; go_must (refine (toFears_any fs hfl _).mono ?_); rintro e w_ ⟨rfl, hB_⟩; have M := Lib.hid (M.out.kept hB_); clear hB_)
    | (go_at_call 18; go_must (refine (toFlock_any x _).mono ?_); rintro e w_ ⟨rfl, N_⟩; have m := M.out.join N_; clear N_; simp only [List.cons_append, List.nil_append, List.append_nil] at m; have M := Lib.hid m; clear m)
    | (go_at_call 48; go_must (first | (refine Calls.mono (calls_args (by with_reducible rfl) (eqVisitS_any _ _ _ _ V V _ hr (M.out.slof 5 rfl) (M.out.slof 3 rfl))) ?_) | (refine Calls.mono (calls_args (by with_reducible rfl) (eqVisitS_any _ _ _ _ V V _ hr (M.out.slof 7 rfl) (M.out.slof 3 rfl))) ?_)); rintro e w_ ⟨rfl, N_⟩; have m := M.out.join N_; clear N_; simp only [List.cons_append, List.nil_append, List.append_nil] at m; have M := Lib.hid m; clear m; rw [decide_eq_true rfl])
    | (go_at_call 49; go_must (first | (refine Calls.mono (calls_args (by with_reducible rfl) (markVisit_any 5 M.out _ _ V rfl hr)) ?_)); rintro e w_ ⟨rfl, m⟩; simp only [List.set_cons_succ, List.set_cons_zero] at m; have M := Lib.hid m; clear m)
    | (go_at_call 56; go_must (refine (heldVisit_any _ _ V.length hr _ (M.out.slof 5 rfl)).mono ?_); rintro e w_ ⟨rfl, rfl⟩)
    | (go_at_call 52; go_must (refine (eqField_any R LF.out _).mono ?_); rintro e w_ ⟨rfl, N_⟩; have m := M.out.join N_; clear N_; simp only [List.cons_append, List.nil_append, List.append_nil] at m; have M := Lib.hid m; clear m)
    )
  refine region_anyH (fun w' => Mem w w' [.blk g3 27 F.cells, .blk g4 25 (ints .i16 fs), .blk g5 29 x.vals.toArray]) (by kernel_rfl) ?_
  have M9 := M.out.drew
  clear M
  apply merge3
  case hA =>
    intro REST0
    apply merge3
    case hA =>
      intro REST1
      apply merge1
      case hA =>
        intro REST2
        apply merge1
        case hA =>
          intro REST3
          apply merge1
          case hA =>
            intro REST4
            have M := Lib.hid M9
            apply takeH (i := 0) 67 rfl (by kernel_rfl) (by kernel_rfl) (by kernel_rfl) (fun _ _ _ h => h) rfl (by first | exact M.out | exact M.out.take 3)
            case' hy => exact yldw _ _ rfl rfl Try.underlying27 rfl (by first | exact sz27 | (rw [S1.out]; exact sz27) | (rw [S2.out]; exact sz27) | (rw [S3.out]; exact sz27)) rfl (fun w' hS => hS.blk 0 rfl)
            try simp only [Act.put, List.getElem_toArray, List.getElem_cons_succ, List.getElem_cons_zero, List.setIfInBounds_toArray, List.set_cons_succ, List.set_cons_zero]
            apply takeH (i := 2) 69 rfl (by kernel_rfl) (by kernel_rfl) (by kernel_rfl) (fun _ _ _ h => h) rfl (by first | exact M.out | exact M.out.take 3)
            case' hy => exact yldw _ _ rfl rfl Try.underlying25 rfl (by first | exact sz25 | (rw [S1.out]; exact sz25) | (rw [S2.out]; exact sz25) | (rw [S3.out]; exact sz25)) rfl (fun w' hS => hS.blk 1 rfl)
            try simp only [Act.put, List.getElem_toArray, List.getElem_cons_succ, List.getElem_cons_zero, List.setIfInBounds_toArray, List.set_cons_succ, List.set_cons_zero]
            apply takeH (i := 4) 71 rfl (by kernel_rfl) (by kernel_rfl) (by kernel_rfl) (fun _ _ _ h => h) rfl (by first | exact M.out | exact M.out.take 3)
            case' hy => exact yldw _ _ rfl rfl Try.underlying29 rfl (by first | exact sz29 | (rw [S1.out]; exact sz29) | (rw [S2.out]; exact sz29) | (rw [S3.out]; exact sz29)) rfl (fun w' hS => hS.blk 2 rfl)
            try simp only [Act.put, List.getElem_toArray, List.getElem_cons_succ, List.getElem_cons_zero, List.setIfInBounds_toArray, List.set_cons_succ, List.set_cons_zero]
            refine any2H 1 11 (by kernel_rfl) rfl rfl (fun K hK => ?_) (fun K hK => ?_)
            rotate_right 1
            case' _ =>
              go_wp2_with (first | ((with_reducible refine gate_dst (N := 15) rfl ?_); go_must (refine M.out.ev_new rfl (by first | (go_simp; done) | (go_simp; rfl)) ?_); intro g15 w15 m; simp only [List.cons_append, List.nil_append] at m; have M := Lib.hid m; clear m))
              refine onward_normal (hK _ _ ⟨(by first | exact M.out | exact M.out.take 3), ?_⟩)
              clear hK K
              try simp only [Act.put, List.getElem_toArray, List.getElem_cons_succ, List.getElem_cons_zero, List.setIfInBounds_toArray, List.set_cons_succ, List.set_cons_zero]
              refine any1H 1 (by kernel_rfl) rfl (fun K hK => ?_)
              go_wp2_with (first | (go_at_call 16; go_must (refine (toField_any F hF.toLen _).mono ?_); rintro e w_ ⟨rfl, hB_⟩; have M := Lib.hid (M.out.kept hB_); clear hB_))
              refine onward_normal (hK _ _ ⟨(by first | exact M.out | exact M.out.take 3), ?_⟩)
              clear hK K
              try simp only [Act.put, List.getElem_toArray, List.getElem_cons_succ, List.getElem_cons_zero, List.setIfInBounds_toArray, List.set_cons_succ, List.set_cons_zero]
              exact REST4 g15 w_ M.out
            rotate_right 1
            case' _ =>
              go_wp2_with (first | (go_at_call 16; go_must (refine (toField_any F hF.toLen _).mono ?_); rintro e w_ ⟨rfl, hB_⟩; have M := Lib.hid (M.out.kept hB_); clear hB_))
              refine onward_normal (hK _ _ ⟨(by first | exact M.out | exact M.out.take 3), ?_⟩)
              clear hK K
              try simp only [Act.put, List.getElem_toArray, List.getElem_cons_succ, List.getElem_cons_zero, List.setIfInBounds_toArray, List.set_cons_succ, List.set_cons_zero]
              refine any2H 3 11 (by kernel_rfl) rfl rfl (fun K hK => ?_) (fun K hK => ?_)
              rotate_right 1
              case' _ =>
                go_wp2_with (first | ((with_reducible refine gate_dst (N := 15) rfl ?_); go_must (refine M.out.ev_new rfl (by first | (go_simp; done) | (go_simp; rfl)) ?_); intro g15 w15 m; simp only [List.cons_append, List.nil_append] at m; have M := Lib.hid m; clear m))
                refine onward_normal (hK _ _ ⟨(by first | exact M.out | exact M.out.take 3), ?_⟩)
                clear hK K
                try simp only [Act.put, List.getElem_toArray, List.getElem_cons_succ, List.getElem_cons_zero, List.setIfInBounds_toArray, List.set_cons_succ, List.set_cons_zero]
                exact REST4 g15 w15 M.out
              rotate_right 1
              case' _ =>
                go_wp2_with (first | (go_at_call 17; go_must (refine (toFears_any fs hfl _).mono ?_); rintro e w_ ⟨rfl, hB_⟩; have M := Lib.hid (M.out.kept hB_); clear hB_))
                refine onward_normal (hK _ _ ⟨(by first | exact M.out | exact M.out.take 3), ?_⟩)
                clear hK K
                try simp only [Act.put, List.getElem_toArray, List.getElem_cons_succ, List.getElem_cons_zero, List.setIfInBounds_toArray, List.set_cons_succ, List.set_cons_zero]
                refine any2H 5 11 (by kernel_rfl) rfl rfl (fun K hK => ?_) (fun K hK => ?_)
                rotate_right 1
                case' _ =>
                  go_wp2_with (first | ((with_reducible refine gate_dst (N := 15) rfl ?_); go_must (refine M.out.ev_new rfl (by first | (go_simp; done) | (go_simp; rfl)) ?_); intro g15 w15 m; simp only [List.cons_append, List.nil_append] at m; have M := Lib.hid m; clear m))
                  refine onward_normal (hK _ _ ⟨(by first | exact M.out | exact M.out.take 3), ?_⟩)
                  clear hK K
                  try simp only [Act.put, List.getElem_toArray, List.getElem_cons_succ, List.getElem_cons_zero, List.setIfInBounds_toArray, List.set_cons_succ, List.set_cons_zero]
                  exact REST3 g15 w15 M.out
                rotate_right 1
                case' _ =>
                  go_wp2_with (first | (go_at_call 18; go_must (refine (toFlock_any x _).mono ?_); rintro e w_ ⟨rfl, N_⟩; have m := M.out.join N_; clear N_; simp only [List.cons_append, List.nil_append, List.append_nil] at m; have M := Lib.hid m; clear m))
                  refine onward_normal (hK _ _ ⟨(by first | exact M.out | exact M.out.take 3), ?_⟩)
                  clear hK K
                  try simp only [Act.put, List.getElem_toArray, List.getElem_cons_succ, List.getElem_cons_zero, List.setIfInBounds_toArray, List.set_cons_succ, List.set_cons_zero]
                  refine any2H 6 11 (by kernel_rfl) rfl rfl (fun K hK => ?_) (fun K hK => ?_)
                  rotate_right 1
                  case' _ =>
                    go_wp2_with (first | ((with_reducible refine gate_dst (N := 15) rfl ?_); go_must (refine M.out.ev_new rfl (by first | (go_simp; done) | (go_simp; rfl)) ?_); intro g15 w15 m; simp only [List.cons_append, List.nil_append] at m; have M := Lib.hid m; clear m))
                    refine onward_normal (hK _ _ ⟨(by first | exact M.out | exact M.out.take 3), ?_⟩)
                    clear hK K
                    try simp only [Act.put, List.getElem_toArray, List.getElem_cons_succ, List.getElem_cons_zero, List.setIfInBounds_toArray, List.set_cons_succ, List.set_cons_zero]
                    exact REST2 g15 w15 M.out
                  rotate_right 1
                  case' _ =>
                    go_wp2_with (first | (go_at_call 55; go_must (refine (IM.out _).mono ?_); rintro e w_ ⟨A73, c73, rfl, hc73, N_⟩; have m := M.out.join N_; clear N_; simp only [List.cons_append, List.nil_append, List.append_nil] at m; have M := Lib.hid m; clear m))
                    refine onward_normal (hK _ _ ⟨(by first | exact M.out | exact M.out.take 3), ?_⟩)
                    clear hK K
                    try simp only [Act.put, List.getElem_toArray, List.getElem_cons_succ, List.getElem_cons_zero, List.setIfInBounds_toArray, List.set_cons_succ, List.set_cons_zero]
                    apply takeH (i := 7) 66 rfl (by kernel_rfl) (by kernel_rfl) (by kernel_rfl) (fun _ _ _ h => h) rfl (by first | exact M.out | exact M.out.take 3)
                    case' hy =>
                      refine Or.inl ⟨by first | rfl | (go_simp; done), ?_⟩
                      intro w hS
                      clear hS
                      go_simp
                      try with_reducible rfl
                    try simp only [Act.put, List.getElem_toArray, List.getElem_cons_succ, List.getElem_cons_zero, List.setIfInBounds_toArray, List.set_cons_succ, List.set_cons_zero]
                    apply takeH (i := 8) 74 rfl (by kernel_rfl) (by kernel_rfl) (by kernel_rfl) (fun _ _ _ h => h) rfl (by first | exact M.out | exact M.out.take 3)
                    case' hy =>
                      refine Or.inl ⟨by first | rfl | (go_simp; done), ?_⟩
                      intro w hS
                      clear hS
                      go_simp
                      try with_reducible rfl
                    try simp only [Act.put, List.getElem_toArray, List.getElem_cons_succ, List.getElem_cons_zero, List.setIfInBounds_toArray, List.set_cons_succ, List.set_cons_zero]
                    apply takeH (i := 9) 75 rfl (by kernel_rfl) (by kernel_rfl) (by kernel_rfl) (fun _ _ _ h => h) rfl (by first | exact M.out | exact M.out.take 3)
                    case' hy =>
                      refine Or.inl ⟨by first | rfl | (go_simp; done), ?_⟩
                      intro w hS
                      clear hS
                      go_simp
                      try with_reducible rfl
                    try simp only [Act.put, List.getElem_toArray, List.getElem_cons_succ, List.getElem_cons_zero, List.setIfInBounds_toArray, List.set_cons_succ, List.set_cons_zero]
                    apply takeH (i := 10) 76 rfl (by kernel_rfl) (by kernel_rfl) (by kernel_rfl) (fun _ _ _ h => h) rfl (by first | exact M.out | exact M.out.take 3)
                    case' hy =>
                      refine Or.inl ⟨by first | rfl | (go_simp; done), ?_⟩
                      intro w hS
                      clear hS
                      go_simp
                      try with_reducible rfl
                    try simp only [Act.put, List.getElem_toArray, List.getElem_cons_succ, List.getElem_cons_zero, List.setIfInBounds_toArray, List.set_cons_succ, List.set_cons_zero]
                    refine any1H 11 (by kernel_rfl) rfl (fun K hK => ?_)
                    go_wp2_with (first | ((with_reducible refine gate_dst (N := 15) rfl ?_); go_must (refine M.out.ev_new rfl (by first | (go_simp; done) | (go_simp; rfl)) ?_); intro g15 w15 m; simp only [List.cons_append, List.nil_append] at m; have M := Lib.hid m; clear m))
                    refine onward_normal (hK _ _ ⟨(by first | exact M.out | exact M.out.take 3), ?_⟩)
                    clear hK K
                    try simp only [Act.put, List.getElem_toArray, List.getElem_cons_succ, List.getElem_cons_zero, List.setIfInBounds_toArray, List.set_cons_succ, List.set_cons_zero]
                    exact REST1 A73 c73 g15 w15 M.out
          case hB =>
            intro g15 w_ m
            have M := Lib.hid m
            clear m
            refine any1H 3 (by kernel_rfl) rfl (fun K hK => ?_)
            go_wp2_with (first | (go_at_call 17; go_must (refine (toFears_any fs hfl _).mono ?_); rintro e w_ ⟨rfl, hB_⟩; have M := Lib.hid (M.out.kept hB_); clear hB_))
            refine onward_normal (hK _ _ ⟨(by first | exact M.out | exact M.out.take 3), ?_⟩)
            clear hK K
            try simp only [Act.put, List.getElem_toArray, List.getElem_cons_succ, List.getElem_cons_zero, List.setIfInBounds_toArray, List.set_cons_succ, List.set_cons_zero]
            exact REST3 g15 w_ M.out
        case hB =>
          intro g15 w_ m
          have M := Lib.hid m
          clear m
          refine any1H 5 (by kernel_rfl) rfl (fun K hK => ?_)
          go_wp2_with (first | (go_at_call 18; go_must (refine (toFlock_any x _).mono ?_); rintro e w_ ⟨rfl, N_⟩; have m := M.out.join N_; clear N_; simp only [List.cons_append, List.nil_append, List.append_nil] at m; have M := Lib.hid m; clear m))
          refine onward_normal (hK _ _ ⟨(by first | exact M.out | exact M.out.take 3), ?_⟩)
          clear hK K
          try simp only [Act.put, List.getElem_toArray, List.getElem_cons_succ, List.getElem_cons_zero, List.setIfInBounds_toArray, List.set_cons_succ, List.set_cons_zero]
          exact REST2 g15 w_ M.out
      case hB =>
        intro g15 w_ m
        have M := Lib.hid m
        clear m
        refine any1H 6 (by kernel_rfl) rfl (fun K hK => ?_)
        go_wp2_with (first | (go_at_call 55; go_must (refine (IM.out _).mono ?_); rintro e w_ ⟨A73, c73, rfl, hc73, N_⟩; have m := M.out.join N_; clear N_; simp only [List.cons_append, List.nil_append, List.append_nil] at m; have M := Lib.hid m; clear m))
        refine onward_normal (hK _ _ ⟨(by first | exact M.out | exact M.out.take 3), ?_⟩)
        clear hK K
        try simp only [Act.put, List.getElem_toArray, List.getElem_cons_succ, List.getElem_cons_zero, List.setIfInBounds_toArray, List.set_cons_succ, List.set_cons_zero]
        apply takeH (i := 7) 66 rfl (by kernel_rfl) (by kernel_rfl) (by kernel_rfl) (fun _ _ _ h => h) rfl (by first | exact M.out | exact M.out.take 3)
        case' hy =>
          refine Or.inl ⟨by first | rfl | (go_simp; done), ?_⟩
          intro w hS
          clear hS
          go_simp
          try with_reducible rfl
        try simp only [Act.put, List.getElem_toArray, List.getElem_cons_succ, List.getElem_cons_zero, List.setIfInBounds_toArray, List.set_cons_succ, List.set_cons_zero]
        apply takeH (i := 8) 74 rfl (by kernel_rfl) (by kernel_rfl) (by kernel_rfl) (fun _ _ _ h => h) rfl (by first | exact M.out | exact M.out.take 3)
        case' hy =>
          refine Or.inl ⟨by first | rfl | (go_simp; done), ?_⟩
          intro w hS
          clear hS
          go_simp
          try with_reducible rfl
        try simp only [Act.put, List.getElem_toArray, List.getElem_cons_succ, List.getElem_cons_zero, List.setIfInBounds_toArray, List.set_cons_succ, List.set_cons_zero]
        apply takeH (i := 9) 75 rfl (by kernel_rfl) (by kernel_rfl) (by kernel_rfl) (fun _ _ _ h => h) rfl (by first | exact M.out | exact M.out.take 3)
        case' hy =>
          refine Or.inl ⟨by first | rfl | (go_simp; done), ?_⟩
          intro w hS
          clear hS
          go_simp
          try with_reducible rfl
        try simp only [Act.put, List.getElem_toArray, List.getElem_cons_succ, List.getElem_cons_zero, List.setIfInBounds_toArray, List.set_cons_succ, List.set_cons_zero]
        apply takeH (i := 10) 76 rfl (by kernel_rfl) (by kernel_rfl) (by kernel_rfl) (fun _ _ _ h => h) rfl (by first | exact M.out | exact M.out.take 3)
        case' hy =>
          refine Or.inl ⟨by first | rfl | (go_simp; done), ?_⟩
          intro w hS
          clear hS
          go_simp
          try with_reducible rfl
        try simp only [Act.put, List.getElem_toArray, List.getElem_cons_succ, List.getElem_cons_zero, List.setIfInBounds_toArray, List.set_cons_succ, List.set_cons_zero]
        have m := M.out.only [0, 1, 2, 3, 4, 5, 6, 8, 7] (K := [_, _, _, _, _, _, _, _, _]) rfl (by decide)
        exact REST1 A73 c73 g15 w_ m
    case hB =>
      intro A73 c73 g15 w_ m
      have M := Lib.hid m
      clear m
      refine any1H 12 (by kernel_rfl) rfl (fun K hK => ?_)
      go_wp2_with (first | ((with_reducible refine gate_store (x := .tmp 15) rfl ?_); go_must (first | (refine M.out.ev_stw 7 _ _ _ rfl rfl rfl rfl _ rfl (by first | rfl | (simp only [S1.out]; rfl) | (simp only [S1.out, S2.out]; rfl) | (simp only [S3.out]; rfl) | (simp only [S1.out, S2.out, S3.out]; rfl)) (by first | exact sz35 | (rw [S1.out]; exact sz35) | (rw [S2.out]; exact sz35) | (rw [S3.out]; exact sz35)) (by first | exact ints_one _ _ | exact Fld.one _ | exact O1.out | rfl | (simp [Value.oneCell']; done)) rfl ?_) | (refine M.out.ev_stw 8 _ _ _ rfl rfl rfl rfl _ rfl (by first | rfl | (simp only [S1.out]; rfl) | (simp only [S1.out, S2.out]; rfl) | (simp only [S3.out]; rfl) | (simp only [S1.out, S2.out, S3.out]; rfl)) (by first | exact sz35 | (rw [S1.out]; exact sz35) | (rw [S2.out]; exact sz35) | (rw [S3.out]; exact sz35)) (by first | exact ints_one _ _ | exact Fld.one _ | exact O1.out | rfl | (simp [Value.oneCell']; done)) rfl ?_)); intro wn m; simp only [List.set_cons_succ, List.set_cons_zero, List.setIfInBounds_toArray] at m; have M := Lib.hid m; clear m))
      refine onward_normal (hK _ _ ⟨(by first | exact M.out | exact M.out.take 3), ?_⟩)
      clear hK K
      try simp only [Act.put, List.getElem_toArray, List.getElem_cons_succ, List.getElem_cons_zero, List.setIfInBounds_toArray, List.set_cons_succ, List.set_cons_zero]
      apply takeH (i := 13) 16 rfl (by kernel_rfl) (by kernel_rfl) (by kernel_rfl) (fun _ _ _ h => h) rfl (by first | exact M.out | exact M.out.take 3)
      case' hy =>
        refine Or.inl ⟨by first | rfl | (go_simp; done), ?_⟩
        intro w hS
        clear hS
        go_simp
        try with_reducible rfl
      try simp only [Act.put, List.getElem_toArray, List.getElem_cons_succ, List.getElem_cons_zero, List.setIfInBounds_toArray, List.set_cons_succ, List.set_cons_zero]
      apply takeH (i := 14) 17 rfl (by kernel_rfl) (by kernel_rfl) (by kernel_rfl) (fun _ _ _ h => h) rfl (by first | exact M.out | exact M.out.take 3)
      case' hy =>
        refine Or.inl ⟨by first | rfl | (go_simp; done), ?_⟩
        intro w hS
        clear hS
        go_simp
        try with_reducible rfl
      try simp only [Act.put, List.getElem_toArray, List.getElem_cons_succ, List.getElem_cons_zero, List.setIfInBounds_toArray, List.set_cons_succ, List.set_cons_zero]
      exact REST0 A73 c73 g15 wn M.out
  intro A73 c73 g15 w_ m
  have M := Lib.hid m
  clear m M9
  refine wpAnyH_done (by kernel_rfl) ?_ _
  go_wp2_with (first
    | ((with_reducible refine gate_dst (N := 3) rfl ?_); go_must (refine M.out.ev_new rfl (by first | (go_simp; done) | (go_simp; rfl)) ?_); intro g3 w3 m; simp only [List.cons_append, List.nil_append] at m; have M := Lib.hid m; clear m)
    | ((with_reducible refine gate_dst (N := 4) rfl ?_); go_must (refine M.out.ev_new rfl (by first | (go_simp; done) | (go_simp; rfl)) ?_); intro g4 w4 m; simp only [List.cons_append, List.nil_append] at m; have M := Lib.hid m; clear m)
    | ((with_reducible refine gate_dst (N := 5) rfl ?_); go_must (refine M.out.ev_new rfl (by first | (go_simp; done) | (go_simp; rfl)) ?_); intro g5 w5 m; simp only [List.cons_append, List.nil_append] at m; have M := Lib.hid m; clear m)
    | ((with_reducible refine gate_dst (N := 19) rfl ?_); go_must (refine M.out.ev_ldw 0 _ _ rfl rfl rfl Try.underlying27 rfl (by first | exact sz27 | (rw [S1.out]; exact sz27) | (rw [S2.out]; exact sz27) | (rw [S3.out]; exact sz27)) rfl ?_))
    | ((with_reducible refine gate_dst (N := 21) rfl ?_); go_must (refine M.out.ev_ldw 1 _ _ rfl rfl rfl Try.underlying25 rfl (by first | exact sz25 | (rw [S1.out]; exact sz25) | (rw [S2.out]; exact sz25) | (rw [S3.out]; exact sz25)) rfl ?_))
    | ((with_reducible refine gate_dst (N := 23) rfl ?_); go_must (refine M.out.ev_ldw 2 _ _ rfl rfl rfl Try.underlying29 rfl (by first | exact sz29 | (rw [S1.out]; exact sz29) | (rw [S2.out]; exact sz29) | (rw [S3.out]; exact sz29)) rfl ?_))
    | ((with_reducible refine gate_dst (N := 7) rfl ?_); go_must (refine M.out.ev_new rfl (by first | (go_simp; done) | (go_simp; rfl)) ?_); intro g7 w7 m; simp only [List.cons_append, List.nil_append] at m; have M := Lib.hid m; clear m)
    | ((with_reducible refine gate_store (x := .tmp 7) rfl ?_); go_must (refine M.out.ev_stw 4 _ _ _ rfl rfl rfl rfl _ rfl (by first | rfl | (simp only [S1.out]; rfl) | (simp only [S1.out, S2.out]; rfl) | (simp only [S3.out]; rfl) | (simp only [S1.out, S2.out, S3.out]; rfl)) (by first | exact sz35 | (rw [S1.out]; exact sz35) | (rw [S2.out]; exact sz35) | (rw [S3.out]; exact sz35)) (by first | exact ints_one _ _ | exact Fld.one _ | exact O1.out | rfl | (simp [Value.oneCell']; done)) rfl ?_); intro wn m; simp only [List.set_cons_succ, List.set_cons_zero, List.setIfInBounds_toArray] at m; have M := Lib.hid m; clear m)
    | ((with_reducible refine gate_dst (N := 30) rfl ?_); go_must (refine M.out.ev_ldw 0 _ _ rfl rfl rfl Try.underlying27 rfl (by first | exact sz27 | (rw [S1.out]; exact sz27) | (rw [S2.out]; exact sz27) | (rw [S3.out]; exact sz27)) rfl ?_))
    | ((with_reducible refine gate_dst (N := 32) rfl ?_); go_must (refine M.out.ev_ldw 1 _ _ rfl rfl rfl Try.underlying25 rfl (by first | exact sz25 | (rw [S1.out]; exact sz25) | (rw [S2.out]; exact sz25) | (rw [S3.out]; exact sz25)) rfl ?_))
    | ((with_reducible refine gate_dst (N := 34) rfl ?_); go_must (refine M.out.ev_ldw 2 _ _ rfl rfl rfl Try.underlying29 rfl (by first | exact sz29 | (rw [S1.out]; exact sz29) | (rw [S2.out]; exact sz29) | (rw [S3.out]; exact sz29)) rfl ?_))
    | ((with_reducible refine gate_dst (N := 10) rfl ?_); go_must (refine M.out.ev_new rfl (by first | (go_simp; done) | (go_simp; rfl)) ?_); intro g10 w10 m; simp only [List.cons_append, List.nil_append] at m; have M := Lib.hid m; clear m)
    | ((with_reducible refine gate_store (x := .tmp 10) rfl ?_); go_must (refine M.out.ev_stw 6 _ _ _ rfl rfl rfl rfl _ rfl (by first | rfl | (simp only [S1.out]; rfl) | (simp only [S1.out, S2.out]; rfl) | (simp only [S3.out]; rfl) | (simp only [S1.out, S2.out, S3.out]; rfl)) (by first | exact sz35 | (rw [S1.out]; exact sz35) | (rw [S2.out]; exact sz35) | (rw [S3.out]; exact sz35)) (by first | exact ints_one _ _ | exact Fld.one _ | exact O1.out | rfl | (simp [Value.oneCell']; done)) rfl ?_); intro wn m; simp only [List.set_cons_succ, List.set_cons_zero, List.setIfInBounds_toArray] at m; have M := Lib.hid m; clear m)
    | ((with_reducible refine gate_dst (N := 40) rfl ?_); go_must (refine M.out.ev_ldw 6 _ _ rfl rfl rfl Try.underlying35 rfl (by first | exact sz35 | (rw [S1.out]; exact sz35) | (rw [S2.out]; exact sz35) | (rw [S3.out]; exact sz35)) rfl ?_))
    | ((with_reducible refine gate_dst (N := 41) rfl ?_); go_must (refine M.out.ev_ldw 4 _ _ rfl rfl rfl Try.underlying35 rfl (by first | exact sz35 | (rw [S1.out]; exact sz35) | (rw [S2.out]; exact sz35) | (rw [S3.out]; exact sz35)) rfl ?_))
    | ((with_reducible refine gate_dst (N := 67) rfl ?_); go_must (refine M.out.ev_ldw 0 _ _ rfl rfl rfl Try.underlying27 rfl (by first | exact sz27 | (rw [S1.out]; exact sz27) | (rw [S2.out]; exact sz27) | (rw [S3.out]; exact sz27)) rfl ?_))
    | ((with_reducible refine gate_dst (N := 69) rfl ?_); go_must (refine M.out.ev_ldw 1 _ _ rfl rfl rfl Try.underlying25 rfl (by first | exact sz25 | (rw [S1.out]; exact sz25) | (rw [S2.out]; exact sz25) | (rw [S3.out]; exact sz25)) rfl ?_))
    | ((with_reducible refine gate_dst (N := 71) rfl ?_); go_must (refine M.out.ev_ldw 2 _ _ rfl rfl rfl Try.underlying29 rfl (by first | exact sz29 | (rw [S1.out]; exact sz29) | (rw [S2.out]; exact sz29) | (rw [S3.out]; exact sz29)) rfl ?_))
    | ((with_reducible refine gate_dst (N := 15) rfl ?_); go_must (refine M.out.ev_new rfl (by first | (go_simp; done) | (go_simp; rfl)) ?_); intro g15 w15 m; simp only [List.cons_append, List.nil_append] at m; have M := Lib.hid m; clear m)
    | ((with_reducible refine gate_store (x := .tmp 15) rfl ?_); go_must (refine M.out.ev_stw 8 _ _ _ rfl rfl rfl rfl _ rfl (by first | rfl | (simp only [S1.out]; rfl) | (simp only [S1.out, S2.out]; rfl) | (simp only [S3.out]; rfl) | (simp only [S1.out, S2.out, S3.out]; rfl)) (by first | exact sz35 | (rw [S1.out]; exact sz35) | (rw [S2.out]; exact sz35) | (rw [S3.out]; exact sz35)) (by first | exact ints_one _ _ | exact Fld.one _ | exact O1.out | rfl | (simp [Value.oneCell']; done)) rfl ?_); intro wn m; simp only [List.set_cons_succ, List.set_cons_zero, List.setIfInBounds_toArray] at m; have M := Lib.hid m; clear m)
    | ((with_reducible refine gate_dst (N := 77) rfl ?_); go_must (refine M.out.ev_ldw 8 _ _ rfl rfl rfl Try.underlying35 rfl (by first | exact sz35 | (rw [S1.out]; exact sz35) | (rw [S2.out]; exact sz35) | (rw [S3.out]; exact sz35)) rfl ?_))
    | ((with_reducible refine gate_dst (N := 78) rfl ?_); go_must (refine M.out.ev_ldw 4 _ _ rfl rfl rfl Try.underlying35 rfl (by first | exact sz35 | (rw [S1.out]; exact sz35) | (rw [S2.out]; exact sz35) | (rw [S3.out]; exact sz35)) rfl ?_))
    | (go_at_call 16; go_must (refine (toField_any F hF.toLen _).mono ?_); rintro e w_ ⟨rfl, hB_⟩; have M := Lib.hid (M.out.kept hB_); clear hB_)
    | (go_at_call 17; go_must (refine (toFears_any fs hfl _).mono ?_); rintro e w_ ⟨rfl, hB_⟩; have M := Lib.hid (M.out.kept hB_); clear hB_)
    | (go_at_call 18; go_must (refine (toFlock_any x _).mono ?_); rintro e w_ ⟨rfl, N_⟩; have m := M.out.join N_; clear N_; simp only [List.cons_append, List.nil_append, List.append_nil] at m; have M := Lib.hid m; clear m)
    | (go_at_call 48; go_must (first | (refine Calls.mono (calls_args (by with_reducible rfl) (eqVisitS_any _ _ _ _ V V _ hr (M.out.slof 5 rfl) (M.out.slof 3 rfl))) ?_) | (refine Calls.mono (calls_args (by with_reducible rfl) (eqVisitS_any _ _ _ _ V V _ hr (M.out.slof 7 rfl) (M.out.slof 3 rfl))) ?_)); rintro e w_ ⟨rfl, N_⟩; have m := M.out.join N_; clear N_; simp only [List.cons_append, List.nil_append, List.append_nil] at m; have M := Lib.hid m; clear m; rw [decide_eq_true rfl])
    | (go_at_call 49; go_must (first | (refine Calls.mono (calls_args (by with_reducible rfl) (markVisit_any 5 M.out _ _ V rfl hr)) ?_)); rintro e w_ ⟨rfl, m⟩; simp only [List.set_cons_succ, List.set_cons_zero] at m; have M := Lib.hid m; clear m)
    | (go_at_call 56; go_must (refine (heldVisit_any _ _ V.length hr _ (M.out.slof 5 rfl)).mono ?_); rintro e w_ ⟨rfl, rfl⟩)
    | (go_at_call 52; go_must (refine (eqField_any R LF.out _).mono ?_); rintro e w_ ⟨rfl, N_⟩; have m := M.out.join N_; clear N_; simp only [List.cons_append, List.nil_append, List.append_nil] at m; have M := Lib.hid m; clear m)
    )
  go_ret
  exact ⟨ret_bool rfl, M.out.take 0⟩
end Go.Proofs.Ytbjcajhbhicokaa
