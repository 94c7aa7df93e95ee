/- The law of a flock that eats once: its walk. -/
import Derived.Test.YtbjcajhbhicokaaEatOnce
import Derived.Test.YtbjcajhbhicokaaHeld3
namespace Go.Proofs.Ytbjcajhbhicokaa
set_option linter.unusedSimpArgs false
set_option linter.unusedVariables false
open Go.RowKit
attribute [local go_sem] cell?_mk frozen?_mk

--ONES exact V1.out
set_option maxRecDepth 100000 in
set_option maxHeartbeats 4000000 in
theorem lawEatOnce_any (F : Fld) (hF : F.ok) (fs : List Int) (hfl : fs.length = 100) (hff : ∀ x ∈ fs, -32768 ≤ x ∧ x ≤ 32767) (x : Flock) (hx : x.ok) (w : World) :
    Calls Try.prog 10 #[.agg F.cells, .agg (ints .i16 fs), .agg x.vals.toArray] w fun e w' => e = .returned (.bool true) ∧ Mem w w' [] := by
  have M := Lib.hid (Mem.start w)
  have HFF := Lib.hid hff
  have S1 := Lib.hid (Fld.size hF.toLen)
  have S2 := Lib.hid (show (ints .i16 fs).size = 100 by rw [ints_size, hfl])
  have S3 := Lib.hid (Fld.size (eoF_len hF fs x))
  have O1 := Lib.hid (Fld.one (eoF F fs x))
  have V1 := Lib.hid (Visit.one (eoV F fs x))
  have LF := Lib.hid (eoF_len hF fs x)
  have IM := Lib.hid (fun w => impl_EatOnce_any F hF fs hfl HFF.out x hx w)
  have SP := Lib.hid (fun w => spec_EatOnce_any F hF fs hfl HFF.out x hx w)
  obtain ⟨R, hR⟩ : ∃ R, R = eoF F fs x := ⟨_, rfl⟩
  obtain ⟨V, hV⟩ : ∃ V, V = eoV F fs x := ⟨_, rfl⟩
  obtain ⟨C, hC⟩ : ∃ C, C = eoCode F fs x := ⟨_, rfl⟩
  rw [← hR, ← hV, ← hC] at IM SP
  rw [← hR] at S3 O1 LF
  rw [← hV] at V1
  clear hff hR hV hC
  go_enter Try.func10, Try.ntmps10
  go_wp2_with (first
    | ((with_reducible refine gate_dst (N := 3) rfl ?_); go_must (refine M.out.ev_new rfl (by first | (go_simp; done) | (go_simp; rfl)) ?_); intro g3 w3 m; simp only [List.cons_append, List.nil_append] at m; have M := Lib.hid m; clear m)
    | ((with_reducible refine gate_dst (N := 4) rfl ?_); go_must (refine M.out.ev_new rfl (by first | (go_simp; done) | (go_simp; rfl)) ?_); intro g4 w4 m; simp only [List.cons_append, List.nil_append] at m; have M := Lib.hid m; clear m)
    | ((with_reducible refine gate_dst (N := 5) rfl ?_); go_must (refine M.out.ev_new rfl (by first | (go_simp; done) | (go_simp; rfl)) ?_); intro g5 w5 m; simp only [List.cons_append, List.nil_append] at m; have M := Lib.hid m; clear m)
    | ((with_reducible refine gate_dst (N := 14) rfl ?_); go_must (refine M.out.ev_ldw 0 _ _ rfl rfl rfl Try.underlying27 rfl (by first | exact sz27 | (rw [S1.out]; exact sz27) | (rw [S2.out]; exact sz27) | (rw [S3.out]; exact sz27)) rfl ?_))
    | ((with_reducible refine gate_dst (N := 16) rfl ?_); go_must (refine M.out.ev_ldw 1 _ _ rfl rfl rfl Try.underlying25 rfl (by first | exact sz25 | (rw [S1.out]; exact sz25) | (rw [S2.out]; exact sz25) | (rw [S3.out]; exact sz25)) rfl ?_))
    | ((with_reducible refine gate_dst (N := 18) rfl ?_); go_must (refine M.out.ev_ldw 2 _ _ rfl rfl rfl Try.underlying29 rfl (by first | exact sz29 | (rw [S1.out]; exact sz29) | (rw [S2.out]; exact sz29) | (rw [S3.out]; exact sz29)) rfl ?_))
    | ((with_reducible refine gate_dst (N := 7) rfl ?_); go_must (refine M.out.ev_new rfl (by first | (go_simp; done) | (go_simp; rfl)) ?_); intro g7 w7 m; simp only [List.cons_append, List.nil_append] at m; have M := Lib.hid m; clear m)
    | ((with_reducible refine gate_dst (N := 8) rfl ?_); go_must (refine M.out.ev_new rfl (by first | (go_simp; done) | (go_simp; rfl)) ?_); intro g8 w8 m; simp only [List.cons_append, List.nil_append] at m; have M := Lib.hid m; clear m)
    | ((with_reducible refine gate_store (x := .tmp 7) rfl ?_); go_must (refine M.out.ev_stw 3 _ _ _ rfl rfl rfl rfl _ rfl (by first | rfl | (simp only [S1.out]; rfl) | (simp only [S1.out, S2.out]; rfl) | (simp only [S3.out]; rfl) | (simp only [S1.out, S2.out, S3.out]; rfl)) (by first | exact sz35 | (rw [S1.out]; exact sz35) | (rw [S2.out]; exact sz35) | (rw [S3.out]; exact sz35)) (by first | exact ints_one _ _ | exact Fld.one _ | exact O1.out | exact V1.out | rfl | (simp [Value.oneCell']; done)) rfl ?_); intro wn m; simp only [List.set_cons_succ, List.set_cons_zero, List.setIfInBounds_toArray] at m; have M := Lib.hid m; clear m)
    | ((with_reducible refine gate_store (x := .tmp 8) rfl ?_); go_must (refine M.out.ev_stw 4 _ _ _ rfl rfl rfl rfl _ rfl (by first | rfl | (simp only [S1.out]; rfl) | (simp only [S1.out, S2.out]; rfl) | (simp only [S3.out]; rfl) | (simp only [S1.out, S2.out, S3.out]; rfl)) (by first | exact sz79 | (rw [S1.out]; exact sz79) | (rw [S2.out]; exact sz79) | (rw [S3.out]; exact sz79)) (by first | exact ints_one _ _ | exact Fld.one _ | exact O1.out | exact V1.out | rfl | (simp [Value.oneCell']; done)) rfl ?_); intro wn m; simp only [List.set_cons_succ, List.set_cons_zero, List.setIfInBounds_toArray] at m; have M := Lib.hid m; clear m)
    | ((with_reducible refine gate_dst (N := 25) rfl ?_); go_must (refine M.out.ev_ldw 0 _ _ rfl rfl rfl Try.underlying27 rfl (by first | exact sz27 | (rw [S1.out]; exact sz27) | (rw [S2.out]; exact sz27) | (rw [S3.out]; exact sz27)) rfl ?_))
    | ((with_reducible refine gate_dst (N := 27) rfl ?_); go_must (refine M.out.ev_ldw 1 _ _ rfl rfl rfl Try.underlying25 rfl (by first | exact sz25 | (rw [S1.out]; exact sz25) | (rw [S2.out]; exact sz25) | (rw [S3.out]; exact sz25)) rfl ?_))
    | ((with_reducible refine gate_dst (N := 29) rfl ?_); go_must (refine M.out.ev_ldw 2 _ _ rfl rfl rfl Try.underlying29 rfl (by first | exact sz29 | (rw [S1.out]; exact sz29) | (rw [S2.out]; exact sz29) | (rw [S3.out]; exact sz29)) rfl ?_))
    | ((with_reducible refine gate_dst (N := 10) rfl ?_); go_must (refine M.out.ev_new rfl (by first | (go_simp; done) | (go_simp; rfl)) ?_); intro g10 w10 m; simp only [List.cons_append, List.nil_append] at m; have M := Lib.hid m; clear m)
    | ((with_reducible refine gate_dst (N := 11) rfl ?_); go_must (refine M.out.ev_new rfl (by first | (go_simp; done) | (go_simp; rfl)) ?_); intro g11 w11 m; simp only [List.cons_append, List.nil_append] at m; have M := Lib.hid m; clear m)
    | ((with_reducible refine gate_store (x := .tmp 10) rfl ?_); go_must (refine M.out.ev_stw 5 _ _ _ rfl rfl rfl rfl _ rfl (by first | rfl | (simp only [S1.out]; rfl) | (simp only [S1.out, S2.out]; rfl) | (simp only [S3.out]; rfl) | (simp only [S1.out, S2.out, S3.out]; rfl)) (by first | exact sz35 | (rw [S1.out]; exact sz35) | (rw [S2.out]; exact sz35) | (rw [S3.out]; exact sz35)) (by first | exact ints_one _ _ | exact Fld.one _ | exact O1.out | exact V1.out | rfl | (simp [Value.oneCell']; done)) rfl ?_); intro wn m; simp only [List.set_cons_succ, List.set_cons_zero, List.setIfInBounds_toArray] at m; have M := Lib.hid m; clear m)
    | ((with_reducible refine gate_store (x := .tmp 11) rfl ?_); go_must (refine M.out.ev_stw 6 _ _ _ rfl rfl rfl rfl _ rfl (by first | rfl | (simp only [S1.out]; rfl) | (simp only [S1.out, S2.out]; rfl) | (simp only [S3.out]; rfl) | (simp only [S1.out, S2.out, S3.out]; rfl)) (by first | exact sz79 | (rw [S1.out]; exact sz79) | (rw [S2.out]; exact sz79) | (rw [S3.out]; exact sz79)) (by first | exact ints_one _ _ | exact Fld.one _ | exact O1.out | exact V1.out | rfl | (simp [Value.oneCell']; done)) rfl ?_); intro wn m; simp only [List.set_cons_succ, List.set_cons_zero, List.setIfInBounds_toArray] at m; have M := Lib.hid m; clear m)
    | ((with_reducible refine gate_dst (N := 35) rfl ?_); go_must (refine M.out.ev_ldw 5 _ _ rfl rfl rfl Try.underlying35 rfl (by first | exact sz35 | (rw [S1.out]; exact sz35) | (rw [S2.out]; exact sz35) | (rw [S3.out]; exact sz35)) rfl ?_))
    | ((with_reducible refine gate_dst (N := 36) rfl ?_); go_must (refine M.out.ev_ldw 3 _ _ rfl rfl rfl Try.underlying35 rfl (by first | exact sz35 | (rw [S1.out]; exact sz35) | (rw [S2.out]; exact sz35) | (rw [S3.out]; exact sz35)) rfl ?_))
    )
  refine region_anyH (fun w' => Mem w w' [.blk g3 27 F.cells, .blk g4 25 (ints .i16 fs), .blk g5 29 x.vals.toArray]) (by kernel_rfl) ?_
  have M9 := M.out.drew
  clear M
  apply merge2
  case hA =>
    intro REST0
    apply merge2
    case hA =>
      intro REST1
      apply merge1
      case hA =>
        intro REST2
        apply merge1
        case hA =>
          intro REST3
          apply merge2
          case hA =>
            intro REST4
            apply merge2
            case hA =>
              intro REST5
              apply merge1
              case hA =>
                intro REST6
                apply merge1
                case hA =>
                  intro REST7
                  apply merge2
                  case hA =>
                    intro REST8
                    apply merge1
                    case hA =>
                      intro REST9
                      apply merge1
                      case hA =>
                        intro REST10
                        apply merge1
                        case hA =>
                          intro REST11
                          apply merge2
                          case hA =>
                            intro REST12
                            apply merge1
                            case hA =>
                              intro REST13
                              have M := Lib.hid M9
                              apply takeH (i := 0) 14 rfl (by kernel_rfl) (by kernel_rfl) (by kernel_rfl) (fun _ _ _ h => h) rfl (by first | exact M.out | exact M.out.take 3)
                              case' hy => exact yldw _ _ rfl rfl Try.underlying27 rfl (by first | exact sz27 | (rw [S1.out]; exact sz27) | (rw [S2.out]; exact sz27) | (rw [S3.out]; exact sz27)) rfl (fun w' hS => hS.blk 0 rfl)
                              try simp only [Act.put, List.getElem_toArray, List.getElem_cons_succ, List.getElem_cons_zero, List.setIfInBounds_toArray, List.set_cons_succ, List.set_cons_zero]
                              apply takeH (i := 2) 16 rfl (by kernel_rfl) (by kernel_rfl) (by kernel_rfl) (fun _ _ _ h => h) rfl (by first | exact M.out | exact M.out.take 3)
                              case' hy => exact yldw _ _ rfl rfl Try.underlying25 rfl (by first | exact sz25 | (rw [S1.out]; exact sz25) | (rw [S2.out]; exact sz25) | (rw [S3.out]; exact sz25)) rfl (fun w' hS => hS.blk 1 rfl)
                              try simp only [Act.put, List.getElem_toArray, List.getElem_cons_succ, List.getElem_cons_zero, List.setIfInBounds_toArray, List.set_cons_succ, List.set_cons_zero]
                              apply takeH (i := 4) 18 rfl (by kernel_rfl) (by kernel_rfl) (by kernel_rfl) (fun _ _ _ h => h) rfl (by first | exact M.out | exact M.out.take 3)
                              case' hy => exact yldw _ _ rfl rfl Try.underlying29 rfl (by first | exact sz29 | (rw [S1.out]; exact sz29) | (rw [S2.out]; exact sz29) | (rw [S3.out]; exact sz29)) rfl (fun w' hS => hS.blk 2 rfl)
                              try simp only [Act.put, List.getElem_toArray, List.getElem_cons_succ, List.getElem_cons_zero, List.setIfInBounds_toArray, List.set_cons_succ, List.set_cons_zero]
                              refine any3H 1 11 12 (by kernel_rfl) rfl rfl rfl (fun K hK => ?_) (fun K hK => ?_) (fun K hK => ?_)
                              rotate_right 1
                              case' _ =>
                                go_wp2_with (first | ((with_reducible refine gate_dst (N := 8) rfl ?_); go_must (refine M.out.ev_new rfl (by first | (go_simp; done) | (go_simp; rfl)) ?_); intro g8 w8 m; simp only [List.cons_append, List.nil_append] at m; have M := Lib.hid m; clear m))
                                refine onward_normal (hK _ _ ⟨(by first | exact M.out | exact M.out.take 3), ?_⟩)
                                clear hK K
                                try simp only [Act.put, List.getElem_toArray, List.getElem_cons_succ, List.getElem_cons_zero, List.setIfInBounds_toArray, List.set_cons_succ, List.set_cons_zero]
                                refine any2H 1 11 (by kernel_rfl) rfl rfl (fun K hK => ?_) (fun K hK => ?_)
                                rotate_right 1
                                case' _ =>
                                  go_wp2_with (first | ((with_reducible refine gate_dst (N := 7) rfl ?_); go_must (refine M.out.ev_new rfl (by first | (go_simp; done) | (go_simp; rfl)) ?_); intro g7 w7 m; simp only [List.cons_append, List.nil_append] at m; have M := Lib.hid m; clear m))
                                  refine onward_normal (hK _ _ ⟨(by first | exact M.out | exact M.out.take 3), ?_⟩)
                                  clear hK K
                                  try simp only [Act.put, List.getElem_toArray, List.getElem_cons_succ, List.getElem_cons_zero, List.setIfInBounds_toArray, List.set_cons_succ, List.set_cons_zero]
                                  have m := M.out.only [0, 1, 2, 4, 3] (K := [_, _, _, _, _]) rfl (by decide)
                                  exact REST12 g7 g8 w7 m
                                rotate_right 1
                                case' _ =>
                                  go_wp2_with (first | (go_at_call 16; go_must (refine (toField_any F hF.toLen _).mono ?_); rintro e w_ ⟨rfl, hB_⟩; have M := Lib.hid (M.out.kept hB_); clear hB_))
                                  refine onward_normal (hK _ _ ⟨(by first | exact M.out | exact M.out.take 3), ?_⟩)
                                  clear hK K
                                  try simp only [Act.put, List.getElem_toArray, List.getElem_cons_succ, List.getElem_cons_zero, List.setIfInBounds_toArray, List.set_cons_succ, List.set_cons_zero]
                                  exact REST11 g8 w_ M.out
                              rotate_right 1
                              case' _ =>
                                go_wp2_with (first | ((with_reducible refine gate_dst (N := 7) rfl ?_); go_must (refine M.out.ev_new rfl (by first | (go_simp; done) | (go_simp; rfl)) ?_); intro g7 w7 m; simp only [List.cons_append, List.nil_append] at m; have M := Lib.hid m; clear m))
                                refine onward_normal (hK _ _ ⟨(by first | exact M.out | exact M.out.take 3), ?_⟩)
                                clear hK K
                                try simp only [Act.put, List.getElem_toArray, List.getElem_cons_succ, List.getElem_cons_zero, List.setIfInBounds_toArray, List.set_cons_succ, List.set_cons_zero]
                                refine any2H 1 12 (by kernel_rfl) rfl rfl (fun K hK => ?_) (fun K hK => ?_)
                                rotate_right 1
                                case' _ =>
                                  go_wp2_with (first | ((with_reducible refine gate_dst (N := 8) rfl ?_); go_must (refine M.out.ev_new rfl (by first | (go_simp; done) | (go_simp; rfl)) ?_); intro g8 w8 m; simp only [List.cons_append, List.nil_append] at m; have M := Lib.hid m; clear m))
                                  refine onward_normal (hK _ _ ⟨(by first | exact M.out | exact M.out.take 3), ?_⟩)
                                  clear hK K
                                  try simp only [Act.put, List.getElem_toArray, List.getElem_cons_succ, List.getElem_cons_zero, List.setIfInBounds_toArray, List.set_cons_succ, List.set_cons_zero]
                                  exact REST12 g7 g8 w8 M.out
                                rotate_right 1
                                case' _ =>
                                  go_wp2_with (first | (go_at_call 16; go_must (refine (toField_any F hF.toLen _).mono ?_); rintro e w_ ⟨rfl, hB_⟩; have M := Lib.hid (M.out.kept hB_); clear hB_))
                                  refine onward_normal (hK _ _ ⟨(by first | exact M.out | exact M.out.take 3), ?_⟩)
                                  clear hK K
                                  try simp only [Act.put, List.getElem_toArray, List.getElem_cons_succ, List.getElem_cons_zero, List.setIfInBounds_toArray, List.set_cons_succ, List.set_cons_zero]
                                  exact REST13 g7 w_ M.out
                              rotate_right 1
                              case' _ =>
                                go_wp2_with (first | (go_at_call 16; go_must (refine (toField_any F hF.toLen _).mono ?_); rintro e w_ ⟨rfl, hB_⟩; have M := Lib.hid (M.out.kept hB_); clear hB_))
                                refine onward_normal (hK _ _ ⟨(by first | exact M.out | exact M.out.take 3), ?_⟩)
                                clear hK K
                                try simp only [Act.put, List.getElem_toArray, List.getElem_cons_succ, List.getElem_cons_zero, List.setIfInBounds_toArray, List.set_cons_succ, List.set_cons_zero]
                                refine any3H 3 11 12 (by kernel_rfl) rfl rfl rfl (fun K hK => ?_) (fun K hK => ?_) (fun K hK => ?_)
                                rotate_right 1
                                case' _ =>
                                  go_wp2_with (first | ((with_reducible refine gate_dst (N := 8) rfl ?_); go_must (refine M.out.ev_new rfl (by first | (go_simp; done) | (go_simp; rfl)) ?_); intro g8 w8 m; simp only [List.cons_append, List.nil_append] at m; have M := Lib.hid m; clear m))
                                  refine onward_normal (hK _ _ ⟨(by first | exact M.out | exact M.out.take 3), ?_⟩)
                                  clear hK K
                                  try simp only [Act.put, List.getElem_toArray, List.getElem_cons_succ, List.getElem_cons_zero, List.setIfInBounds_toArray, List.set_cons_succ, List.set_cons_zero]
                                  exact REST11 g8 w8 M.out
                                rotate_right 1
                                case' _ =>
                                  go_wp2_with (first | ((with_reducible refine gate_dst (N := 7) rfl ?_); go_must (refine M.out.ev_new rfl (by first | (go_simp; done) | (go_simp; rfl)) ?_); intro g7 w7 m; simp only [List.cons_append, List.nil_append] at m; have M := Lib.hid m; clear m))
                                  refine onward_normal (hK _ _ ⟨(by first | exact M.out | exact M.out.take 3), ?_⟩)
                                  clear hK K
                                  try simp only [Act.put, List.getElem_toArray, List.getElem_cons_succ, List.getElem_cons_zero, List.setIfInBounds_toArray, List.set_cons_succ, List.set_cons_zero]
                                  exact REST13 g7 w7 M.out
                                rotate_right 1
                                case' _ =>
                                  go_wp2_with (first | (go_at_call 17; go_must (refine (toFears_any fs hfl _).mono ?_); rintro e w_ ⟨rfl, hB_⟩; have M := Lib.hid (M.out.kept hB_); clear hB_))
                                  refine onward_normal (hK _ _ ⟨(by first | exact M.out | exact M.out.take 3), ?_⟩)
                                  clear hK K
                                  try simp only [Act.put, List.getElem_toArray, List.getElem_cons_succ, List.getElem_cons_zero, List.setIfInBounds_toArray, List.set_cons_succ, List.set_cons_zero]
                                  refine any3H 5 11 12 (by kernel_rfl) rfl rfl rfl (fun K hK => ?_) (fun K hK => ?_) (fun K hK => ?_)
                                  rotate_right 1
                                  case' _ =>
                                    go_wp2_with (first | ((with_reducible refine gate_dst (N := 8) rfl ?_); go_must (refine M.out.ev_new rfl (by first | (go_simp; done) | (go_simp; rfl)) ?_); intro g8 w8 m; simp only [List.cons_append, List.nil_append] at m; have M := Lib.hid m; clear m))
                                    refine onward_normal (hK _ _ ⟨(by first | exact M.out | exact M.out.take 3), ?_⟩)
                                    clear hK K
                                    try simp only [Act.put, List.getElem_toArray, List.getElem_cons_succ, List.getElem_cons_zero, List.setIfInBounds_toArray, List.set_cons_succ, List.set_cons_zero]
                                    exact REST9 g8 w8 M.out
                                  rotate_right 1
                                  case' _ =>
                                    go_wp2_with (first | ((with_reducible refine gate_dst (N := 7) rfl ?_); go_must (refine M.out.ev_new rfl (by first | (go_simp; done) | (go_simp; rfl)) ?_); intro g7 w7 m; simp only [List.cons_append, List.nil_append] at m; have M := Lib.hid m; clear m))
                                    refine onward_normal (hK _ _ ⟨(by first | exact M.out | exact M.out.take 3), ?_⟩)
                                    clear hK K
                                    try simp only [Act.put, List.getElem_toArray, List.getElem_cons_succ, List.getElem_cons_zero, List.setIfInBounds_toArray, List.set_cons_succ, List.set_cons_zero]
                                    exact REST10 g7 w7 M.out
                                  rotate_right 1
                                  case' _ =>
                                    go_wp2_with (first | (go_at_call 18; go_must (refine (toFlock_any x _).mono ?_); rintro e w_ ⟨rfl, N_⟩; have m := M.out.join N_; clear N_; simp only [List.cons_append, List.nil_append, List.append_nil] at m; have M := Lib.hid m; clear m))
                                    refine onward_normal (hK _ _ ⟨(by first | exact M.out | exact M.out.take 3), ?_⟩)
                                    clear hK K
                                    try simp only [Act.put, List.getElem_toArray, List.getElem_cons_succ, List.getElem_cons_zero, List.setIfInBounds_toArray, List.set_cons_succ, List.set_cons_zero]
                                    refine any3H 6 11 12 (by kernel_rfl) rfl rfl rfl (fun K hK => ?_) (fun K hK => ?_) (fun K hK => ?_)
                                    rotate_right 1
                                    case' _ =>
                                      go_wp2_with (first | ((with_reducible refine gate_dst (N := 8) rfl ?_); go_must (refine M.out.ev_new rfl (by first | (go_simp; done) | (go_simp; rfl)) ?_); intro g8 w8 m; simp only [List.cons_append, List.nil_append] at m; have M := Lib.hid m; clear m))
                                      refine onward_normal (hK _ _ ⟨(by first | exact M.out | exact M.out.take 3), ?_⟩)
                                      clear hK K
                                      try simp only [Act.put, List.getElem_toArray, List.getElem_cons_succ, List.getElem_cons_zero, List.setIfInBounds_toArray, List.set_cons_succ, List.set_cons_zero]
                                      exact REST6 g8 w8 M.out
                                    rotate_right 1
                                    case' _ =>
                                      go_wp2_with (first | ((with_reducible refine gate_dst (N := 7) rfl ?_); go_must (refine M.out.ev_new rfl (by first | (go_simp; done) | (go_simp; rfl)) ?_); intro g7 w7 m; simp only [List.cons_append, List.nil_append] at m; have M := Lib.hid m; clear m))
                                      refine onward_normal (hK _ _ ⟨(by first | exact M.out | exact M.out.take 3), ?_⟩)
                                      clear hK K
                                      try simp only [Act.put, List.getElem_toArray, List.getElem_cons_succ, List.getElem_cons_zero, List.setIfInBounds_toArray, List.set_cons_succ, List.set_cons_zero]
                                      exact REST7 g7 w7 M.out
                                    rotate_right 1
                                    case' _ =>
                                      go_wp2_with (first | (go_at_call 50; go_must (refine (SP.out _).mono ?_); rintro e w_ ⟨rfl, N_⟩; have m := M.out.join N_; clear N_; simp only [List.cons_append, List.nil_append, List.append_nil] at m; have M := Lib.hid m; clear m))
                                      refine onward_normal (hK _ _ ⟨(by first | exact M.out | exact M.out.take 3), ?_⟩)
                                      clear hK K
                                      try simp only [Act.put, List.getElem_toArray, List.getElem_cons_succ, List.getElem_cons_zero, List.setIfInBounds_toArray, List.set_cons_succ, List.set_cons_zero]
                                      apply takeH (i := 7) 13 rfl (by kernel_rfl) (by kernel_rfl) (by kernel_rfl) (fun _ _ _ h => h) rfl (by first | exact M.out | exact M.out.take 3)
                                      case' hy =>
                                        refine Or.inl ⟨by first | rfl | (go_simp; done), ?_⟩
                                        intro w hS
                                        clear hS
                                        go_simp
                                        try with_reducible rfl
                                      try simp only [Act.put, List.getElem_toArray, List.getElem_cons_succ, List.getElem_cons_zero, List.setIfInBounds_toArray, List.set_cons_succ, List.set_cons_zero]
                                      apply takeH (i := 8) 21 rfl (by kernel_rfl) (by kernel_rfl) (by kernel_rfl) (fun _ _ _ h => h) rfl (by first | exact M.out | exact M.out.take 3)
                                      case' hy =>
                                        refine Or.inl ⟨by first | rfl | (go_simp; done), ?_⟩
                                        intro w hS
                                        clear hS
                                        go_simp
                                        try with_reducible rfl
                                      try simp only [Act.put, List.getElem_toArray, List.getElem_cons_succ, List.getElem_cons_zero, List.setIfInBounds_toArray, List.set_cons_succ, List.set_cons_zero]
                                      apply takeH (i := 9) 22 rfl (by kernel_rfl) (by kernel_rfl) (by kernel_rfl) (fun _ _ _ h => h) rfl (by first | exact M.out | exact M.out.take 3)
                                      case' hy =>
                                        refine Or.inl ⟨by first | rfl | (go_simp; done), ?_⟩
                                        intro w hS
                                        clear hS
                                        go_simp
                                        try with_reducible rfl
                                      try simp only [Act.put, List.getElem_toArray, List.getElem_cons_succ, List.getElem_cons_zero, List.setIfInBounds_toArray, List.set_cons_succ, List.set_cons_zero]
                                      apply takeH (i := 10) 23 rfl (by kernel_rfl) (by kernel_rfl) (by kernel_rfl) (fun _ _ _ h => h) rfl (by first | exact M.out | exact M.out.take 3)
                                      case' hy =>
                                        refine Or.inl ⟨by first | rfl | (go_simp; done), ?_⟩
                                        intro w hS
                                        clear hS
                                        go_simp
                                        try with_reducible rfl
                                      try simp only [Act.put, List.getElem_toArray, List.getElem_cons_succ, List.getElem_cons_zero, List.setIfInBounds_toArray, List.set_cons_succ, List.set_cons_zero]
                                      refine any2H 11 12 (by kernel_rfl) rfl rfl (fun K hK => ?_) (fun K hK => ?_)
                                      rotate_right 1
                                      case' _ =>
                                        go_wp2_with (first | ((with_reducible refine gate_dst (N := 8) rfl ?_); go_must (refine M.out.ev_new rfl (by first | (go_simp; done) | (go_simp; rfl)) ?_); intro g8 w8 m; simp only [List.cons_append, List.nil_append] at m; have M := Lib.hid m; clear m))
                                        refine onward_normal (hK _ _ ⟨(by first | exact M.out | exact M.out.take 3), ?_⟩)
                                        clear hK K
                                        try simp only [Act.put, List.getElem_toArray, List.getElem_cons_succ, List.getElem_cons_zero, List.setIfInBounds_toArray, List.set_cons_succ, List.set_cons_zero]
                                        exact REST2 g8 w8 M.out
                                      rotate_right 1
                                      case' _ =>
                                        go_wp2_with (first | ((with_reducible refine gate_dst (N := 7) rfl ?_); go_must (refine M.out.ev_new rfl (by first | (go_simp; done) | (go_simp; rfl)) ?_); intro g7 w7 m; simp only [List.cons_append, List.nil_append] at m; have M := Lib.hid m; clear m))
                                        refine onward_normal (hK _ _ ⟨(by first | exact M.out | exact M.out.take 3), ?_⟩)
                                        clear hK K
                                        try simp only [Act.put, List.getElem_toArray, List.getElem_cons_succ, List.getElem_cons_zero, List.setIfInBounds_toArray, List.set_cons_succ, List.set_cons_zero]
                                        exact REST3 g7 w7 M.out
                            case hB =>
                              intro g7 w_ m
                              have M := Lib.hid m
                              clear m
                              refine any2H 3 12 (by kernel_rfl) rfl rfl (fun K hK => ?_) (fun K hK => ?_)
                              rotate_right 1
                              case' _ =>
                                go_wp2_with (first | ((with_reducible refine gate_dst (N := 8) rfl ?_); go_must (refine M.out.ev_new rfl (by first | (go_simp; done) | (go_simp; rfl)) ?_); intro g8 w8 m; simp only [List.cons_append, List.nil_append] at m; have M := Lib.hid m; clear m))
                                refine onward_normal (hK _ _ ⟨(by first | exact M.out | exact M.out.take 3), ?_⟩)
                                clear hK K
                                try simp only [Act.put, List.getElem_toArray, List.getElem_cons_succ, List.getElem_cons_zero, List.setIfInBounds_toArray, List.set_cons_succ, List.set_cons_zero]
                                exact REST8 g7 g8 w8 M.out
                              rotate_right 1
                              case' _ =>
                                go_wp2_with (first | (go_at_call 17; go_must (refine (toFears_any fs hfl _).mono ?_); rintro e w_ ⟨rfl, hB_⟩; have M := Lib.hid (M.out.kept hB_); clear hB_))
                                refine onward_normal (hK _ _ ⟨(by first | exact M.out | exact M.out.take 3), ?_⟩)
                                clear hK K
                                try simp only [Act.put, List.getElem_toArray, List.getElem_cons_succ, List.getElem_cons_zero, List.setIfInBounds_toArray, List.set_cons_succ, List.set_cons_zero]
                                exact REST10 g7 w_ M.out
                          case hB =>
                            intro g7 g8 w_ m
                            have M := Lib.hid m
                            clear m
                            refine any1H 1 (by kernel_rfl) rfl (fun K hK => ?_)
                            go_wp2_with (first | (go_at_call 16; go_must (refine (toField_any F hF.toLen _).mono ?_); rintro e w_ ⟨rfl, hB_⟩; have M := Lib.hid (M.out.kept hB_); clear hB_))
                            refine onward_normal (hK _ _ ⟨(by first | exact M.out | exact M.out.take 3), ?_⟩)
                            clear hK K
                            try simp only [Act.put, List.getElem_toArray, List.getElem_cons_succ, List.getElem_cons_zero, List.setIfInBounds_toArray, List.set_cons_succ, List.set_cons_zero]
                            exact REST8 g7 g8 w_ M.out
                        case hB =>
                          intro g8 w_ m
                          have M := Lib.hid m
                          clear m
                          refine any2H 3 11 (by kernel_rfl) rfl rfl (fun K hK => ?_) (fun K hK => ?_)
                          rotate_right 1
                          case' _ =>
                            go_wp2_with (first | ((with_reducible refine gate_dst (N := 7) rfl ?_); go_must (refine M.out.ev_new rfl (by first | (go_simp; done) | (go_simp; rfl)) ?_); intro g7 w7 m; simp only [List.cons_append, List.nil_append] at m; have M := Lib.hid m; clear m))
                            refine onward_normal (hK _ _ ⟨(by first | exact M.out | exact M.out.take 3), ?_⟩)
                            clear hK K
                            try simp only [Act.put, List.getElem_toArray, List.getElem_cons_succ, List.getElem_cons_zero, List.setIfInBounds_toArray, List.set_cons_succ, List.set_cons_zero]
                            have m := M.out.only [0, 1, 2, 4, 3] (K := [_, _, _, _, _]) rfl (by decide)
                            exact REST8 g7 g8 w7 m
                          rotate_right 1
                          case' _ =>
                            go_wp2_with (first | (go_at_call 17; go_must (refine (toFears_any fs hfl _).mono ?_); rintro e w_ ⟨rfl, hB_⟩; have M := Lib.hid (M.out.kept hB_); clear hB_))
                            refine onward_normal (hK _ _ ⟨(by first | exact M.out | exact M.out.take 3), ?_⟩)
                            clear hK K
                            try simp only [Act.put, List.getElem_toArray, List.getElem_cons_succ, List.getElem_cons_zero, List.setIfInBounds_toArray, List.set_cons_succ, List.set_cons_zero]
                            exact REST9 g8 w_ M.out
                      case hB =>
                        intro g7 w_ m
                        have M := Lib.hid m
                        clear m
                        refine any2H 5 12 (by kernel_rfl) rfl rfl (fun K hK => ?_) (fun K hK => ?_)
                        rotate_right 1
                        case' _ =>
                          go_wp2_with (first | ((with_reducible refine gate_dst (N := 8) rfl ?_); go_must (refine M.out.ev_new rfl (by first | (go_simp; done) | (go_simp; rfl)) ?_); intro g8 w8 m; simp only [List.cons_append, List.nil_append] at m; have M := Lib.hid m; clear m))
                          refine onward_normal (hK _ _ ⟨(by first | exact M.out | exact M.out.take 3), ?_⟩)
                          clear hK K
                          try simp only [Act.put, List.getElem_toArray, List.getElem_cons_succ, List.getElem_cons_zero, List.setIfInBounds_toArray, List.set_cons_succ, List.set_cons_zero]
                          exact REST5 g7 g8 w8 M.out
                        rotate_right 1
                        case' _ =>
                          go_wp2_with (first | (go_at_call 18; go_must (refine (toFlock_any x _).mono ?_); rintro e w_ ⟨rfl, N_⟩; have m := M.out.join N_; clear N_; simp only [List.cons_append, List.nil_append, List.append_nil] at m; have M := Lib.hid m; clear m))
                          refine onward_normal (hK _ _ ⟨(by first | exact M.out | exact M.out.take 3), ?_⟩)
                          clear hK K
                          try simp only [Act.put, List.getElem_toArray, List.getElem_cons_succ, List.getElem_cons_zero, List.setIfInBounds_toArray, List.set_cons_succ, List.set_cons_zero]
                          exact REST7 g7 w_ M.out
                    case hB =>
                      intro g8 w_ m
                      have M := Lib.hid m
                      clear m
                      refine any2H 5 11 (by kernel_rfl) rfl rfl (fun K hK => ?_) (fun K hK => ?_)
                      rotate_right 1
                      case' _ =>
                        go_wp2_with (first | ((with_reducible refine gate_dst (N := 7) rfl ?_); go_must (refine M.out.ev_new rfl (by first | (go_simp; done) | (go_simp; rfl)) ?_); intro g7 w7 m; simp only [List.cons_append, List.nil_append] at m; have M := Lib.hid m; clear m))
                        refine onward_normal (hK _ _ ⟨(by first | exact M.out | exact M.out.take 3), ?_⟩)
                        clear hK K
                        try simp only [Act.put, List.getElem_toArray, List.getElem_cons_succ, List.getElem_cons_zero, List.setIfInBounds_toArray, List.set_cons_succ, List.set_cons_zero]
                        have m := M.out.only [0, 1, 2, 4, 3] (K := [_, _, _, _, _]) rfl (by decide)
                        exact REST5 g7 g8 w7 m
                      rotate_right 1
                      case' _ =>
                        go_wp2_with (first | (go_at_call 18; go_must (refine (toFlock_any x _).mono ?_); rintro e w_ ⟨rfl, N_⟩; have m := M.out.join N_; clear N_; simp only [List.cons_append, List.nil_append, List.append_nil] at m; have M := Lib.hid m; clear m))
                        refine onward_normal (hK _ _ ⟨(by first | exact M.out | exact M.out.take 3), ?_⟩)
                        clear hK K
                        try simp only [Act.put, List.getElem_toArray, List.getElem_cons_succ, List.getElem_cons_zero, List.setIfInBounds_toArray, List.set_cons_succ, List.set_cons_zero]
                        exact REST6 g8 w_ M.out
                  case hB =>
                    intro g7 g8 w_ m
                    have M := Lib.hid m
                    clear m
                    refine any1H 3 (by kernel_rfl) rfl (fun K hK => ?_)
                    go_wp2_with (first | (go_at_call 17; go_must (refine (toFears_any fs hfl _).mono ?_); rintro e w_ ⟨rfl, hB_⟩; have M := Lib.hid (M.out.kept hB_); clear hB_))
                    refine onward_normal (hK _ _ ⟨(by first | exact M.out | exact M.out.take 3), ?_⟩)
                    clear hK K
                    try simp only [Act.put, List.getElem_toArray, List.getElem_cons_succ, List.getElem_cons_zero, List.setIfInBounds_toArray, List.set_cons_succ, List.set_cons_zero]
                    exact REST5 g7 g8 w_ M.out
                case hB =>
                  intro g7 w_ m
                  have M := Lib.hid m
                  clear m
                  refine any2H 6 12 (by kernel_rfl) rfl rfl (fun K hK => ?_) (fun K hK => ?_)
                  rotate_right 1
                  case' _ =>
                    go_wp2_with (first | ((with_reducible refine gate_dst (N := 8) rfl ?_); go_must (refine M.out.ev_new rfl (by first | (go_simp; done) | (go_simp; rfl)) ?_); intro g8 w8 m; simp only [List.cons_append, List.nil_append] at m; have M := Lib.hid m; clear m))
                    refine onward_normal (hK _ _ ⟨(by first | exact M.out | exact M.out.take 3), ?_⟩)
                    clear hK K
                    try simp only [Act.put, List.getElem_toArray, List.getElem_cons_succ, List.getElem_cons_zero, List.setIfInBounds_toArray, List.set_cons_succ, List.set_cons_zero]
                    exact REST4 g7 g8 w8 M.out
                  rotate_right 1
                  case' _ =>
                    go_wp2_with (first | (go_at_call 50; go_must (refine (SP.out _).mono ?_); rintro e w_ ⟨rfl, N_⟩; have m := M.out.join N_; clear N_; simp only [List.cons_append, List.nil_append, List.append_nil] at m; have M := Lib.hid m; clear m))
                    refine onward_normal (hK _ _ ⟨(by first | exact M.out | exact M.out.take 3), ?_⟩)
                    clear hK K
                    try simp only [Act.put, List.getElem_toArray, List.getElem_cons_succ, List.getElem_cons_zero, List.setIfInBounds_toArray, List.set_cons_succ, List.set_cons_zero]
                    apply takeH (i := 7) 13 rfl (by kernel_rfl) (by kernel_rfl) (by kernel_rfl) (fun _ _ _ h => h) rfl (by first | exact M.out | exact M.out.take 3)
                    case' hy =>
                      refine Or.inl ⟨by first | rfl | (go_simp; done), ?_⟩
                      intro w hS
                      clear hS
                      go_simp
                      try with_reducible rfl
                    try simp only [Act.put, List.getElem_toArray, List.getElem_cons_succ, List.getElem_cons_zero, List.setIfInBounds_toArray, List.set_cons_succ, List.set_cons_zero]
                    apply takeH (i := 8) 21 rfl (by kernel_rfl) (by kernel_rfl) (by kernel_rfl) (fun _ _ _ h => h) rfl (by first | exact M.out | exact M.out.take 3)
                    case' hy =>
                      refine Or.inl ⟨by first | rfl | (go_simp; done), ?_⟩
                      intro w hS
                      clear hS
                      go_simp
                      try with_reducible rfl
                    try simp only [Act.put, List.getElem_toArray, List.getElem_cons_succ, List.getElem_cons_zero, List.setIfInBounds_toArray, List.set_cons_succ, List.set_cons_zero]
                    apply takeH (i := 9) 22 rfl (by kernel_rfl) (by kernel_rfl) (by kernel_rfl) (fun _ _ _ h => h) rfl (by first | exact M.out | exact M.out.take 3)
                    case' hy =>
                      refine Or.inl ⟨by first | rfl | (go_simp; done), ?_⟩
                      intro w hS
                      clear hS
                      go_simp
                      try with_reducible rfl
                    try simp only [Act.put, List.getElem_toArray, List.getElem_cons_succ, List.getElem_cons_zero, List.setIfInBounds_toArray, List.set_cons_succ, List.set_cons_zero]
                    apply takeH (i := 10) 23 rfl (by kernel_rfl) (by kernel_rfl) (by kernel_rfl) (fun _ _ _ h => h) rfl (by first | exact M.out | exact M.out.take 3)
                    case' hy =>
                      refine Or.inl ⟨by first | rfl | (go_simp; done), ?_⟩
                      intro w hS
                      clear hS
                      go_simp
                      try with_reducible rfl
                    try simp only [Act.put, List.getElem_toArray, List.getElem_cons_succ, List.getElem_cons_zero, List.setIfInBounds_toArray, List.set_cons_succ, List.set_cons_zero]
                    exact REST3 g7 w_ M.out
              case hB =>
                intro g8 w_ m
                have M := Lib.hid m
                clear m
                refine any2H 6 11 (by kernel_rfl) rfl rfl (fun K hK => ?_) (fun K hK => ?_)
                rotate_right 1
                case' _ =>
                  go_wp2_with (first | ((with_reducible refine gate_dst (N := 7) rfl ?_); go_must (refine M.out.ev_new rfl (by first | (go_simp; done) | (go_simp; rfl)) ?_); intro g7 w7 m; simp only [List.cons_append, List.nil_append] at m; have M := Lib.hid m; clear m))
                  refine onward_normal (hK _ _ ⟨(by first | exact M.out | exact M.out.take 3), ?_⟩)
                  clear hK K
                  try simp only [Act.put, List.getElem_toArray, List.getElem_cons_succ, List.getElem_cons_zero, List.setIfInBounds_toArray, List.set_cons_succ, List.set_cons_zero]
                  have m := M.out.only [0, 1, 2, 4, 3] (K := [_, _, _, _, _]) rfl (by decide)
                  exact REST4 g7 g8 w7 m
                rotate_right 1
                case' _ =>
                  go_wp2_with (first | (go_at_call 50; go_must (refine (SP.out _).mono ?_); rintro e w_ ⟨rfl, N_⟩; have m := M.out.join N_; clear N_; simp only [List.cons_append, List.nil_append, List.append_nil] at m; have M := Lib.hid m; clear m))
                  refine onward_normal (hK _ _ ⟨(by first | exact M.out | exact M.out.take 3), ?_⟩)
                  clear hK K
                  try simp only [Act.put, List.getElem_toArray, List.getElem_cons_succ, List.getElem_cons_zero, List.setIfInBounds_toArray, List.set_cons_succ, List.set_cons_zero]
                  apply takeH (i := 7) 13 rfl (by kernel_rfl) (by kernel_rfl) (by kernel_rfl) (fun _ _ _ h => h) rfl (by first | exact M.out | exact M.out.take 3)
                  case' hy =>
                    refine Or.inl ⟨by first | rfl | (go_simp; done), ?_⟩
                    intro w hS
                    clear hS
                    go_simp
                    try with_reducible rfl
                  try simp only [Act.put, List.getElem_toArray, List.getElem_cons_succ, List.getElem_cons_zero, List.setIfInBounds_toArray, List.set_cons_succ, List.set_cons_zero]
                  apply takeH (i := 8) 21 rfl (by kernel_rfl) (by kernel_rfl) (by kernel_rfl) (fun _ _ _ h => h) rfl (by first | exact M.out | exact M.out.take 3)
                  case' hy =>
                    refine Or.inl ⟨by first | rfl | (go_simp; done), ?_⟩
                    intro w hS
                    clear hS
                    go_simp
                    try with_reducible rfl
                  try simp only [Act.put, List.getElem_toArray, List.getElem_cons_succ, List.getElem_cons_zero, List.setIfInBounds_toArray, List.set_cons_succ, List.set_cons_zero]
                  apply takeH (i := 9) 22 rfl (by kernel_rfl) (by kernel_rfl) (by kernel_rfl) (fun _ _ _ h => h) rfl (by first | exact M.out | exact M.out.take 3)
                  case' hy =>
                    refine Or.inl ⟨by first | rfl | (go_simp; done), ?_⟩
                    intro w hS
                    clear hS
                    go_simp
                    try with_reducible rfl
                  try simp only [Act.put, List.getElem_toArray, List.getElem_cons_succ, List.getElem_cons_zero, List.setIfInBounds_toArray, List.set_cons_succ, List.set_cons_zero]
                  apply takeH (i := 10) 23 rfl (by kernel_rfl) (by kernel_rfl) (by kernel_rfl) (fun _ _ _ h => h) rfl (by first | exact M.out | exact M.out.take 3)
                  case' hy =>
                    refine Or.inl ⟨by first | rfl | (go_simp; done), ?_⟩
                    intro w hS
                    clear hS
                    go_simp
                    try with_reducible rfl
                  try simp only [Act.put, List.getElem_toArray, List.getElem_cons_succ, List.getElem_cons_zero, List.setIfInBounds_toArray, List.set_cons_succ, List.set_cons_zero]
                  exact REST2 g8 w_ M.out
            case hB =>
              intro g7 g8 w_ m
              have M := Lib.hid m
              clear m
              refine any1H 5 (by kernel_rfl) rfl (fun K hK => ?_)
              go_wp2_with (first | (go_at_call 18; go_must (refine (toFlock_any x _).mono ?_); rintro e w_ ⟨rfl, N_⟩; have m := M.out.join N_; clear N_; simp only [List.cons_append, List.nil_append, List.append_nil] at m; have M := Lib.hid m; clear m))
              refine onward_normal (hK _ _ ⟨(by first | exact M.out | exact M.out.take 3), ?_⟩)
              clear hK K
              try simp only [Act.put, List.getElem_toArray, List.getElem_cons_succ, List.getElem_cons_zero, List.setIfInBounds_toArray, List.set_cons_succ, List.set_cons_zero]
              exact REST4 g7 g8 w_ M.out
          case hB =>
            intro g7 g8 w_ m
            have M := Lib.hid m
            clear m
            refine any1H 6 (by kernel_rfl) rfl (fun K hK => ?_)
            go_wp2_with (first | (go_at_call 50; go_must (refine (SP.out _).mono ?_); rintro e w_ ⟨rfl, N_⟩; have m := M.out.join N_; clear N_; simp only [List.cons_append, List.nil_append, List.append_nil] at m; have M := Lib.hid m; clear m))
            refine onward_normal (hK _ _ ⟨(by first | exact M.out | exact M.out.take 3), ?_⟩)
            clear hK K
            try simp only [Act.put, List.getElem_toArray, List.getElem_cons_succ, List.getElem_cons_zero, List.setIfInBounds_toArray, List.set_cons_succ, List.set_cons_zero]
            apply takeH (i := 7) 13 rfl (by kernel_rfl) (by kernel_rfl) (by kernel_rfl) (fun _ _ _ h => h) rfl (by first | exact M.out | exact M.out.take 3)
            case' hy =>
              refine Or.inl ⟨by first | rfl | (go_simp; done), ?_⟩
              intro w hS
              clear hS
              go_simp
              try with_reducible rfl
            try simp only [Act.put, List.getElem_toArray, List.getElem_cons_succ, List.getElem_cons_zero, List.setIfInBounds_toArray, List.set_cons_succ, List.set_cons_zero]
            apply takeH (i := 8) 21 rfl (by kernel_rfl) (by kernel_rfl) (by kernel_rfl) (fun _ _ _ h => h) rfl (by first | exact M.out | exact M.out.take 3)
            case' hy =>
              refine Or.inl ⟨by first | rfl | (go_simp; done), ?_⟩
              intro w hS
              clear hS
              go_simp
              try with_reducible rfl
            try simp only [Act.put, List.getElem_toArray, List.getElem_cons_succ, List.getElem_cons_zero, List.setIfInBounds_toArray, List.set_cons_succ, List.set_cons_zero]
            apply takeH (i := 9) 22 rfl (by kernel_rfl) (by kernel_rfl) (by kernel_rfl) (fun _ _ _ h => h) rfl (by first | exact M.out | exact M.out.take 3)
            case' hy =>
              refine Or.inl ⟨by first | rfl | (go_simp; done), ?_⟩
              intro w hS
              clear hS
              go_simp
              try with_reducible rfl
            try simp only [Act.put, List.getElem_toArray, List.getElem_cons_succ, List.getElem_cons_zero, List.setIfInBounds_toArray, List.set_cons_succ, List.set_cons_zero]
            apply takeH (i := 10) 23 rfl (by kernel_rfl) (by kernel_rfl) (by kernel_rfl) (fun _ _ _ h => h) rfl (by first | exact M.out | exact M.out.take 3)
            case' hy =>
              refine Or.inl ⟨by first | rfl | (go_simp; done), ?_⟩
              intro w hS
              clear hS
              go_simp
              try with_reducible rfl
            try simp only [Act.put, List.getElem_toArray, List.getElem_cons_succ, List.getElem_cons_zero, List.setIfInBounds_toArray, List.set_cons_succ, List.set_cons_zero]
            exact REST1 g7 g8 w_ M.out
        case hB =>
          intro g7 w_ m
          have M := Lib.hid m
          clear m
          refine any1H 12 (by kernel_rfl) rfl (fun K hK => ?_)
          go_wp2_with (first | ((with_reducible refine gate_dst (N := 8) rfl ?_); go_must (refine M.out.ev_new rfl (by first | (go_simp; done) | (go_simp; rfl)) ?_); intro g8 w8 m; simp only [List.cons_append, List.nil_append] at m; have M := Lib.hid m; clear m))
          refine onward_normal (hK _ _ ⟨(by first | exact M.out | exact M.out.take 3), ?_⟩)
          clear hK K
          try simp only [Act.put, List.getElem_toArray, List.getElem_cons_succ, List.getElem_cons_zero, List.setIfInBounds_toArray, List.set_cons_succ, List.set_cons_zero]
          exact REST1 g7 g8 w8 M.out
      case hB =>
        intro g8 w_ m
        have M := Lib.hid m
        clear m
        refine any1H 11 (by kernel_rfl) rfl (fun K hK => ?_)
        go_wp2_with (first | ((with_reducible refine gate_dst (N := 7) rfl ?_); go_must (refine M.out.ev_new rfl (by first | (go_simp; done) | (go_simp; rfl)) ?_); intro g7 w7 m; simp only [List.cons_append, List.nil_append] at m; have M := Lib.hid m; clear m))
        refine onward_normal (hK _ _ ⟨(by first | exact M.out | exact M.out.take 3), ?_⟩)
        clear hK K
        try simp only [Act.put, List.getElem_toArray, List.getElem_cons_succ, List.getElem_cons_zero, List.setIfInBounds_toArray, List.set_cons_succ, List.set_cons_zero]
        have m := M.out.only [0, 1, 2, 4, 3] (K := [_, _, _, _, _]) rfl (by decide)
        exact REST1 g7 g8 w7 m
    case hB =>
      intro g7 g8 w_ m
      have M := Lib.hid m
      clear m
      refine any1H 13 (by kernel_rfl) rfl (fun K hK => ?_)
      go_wp2_with (first | ((with_reducible refine gate_store (x := .tmp 7) rfl ?_); go_must (first | (refine M.out.ev_stw 3 _ _ _ rfl rfl rfl rfl _ rfl (by first | rfl | (simp only [S1.out]; rfl) | (simp only [S1.out, S2.out]; rfl) | (simp only [S3.out]; rfl) | (simp only [S1.out, S2.out, S3.out]; rfl)) (by first | exact sz35 | (rw [S1.out]; exact sz35) | (rw [S2.out]; exact sz35) | (rw [S3.out]; exact sz35)) (by first | exact ints_one _ _ | exact Fld.one _ | exact O1.out | exact V1.out | rfl | (simp [Value.oneCell']; done)) rfl ?_) | (refine M.out.ev_stw 4 _ _ _ rfl rfl rfl rfl _ rfl (by first | rfl | (simp only [S1.out]; rfl) | (simp only [S1.out, S2.out]; rfl) | (simp only [S3.out]; rfl) | (simp only [S1.out, S2.out, S3.out]; rfl)) (by first | exact sz35 | (rw [S1.out]; exact sz35) | (rw [S2.out]; exact sz35) | (rw [S3.out]; exact sz35)) (by first | exact ints_one _ _ | exact Fld.one _ | exact O1.out | exact V1.out | rfl | (simp [Value.oneCell']; done)) rfl ?_)); intro wn m; simp only [List.set_cons_succ, List.set_cons_zero, List.setIfInBounds_toArray] at m; have M := Lib.hid m; clear m))
      refine onward_normal (hK _ _ ⟨(by first | exact M.out | exact M.out.take 3), ?_⟩)
      clear hK K
      try simp only [Act.put, List.getElem_toArray, List.getElem_cons_succ, List.getElem_cons_zero, List.setIfInBounds_toArray, List.set_cons_succ, List.set_cons_zero]
      refine any1H 14 (by kernel_rfl) rfl (fun K hK => ?_)
      go_wp2_with (first | ((with_reducible refine gate_store (x := .tmp 8) rfl ?_); go_must (first | (refine M.out.ev_stw 3 _ _ _ rfl rfl rfl rfl _ rfl (by first | rfl | (simp only [S1.out]; rfl) | (simp only [S1.out, S2.out]; rfl) | (simp only [S3.out]; rfl) | (simp only [S1.out, S2.out, S3.out]; rfl)) (by first | exact sz79 | (rw [S1.out]; exact sz79) | (rw [S2.out]; exact sz79) | (rw [S3.out]; exact sz79)) (by first | exact ints_one _ _ | exact Fld.one _ | exact O1.out | exact V1.out | rfl | (simp [Value.oneCell']; done)) rfl ?_) | (refine M.out.ev_stw 4 _ _ _ rfl rfl rfl rfl _ rfl (by first | rfl | (simp only [S1.out]; rfl) | (simp only [S1.out, S2.out]; rfl) | (simp only [S3.out]; rfl) | (simp only [S1.out, S2.out, S3.out]; rfl)) (by first | exact sz79 | (rw [S1.out]; exact sz79) | (rw [S2.out]; exact sz79) | (rw [S3.out]; exact sz79)) (by first | exact ints_one _ _ | exact Fld.one _ | exact O1.out | exact V1.out | rfl | (simp [Value.oneCell']; done)) rfl ?_)); intro wn m; simp only [List.set_cons_succ, List.set_cons_zero, List.setIfInBounds_toArray] at m; have M := Lib.hid m; clear m))
      refine onward_normal (hK _ _ ⟨(by first | exact M.out | exact M.out.take 3), ?_⟩)
      clear hK K
      try simp only [Act.put, List.getElem_toArray, List.getElem_cons_succ, List.getElem_cons_zero, List.setIfInBounds_toArray, List.set_cons_succ, List.set_cons_zero]
      apply takeH (i := 15) 9 rfl (by kernel_rfl) (by kernel_rfl) (by kernel_rfl) (fun _ _ _ h => h) rfl (by first | exact M.out | exact M.out.take 3)
      case' hy =>
        refine Or.inl ⟨by first | rfl | (go_simp; done), ?_⟩
        intro w hS
        clear hS
        go_simp
        try with_reducible rfl
      try simp only [Act.put, List.getElem_toArray, List.getElem_cons_succ, List.getElem_cons_zero, List.setIfInBounds_toArray, List.set_cons_succ, List.set_cons_zero]
      exact REST0 g7 g8 wn M.out
  intro g7 g8 w_ m
  have M := Lib.hid m
  clear m M9
  refine wpAnyH_done (by kernel_rfl) ?_ _
  go_wp2_with fail
  refine region_anyH (fun w' => Mem w w' [.blk g3 27 F.cells, .blk g4 25 (ints .i16 fs), .blk g5 29 x.vals.toArray]) (by kernel_rfl) ?_
  have M9 := M.out.drew
  clear M
  apply merge2
  case hA =>
    intro REST0
    apply merge2
    case hA =>
      intro REST1
      apply merge1
      case hA =>
        intro REST2
        apply merge1
        case hA =>
          intro REST3
          apply merge2
          case hA =>
            intro REST4
            apply merge2
            case hA =>
              intro REST5
              apply merge1
              case hA =>
                intro REST6
                apply merge1
                case hA =>
                  intro REST7
                  apply merge2
                  case hA =>
                    intro REST8
                    apply merge1
                    case hA =>
                      intro REST9
                      apply merge1
                      case hA =>
                        intro REST10
                        apply merge1
                        case hA =>
                          intro REST11
                          apply merge2
                          case hA =>
                            intro REST12
                            apply merge1
                            case hA =>
                              intro REST13
                              have M := Lib.hid M9
                              apply takeH (i := 0) 25 rfl (by kernel_rfl) (by kernel_rfl) (by kernel_rfl) (fun _ _ _ h => h) rfl (by first | exact M.out | exact M.out.take 3)
                              case' hy => exact yldw _ _ rfl rfl Try.underlying27 rfl (by first | exact sz27 | (rw [S1.out]; exact sz27) | (rw [S2.out]; exact sz27) | (rw [S3.out]; exact sz27)) rfl (fun w' hS => hS.blk 0 rfl)
                              try simp only [Act.put, List.getElem_toArray, List.getElem_cons_succ, List.getElem_cons_zero, List.setIfInBounds_toArray, List.set_cons_succ, List.set_cons_zero]
                              apply takeH (i := 2) 27 rfl (by kernel_rfl) (by kernel_rfl) (by kernel_rfl) (fun _ _ _ h => h) rfl (by first | exact M.out | exact M.out.take 3)
                              case' hy => exact yldw _ _ rfl rfl Try.underlying25 rfl (by first | exact sz25 | (rw [S1.out]; exact sz25) | (rw [S2.out]; exact sz25) | (rw [S3.out]; exact sz25)) rfl (fun w' hS => hS.blk 1 rfl)
                              try simp only [Act.put, List.getElem_toArray, List.getElem_cons_succ, List.getElem_cons_zero, List.setIfInBounds_toArray, List.set_cons_succ, List.set_cons_zero]
                              apply takeH (i := 4) 29 rfl (by kernel_rfl) (by kernel_rfl) (by kernel_rfl) (fun _ _ _ h => h) rfl (by first | exact M.out | exact M.out.take 3)
                              case' hy => exact yldw _ _ rfl rfl Try.underlying29 rfl (by first | exact sz29 | (rw [S1.out]; exact sz29) | (rw [S2.out]; exact sz29) | (rw [S3.out]; exact sz29)) rfl (fun w' hS => hS.blk 2 rfl)
                              try simp only [Act.put, List.getElem_toArray, List.getElem_cons_succ, List.getElem_cons_zero, List.setIfInBounds_toArray, List.set_cons_succ, List.set_cons_zero]
                              refine any3H 1 11 12 (by kernel_rfl) rfl rfl rfl (fun K hK => ?_) (fun K hK => ?_) (fun K hK => ?_)
                              rotate_right 1
                              case' _ =>
                                go_wp2_with (first | ((with_reducible refine gate_dst (N := 11) rfl ?_); go_must (refine M.out.ev_new rfl (by first | (go_simp; done) | (go_simp; rfl)) ?_); intro g11 w11 m; simp only [List.cons_append, List.nil_append] at m; have M := Lib.hid m; clear m))
                                refine onward_normal (hK _ _ ⟨(by first | exact M.out | exact M.out.take 3), ?_⟩)
                                clear hK K
                                try simp only [Act.put, List.getElem_toArray, List.getElem_cons_succ, List.getElem_cons_zero, List.setIfInBounds_toArray, List.set_cons_succ, List.set_cons_zero]
                                refine any2H 1 11 (by kernel_rfl) rfl rfl (fun K hK => ?_) (fun K hK => ?_)
                                rotate_right 1
                                case' _ =>
                                  go_wp2_with (first | ((with_reducible refine gate_dst (N := 10) rfl ?_); go_must (refine M.out.ev_new rfl (by first | (go_simp; done) | (go_simp; rfl)) ?_); intro g10 w10 m; simp only [List.cons_append, List.nil_append] at m; have M := Lib.hid m; clear m))
                                  refine onward_normal (hK _ _ ⟨(by first | exact M.out | exact M.out.take 3), ?_⟩)
                                  clear hK K
                                  try simp only [Act.put, List.getElem_toArray, List.getElem_cons_succ, List.getElem_cons_zero, List.setIfInBounds_toArray, List.set_cons_succ, List.set_cons_zero]
                                  have m := M.out.only [0, 1, 2, 3, 4, 6, 5] (K := [_, _, _, _, _, _, _]) rfl (by decide)
                                  exact REST12 g10 g11 w10 m
                                rotate_right 1
                                case' _ =>
                                  go_wp2_with (first | (go_at_call 16; go_must (refine (toField_any F hF.toLen _).mono ?_); rintro e w_ ⟨rfl, hB_⟩; have M := Lib.hid (M.out.kept hB_); clear hB_))
                                  refine onward_normal (hK _ _ ⟨(by first | exact M.out | exact M.out.take 3), ?_⟩)
                                  clear hK K
                                  try simp only [Act.put, List.getElem_toArray, List.getElem_cons_succ, List.getElem_cons_zero, List.setIfInBounds_toArray, List.set_cons_succ, List.set_cons_zero]
                                  exact REST11 g11 w_ M.out
                              rotate_right 1
                              case' _ =>
                                go_wp2_with (first | ((with_reducible refine gate_dst (N := 10) rfl ?_); go_must (refine M.out.ev_new rfl (by first | (go_simp; done) | (go_simp; rfl)) ?_); intro g10 w10 m; simp only [List.cons_append, List.nil_append] at m; have M := Lib.hid m; clear m))
                                refine onward_normal (hK _ _ ⟨(by first | exact M.out | exact M.out.take 3), ?_⟩)
                                clear hK K
                                try simp only [Act.put, List.getElem_toArray, List.getElem_cons_succ, List.getElem_cons_zero, List.setIfInBounds_toArray, List.set_cons_succ, List.set_cons_zero]
                                refine any2H 1 12 (by kernel_rfl) rfl rfl (fun K hK => ?_) (fun K hK => ?_)
                                rotate_right 1
                                case' _ =>
                                  go_wp2_with (first | ((with_reducible refine gate_dst (N := 11) rfl ?_); go_must (refine M.out.ev_new rfl (by first | (go_simp; done) | (go_simp; rfl)) ?_); intro g11 w11 m; simp only [List.cons_append, List.nil_append] at m; have M := Lib.hid m; clear m))
                                  refine onward_normal (hK _ _ ⟨(by first | exact M.out | exact M.out.take 3), ?_⟩)
                                  clear hK K
                                  try simp only [Act.put, List.getElem_toArray, List.getElem_cons_succ, List.getElem_cons_zero, List.setIfInBounds_toArray, List.set_cons_succ, List.set_cons_zero]
                                  exact REST12 g10 g11 w11 M.out
                                rotate_right 1
                                case' _ =>
                                  go_wp2_with (first | (go_at_call 16; go_must (refine (toField_any F hF.toLen _).mono ?_); rintro e w_ ⟨rfl, hB_⟩; have M := Lib.hid (M.out.kept hB_); clear hB_))
                                  refine onward_normal (hK _ _ ⟨(by first | exact M.out | exact M.out.take 3), ?_⟩)
                                  clear hK K
                                  try simp only [Act.put, List.getElem_toArray, List.getElem_cons_succ, List.getElem_cons_zero, List.setIfInBounds_toArray, List.set_cons_succ, List.set_cons_zero]
                                  exact REST13 g10 w_ M.out
                              rotate_right 1
                              case' _ =>
                                go_wp2_with (first | (go_at_call 16; go_must (refine (toField_any F hF.toLen _).mono ?_); rintro e w_ ⟨rfl, hB_⟩; have M := Lib.hid (M.out.kept hB_); clear hB_))
                                refine onward_normal (hK _ _ ⟨(by first | exact M.out | exact M.out.take 3), ?_⟩)
                                clear hK K
                                try simp only [Act.put, List.getElem_toArray, List.getElem_cons_succ, List.getElem_cons_zero, List.setIfInBounds_toArray, List.set_cons_succ, List.set_cons_zero]
                                refine any3H 3 11 12 (by kernel_rfl) rfl rfl rfl (fun K hK => ?_) (fun K hK => ?_) (fun K hK => ?_)
                                rotate_right 1
                                case' _ =>
                                  go_wp2_with (first | ((with_reducible refine gate_dst (N := 11) rfl ?_); go_must (refine M.out.ev_new rfl (by first | (go_simp; done) | (go_simp; rfl)) ?_); intro g11 w11 m; simp only [List.cons_append, List.nil_append] at m; have M := Lib.hid m; clear m))
                                  refine onward_normal (hK _ _ ⟨(by first | exact M.out | exact M.out.take 3), ?_⟩)
                                  clear hK K
                                  try simp only [Act.put, List.getElem_toArray, List.getElem_cons_succ, List.getElem_cons_zero, List.setIfInBounds_toArray, List.set_cons_succ, List.set_cons_zero]
                                  exact REST11 g11 w11 M.out
                                rotate_right 1
                                case' _ =>
                                  go_wp2_with (first | ((with_reducible refine gate_dst (N := 10) rfl ?_); go_must (refine M.out.ev_new rfl (by first | (go_simp; done) | (go_simp; rfl)) ?_); intro g10 w10 m; simp only [List.cons_append, List.nil_append] at m; have M := Lib.hid m; clear m))
                                  refine onward_normal (hK _ _ ⟨(by first | exact M.out | exact M.out.take 3), ?_⟩)
                                  clear hK K
                                  try simp only [Act.put, List.getElem_toArray, List.getElem_cons_succ, List.getElem_cons_zero, List.setIfInBounds_toArray, List.set_cons_succ, List.set_cons_zero]
                                  exact REST13 g10 w10 M.out
                                rotate_right 1
                                case' _ =>
                                  go_wp2_with (first | (go_at_call 17; go_must (refine (toFears_any fs hfl _).mono ?_); rintro e w_ ⟨rfl, hB_⟩; have M := Lib.hid (M.out.kept hB_); clear hB_))
                                  refine onward_normal (hK _ _ ⟨(by first | exact M.out | exact M.out.take 3), ?_⟩)
                                  clear hK K
                                  try simp only [Act.put, List.getElem_toArray, List.getElem_cons_succ, List.getElem_cons_zero, List.setIfInBounds_toArray, List.set_cons_succ, List.set_cons_zero]
                                  refine any3H 5 11 12 (by kernel_rfl) rfl rfl rfl (fun K hK => ?_) (fun K hK => ?_) (fun K hK => ?_)
                                  rotate_right 1
                                  case' _ =>
                                    go_wp2_with (first | ((with_reducible refine gate_dst (N := 11) rfl ?_); go_must (refine M.out.ev_new rfl (by first | (go_simp; done) | (go_simp; rfl)) ?_); intro g11 w11 m; simp only [List.cons_append, List.nil_append] at m; have M := Lib.hid m; clear m))
                                    refine onward_normal (hK _ _ ⟨(by first | exact M.out | exact M.out.take 3), ?_⟩)
                                    clear hK K
                                    try simp only [Act.put, List.getElem_toArray, List.getElem_cons_succ, List.getElem_cons_zero, List.setIfInBounds_toArray, List.set_cons_succ, List.set_cons_zero]
                                    exact REST9 g11 w11 M.out
                                  rotate_right 1
                                  case' _ =>
                                    go_wp2_with (first | ((with_reducible refine gate_dst (N := 10) rfl ?_); go_must (refine M.out.ev_new rfl (by first | (go_simp; done) | (go_simp; rfl)) ?_); intro g10 w10 m; simp only [List.cons_append, List.nil_append] at m; have M := Lib.hid m; clear m))
                                    refine onward_normal (hK _ _ ⟨(by first | exact M.out | exact M.out.take 3), ?_⟩)
                                    clear hK K
                                    try simp only [Act.put, List.getElem_toArray, List.getElem_cons_succ, List.getElem_cons_zero, List.setIfInBounds_toArray, List.set_cons_succ, List.set_cons_zero]
                                    exact REST10 g10 w10 M.out
                                  rotate_right 1
                                  case' _ =>
                                    go_wp2_with (first | (go_at_call 18; go_must (refine (toFlock_any x _).mono ?_); rintro e w_ ⟨rfl, N_⟩; have m := M.out.join N_; clear N_; simp only [List.cons_append, List.nil_append, List.append_nil] at m; have M := Lib.hid m; clear m))
                                    refine onward_normal (hK _ _ ⟨(by first | exact M.out | exact M.out.take 3), ?_⟩)
                                    clear hK K
                                    try simp only [Act.put, List.getElem_toArray, List.getElem_cons_succ, List.getElem_cons_zero, List.setIfInBounds_toArray, List.set_cons_succ, List.set_cons_zero]
                                    refine any3H 6 11 12 (by kernel_rfl) rfl rfl rfl (fun K hK => ?_) (fun K hK => ?_) (fun K hK => ?_)
                                    rotate_right 1
                                    case' _ =>
                                      go_wp2_with (first | ((with_reducible refine gate_dst (N := 11) rfl ?_); go_must (refine M.out.ev_new rfl (by first | (go_simp; done) | (go_simp; rfl)) ?_); intro g11 w11 m; simp only [List.cons_append, List.nil_append] at m; have M := Lib.hid m; clear m))
                                      refine onward_normal (hK _ _ ⟨(by first | exact M.out | exact M.out.take 3), ?_⟩)
                                      clear hK K
                                      try simp only [Act.put, List.getElem_toArray, List.getElem_cons_succ, List.getElem_cons_zero, List.setIfInBounds_toArray, List.set_cons_succ, List.set_cons_zero]
                                      exact REST6 g11 w11 M.out
                                    rotate_right 1
                                    case' _ =>
                                      go_wp2_with (first | ((with_reducible refine gate_dst (N := 10) rfl ?_); go_must (refine M.out.ev_new rfl (by first | (go_simp; done) | (go_simp; rfl)) ?_); intro g10 w10 m; simp only [List.cons_append, List.nil_append] at m; have M := Lib.hid m; clear m))
                                      refine onward_normal (hK _ _ ⟨(by first | exact M.out | exact M.out.take 3), ?_⟩)
                                      clear hK K
                                      try simp only [Act.put, List.getElem_toArray, List.getElem_cons_succ, List.getElem_cons_zero, List.setIfInBounds_toArray, List.set_cons_succ, List.set_cons_zero]
                                      exact REST7 g10 w10 M.out
                                    rotate_right 1
                                    case' _ =>
                                      go_wp2_with (first | (go_at_call 51; go_must (refine (IM.out _).mono ?_); rintro e w_ ⟨rfl, N_⟩; have m := M.out.join N_; clear N_; simp only [List.cons_append, List.nil_append, List.append_nil] at m; have M := Lib.hid m; clear m))
                                      refine onward_normal (hK _ _ ⟨(by first | exact M.out | exact M.out.take 3), ?_⟩)
                                      clear hK K
                                      try simp only [Act.put, List.getElem_toArray, List.getElem_cons_succ, List.getElem_cons_zero, List.setIfInBounds_toArray, List.set_cons_succ, List.set_cons_zero]
                                      apply takeH (i := 7) 24 rfl (by kernel_rfl) (by kernel_rfl) (by kernel_rfl) (fun _ _ _ h => h) rfl (by first | exact M.out | exact M.out.take 3)
                                      case' hy =>
                                        refine Or.inl ⟨by first | rfl | (go_simp; done), ?_⟩
                                        intro w hS
                                        clear hS
                                        go_simp
                                        try with_reducible rfl
                                      try simp only [Act.put, List.getElem_toArray, List.getElem_cons_succ, List.getElem_cons_zero, List.setIfInBounds_toArray, List.set_cons_succ, List.set_cons_zero]
                                      apply takeH (i := 8) 32 rfl (by kernel_rfl) (by kernel_rfl) (by kernel_rfl) (fun _ _ _ h => h) rfl (by first | exact M.out | exact M.out.take 3)
                                      case' hy =>
                                        refine Or.inl ⟨by first | rfl | (go_simp; done), ?_⟩
                                        intro w hS
                                        clear hS
                                        go_simp
                                        try with_reducible rfl
                                      try simp only [Act.put, List.getElem_toArray, List.getElem_cons_succ, List.getElem_cons_zero, List.setIfInBounds_toArray, List.set_cons_succ, List.set_cons_zero]
                                      apply takeH (i := 9) 33 rfl (by kernel_rfl) (by kernel_rfl) (by kernel_rfl) (fun _ _ _ h => h) rfl (by first | exact M.out | exact M.out.take 3)
                                      case' hy =>
                                        refine Or.inl ⟨by first | rfl | (go_simp; done), ?_⟩
                                        intro w hS
                                        clear hS
                                        go_simp
                                        try with_reducible rfl
                                      try simp only [Act.put, List.getElem_toArray, List.getElem_cons_succ, List.getElem_cons_zero, List.setIfInBounds_toArray, List.set_cons_succ, List.set_cons_zero]
                                      apply takeH (i := 10) 34 rfl (by kernel_rfl) (by kernel_rfl) (by kernel_rfl) (fun _ _ _ h => h) rfl (by first | exact M.out | exact M.out.take 3)
                                      case' hy =>
                                        refine Or.inl ⟨by first | rfl | (go_simp; done), ?_⟩
                                        intro w hS
                                        clear hS
                                        go_simp
                                        try with_reducible rfl
                                      try simp only [Act.put, List.getElem_toArray, List.getElem_cons_succ, List.getElem_cons_zero, List.setIfInBounds_toArray, List.set_cons_succ, List.set_cons_zero]
                                      refine any2H 11 12 (by kernel_rfl) rfl rfl (fun K hK => ?_) (fun K hK => ?_)
                                      rotate_right 1
                                      case' _ =>
                                        go_wp2_with (first | ((with_reducible refine gate_dst (N := 11) rfl ?_); go_must (refine M.out.ev_new rfl (by first | (go_simp; done) | (go_simp; rfl)) ?_); intro g11 w11 m; simp only [List.cons_append, List.nil_append] at m; have M := Lib.hid m; clear m))
                                        refine onward_normal (hK _ _ ⟨(by first | exact M.out | exact M.out.take 3), ?_⟩)
                                        clear hK K
                                        try simp only [Act.put, List.getElem_toArray, List.getElem_cons_succ, List.getElem_cons_zero, List.setIfInBounds_toArray, List.set_cons_succ, List.set_cons_zero]
                                        exact REST2 g11 w11 M.out
                                      rotate_right 1
                                      case' _ =>
                                        go_wp2_with (first | ((with_reducible refine gate_dst (N := 10) rfl ?_); go_must (refine M.out.ev_new rfl (by first | (go_simp; done) | (go_simp; rfl)) ?_); intro g10 w10 m; simp only [List.cons_append, List.nil_append] at m; have M := Lib.hid m; clear m))
                                        refine onward_normal (hK _ _ ⟨(by first | exact M.out | exact M.out.take 3), ?_⟩)
                                        clear hK K
                                        try simp only [Act.put, List.getElem_toArray, List.getElem_cons_succ, List.getElem_cons_zero, List.setIfInBounds_toArray, List.set_cons_succ, List.set_cons_zero]
                                        exact REST3 g10 w10 M.out
                            case hB =>
                              intro g10 w_ m
                              have M := Lib.hid m
                              clear m
                              refine any2H 3 12 (by kernel_rfl) rfl rfl (fun K hK => ?_) (fun K hK => ?_)
                              rotate_right 1
                              case' _ =>
                                go_wp2_with (first | ((with_reducible refine gate_dst (N := 11) rfl ?_); go_must (refine M.out.ev_new rfl (by first | (go_simp; done) | (go_simp; rfl)) ?_); intro g11 w11 m; simp only [List.cons_append, List.nil_append] at m; have M := Lib.hid m; clear m))
                                refine onward_normal (hK _ _ ⟨(by first | exact M.out | exact M.out.take 3), ?_⟩)
                                clear hK K
                                try simp only [Act.put, List.getElem_toArray, List.getElem_cons_succ, List.getElem_cons_zero, List.setIfInBounds_toArray, List.set_cons_succ, List.set_cons_zero]
                                exact REST8 g10 g11 w11 M.out
                              rotate_right 1
                              case' _ =>
                                go_wp2_with (first | (go_at_call 17; go_must (refine (toFears_any fs hfl _).mono ?_); rintro e w_ ⟨rfl, hB_⟩; have M := Lib.hid (M.out.kept hB_); clear hB_))
                                refine onward_normal (hK _ _ ⟨(by first | exact M.out | exact M.out.take 3), ?_⟩)
                                clear hK K
                                try simp only [Act.put, List.getElem_toArray, List.getElem_cons_succ, List.getElem_cons_zero, List.setIfInBounds_toArray, List.set_cons_succ, List.set_cons_zero]
                                exact REST10 g10 w_ M.out
                          case hB =>
                            intro g10 g11 w_ m
                            have M := Lib.hid m
                            clear m
                            refine any1H 1 (by kernel_rfl) rfl (fun K hK => ?_)
                            go_wp2_with (first | (go_at_call 16; go_must (refine (toField_any F hF.toLen _).mono ?_); rintro e w_ ⟨rfl, hB_⟩; have M := Lib.hid (M.out.kept hB_); clear hB_))
                            refine onward_normal (hK _ _ ⟨(by first | exact M.out | exact M.out.take 3), ?_⟩)
                            clear hK K
                            try simp only [Act.put, List.getElem_toArray, List.getElem_cons_succ, List.getElem_cons_zero, List.setIfInBounds_toArray, List.set_cons_succ, List.set_cons_zero]
                            exact REST8 g10 g11 w_ M.out
                        case hB =>
                          intro g11 w_ m
                          have M := Lib.hid m
                          clear m
                          refine any2H 3 11 (by kernel_rfl) rfl rfl (fun K hK => ?_) (fun K hK => ?_)
                          rotate_right 1
                          case' _ =>
                            go_wp2_with (first | ((with_reducible refine gate_dst (N := 10) rfl ?_); go_must (refine M.out.ev_new rfl (by first | (go_simp; done) | (go_simp; rfl)) ?_); intro g10 w10 m; simp only [List.cons_append, List.nil_append] at m; have M := Lib.hid m; clear m))
                            refine onward_normal (hK _ _ ⟨(by first | exact M.out | exact M.out.take 3), ?_⟩)
                            clear hK K
                            try simp only [Act.put, List.getElem_toArray, List.getElem_cons_succ, List.getElem_cons_zero, List.setIfInBounds_toArray, List.set_cons_succ, List.set_cons_zero]
                            have m := M.out.only [0, 1, 2, 3, 4, 6, 5] (K := [_, _, _, _, _, _, _]) rfl (by decide)
                            exact REST8 g10 g11 w10 m
                          rotate_right 1
                          case' _ =>
                            go_wp2_with (first | (go_at_call 17; go_must (refine (toFears_any fs hfl _).mono ?_); rintro e w_ ⟨rfl, hB_⟩; have M := Lib.hid (M.out.kept hB_); clear hB_))
                            refine onward_normal (hK _ _ ⟨(by first | exact M.out | exact M.out.take 3), ?_⟩)
                            clear hK K
                            try simp only [Act.put, List.getElem_toArray, List.getElem_cons_succ, List.getElem_cons_zero, List.setIfInBounds_toArray, List.set_cons_succ, List.set_cons_zero]
                            exact REST9 g11 w_ M.out
                      case hB =>
                        intro g10 w_ m
                        have M := Lib.hid m
                        clear m
                        refine any2H 5 12 (by kernel_rfl) rfl rfl (fun K hK => ?_) (fun K hK => ?_)
                        rotate_right 1
                        case' _ =>
                          go_wp2_with (first | ((with_reducible refine gate_dst (N := 11) rfl ?_); go_must (refine M.out.ev_new rfl (by first | (go_simp; done) | (go_simp; rfl)) ?_); intro g11 w11 m; simp only [List.cons_append, List.nil_append] at m; have M := Lib.hid m; clear m))
                          refine onward_normal (hK _ _ ⟨(by first | exact M.out | exact M.out.take 3), ?_⟩)
                          clear hK K
                          try simp only [Act.put, List.getElem_toArray, List.getElem_cons_succ, List.getElem_cons_zero, List.setIfInBounds_toArray, List.set_cons_succ, List.set_cons_zero]
                          exact REST5 g10 g11 w11 M.out
                        rotate_right 1
                        case' _ =>
                          go_wp2_with (first | (go_at_call 18; go_must (refine (toFlock_any x _).mono ?_); rintro e w_ ⟨rfl, N_⟩; have m := M.out.join N_; clear N_; simp only [List.cons_append, List.nil_append, List.append_nil] at m; have M := Lib.hid m; clear m))
                          refine onward_normal (hK _ _ ⟨(by first | exact M.out | exact M.out.take 3), ?_⟩)
                          clear hK K
                          try simp only [Act.put, List.getElem_toArray, List.getElem_cons_succ, List.getElem_cons_zero, List.setIfInBounds_toArray, List.set_cons_succ, List.set_cons_zero]
                          exact REST7 g10 w_ M.out
                    case hB =>
                      intro g11 w_ m
                      have M := Lib.hid m
                      clear m
                      refine any2H 5 11 (by kernel_rfl) rfl rfl (fun K hK => ?_) (fun K hK => ?_)
                      rotate_right 1
                      case' _ =>
                        go_wp2_with (first | ((with_reducible refine gate_dst (N := 10) rfl ?_); go_must (refine M.out.ev_new rfl (by first | (go_simp; done) | (go_simp; rfl)) ?_); intro g10 w10 m; simp only [List.cons_append, List.nil_append] at m; have M := Lib.hid m; clear m))
                        refine onward_normal (hK _ _ ⟨(by first | exact M.out | exact M.out.take 3), ?_⟩)
                        clear hK K
                        try simp only [Act.put, List.getElem_toArray, List.getElem_cons_succ, List.getElem_cons_zero, List.setIfInBounds_toArray, List.set_cons_succ, List.set_cons_zero]
                        have m := M.out.only [0, 1, 2, 3, 4, 6, 5] (K := [_, _, _, _, _, _, _]) rfl (by decide)
                        exact REST5 g10 g11 w10 m
                      rotate_right 1
                      case' _ =>
                        go_wp2_with (first | (go_at_call 18; go_must (refine (toFlock_any x _).mono ?_); rintro e w_ ⟨rfl, N_⟩; have m := M.out.join N_; clear N_; simp only [List.cons_append, List.nil_append, List.append_nil] at m; have M := Lib.hid m; clear m))
                        refine onward_normal (hK _ _ ⟨(by first | exact M.out | exact M.out.take 3), ?_⟩)
                        clear hK K
                        try simp only [Act.put, List.getElem_toArray, List.getElem_cons_succ, List.getElem_cons_zero, List.setIfInBounds_toArray, List.set_cons_succ, List.set_cons_zero]
                        exact REST6 g11 w_ M.out
                  case hB =>
                    intro g10 g11 w_ m
                    have M := Lib.hid m
                    clear m
                    refine any1H 3 (by kernel_rfl) rfl (fun K hK => ?_)
                    go_wp2_with (first | (go_at_call 17; go_must (refine (toFears_any fs hfl _).mono ?_); rintro e w_ ⟨rfl, hB_⟩; have M := Lib.hid (M.out.kept hB_); clear hB_))
                    refine onward_normal (hK _ _ ⟨(by first | exact M.out | exact M.out.take 3), ?_⟩)
                    clear hK K
                    try simp only [Act.put, List.getElem_toArray, List.getElem_cons_succ, List.getElem_cons_zero, List.setIfInBounds_toArray, List.set_cons_succ, List.set_cons_zero]
                    exact REST5 g10 g11 w_ M.out
                case hB =>
                  intro g10 w_ m
                  have M := Lib.hid m
                  clear m
                  refine any2H 6 12 (by kernel_rfl) rfl rfl (fun K hK => ?_) (fun K hK => ?_)
                  rotate_right 1
                  case' _ =>
                    go_wp2_with (first | ((with_reducible refine gate_dst (N := 11) rfl ?_); go_must (refine M.out.ev_new rfl (by first | (go_simp; done) | (go_simp; rfl)) ?_); intro g11 w11 m; simp only [List.cons_append, List.nil_append] at m; have M := Lib.hid m; clear m))
                    refine onward_normal (hK _ _ ⟨(by first | exact M.out | exact M.out.take 3), ?_⟩)
                    clear hK K
                    try simp only [Act.put, List.getElem_toArray, List.getElem_cons_succ, List.getElem_cons_zero, List.setIfInBounds_toArray, List.set_cons_succ, List.set_cons_zero]
                    exact REST4 g10 g11 w11 M.out
                  rotate_right 1
                  case' _ =>
                    go_wp2_with (first | (go_at_call 51; go_must (refine (IM.out _).mono ?_); rintro e w_ ⟨rfl, N_⟩; have m := M.out.join N_; clear N_; simp only [List.cons_append, List.nil_append, List.append_nil] at m; have M := Lib.hid m; clear m))
                    refine onward_normal (hK _ _ ⟨(by first | exact M.out | exact M.out.take 3), ?_⟩)
                    clear hK K
                    try simp only [Act.put, List.getElem_toArray, List.getElem_cons_succ, List.getElem_cons_zero, List.setIfInBounds_toArray, List.set_cons_succ, List.set_cons_zero]
                    apply takeH (i := 7) 24 rfl (by kernel_rfl) (by kernel_rfl) (by kernel_rfl) (fun _ _ _ h => h) rfl (by first | exact M.out | exact M.out.take 3)
                    case' hy =>
                      refine Or.inl ⟨by first | rfl | (go_simp; done), ?_⟩
                      intro w hS
                      clear hS
                      go_simp
                      try with_reducible rfl
                    try simp only [Act.put, List.getElem_toArray, List.getElem_cons_succ, List.getElem_cons_zero, List.setIfInBounds_toArray, List.set_cons_succ, List.set_cons_zero]
                    apply takeH (i := 8) 32 rfl (by kernel_rfl) (by kernel_rfl) (by kernel_rfl) (fun _ _ _ h => h) rfl (by first | exact M.out | exact M.out.take 3)
                    case' hy =>
                      refine Or.inl ⟨by first | rfl | (go_simp; done), ?_⟩
                      intro w hS
                      clear hS
                      go_simp
                      try with_reducible rfl
                    try simp only [Act.put, List.getElem_toArray, List.getElem_cons_succ, List.getElem_cons_zero, List.setIfInBounds_toArray, List.set_cons_succ, List.set_cons_zero]
                    apply takeH (i := 9) 33 rfl (by kernel_rfl) (by kernel_rfl) (by kernel_rfl) (fun _ _ _ h => h) rfl (by first | exact M.out | exact M.out.take 3)
                    case' hy =>
                      refine Or.inl ⟨by first | rfl | (go_simp; done), ?_⟩
                      intro w hS
                      clear hS
                      go_simp
                      try with_reducible rfl
                    try simp only [Act.put, List.getElem_toArray, List.getElem_cons_succ, List.getElem_cons_zero, List.setIfInBounds_toArray, List.set_cons_succ, List.set_cons_zero]
                    apply takeH (i := 10) 34 rfl (by kernel_rfl) (by kernel_rfl) (by kernel_rfl) (fun _ _ _ h => h) rfl (by first | exact M.out | exact M.out.take 3)
                    case' hy =>
                      refine Or.inl ⟨by first | rfl | (go_simp; done), ?_⟩
                      intro w hS
                      clear hS
                      go_simp
                      try with_reducible rfl
                    try simp only [Act.put, List.getElem_toArray, List.getElem_cons_succ, List.getElem_cons_zero, List.setIfInBounds_toArray, List.set_cons_succ, List.set_cons_zero]
                    exact REST3 g10 w_ M.out
              case hB =>
                intro g11 w_ m
                have M := Lib.hid m
                clear m
                refine any2H 6 11 (by kernel_rfl) rfl rfl (fun K hK => ?_) (fun K hK => ?_)
                rotate_right 1
                case' _ =>
                  go_wp2_with (first | ((with_reducible refine gate_dst (N := 10) rfl ?_); go_must (refine M.out.ev_new rfl (by first | (go_simp; done) | (go_simp; rfl)) ?_); intro g10 w10 m; simp only [List.cons_append, List.nil_append] at m; have M := Lib.hid m; clear m))
                  refine onward_normal (hK _ _ ⟨(by first | exact M.out | exact M.out.take 3), ?_⟩)
                  clear hK K
                  try simp only [Act.put, List.getElem_toArray, List.getElem_cons_succ, List.getElem_cons_zero, List.setIfInBounds_toArray, List.set_cons_succ, List.set_cons_zero]
                  have m := M.out.only [0, 1, 2, 3, 4, 6, 5] (K := [_, _, _, _, _, _, _]) rfl (by decide)
                  exact REST4 g10 g11 w10 m
                rotate_right 1
                case' _ =>
                  go_wp2_with (first | (go_at_call 51; go_must (refine (IM.out _).mono ?_); rintro e w_ ⟨rfl, N_⟩; have m := M.out.join N_; clear N_; simp only [List.cons_append, List.nil_append, List.append_nil] at m; have M := Lib.hid m; clear m))
                  refine onward_normal (hK _ _ ⟨(by first | exact M.out | exact M.out.take 3), ?_⟩)
                  clear hK K
                  try simp only [Act.put, List.getElem_toArray, List.getElem_cons_succ, List.getElem_cons_zero, List.setIfInBounds_toArray, List.set_cons_succ, List.set_cons_zero]
                  apply takeH (i := 7) 24 rfl (by kernel_rfl) (by kernel_rfl) (by kernel_rfl) (fun _ _ _ h => h) rfl (by first | exact M.out | exact M.out.take 3)
                  case' hy =>
                    refine Or.inl ⟨by first | rfl | (go_simp; done), ?_⟩
                    intro w hS
                    clear hS
                    go_simp
                    try with_reducible rfl
                  try simp only [Act.put, List.getElem_toArray, List.getElem_cons_succ, List.getElem_cons_zero, List.setIfInBounds_toArray, List.set_cons_succ, List.set_cons_zero]
                  apply takeH (i := 8) 32 rfl (by kernel_rfl) (by kernel_rfl) (by kernel_rfl) (fun _ _ _ h => h) rfl (by first | exact M.out | exact M.out.take 3)
                  case' hy =>
                    refine Or.inl ⟨by first | rfl | (go_simp; done), ?_⟩
                    intro w hS
                    clear hS
                    go_simp
                    try with_reducible rfl
                  try simp only [Act.put, List.getElem_toArray, List.getElem_cons_succ, List.getElem_cons_zero, List.setIfInBounds_toArray, List.set_cons_succ, List.set_cons_zero]
                  apply takeH (i := 9) 33 rfl (by kernel_rfl) (by kernel_rfl) (by kernel_rfl) (fun _ _ _ h => h) rfl (by first | exact M.out | exact M.out.take 3)
                  case' hy =>
                    refine Or.inl ⟨by first | rfl | (go_simp; done), ?_⟩
                    intro w hS
                    clear hS
                    go_simp
                    try with_reducible rfl
                  try simp only [Act.put, List.getElem_toArray, List.getElem_cons_succ, List.getElem_cons_zero, List.setIfInBounds_toArray, List.set_cons_succ, List.set_cons_zero]
                  apply takeH (i := 10) 34 rfl (by kernel_rfl) (by kernel_rfl) (by kernel_rfl) (fun _ _ _ h => h) rfl (by first | exact M.out | exact M.out.take 3)
                  case' hy =>
                    refine Or.inl ⟨by first | rfl | (go_simp; done), ?_⟩
                    intro w hS
                    clear hS
                    go_simp
                    try with_reducible rfl
                  try simp only [Act.put, List.getElem_toArray, List.getElem_cons_succ, List.getElem_cons_zero, List.setIfInBounds_toArray, List.set_cons_succ, List.set_cons_zero]
                  exact REST2 g11 w_ M.out
            case hB =>
              intro g10 g11 w_ m
              have M := Lib.hid m
              clear m
              refine any1H 5 (by kernel_rfl) rfl (fun K hK => ?_)
              go_wp2_with (first | (go_at_call 18; go_must (refine (toFlock_any x _).mono ?_); rintro e w_ ⟨rfl, N_⟩; have m := M.out.join N_; clear N_; simp only [List.cons_append, List.nil_append, List.append_nil] at m; have M := Lib.hid m; clear m))
              refine onward_normal (hK _ _ ⟨(by first | exact M.out | exact M.out.take 3), ?_⟩)
              clear hK K
              try simp only [Act.put, List.getElem_toArray, List.getElem_cons_succ, List.getElem_cons_zero, List.setIfInBounds_toArray, List.set_cons_succ, List.set_cons_zero]
              exact REST4 g10 g11 w_ M.out
          case hB =>
            intro g10 g11 w_ m
            have M := Lib.hid m
            clear m
            refine any1H 6 (by kernel_rfl) rfl (fun K hK => ?_)
            go_wp2_with (first | (go_at_call 51; go_must (refine (IM.out _).mono ?_); rintro e w_ ⟨rfl, N_⟩; have m := M.out.join N_; clear N_; simp only [List.cons_append, List.nil_append, List.append_nil] at m; have M := Lib.hid m; clear m))
            refine onward_normal (hK _ _ ⟨(by first | exact M.out | exact M.out.take 3), ?_⟩)
            clear hK K
            try simp only [Act.put, List.getElem_toArray, List.getElem_cons_succ, List.getElem_cons_zero, List.setIfInBounds_toArray, List.set_cons_succ, List.set_cons_zero]
            apply takeH (i := 7) 24 rfl (by kernel_rfl) (by kernel_rfl) (by kernel_rfl) (fun _ _ _ h => h) rfl (by first | exact M.out | exact M.out.take 3)
            case' hy =>
              refine Or.inl ⟨by first | rfl | (go_simp; done), ?_⟩
              intro w hS
              clear hS
              go_simp
              try with_reducible rfl
            try simp only [Act.put, List.getElem_toArray, List.getElem_cons_succ, List.getElem_cons_zero, List.setIfInBounds_toArray, List.set_cons_succ, List.set_cons_zero]
            apply takeH (i := 8) 32 rfl (by kernel_rfl) (by kernel_rfl) (by kernel_rfl) (fun _ _ _ h => h) rfl (by first | exact M.out | exact M.out.take 3)
            case' hy =>
              refine Or.inl ⟨by first | rfl | (go_simp; done), ?_⟩
              intro w hS
              clear hS
              go_simp
              try with_reducible rfl
            try simp only [Act.put, List.getElem_toArray, List.getElem_cons_succ, List.getElem_cons_zero, List.setIfInBounds_toArray, List.set_cons_succ, List.set_cons_zero]
            apply takeH (i := 9) 33 rfl (by kernel_rfl) (by kernel_rfl) (by kernel_rfl) (fun _ _ _ h => h) rfl (by first | exact M.out | exact M.out.take 3)
            case' hy =>
              refine Or.inl ⟨by first | rfl | (go_simp; done), ?_⟩
              intro w hS
              clear hS
              go_simp
              try with_reducible rfl
            try simp only [Act.put, List.getElem_toArray, List.getElem_cons_succ, List.getElem_cons_zero, List.setIfInBounds_toArray, List.set_cons_succ, List.set_cons_zero]
            apply takeH (i := 10) 34 rfl (by kernel_rfl) (by kernel_rfl) (by kernel_rfl) (fun _ _ _ h => h) rfl (by first | exact M.out | exact M.out.take 3)
            case' hy =>
              refine Or.inl ⟨by first | rfl | (go_simp; done), ?_⟩
              intro w hS
              clear hS
              go_simp
              try with_reducible rfl
            try simp only [Act.put, List.getElem_toArray, List.getElem_cons_succ, List.getElem_cons_zero, List.setIfInBounds_toArray, List.set_cons_succ, List.set_cons_zero]
            exact REST1 g10 g11 w_ M.out
        case hB =>
          intro g10 w_ m
          have M := Lib.hid m
          clear m
          refine any1H 12 (by kernel_rfl) rfl (fun K hK => ?_)
          go_wp2_with (first | ((with_reducible refine gate_dst (N := 11) rfl ?_); go_must (refine M.out.ev_new rfl (by first | (go_simp; done) | (go_simp; rfl)) ?_); intro g11 w11 m; simp only [List.cons_append, List.nil_append] at m; have M := Lib.hid m; clear m))
          refine onward_normal (hK _ _ ⟨(by first | exact M.out | exact M.out.take 3), ?_⟩)
          clear hK K
          try simp only [Act.put, List.getElem_toArray, List.getElem_cons_succ, List.getElem_cons_zero, List.setIfInBounds_toArray, List.set_cons_succ, List.set_cons_zero]
          exact REST1 g10 g11 w11 M.out
      case hB =>
        intro g11 w_ m
        have M := Lib.hid m
        clear m
        refine any1H 11 (by kernel_rfl) rfl (fun K hK => ?_)
        go_wp2_with (first | ((with_reducible refine gate_dst (N := 10) rfl ?_); go_must (refine M.out.ev_new rfl (by first | (go_simp; done) | (go_simp; rfl)) ?_); intro g10 w10 m; simp only [List.cons_append, List.nil_append] at m; have M := Lib.hid m; clear m))
        refine onward_normal (hK _ _ ⟨(by first | exact M.out | exact M.out.take 3), ?_⟩)
        clear hK K
        try simp only [Act.put, List.getElem_toArray, List.getElem_cons_succ, List.getElem_cons_zero, List.setIfInBounds_toArray, List.set_cons_succ, List.set_cons_zero]
        have m := M.out.only [0, 1, 2, 3, 4, 6, 5] (K := [_, _, _, _, _, _, _]) rfl (by decide)
        exact REST1 g10 g11 w10 m
    case hB =>
      intro g10 g11 w_ m
      have M := Lib.hid m
      clear m
      refine any1H 13 (by kernel_rfl) rfl (fun K hK => ?_)
      go_wp2_with (first | ((with_reducible refine gate_store (x := .tmp 10) rfl ?_); go_must (first | (refine M.out.ev_stw 5 _ _ _ rfl rfl rfl rfl _ rfl (by first | rfl | (simp only [S1.out]; rfl) | (simp only [S1.out, S2.out]; rfl) | (simp only [S3.out]; rfl) | (simp only [S1.out, S2.out, S3.out]; rfl)) (by first | exact sz35 | (rw [S1.out]; exact sz35) | (rw [S2.out]; exact sz35) | (rw [S3.out]; exact sz35)) (by first | exact ints_one _ _ | exact Fld.one _ | exact O1.out | exact V1.out | rfl | (simp [Value.oneCell']; done)) rfl ?_) | (refine M.out.ev_stw 6 _ _ _ rfl rfl rfl rfl _ rfl (by first | rfl | (simp only [S1.out]; rfl) | (simp only [S1.out, S2.out]; rfl) | (simp only [S3.out]; rfl) | (simp only [S1.out, S2.out, S3.out]; rfl)) (by first | exact sz35 | (rw [S1.out]; exact sz35) | (rw [S2.out]; exact sz35) | (rw [S3.out]; exact sz35)) (by first | exact ints_one _ _ | exact Fld.one _ | exact O1.out | exact V1.out | rfl | (simp [Value.oneCell']; done)) rfl ?_)); intro wn m; simp only [List.set_cons_succ, List.set_cons_zero, List.setIfInBounds_toArray] at m; have M := Lib.hid m; clear m))
      refine onward_normal (hK _ _ ⟨(by first | exact M.out | exact M.out.take 3), ?_⟩)
      clear hK K
      try simp only [Act.put, List.getElem_toArray, List.getElem_cons_succ, List.getElem_cons_zero, List.setIfInBounds_toArray, List.set_cons_succ, List.set_cons_zero]
      refine any1H 14 (by kernel_rfl) rfl (fun K hK => ?_)
      go_wp2_with (first | ((with_reducible refine gate_store (x := .tmp 11) rfl ?_); go_must (first | (refine M.out.ev_stw 5 _ _ _ rfl rfl rfl rfl _ rfl (by first | rfl | (simp only [S1.out]; rfl) | (simp only [S1.out, S2.out]; rfl) | (simp only [S3.out]; rfl) | (simp only [S1.out, S2.out, S3.out]; rfl)) (by first | exact sz79 | (rw [S1.out]; exact sz79) | (rw [S2.out]; exact sz79) | (rw [S3.out]; exact sz79)) (by first | exact ints_one _ _ | exact Fld.one _ | exact O1.out | exact V1.out | rfl | (simp [Value.oneCell']; done)) rfl ?_) | (refine M.out.ev_stw 6 _ _ _ rfl rfl rfl rfl _ rfl (by first | rfl | (simp only [S1.out]; rfl) | (simp only [S1.out, S2.out]; rfl) | (simp only [S3.out]; rfl) | (simp only [S1.out, S2.out, S3.out]; rfl)) (by first | exact sz79 | (rw [S1.out]; exact sz79) | (rw [S2.out]; exact sz79) | (rw [S3.out]; exact sz79)) (by first | exact ints_one _ _ | exact Fld.one _ | exact O1.out | exact V1.out | rfl | (simp [Value.oneCell']; done)) rfl ?_)); intro wn m; simp only [List.set_cons_succ, List.set_cons_zero, List.setIfInBounds_toArray] at m; have M := Lib.hid m; clear m))
      refine onward_normal (hK _ _ ⟨(by first | exact M.out | exact M.out.take 3), ?_⟩)
      clear hK K
      try simp only [Act.put, List.getElem_toArray, List.getElem_cons_succ, List.getElem_cons_zero, List.setIfInBounds_toArray, List.set_cons_succ, List.set_cons_zero]
      apply takeH (i := 15) 12 rfl (by kernel_rfl) (by kernel_rfl) (by kernel_rfl) (fun _ _ _ h => h) rfl (by first | exact M.out | exact M.out.take 3)
      case' hy =>
        refine Or.inl ⟨by first | rfl | (go_simp; done), ?_⟩
        intro w hS
        clear hS
        go_simp
        try with_reducible rfl
      try simp only [Act.put, List.getElem_toArray, List.getElem_cons_succ, List.getElem_cons_zero, List.setIfInBounds_toArray, List.set_cons_succ, List.set_cons_zero]
      exact REST0 g10 g11 wn M.out
  intro g10 g11 w_ m
  have M := Lib.hid m
  clear m M9
  refine wpAnyH_done (by kernel_rfl) ?_ _
  go_wp2_with (first
    | ((with_reducible refine gate_dst (N := 40) rfl ?_); refine gate_want rfl ?_; go_must (refine M.out.ev_ldw 6 _ _ rfl rfl rfl Try.underlying79 rfl sz79 rfl ?_))
    | ((with_reducible refine gate_dst (N := 41) rfl ?_); refine gate_want rfl ?_; go_must (refine M.out.ev_ldw 4 _ _ rfl rfl rfl Try.underlying79 rfl sz79 rfl ?_))
    | ((with_reducible refine gate_dst (N := 3) rfl ?_); go_must (refine M.out.ev_new rfl (by first | (go_simp; done) | (go_simp; rfl)) ?_); intro g3 w3 m; simp only [List.cons_append, List.nil_append] at m; have M := Lib.hid m; clear m)
    | ((with_reducible refine gate_dst (N := 4) rfl ?_); go_must (refine M.out.ev_new rfl (by first | (go_simp; done) | (go_simp; rfl)) ?_); intro g4 w4 m; simp only [List.cons_append, List.nil_append] at m; have M := Lib.hid m; clear m)
    | ((with_reducible refine gate_dst (N := 5) rfl ?_); go_must (refine M.out.ev_new rfl (by first | (go_simp; done) | (go_simp; rfl)) ?_); intro g5 w5 m; simp only [List.cons_append, List.nil_append] at m; have M := Lib.hid m; clear m)
    | ((with_reducible refine gate_dst (N := 14) rfl ?_); go_must (refine M.out.ev_ldw 0 _ _ rfl rfl rfl Try.underlying27 rfl (by first | exact sz27 | (rw [S1.out]; exact sz27) | (rw [S2.out]; exact sz27) | (rw [S3.out]; exact sz27)) rfl ?_))
    | ((with_reducible refine gate_dst (N := 16) rfl ?_); go_must (refine M.out.ev_ldw 1 _ _ rfl rfl rfl Try.underlying25 rfl (by first | exact sz25 | (rw [S1.out]; exact sz25) | (rw [S2.out]; exact sz25) | (rw [S3.out]; exact sz25)) rfl ?_))
    | ((with_reducible refine gate_dst (N := 18) rfl ?_); go_must (refine M.out.ev_ldw 2 _ _ rfl rfl rfl Try.underlying29 rfl (by first | exact sz29 | (rw [S1.out]; exact sz29) | (rw [S2.out]; exact sz29) | (rw [S3.out]; exact sz29)) rfl ?_))
    | ((with_reducible refine gate_dst (N := 7) rfl ?_); go_must (refine M.out.ev_new rfl (by first | (go_simp; done) | (go_simp; rfl)) ?_); intro g7 w7 m; simp only [List.cons_append, List.nil_append] at m; have M := Lib.hid m; clear m)
    | ((with_reducible refine gate_dst (N := 8) rfl ?_); go_must (refine M.out.ev_new rfl (by first | (go_simp; done) | (go_simp; rfl)) ?_); intro g8 w8 m; simp only [List.cons_append, List.nil_append] at m; have M := Lib.hid m; clear m)
    | ((with_reducible refine gate_store (x := .tmp 7) rfl ?_); go_must (refine M.out.ev_stw 3 _ _ _ rfl rfl rfl rfl _ rfl (by first | rfl | (simp only [S1.out]; rfl) | (simp only [S1.out, S2.out]; rfl) | (simp only [S3.out]; rfl) | (simp only [S1.out, S2.out, S3.out]; rfl)) (by first | exact sz35 | (rw [S1.out]; exact sz35) | (rw [S2.out]; exact sz35) | (rw [S3.out]; exact sz35)) (by first | exact ints_one _ _ | exact Fld.one _ | exact O1.out | exact V1.out | rfl | (simp [Value.oneCell']; done)) rfl ?_); intro wn m; simp only [List.set_cons_succ, List.set_cons_zero, List.setIfInBounds_toArray] at m; have M := Lib.hid m; clear m)
    | ((with_reducible refine gate_store (x := .tmp 8) rfl ?_); go_must (refine M.out.ev_stw 4 _ _ _ rfl rfl rfl rfl _ rfl (by first | rfl | (simp only [S1.out]; rfl) | (simp only [S1.out, S2.out]; rfl) | (simp only [S3.out]; rfl) | (simp only [S1.out, S2.out, S3.out]; rfl)) (by first | exact sz79 | (rw [S1.out]; exact sz79) | (rw [S2.out]; exact sz79) | (rw [S3.out]; exact sz79)) (by first | exact ints_one _ _ | exact Fld.one _ | exact O1.out | exact V1.out | rfl | (simp [Value.oneCell']; done)) rfl ?_); intro wn m; simp only [List.set_cons_succ, List.set_cons_zero, List.setIfInBounds_toArray] at m; have M := Lib.hid m; clear m)
    | ((with_reducible refine gate_dst (N := 25) rfl ?_); go_must (refine M.out.ev_ldw 0 _ _ rfl rfl rfl Try.underlying27 rfl (by first | exact sz27 | (rw [S1.out]; exact sz27) | (rw [S2.out]; exact sz27) | (rw [S3.out]; exact sz27)) rfl ?_))
    | ((with_reducible refine gate_dst (N := 27) rfl ?_); go_must (refine M.out.ev_ldw 1 _ _ rfl rfl rfl Try.underlying25 rfl (by first | exact sz25 | (rw [S1.out]; exact sz25) | (rw [S2.out]; exact sz25) | (rw [S3.out]; exact sz25)) rfl ?_))
    | ((with_reducible refine gate_dst (N := 29) rfl ?_); go_must (refine M.out.ev_ldw 2 _ _ rfl rfl rfl Try.underlying29 rfl (by first | exact sz29 | (rw [S1.out]; exact sz29) | (rw [S2.out]; exact sz29) | (rw [S3.out]; exact sz29)) rfl ?_))
    | ((with_reducible refine gate_dst (N := 10) rfl ?_); go_must (refine M.out.ev_new rfl (by first | (go_simp; done) | (go_simp; rfl)) ?_); intro g10 w10 m; simp only [List.cons_append, List.nil_append] at m; have M := Lib.hid m; clear m)
    | ((with_reducible refine gate_dst (N := 11) rfl ?_); go_must (refine M.out.ev_new rfl (by first | (go_simp; done) | (go_simp; rfl)) ?_); intro g11 w11 m; simp only [List.cons_append, List.nil_append] at m; have M := Lib.hid m; clear m)
    | ((with_reducible refine gate_store (x := .tmp 10) rfl ?_); go_must (refine M.out.ev_stw 5 _ _ _ rfl rfl rfl rfl _ rfl (by first | rfl | (simp only [S1.out]; rfl) | (simp only [S1.out, S2.out]; rfl) | (simp only [S3.out]; rfl) | (simp only [S1.out, S2.out, S3.out]; rfl)) (by first | exact sz35 | (rw [S1.out]; exact sz35) | (rw [S2.out]; exact sz35) | (rw [S3.out]; exact sz35)) (by first | exact ints_one _ _ | exact Fld.one _ | exact O1.out | exact V1.out | rfl | (simp [Value.oneCell']; done)) rfl ?_); intro wn m; simp only [List.set_cons_succ, List.set_cons_zero, List.setIfInBounds_toArray] at m; have M := Lib.hid m; clear m)
    | ((with_reducible refine gate_store (x := .tmp 11) rfl ?_); go_must (refine M.out.ev_stw 6 _ _ _ rfl rfl rfl rfl _ rfl (by first | rfl | (simp only [S1.out]; rfl) | (simp only [S1.out, S2.out]; rfl) | (simp only [S3.out]; rfl) | (simp only [S1.out, S2.out, S3.out]; rfl)) (by first | exact sz79 | (rw [S1.out]; exact sz79) | (rw [S2.out]; exact sz79) | (rw [S3.out]; exact sz79)) (by first | exact ints_one _ _ | exact Fld.one _ | exact O1.out | exact V1.out | rfl | (simp [Value.oneCell']; done)) rfl ?_); intro wn m; simp only [List.set_cons_succ, List.set_cons_zero, List.setIfInBounds_toArray] at m; have M := Lib.hid m; clear m)
    | ((with_reducible refine gate_dst (N := 35) rfl ?_); go_must (refine M.out.ev_ldw 5 _ _ rfl rfl rfl Try.underlying35 rfl (by first | exact sz35 | (rw [S1.out]; exact sz35) | (rw [S2.out]; exact sz35) | (rw [S3.out]; exact sz35)) rfl ?_))
    | ((with_reducible refine gate_dst (N := 36) rfl ?_); go_must (refine M.out.ev_ldw 3 _ _ rfl rfl rfl Try.underlying35 rfl (by first | exact sz35 | (rw [S1.out]; exact sz35) | (rw [S2.out]; exact sz35) | (rw [S3.out]; exact sz35)) rfl ?_))
    | (go_at_call 52; go_must (refine (eqField_any R LF.out _).mono ?_); rintro e w_ ⟨rfl, N_⟩; have m := M.out.join N_; clear N_; simp only [List.cons_append, List.nil_append, List.append_nil] at m; have M := Lib.hid m; clear m)
    | (go_at_call 53; go_must (refine (eqVisit_any V V _).mono ?_); rintro e w_ ⟨rfl, N_⟩; have m := M.out.join N_; clear N_; simp only [List.cons_append, List.nil_append, List.append_nil] at m; have M := Lib.hid m; clear m; rw [decide_eq_true rfl])
    )
  go_ret
  exact ⟨ret_bool rfl, M.out.take 0⟩
end Go.Proofs.Ytbjcajhbhicokaa
