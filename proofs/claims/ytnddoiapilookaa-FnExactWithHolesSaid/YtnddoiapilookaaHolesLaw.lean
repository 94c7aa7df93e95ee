/- The law of the cells under nets with holes: its walk. -/
import Derived.Test.YtnddoiapilookaaHoles
namespace Go.Proofs.Ytnddoiapilookaa
set_option linter.unusedSimpArgs false
set_option linter.unusedVariables false
open Go.RowKit
attribute [local go_sem] cell?_mk frozen?_mk
--ONES exact Cs.one _
set_option maxRecDepth 100000 in
set_option maxHeartbeats 4000000 in
theorem lawWithHoles_any (F : Fld) (hF : F.ok) (A : Option Addr) (n : Nat) (xs : List Net) (hx : ∀ x ∈ xs, x.ok) (hm : xs.length ≤ 9223372036854775807) (c : Cs) (hc : c.ok) (w : World) (hs : Sl w 4 A xs.length (flat Net.vals xs)) :
    Calls Try.prog 7 #[.agg F.cells, .slice A xs.length n, .agg c.cells] w fun e w' => e = .returned (.bool true) ∧ Mem w w' [] := by
  have M := Lib.hid (Mem.start w)
  have HX := Lib.hid hx
  have HS := Lib.hid hs
  have S1 := Lib.hid (Fld.size hF.toLen)
  have O1 := Lib.hid (Cs.one Cs.z)
  clear hx hs
  by_cases hl : xs.length ≤ 1048576
  · have hz : ¬ ((1048576 : Int) < xs.length) := by omega
    have hz2 : ¬ ((1048576 : Int) - xs.length < 0) := by omega
    obtain ⟨d, hd⟩ : ∃ d, d = ntCode F xs Cs.z := ⟨_, rfl⟩
    obtain ⟨r, hr⟩ : ∃ r, r = holeRes F xs c := ⟨_, rfl⟩
    have SP := Lib.hid (fun A n w hs => spec_WithHoles_any F hF A n xs HX.out hl c hc w hs)
    have IM := Lib.hid (fun A n w hs => impl_WithHoles_any F hF A n xs HX.out hl c hc w hs)
    rw [← hd, ← hr] at SP IM
    clear hd hr
    go_enter Try.func7, Try.ntmps7
    go_wp2_with (first
      | ((with_reducible refine gate_dst (N := 3) rfl ?_); go_must (refine M.out.ev_new rfl (by first | (go_simp; done) | (go_simp; rfl)) ?_); intro g3 w3 m; simp only [List.cons_append, List.nil_append] at m; have M := Lib.hid m; clear m)
      | ((with_reducible refine gate_dst (N := 5) rfl ?_); go_must (refine M.out.ev_new rfl (by first | (go_simp; done) | (go_simp; rfl)) ?_); intro g5 w5 m; simp only [List.cons_append, List.nil_append] at m; have M := Lib.hid m; clear m)
      | ((with_reducible refine gate_dst (N := 19) rfl ?_); go_must (refine M.out.ev_ldw 0 _ _ rfl rfl rfl Try.underlying27 rfl (by first | exact sz27 | (rw [S1.out]; exact sz27) | (rw [S2.out]; exact sz27) | (rw [S3.out]; exact sz27)) rfl ?_))
      | ((with_reducible refine gate_dst (N := 23) rfl ?_); go_must (refine M.out.ev_ldw 1 _ _ rfl rfl rfl Try.underlying50 rfl (by first | exact sz50 | (rw [S1.out]; exact sz50) | (rw [S2.out]; exact sz50) | (rw [S3.out]; exact sz50)) rfl ?_))
      | ((with_reducible refine gate_dst (N := 8) rfl ?_); go_must (refine M.out.ev_new rfl (by first | (go_simp; done) | (go_simp; rfl)) ?_); intro g8 w8 m; simp only [List.cons_append, List.nil_append] at m; have M := Lib.hid m; clear m)
      | ((with_reducible refine gate_store (x := .tmp 8) rfl ?_); go_must (refine M.out.ev_stw 3 _ _ _ rfl rfl rfl rfl _ rfl (by first | rfl | (simp only [S1.out]; rfl) | (simp only [S1.out, S2.out]; rfl) | (simp only [S3.out]; rfl) | (simp only [S1.out, S2.out, S3.out]; rfl)) (by first | exact sz51 | (rw [S1.out]; exact sz51) | (rw [S2.out]; exact sz51) | (rw [S3.out]; exact sz51)) (by first | exact ints_one _ _ | exact Fld.one _ | exact O1.out | exact Cs.one _ | rfl | (simp [Value.oneCell']; done)) rfl ?_); intro wn m; simp only [List.set_cons_succ, List.set_cons_zero, List.setIfInBounds_toArray] at m; have M := Lib.hid m; clear m)
      | ((with_reducible refine gate_dst (N := 31) rfl ?_); go_must (refine M.out.ev_ldw 0 _ _ rfl rfl rfl Try.underlying27 rfl (by first | exact sz27 | (rw [S1.out]; exact sz27) | (rw [S2.out]; exact sz27) | (rw [S3.out]; exact sz27)) rfl ?_))
      | ((with_reducible refine gate_dst (N := 34) rfl ?_); go_must (refine M.out.ev_ldw 1 _ _ rfl rfl rfl Try.underlying50 rfl (by first | exact sz50 | (rw [S1.out]; exact sz50) | (rw [S2.out]; exact sz50) | (rw [S3.out]; exact sz50)) rfl ?_))
      | ((with_reducible refine gate_dst (N := 11) rfl ?_); go_must (refine M.out.ev_new rfl (by first | (go_simp; done) | (go_simp; rfl)) ?_); intro g11 w11 m; simp only [List.cons_append, List.nil_append] at m; have M := Lib.hid m; clear m)
      | ((with_reducible refine gate_store (x := .tmp 11) rfl ?_); go_must (refine M.out.ev_stw 5 _ _ _ rfl rfl rfl rfl _ rfl (by first | rfl | (simp only [S1.out]; rfl) | (simp only [S1.out, S2.out]; rfl) | (simp only [S3.out]; rfl) | (simp only [S1.out, S2.out, S3.out]; rfl)) (by first | exact sz51 | (rw [S1.out]; exact sz51) | (rw [S2.out]; exact sz51) | (rw [S3.out]; exact sz51)) (by first | exact ints_one _ _ | exact Fld.one _ | exact O1.out | exact Cs.one _ | rfl | (simp [Value.oneCell']; done)) rfl ?_); intro wn m; simp only [List.set_cons_succ, List.set_cons_zero, List.setIfInBounds_toArray] at m; have M := Lib.hid m; clear m)
      | ((with_reducible refine gate_dst (N := 39) rfl ?_); go_must (refine M.out.ev_ldw 5 _ _ rfl rfl rfl Try.underlying51 rfl (by first | exact sz51 | (rw [S1.out]; exact sz51) | (rw [S2.out]; exact sz51) | (rw [S3.out]; exact sz51)) rfl ?_))
      | ((with_reducible refine gate_dst (N := 40) rfl ?_); go_must (refine M.out.ev_ldw 3 _ _ rfl rfl rfl Try.underlying51 rfl (by first | exact sz51 | (rw [S1.out]; exact sz51) | (rw [S2.out]; exact sz51) | (rw [S3.out]; exact sz51)) rfl ?_))
      | (go_at_call 25; go_must (refine (szNetS_any A xs.length n 1048576 _ (by omega) (by omega) hm).mono ?_); rintro e w_ ⟨rfl, rfl⟩; rw [if_neg hz])
      | (go_at_call 27; go_must (refine (toNetS_any A n xs _ hl (M.out.sl HS.out)).mono ?_); rintro e w_ ⟨A_, c_, rfl, hc_, N_⟩; have m := M.out.join N_; clear N_; simp only [List.cons_append, List.nil_append, List.append_nil] at m; have M := Lib.hid m; clear m)
      | (go_at_call 29; go_must (refine (eqCells_any _ _).mono ?_); rintro e w_ ⟨rfl, N_⟩; have m := M.out.join N_; clear N_; simp only [List.cons_append, List.nil_append, List.append_nil] at m; have M := Lib.hid m; clear m)
      | (go_at_call 18; go_must (refine (eqNetS_any _ _ _ _ xs xs _ hl (M.out.slof 4 rfl) (M.out.slof 6 rfl)).mono ?_); rintro e w_ ⟨rfl, N_⟩; have m := M.out.join N_; clear N_; simp only [List.cons_append, List.nil_append, List.append_nil] at m; have M := Lib.hid m; clear m; rw [decide_eq_true rfl])
      )
    refine region_anyH (fun w' => Mem w w' [.blk g3 27 F.cells, .blk g5 50 c.cells]) (by kernel_rfl) ?_
    have M9 := M.out.drew
    clear M
    apply merge3
    case hA =>
      intro REST0
      apply merge3
      case hA =>
        intro REST1
        apply merge3
        case hA =>
          intro REST2
          apply merge3
          case hA =>
            intro REST3
            apply merge1
            case hA =>
              intro REST4
              have M := Lib.hid M9
              apply takeH (i := 0) 19 rfl (by kernel_rfl) (by kernel_rfl) (by kernel_rfl) (fun _ _ _ h => h) rfl (by first | exact M.out | exact M.out.take 2)
              case' hy => exact yldw _ _ rfl rfl Try.underlying27 rfl (by first | exact sz27 | (rw [S1.out]; exact sz27) | (rw [S2.out]; exact sz27) | (rw [S3.out]; exact sz27)) rfl (fun w' hS => hS.blk 0 rfl)
              try simp only [Act.put, List.getElem_toArray, List.getElem_cons_succ, List.getElem_cons_zero, List.setIfInBounds_toArray, List.set_cons_succ, List.set_cons_zero]
              apply takeH (i := 2) 21 rfl (by kernel_rfl) (by kernel_rfl) (by kernel_rfl) (fun _ _ _ h => h) rfl (by first | exact M.out | exact M.out.take 2)
              case' hy =>
                refine Or.inl ⟨by first | rfl | (go_simp; done), ?_⟩
                intro w hS
                clear hS
                go_simp
                try with_reducible rfl
              try simp only [Act.put, List.getElem_toArray, List.getElem_cons_succ, List.getElem_cons_zero, List.setIfInBounds_toArray, List.set_cons_succ, List.set_cons_zero]
              apply takeH (i := 4) 23 rfl (by kernel_rfl) (by kernel_rfl) (by kernel_rfl) (fun _ _ _ h => h) rfl (by first | exact M.out | exact M.out.take 2)
              case' hy => exact yldw _ _ rfl rfl Try.underlying50 rfl (by first | exact sz50 | (rw [S1.out]; exact sz50) | (rw [S2.out]; exact sz50) | (rw [S3.out]; exact sz50)) rfl (fun w' hS => hS.blk 1 rfl)
              try simp only [Act.put, List.getElem_toArray, List.getElem_cons_succ, List.getElem_cons_zero, List.setIfInBounds_toArray, List.set_cons_succ, List.set_cons_zero]
              refine any2H 1 10 (by kernel_rfl) rfl rfl (fun K hK => ?_) (fun K hK => ?_)
              rotate_right 1
              case' _ =>
                go_wp2_with (first | ((with_reducible refine gate_dst (N := 8) rfl ?_); go_must (refine M.out.ev_new rfl (by first | (go_simp; done) | (go_simp; rfl)) ?_); intro g8 w8 m; simp only [List.cons_append, List.nil_append] at m; have M := Lib.hid m; clear m))
                refine onward_normal (hK _ _ ⟨(by first | exact M.out | exact M.out.take 2), ?_⟩)
                clear hK K
                try simp only [Act.put, List.getElem_toArray, List.getElem_cons_succ, List.getElem_cons_zero, List.setIfInBounds_toArray, List.set_cons_succ, List.set_cons_zero]
                refine any1H 1 (by kernel_rfl) rfl (fun K hK => ?_)
                go_wp2_with (first | (go_at_call 16; go_must (refine (toField_any F hF.toLen _).mono ?_); rintro e w_ ⟨rfl, hB_⟩; have M := Lib.hid (M.out.kept hB_); clear hB_))
                refine onward_normal (hK _ _ ⟨(by first | exact M.out | exact M.out.take 2), ?_⟩)
                clear hK K
                try simp only [Act.put, List.getElem_toArray, List.getElem_cons_succ, List.getElem_cons_zero, List.setIfInBounds_toArray, List.set_cons_succ, List.set_cons_zero]
                exact REST4 g8 w_ M.out
              rotate_right 1
              case' _ =>
                go_wp2_with (first | (go_at_call 16; go_must (refine (toField_any F hF.toLen _).mono ?_); rintro e w_ ⟨rfl, hB_⟩; have M := Lib.hid (M.out.kept hB_); clear hB_))
                refine onward_normal (hK _ _ ⟨(by first | exact M.out | exact M.out.take 2), ?_⟩)
                clear hK K
                try simp only [Act.put, List.getElem_toArray, List.getElem_cons_succ, List.getElem_cons_zero, List.setIfInBounds_toArray, List.set_cons_succ, List.set_cons_zero]
                refine any2H 3 10 (by kernel_rfl) rfl rfl (fun K hK => ?_) (fun K hK => ?_)
                rotate_right 1
                case' _ =>
                  go_wp2_with (first | ((with_reducible refine gate_dst (N := 8) rfl ?_); go_must (refine M.out.ev_new rfl (by first | (go_simp; done) | (go_simp; rfl)) ?_); intro g8 w8 m; simp only [List.cons_append, List.nil_append] at m; have M := Lib.hid m; clear m))
                  refine onward_normal (hK _ _ ⟨(by first | exact M.out | exact M.out.take 2), ?_⟩)
                  clear hK K
                  try simp only [Act.put, List.getElem_toArray, List.getElem_cons_succ, List.getElem_cons_zero, List.setIfInBounds_toArray, List.set_cons_succ, List.set_cons_zero]
                  exact REST4 g8 w8 M.out
                rotate_right 1
                case' _ =>
                  go_wp2_with (first | (go_at_call 27; go_must (refine (toNetS_any A n xs _ hl (M.out.sl HS.out)).mono ?_); rintro e w_ ⟨A22, c22, rfl, hc22, N_⟩; have m := M.out.join N_; clear N_; simp only [List.cons_append, List.nil_append, List.append_nil] at m; have M := Lib.hid m; clear m))
                  refine onward_normal (hK _ _ ⟨(by first | exact M.out | exact M.out.take 2), ?_⟩)
                  clear hK K
                  try simp only [Act.put, List.getElem_toArray, List.getElem_cons_succ, List.getElem_cons_zero, List.setIfInBounds_toArray, List.set_cons_succ, List.set_cons_zero]
                  refine any2H 5 10 (by kernel_rfl) rfl rfl (fun K hK => ?_) (fun K hK => ?_)
                  rotate_right 1
                  case' _ =>
                    go_wp2_with (first | ((with_reducible refine gate_dst (N := 8) rfl ?_); go_must (refine M.out.ev_new rfl (by first | (go_simp; done) | (go_simp; rfl)) ?_); intro g8 w8 m; simp only [List.cons_append, List.nil_append] at m; have M := Lib.hid m; clear m))
                    refine onward_normal (hK _ _ ⟨(by first | exact M.out | exact M.out.take 2), ?_⟩)
                    clear hK K
                    try simp only [Act.put, List.getElem_toArray, List.getElem_cons_succ, List.getElem_cons_zero, List.setIfInBounds_toArray, List.set_cons_succ, List.set_cons_zero]
                    exact REST3 A22 c22 g8 w8 M.out
                  rotate_right 1
                  case' _ =>
                    go_wp2_with (first | (go_at_call 33; go_must (refine (toCells_any c _).mono ?_); rintro e w_ ⟨rfl, hB_⟩; have M := Lib.hid (M.out.kept hB_); clear hB_))
                    refine onward_normal (hK _ _ ⟨(by first | exact M.out | exact M.out.take 2), ?_⟩)
                    clear hK K
                    try simp only [Act.put, List.getElem_toArray, List.getElem_cons_succ, List.getElem_cons_zero, List.setIfInBounds_toArray, List.set_cons_succ, List.set_cons_zero]
                    refine any2H 6 10 (by kernel_rfl) rfl rfl (fun K hK => ?_) (fun K hK => ?_)
                    rotate_right 1
                    case' _ =>
                      go_wp2_with (first | ((with_reducible refine gate_dst (N := 8) rfl ?_); go_must (refine M.out.ev_new rfl (by first | (go_simp; done) | (go_simp; rfl)) ?_); intro g8 w8 m; simp only [List.cons_append, List.nil_append] at m; have M := Lib.hid m; clear m))
                      refine onward_normal (hK _ _ ⟨(by first | exact M.out | exact M.out.take 2), ?_⟩)
                      clear hK K
                      try simp only [Act.put, List.getElem_toArray, List.getElem_cons_succ, List.getElem_cons_zero, List.setIfInBounds_toArray, List.set_cons_succ, List.set_cons_zero]
                      exact REST2 A22 c22 g8 w8 M.out
                    rotate_right 1
                    case' _ =>
                      go_wp2_with (first | (go_at_call 32; go_must (refine (SP.out _ _ _ (by first | exact M.out.slof 2 rfl | exact M.out.slof 3 rfl)).mono ?_); rintro e w_ ⟨rfl, N_⟩; have m := M.out.join N_; clear N_; simp only [List.cons_append, List.nil_append, List.append_nil] at m; have M := Lib.hid m; clear m))
                      refine onward_normal (hK _ _ ⟨(by first | exact M.out | exact M.out.take 2), ?_⟩)
                      clear hK K
                      try simp only [Act.put, List.getElem_toArray, List.getElem_cons_succ, List.getElem_cons_zero, List.setIfInBounds_toArray, List.set_cons_succ, List.set_cons_zero]
                      apply takeH (i := 7) 18 rfl (by kernel_rfl) (by kernel_rfl) (by kernel_rfl) (fun _ _ _ h => h) rfl (by first | exact M.out | exact M.out.take 2)
                      case' hy =>
                        refine Or.inl ⟨by first | rfl | (go_simp; done), ?_⟩
                        intro w hS
                        clear hS
                        go_simp
                        try with_reducible rfl
                      try simp only [Act.put, List.getElem_toArray, List.getElem_cons_succ, List.getElem_cons_zero, List.setIfInBounds_toArray, List.set_cons_succ, List.set_cons_zero]
                      apply takeH (i := 8) 26 rfl (by kernel_rfl) (by kernel_rfl) (by kernel_rfl) (fun _ _ _ h => h) rfl (by first | exact M.out | exact M.out.take 2)
                      case' hy =>
                        refine Or.inl ⟨by first | rfl | (go_simp; done), ?_⟩
                        intro w hS
                        clear hS
                        go_simp
                        try with_reducible rfl
                      try simp only [Act.put, List.getElem_toArray, List.getElem_cons_succ, List.getElem_cons_zero, List.setIfInBounds_toArray, List.set_cons_succ, List.set_cons_zero]
                      apply takeH (i := 9) 27 rfl (by kernel_rfl) (by kernel_rfl) (by kernel_rfl) (fun _ _ _ h => h) rfl (by first | exact M.out | exact M.out.take 2)
                      case' hy =>
                        refine Or.inl ⟨by first | rfl | (go_simp; done), ?_⟩
                        intro w hS
                        clear hS
                        go_simp
                        try with_reducible rfl
                      try simp only [Act.put, List.getElem_toArray, List.getElem_cons_succ, List.getElem_cons_zero, List.setIfInBounds_toArray, List.set_cons_succ, List.set_cons_zero]
                      refine any1H 10 (by kernel_rfl) rfl (fun K hK => ?_)
                      go_wp2_with (first | ((with_reducible refine gate_dst (N := 8) rfl ?_); go_must (refine M.out.ev_new rfl (by first | (go_simp; done) | (go_simp; rfl)) ?_); intro g8 w8 m; simp only [List.cons_append, List.nil_append] at m; have M := Lib.hid m; clear m))
                      refine onward_normal (hK _ _ ⟨(by first | exact M.out | exact M.out.take 2), ?_⟩)
                      clear hK K
                      try simp only [Act.put, List.getElem_toArray, List.getElem_cons_succ, List.getElem_cons_zero, List.setIfInBounds_toArray, List.set_cons_succ, List.set_cons_zero]
                      exact REST1 A22 c22 g8 w8 M.out
            case hB =>
              intro g8 w_ m
              have M := Lib.hid m
              clear m
              refine any1H 3 (by kernel_rfl) rfl (fun K hK => ?_)
              go_wp2_with (first | (go_at_call 27; go_must (refine (toNetS_any A n xs _ hl (M.out.sl HS.out)).mono ?_); rintro e w_ ⟨A22, c22, rfl, hc22, N_⟩; have m := M.out.join N_; clear N_; simp only [List.cons_append, List.nil_append, List.append_nil] at m; have M := Lib.hid m; clear m))
              refine onward_normal (hK _ _ ⟨(by first | exact M.out | exact M.out.take 2), ?_⟩)
              clear hK K
              try simp only [Act.put, List.getElem_toArray, List.getElem_cons_succ, List.getElem_cons_zero, List.setIfInBounds_toArray, List.set_cons_succ, List.set_cons_zero]
              have m := M.out.only [0, 1, 3, 2] (K := [_, _, _, _]) rfl (by decide)
              exact REST3 A22 c22 g8 w_ m
          case hB =>
            intro A22 c22 g8 w_ m
            have M := Lib.hid m
            clear m
            refine any1H 5 (by kernel_rfl) rfl (fun K hK => ?_)
            go_wp2_with (first | (go_at_call 33; go_must (refine (toCells_any c _).mono ?_); rintro e w_ ⟨rfl, hB_⟩; have M := Lib.hid (M.out.kept hB_); clear hB_))
            refine onward_normal (hK _ _ ⟨(by first | exact M.out | exact M.out.take 2), ?_⟩)
            clear hK K
            try simp only [Act.put, List.getElem_toArray, List.getElem_cons_succ, List.getElem_cons_zero, List.setIfInBounds_toArray, List.set_cons_succ, List.set_cons_zero]
            exact REST2 A22 c22 g8 w_ M.out
        case hB =>
          intro A22 c22 g8 w_ m
          have M := Lib.hid m
          clear m
          refine any1H 6 (by kernel_rfl) rfl (fun K hK => ?_)
          go_wp2_with (first | (go_at_call 32; go_must (refine (SP.out _ _ _ (by first | exact M.out.slof 2 rfl | exact M.out.slof 3 rfl)).mono ?_); rintro e w_ ⟨rfl, N_⟩; have m := M.out.join N_; clear N_; simp only [List.cons_append, List.nil_append, List.append_nil] at m; have M := Lib.hid m; clear m))
          refine onward_normal (hK _ _ ⟨(by first | exact M.out | exact M.out.take 2), ?_⟩)
          clear hK K
          try simp only [Act.put, List.getElem_toArray, List.getElem_cons_succ, List.getElem_cons_zero, List.setIfInBounds_toArray, List.set_cons_succ, List.set_cons_zero]
          apply takeH (i := 7) 18 rfl (by kernel_rfl) (by kernel_rfl) (by kernel_rfl) (fun _ _ _ h => h) rfl (by first | exact M.out | exact M.out.take 2)
          case' hy =>
            refine Or.inl ⟨by first | rfl | (go_simp; done), ?_⟩
            intro w hS
            clear hS
            go_simp
            try with_reducible rfl
          try simp only [Act.put, List.getElem_toArray, List.getElem_cons_succ, List.getElem_cons_zero, List.setIfInBounds_toArray, List.set_cons_succ, List.set_cons_zero]
          apply takeH (i := 8) 26 rfl (by kernel_rfl) (by kernel_rfl) (by kernel_rfl) (fun _ _ _ h => h) rfl (by first | exact M.out | exact M.out.take 2)
          case' hy =>
            refine Or.inl ⟨by first | rfl | (go_simp; done), ?_⟩
            intro w hS
            clear hS
            go_simp
            try with_reducible rfl
          try simp only [Act.put, List.getElem_toArray, List.getElem_cons_succ, List.getElem_cons_zero, List.setIfInBounds_toArray, List.set_cons_succ, List.set_cons_zero]
          apply takeH (i := 9) 27 rfl (by kernel_rfl) (by kernel_rfl) (by kernel_rfl) (fun _ _ _ h => h) rfl (by first | exact M.out | exact M.out.take 2)
          case' hy =>
            refine Or.inl ⟨by first | rfl | (go_simp; done), ?_⟩
            intro w hS
            clear hS
            go_simp
            try with_reducible rfl
          try simp only [Act.put, List.getElem_toArray, List.getElem_cons_succ, List.getElem_cons_zero, List.setIfInBounds_toArray, List.set_cons_succ, List.set_cons_zero]
          exact REST1 A22 c22 g8 w_ M.out
      case hB =>
        intro A22 c22 g8 w_ m
        have M := Lib.hid m
        clear m
        refine any1H 11 (by kernel_rfl) rfl (fun K hK => ?_)
        go_wp2_with (first | ((with_reducible refine gate_store (x := .tmp 8) rfl ?_); go_must (first | (refine M.out.ev_stw 2 _ _ _ rfl rfl rfl rfl _ rfl (by first | rfl | (simp only [S1.out]; rfl) | (simp only [S1.out, S2.out]; rfl) | (simp only [S3.out]; rfl) | (simp only [S1.out, S2.out, S3.out]; rfl)) (by first | exact sz51 | (rw [S1.out]; exact sz51) | (rw [S2.out]; exact sz51) | (rw [S3.out]; exact sz51)) (by first | exact ints_one _ _ | exact Fld.one _ | exact O1.out | exact Cs.one _ | rfl | (simp [Value.oneCell']; done)) rfl ?_) | (refine M.out.ev_stw 3 _ _ _ rfl rfl rfl rfl _ rfl (by first | rfl | (simp only [S1.out]; rfl) | (simp only [S1.out, S2.out]; rfl) | (simp only [S3.out]; rfl) | (simp only [S1.out, S2.out, S3.out]; rfl)) (by first | exact sz51 | (rw [S1.out]; exact sz51) | (rw [S2.out]; exact sz51) | (rw [S3.out]; exact sz51)) (by first | exact ints_one _ _ | exact Fld.one _ | exact O1.out | exact Cs.one _ | rfl | (simp [Value.oneCell']; done)) rfl ?_)); intro wn m; simp only [List.set_cons_succ, List.set_cons_zero, List.setIfInBounds_toArray] at m; have M := Lib.hid m; clear m))
        refine onward_normal (hK _ _ ⟨(by first | exact M.out | exact M.out.take 2), ?_⟩)
        clear hK K
        try simp only [Act.put, List.getElem_toArray, List.getElem_cons_succ, List.getElem_cons_zero, List.setIfInBounds_toArray, List.set_cons_succ, List.set_cons_zero]
        apply takeH (i := 12) 9 rfl (by kernel_rfl) (by kernel_rfl) (by kernel_rfl) (fun _ _ _ h => h) rfl (by first | exact M.out | exact M.out.take 2)
        case' hy =>
          refine Or.inl ⟨by first | rfl | (go_simp; done), ?_⟩
          intro w hS
          clear hS
          go_simp
          try with_reducible rfl
        try simp only [Act.put, List.getElem_toArray, List.getElem_cons_succ, List.getElem_cons_zero, List.setIfInBounds_toArray, List.set_cons_succ, List.set_cons_zero]
        exact REST0 A22 c22 g8 wn M.out
    intro A22 c22 g8 w_ m
    have M := Lib.hid m
    clear m M9
    refine wpAnyH_done (by kernel_rfl) ?_ _
    go_wp2_with (first
      | ((with_reducible refine gate_dst (N := 3) rfl ?_); go_must (refine M.out.ev_new rfl (by first | (go_simp; done) | (go_simp; rfl)) ?_); intro g3 w3 m; simp only [List.cons_append, List.nil_append] at m; have M := Lib.hid m; clear m)
      | ((with_reducible refine gate_dst (N := 5) rfl ?_); go_must (refine M.out.ev_new rfl (by first | (go_simp; done) | (go_simp; rfl)) ?_); intro g5 w5 m; simp only [List.cons_append, List.nil_append] at m; have M := Lib.hid m; clear m)
      | ((with_reducible refine gate_dst (N := 19) rfl ?_); go_must (refine M.out.ev_ldw 0 _ _ rfl rfl rfl Try.underlying27 rfl (by first | exact sz27 | (rw [S1.out]; exact sz27) | (rw [S2.out]; exact sz27) | (rw [S3.out]; exact sz27)) rfl ?_))
      | ((with_reducible refine gate_dst (N := 23) rfl ?_); go_must (refine M.out.ev_ldw 1 _ _ rfl rfl rfl Try.underlying50 rfl (by first | exact sz50 | (rw [S1.out]; exact sz50) | (rw [S2.out]; exact sz50) | (rw [S3.out]; exact sz50)) rfl ?_))
      | ((with_reducible refine gate_dst (N := 8) rfl ?_); go_must (refine M.out.ev_new rfl (by first | (go_simp; done) | (go_simp; rfl)) ?_); intro g8 w8 m; simp only [List.cons_append, List.nil_append] at m; have M := Lib.hid m; clear m)
      | ((with_reducible refine gate_store (x := .tmp 8) rfl ?_); go_must (refine M.out.ev_stw 3 _ _ _ rfl rfl rfl rfl _ rfl (by first | rfl | (simp only [S1.out]; rfl) | (simp only [S1.out, S2.out]; rfl) | (simp only [S3.out]; rfl) | (simp only [S1.out, S2.out, S3.out]; rfl)) (by first | exact sz51 | (rw [S1.out]; exact sz51) | (rw [S2.out]; exact sz51) | (rw [S3.out]; exact sz51)) (by first | exact ints_one _ _ | exact Fld.one _ | exact O1.out | exact Cs.one _ | rfl | (simp [Value.oneCell']; done)) rfl ?_); intro wn m; simp only [List.set_cons_succ, List.set_cons_zero, List.setIfInBounds_toArray] at m; have M := Lib.hid m; clear m)
      | ((with_reducible refine gate_dst (N := 31) rfl ?_); go_must (refine M.out.ev_ldw 0 _ _ rfl rfl rfl Try.underlying27 rfl (by first | exact sz27 | (rw [S1.out]; exact sz27) | (rw [S2.out]; exact sz27) | (rw [S3.out]; exact sz27)) rfl ?_))
      | ((with_reducible refine gate_dst (N := 34) rfl ?_); go_must (refine M.out.ev_ldw 1 _ _ rfl rfl rfl Try.underlying50 rfl (by first | exact sz50 | (rw [S1.out]; exact sz50) | (rw [S2.out]; exact sz50) | (rw [S3.out]; exact sz50)) rfl ?_))
      | ((with_reducible refine gate_dst (N := 11) rfl ?_); go_must (refine M.out.ev_new rfl (by first | (go_simp; done) | (go_simp; rfl)) ?_); intro g11 w11 m; simp only [List.cons_append, List.nil_append] at m; have M := Lib.hid m; clear m)
      | ((with_reducible refine gate_store (x := .tmp 11) rfl ?_); go_must (refine M.out.ev_stw 5 _ _ _ rfl rfl rfl rfl _ rfl (by first | rfl | (simp only [S1.out]; rfl) | (simp only [S1.out, S2.out]; rfl) | (simp only [S3.out]; rfl) | (simp only [S1.out, S2.out, S3.out]; rfl)) (by first | exact sz51 | (rw [S1.out]; exact sz51) | (rw [S2.out]; exact sz51) | (rw [S3.out]; exact sz51)) (by first | exact ints_one _ _ | exact Fld.one _ | exact O1.out | exact Cs.one _ | rfl | (simp [Value.oneCell']; done)) rfl ?_); intro wn m; simp only [List.set_cons_succ, List.set_cons_zero, List.setIfInBounds_toArray] at m; have M := Lib.hid m; clear m)
      | ((with_reducible refine gate_dst (N := 39) rfl ?_); go_must (refine M.out.ev_ldw 5 _ _ rfl rfl rfl Try.underlying51 rfl (by first | exact sz51 | (rw [S1.out]; exact sz51) | (rw [S2.out]; exact sz51) | (rw [S3.out]; exact sz51)) rfl ?_))
      | ((with_reducible refine gate_dst (N := 40) rfl ?_); go_must (refine M.out.ev_ldw 3 _ _ rfl rfl rfl Try.underlying51 rfl (by first | exact sz51 | (rw [S1.out]; exact sz51) | (rw [S2.out]; exact sz51) | (rw [S3.out]; exact sz51)) rfl ?_))
      | (go_at_call 25; go_must (refine (szNetS_any A xs.length n 1048576 _ (by omega) (by omega) hm).mono ?_); rintro e w_ ⟨rfl, rfl⟩; rw [if_neg hz])
      | (go_at_call 27; go_must (refine (toNetS_any A n xs _ hl (M.out.sl HS.out)).mono ?_); rintro e w_ ⟨A_, c_, rfl, hc_, N_⟩; have m := M.out.join N_; clear N_; simp only [List.cons_append, List.nil_append, List.append_nil] at m; have M := Lib.hid m; clear m)
      | (go_at_call 29; go_must (refine (eqCells_any _ _).mono ?_); rintro e w_ ⟨rfl, N_⟩; have m := M.out.join N_; clear N_; simp only [List.cons_append, List.nil_append, List.append_nil] at m; have M := Lib.hid m; clear m)
      | (go_at_call 18; go_must (refine (eqNetS_any _ _ _ _ xs xs _ hl (M.out.slof 4 rfl) (M.out.slof 6 rfl)).mono ?_); rintro e w_ ⟨rfl, N_⟩; have m := M.out.join N_; clear N_; simp only [List.cons_append, List.nil_append, List.append_nil] at m; have M := Lib.hid m; clear m; rw [decide_eq_true rfl])
      )
    refine region_anyH (fun w' => Mem w w' [.blk g3 27 F.cells, .blk g5 50 c.cells]) (by kernel_rfl) ?_
    have M9 := M.out.drew
    clear M
    apply merge1
    case hA =>
      intro REST0
      apply merge1
      case hA =>
        intro REST1
        apply merge1
        case hA =>
          intro REST2
          apply merge1
          case hA =>
            intro REST3
            have M := Lib.hid M9
            apply takeH (i := 0) 31 rfl (by kernel_rfl) (by kernel_rfl) (by kernel_rfl) (fun _ _ _ h => h) rfl (by first | exact M.out | exact M.out.take 2)
            case' hy => exact yldw _ _ rfl rfl Try.underlying27 rfl (by first | exact sz27 | (rw [S1.out]; exact sz27) | (rw [S2.out]; exact sz27) | (rw [S3.out]; exact sz27)) rfl (fun w' hS => hS.blk 0 rfl)
            try simp only [Act.put, List.getElem_toArray, List.getElem_cons_succ, List.getElem_cons_zero, List.setIfInBounds_toArray, List.set_cons_succ, List.set_cons_zero]
            apply takeH (i := 2) 33 rfl (by kernel_rfl) (by kernel_rfl) (by kernel_rfl) (fun _ _ _ h => h) rfl (by first | exact M.out | exact M.out.take 2)
            case' hy =>
              refine Or.inl ⟨by first | rfl | (go_simp; done), ?_⟩
              intro w hS
              clear hS
              go_simp
              try with_reducible rfl
            try simp only [Act.put, List.getElem_toArray, List.getElem_cons_succ, List.getElem_cons_zero, List.setIfInBounds_toArray, List.set_cons_succ, List.set_cons_zero]
            apply takeH (i := 3) 34 rfl (by kernel_rfl) (by kernel_rfl) (by kernel_rfl) (fun _ _ _ h => h) rfl (by first | exact M.out | exact M.out.take 2)
            case' hy => exact yldw _ _ rfl rfl Try.underlying50 rfl (by first | exact sz50 | (rw [S1.out]; exact sz50) | (rw [S2.out]; exact sz50) | (rw [S3.out]; exact sz50)) rfl (fun w' hS => hS.blk 1 rfl)
            try simp only [Act.put, List.getElem_toArray, List.getElem_cons_succ, List.getElem_cons_zero, List.setIfInBounds_toArray, List.set_cons_succ, List.set_cons_zero]
            refine any2H 1 9 (by kernel_rfl) rfl rfl (fun K hK => ?_) (fun K hK => ?_)
            rotate_right 1
            case' _ =>
              go_wp2_with (first | ((with_reducible refine gate_dst (N := 11) rfl ?_); go_must (refine M.out.ev_new rfl (by first | (go_simp; done) | (go_simp; rfl)) ?_); intro g11 w11 m; simp only [List.cons_append, List.nil_append] at m; have M := Lib.hid m; clear m))
              refine onward_normal (hK _ _ ⟨(by first | exact M.out | exact M.out.take 2), ?_⟩)
              clear hK K
              try simp only [Act.put, List.getElem_toArray, List.getElem_cons_succ, List.getElem_cons_zero, List.setIfInBounds_toArray, List.set_cons_succ, List.set_cons_zero]
              refine any1H 1 (by kernel_rfl) rfl (fun K hK => ?_)
              go_wp2_with (first | (go_at_call 16; go_must (refine (toField_any F hF.toLen _).mono ?_); rintro e w_ ⟨rfl, hB_⟩; have M := Lib.hid (M.out.kept hB_); clear hB_))
              refine onward_normal (hK _ _ ⟨(by first | exact M.out | exact M.out.take 2), ?_⟩)
              clear hK K
              try simp only [Act.put, List.getElem_toArray, List.getElem_cons_succ, List.getElem_cons_zero, List.setIfInBounds_toArray, List.set_cons_succ, List.set_cons_zero]
              exact REST3 g11 w_ M.out
            rotate_right 1
            case' _ =>
              go_wp2_with (first | (go_at_call 16; go_must (refine (toField_any F hF.toLen _).mono ?_); rintro e w_ ⟨rfl, hB_⟩; have M := Lib.hid (M.out.kept hB_); clear hB_))
              refine onward_normal (hK _ _ ⟨(by first | exact M.out | exact M.out.take 2), ?_⟩)
              clear hK K
              try simp only [Act.put, List.getElem_toArray, List.getElem_cons_succ, List.getElem_cons_zero, List.setIfInBounds_toArray, List.set_cons_succ, List.set_cons_zero]
              refine any2H 4 9 (by kernel_rfl) rfl rfl (fun K hK => ?_) (fun K hK => ?_)
              rotate_right 1
              case' _ =>
                go_wp2_with (first | ((with_reducible refine gate_dst (N := 11) rfl ?_); go_must (refine M.out.ev_new rfl (by first | (go_simp; done) | (go_simp; rfl)) ?_); intro g11 w11 m; simp only [List.cons_append, List.nil_append] at m; have M := Lib.hid m; clear m))
                refine onward_normal (hK _ _ ⟨(by first | exact M.out | exact M.out.take 2), ?_⟩)
                clear hK K
                try simp only [Act.put, List.getElem_toArray, List.getElem_cons_succ, List.getElem_cons_zero, List.setIfInBounds_toArray, List.set_cons_succ, List.set_cons_zero]
                exact REST3 g11 w11 M.out
              rotate_right 1
              case' _ =>
                go_wp2_with (first | (go_at_call 33; go_must (refine (toCells_any c _).mono ?_); rintro e w_ ⟨rfl, hB_⟩; have M := Lib.hid (M.out.kept hB_); clear hB_))
                refine onward_normal (hK _ _ ⟨(by first | exact M.out | exact M.out.take 2), ?_⟩)
                clear hK K
                try simp only [Act.put, List.getElem_toArray, List.getElem_cons_succ, List.getElem_cons_zero, List.setIfInBounds_toArray, List.set_cons_succ, List.set_cons_zero]
                refine any2H 5 9 (by kernel_rfl) rfl rfl (fun K hK => ?_) (fun K hK => ?_)
                rotate_right 1
                case' _ =>
                  go_wp2_with (first | ((with_reducible refine gate_dst (N := 11) rfl ?_); go_must (refine M.out.ev_new rfl (by first | (go_simp; done) | (go_simp; rfl)) ?_); intro g11 w11 m; simp only [List.cons_append, List.nil_append] at m; have M := Lib.hid m; clear m))
                  refine onward_normal (hK _ _ ⟨(by first | exact M.out | exact M.out.take 2), ?_⟩)
                  clear hK K
                  try simp only [Act.put, List.getElem_toArray, List.getElem_cons_succ, List.getElem_cons_zero, List.setIfInBounds_toArray, List.set_cons_succ, List.set_cons_zero]
                  exact REST2 g11 w11 M.out
                rotate_right 1
                case' _ =>
                  go_wp2_with (first | (go_at_call 34; go_must (refine (IM.out _ _ _ (by first | exact M.out.slof 4 rfl)).mono ?_); rintro e w_ ⟨rfl, N_⟩; have m := M.out.join N_; clear N_; simp only [List.cons_append, List.nil_append, List.append_nil] at m; have M := Lib.hid m; clear m))
                  refine onward_normal (hK _ _ ⟨(by first | exact M.out | exact M.out.take 2), ?_⟩)
                  clear hK K
                  try simp only [Act.put, List.getElem_toArray, List.getElem_cons_succ, List.getElem_cons_zero, List.setIfInBounds_toArray, List.set_cons_succ, List.set_cons_zero]
                  apply takeH (i := 6) 30 rfl (by kernel_rfl) (by kernel_rfl) (by kernel_rfl) (fun _ _ _ h => h) rfl (by first | exact M.out | exact M.out.take 2)
                  case' hy =>
                    refine Or.inl ⟨by first | rfl | (go_simp; done), ?_⟩
                    intro w hS
                    clear hS
                    go_simp
                    try with_reducible rfl
                  try simp only [Act.put, List.getElem_toArray, List.getElem_cons_succ, List.getElem_cons_zero, List.setIfInBounds_toArray, List.set_cons_succ, List.set_cons_zero]
                  apply takeH (i := 7) 37 rfl (by kernel_rfl) (by kernel_rfl) (by kernel_rfl) (fun _ _ _ h => h) rfl (by first | exact M.out | exact M.out.take 2)
                  case' hy =>
                    refine Or.inl ⟨by first | rfl | (go_simp; done), ?_⟩
                    intro w hS
                    clear hS
                    go_simp
                    try with_reducible rfl
                  try simp only [Act.put, List.getElem_toArray, List.getElem_cons_succ, List.getElem_cons_zero, List.setIfInBounds_toArray, List.set_cons_succ, List.set_cons_zero]
                  apply takeH (i := 8) 38 rfl (by kernel_rfl) (by kernel_rfl) (by kernel_rfl) (fun _ _ _ h => h) rfl (by first | exact M.out | exact M.out.take 2)
                  case' hy =>
                    refine Or.inl ⟨by first | rfl | (go_simp; done), ?_⟩
                    intro w hS
                    clear hS
                    go_simp
                    try with_reducible rfl
                  try simp only [Act.put, List.getElem_toArray, List.getElem_cons_succ, List.getElem_cons_zero, List.setIfInBounds_toArray, List.set_cons_succ, List.set_cons_zero]
                  refine any1H 9 (by kernel_rfl) rfl (fun K hK => ?_)
                  go_wp2_with (first | ((with_reducible refine gate_dst (N := 11) rfl ?_); go_must (refine M.out.ev_new rfl (by first | (go_simp; done) | (go_simp; rfl)) ?_); intro g11 w11 m; simp only [List.cons_append, List.nil_append] at m; have M := Lib.hid m; clear m))
                  refine onward_normal (hK _ _ ⟨(by first | exact M.out | exact M.out.take 2), ?_⟩)
                  clear hK K
                  try simp only [Act.put, List.getElem_toArray, List.getElem_cons_succ, List.getElem_cons_zero, List.setIfInBounds_toArray, List.set_cons_succ, List.set_cons_zero]
                  exact REST1 g11 w11 M.out
          case hB =>
            intro g11 w_ m
            have M := Lib.hid m
            clear m
            refine any1H 4 (by kernel_rfl) rfl (fun K hK => ?_)
            go_wp2_with (first | (go_at_call 33; go_must (refine (toCells_any c _).mono ?_); rintro e w_ ⟨rfl, hB_⟩; have M := Lib.hid (M.out.kept hB_); clear hB_))
            refine onward_normal (hK _ _ ⟨(by first | exact M.out | exact M.out.take 2), ?_⟩)
            clear hK K
            try simp only [Act.put, List.getElem_toArray, List.getElem_cons_succ, List.getElem_cons_zero, List.setIfInBounds_toArray, List.set_cons_succ, List.set_cons_zero]
            exact REST2 g11 w_ M.out
        case hB =>
          intro g11 w_ m
          have M := Lib.hid m
          clear m
          refine any1H 5 (by kernel_rfl) rfl (fun K hK => ?_)
          go_wp2_with (first | (go_at_call 34; go_must (refine (IM.out _ _ _ (by first | exact M.out.slof 4 rfl)).mono ?_); rintro e w_ ⟨rfl, N_⟩; have m := M.out.join N_; clear N_; simp only [List.cons_append, List.nil_append, List.append_nil] at m; have M := Lib.hid m; clear m))
          refine onward_normal (hK _ _ ⟨(by first | exact M.out | exact M.out.take 2), ?_⟩)
          clear hK K
          try simp only [Act.put, List.getElem_toArray, List.getElem_cons_succ, List.getElem_cons_zero, List.setIfInBounds_toArray, List.set_cons_succ, List.set_cons_zero]
          apply takeH (i := 6) 30 rfl (by kernel_rfl) (by kernel_rfl) (by kernel_rfl) (fun _ _ _ h => h) rfl (by first | exact M.out | exact M.out.take 2)
          case' hy =>
            refine Or.inl ⟨by first | rfl | (go_simp; done), ?_⟩
            intro w hS
            clear hS
            go_simp
            try with_reducible rfl
          try simp only [Act.put, List.getElem_toArray, List.getElem_cons_succ, List.getElem_cons_zero, List.setIfInBounds_toArray, List.set_cons_succ, List.set_cons_zero]
          apply takeH (i := 7) 37 rfl (by kernel_rfl) (by kernel_rfl) (by kernel_rfl) (fun _ _ _ h => h) rfl (by first | exact M.out | exact M.out.take 2)
          case' hy =>
            refine Or.inl ⟨by first | rfl | (go_simp; done), ?_⟩
            intro w hS
            clear hS
            go_simp
            try with_reducible rfl
          try simp only [Act.put, List.getElem_toArray, List.getElem_cons_succ, List.getElem_cons_zero, List.setIfInBounds_toArray, List.set_cons_succ, List.set_cons_zero]
          apply takeH (i := 8) 38 rfl (by kernel_rfl) (by kernel_rfl) (by kernel_rfl) (fun _ _ _ h => h) rfl (by first | exact M.out | exact M.out.take 2)
          case' hy =>
            refine Or.inl ⟨by first | rfl | (go_simp; done), ?_⟩
            intro w hS
            clear hS
            go_simp
            try with_reducible rfl
          try simp only [Act.put, List.getElem_toArray, List.getElem_cons_succ, List.getElem_cons_zero, List.setIfInBounds_toArray, List.set_cons_succ, List.set_cons_zero]
          exact REST1 g11 w_ M.out
      case hB =>
        intro g11 w_ m
        have M := Lib.hid m
        clear m
        refine any1H 10 (by kernel_rfl) rfl (fun K hK => ?_)
        go_wp2_with (first | ((with_reducible refine gate_store (x := .tmp 11) rfl ?_); go_must (refine M.out.ev_stw 5 _ _ _ rfl rfl rfl rfl _ rfl (by first | rfl | (simp only [S1.out]; rfl) | (simp only [S1.out, S2.out]; rfl) | (simp only [S3.out]; rfl) | (simp only [S1.out, S2.out, S3.out]; rfl)) (by first | exact sz51 | (rw [S1.out]; exact sz51) | (rw [S2.out]; exact sz51) | (rw [S3.out]; exact sz51)) (by first | exact ints_one _ _ | exact Fld.one _ | exact O1.out | exact Cs.one _ | rfl | (simp [Value.oneCell']; done)) rfl ?_); intro wn m; simp only [List.set_cons_succ, List.set_cons_zero, List.setIfInBounds_toArray] at m; have M := Lib.hid m; clear m))
        refine onward_normal (hK _ _ ⟨(by first | exact M.out | exact M.out.take 2), ?_⟩)
        clear hK K
        try simp only [Act.put, List.getElem_toArray, List.getElem_cons_succ, List.getElem_cons_zero, List.setIfInBounds_toArray, List.set_cons_succ, List.set_cons_zero]
        apply takeH (i := 11) 12 rfl (by kernel_rfl) (by kernel_rfl) (by kernel_rfl) (fun _ _ _ h => h) rfl (by first | exact M.out | exact M.out.take 2)
        case' hy =>
          refine Or.inl ⟨by first | rfl | (go_simp; done), ?_⟩
          intro w hS
          clear hS
          go_simp
          try with_reducible rfl
        try simp only [Act.put, List.getElem_toArray, List.getElem_cons_succ, List.getElem_cons_zero, List.setIfInBounds_toArray, List.set_cons_succ, List.set_cons_zero]
        exact REST0 g11 wn M.out
    intro g11 w_ m
    have M := Lib.hid m
    clear m M9
    refine wpAnyH_done (by kernel_rfl) ?_ _
    go_wp2_with (first
      | ((with_reducible refine gate_dst (N := 3) rfl ?_); go_must (refine M.out.ev_new rfl (by first | (go_simp; done) | (go_simp; rfl)) ?_); intro g3 w3 m; simp only [List.cons_append, List.nil_append] at m; have M := Lib.hid m; clear m)
      | ((with_reducible refine gate_dst (N := 5) rfl ?_); go_must (refine M.out.ev_new rfl (by first | (go_simp; done) | (go_simp; rfl)) ?_); intro g5 w5 m; simp only [List.cons_append, List.nil_append] at m; have M := Lib.hid m; clear m)
      | ((with_reducible refine gate_dst (N := 19) rfl ?_); go_must (refine M.out.ev_ldw 0 _ _ rfl rfl rfl Try.underlying27 rfl (by first | exact sz27 | (rw [S1.out]; exact sz27) | (rw [S2.out]; exact sz27) | (rw [S3.out]; exact sz27)) rfl ?_))
      | ((with_reducible refine gate_dst (N := 23) rfl ?_); go_must (refine M.out.ev_ldw 1 _ _ rfl rfl rfl Try.underlying50 rfl (by first | exact sz50 | (rw [S1.out]; exact sz50) | (rw [S2.out]; exact sz50) | (rw [S3.out]; exact sz50)) rfl ?_))
      | ((with_reducible refine gate_dst (N := 8) rfl ?_); go_must (refine M.out.ev_new rfl (by first | (go_simp; done) | (go_simp; rfl)) ?_); intro g8 w8 m; simp only [List.cons_append, List.nil_append] at m; have M := Lib.hid m; clear m)
      | ((with_reducible refine gate_store (x := .tmp 8) rfl ?_); go_must (refine M.out.ev_stw 3 _ _ _ rfl rfl rfl rfl _ rfl (by first | rfl | (simp only [S1.out]; rfl) | (simp only [S1.out, S2.out]; rfl) | (simp only [S3.out]; rfl) | (simp only [S1.out, S2.out, S3.out]; rfl)) (by first | exact sz51 | (rw [S1.out]; exact sz51) | (rw [S2.out]; exact sz51) | (rw [S3.out]; exact sz51)) (by first | exact ints_one _ _ | exact Fld.one _ | exact O1.out | exact Cs.one _ | rfl | (simp [Value.oneCell']; done)) rfl ?_); intro wn m; simp only [List.set_cons_succ, List.set_cons_zero, List.setIfInBounds_toArray] at m; have M := Lib.hid m; clear m)
      | ((with_reducible refine gate_dst (N := 31) rfl ?_); go_must (refine M.out.ev_ldw 0 _ _ rfl rfl rfl Try.underlying27 rfl (by first | exact sz27 | (rw [S1.out]; exact sz27) | (rw [S2.out]; exact sz27) | (rw [S3.out]; exact sz27)) rfl ?_))
      | ((with_reducible refine gate_dst (N := 34) rfl ?_); go_must (refine M.out.ev_ldw 1 _ _ rfl rfl rfl Try.underlying50 rfl (by first | exact sz50 | (rw [S1.out]; exact sz50) | (rw [S2.out]; exact sz50) | (rw [S3.out]; exact sz50)) rfl ?_))
      | ((with_reducible refine gate_dst (N := 11) rfl ?_); go_must (refine M.out.ev_new rfl (by first | (go_simp; done) | (go_simp; rfl)) ?_); intro g11 w11 m; simp only [List.cons_append, List.nil_append] at m; have M := Lib.hid m; clear m)
      | ((with_reducible refine gate_store (x := .tmp 11) rfl ?_); go_must (refine M.out.ev_stw 5 _ _ _ rfl rfl rfl rfl _ rfl (by first | rfl | (simp only [S1.out]; rfl) | (simp only [S1.out, S2.out]; rfl) | (simp only [S3.out]; rfl) | (simp only [S1.out, S2.out, S3.out]; rfl)) (by first | exact sz51 | (rw [S1.out]; exact sz51) | (rw [S2.out]; exact sz51) | (rw [S3.out]; exact sz51)) (by first | exact ints_one _ _ | exact Fld.one _ | exact O1.out | exact Cs.one _ | rfl | (simp [Value.oneCell']; done)) rfl ?_); intro wn m; simp only [List.set_cons_succ, List.set_cons_zero, List.setIfInBounds_toArray] at m; have M := Lib.hid m; clear m)
      | ((with_reducible refine gate_dst (N := 39) rfl ?_); go_must (refine M.out.ev_ldw 5 _ _ rfl rfl rfl Try.underlying51 rfl (by first | exact sz51 | (rw [S1.out]; exact sz51) | (rw [S2.out]; exact sz51) | (rw [S3.out]; exact sz51)) rfl ?_))
      | ((with_reducible refine gate_dst (N := 40) rfl ?_); go_must (refine M.out.ev_ldw 3 _ _ rfl rfl rfl Try.underlying51 rfl (by first | exact sz51 | (rw [S1.out]; exact sz51) | (rw [S2.out]; exact sz51) | (rw [S3.out]; exact sz51)) rfl ?_))
      | (go_at_call 25; go_must (refine (szNetS_any A xs.length n 1048576 _ (by omega) (by omega) hm).mono ?_); rintro e w_ ⟨rfl, rfl⟩; rw [if_neg hz])
      | (go_at_call 27; go_must (refine (toNetS_any A n xs _ hl (M.out.sl HS.out)).mono ?_); rintro e w_ ⟨A_, c_, rfl, hc_, N_⟩; have m := M.out.join N_; clear N_; simp only [List.cons_append, List.nil_append, List.append_nil] at m; have M := Lib.hid m; clear m)
      | (go_at_call 29; go_must (refine (eqCells_any _ _).mono ?_); rintro e w_ ⟨rfl, N_⟩; have m := M.out.join N_; clear N_; simp only [List.cons_append, List.nil_append, List.append_nil] at m; have M := Lib.hid m; clear m)
      | (go_at_call 18; go_must (refine (eqNetS_any _ _ _ _ xs xs _ hl (M.out.slof 4 rfl) (M.out.slof 6 rfl)).mono ?_); rintro e w_ ⟨rfl, N_⟩; have m := M.out.join N_; clear N_; simp only [List.cons_append, List.nil_append, List.append_nil] at m; have M := Lib.hid m; clear m; rw [decide_eq_true rfl])
      )
    go_ret
    exact ⟨ret_bool rfl, M.out.take 0⟩
  · have hz : (1048576 : Int) < xs.length := by omega
    go_enter Try.func7, Try.ntmps7
    go_wp2_with (first
      | ((with_reducible refine gate_dst (N := 3) rfl ?_); go_must (refine M.out.ev_new rfl (by first | (go_simp; done) | (go_simp; rfl)) ?_); intro g3 w3 m; simp only [List.cons_append, List.nil_append] at m; have M := Lib.hid m; clear m)
      | ((with_reducible refine gate_dst (N := 5) rfl ?_); go_must (refine M.out.ev_new rfl (by first | (go_simp; done) | (go_simp; rfl)) ?_); intro g5 w5 m; simp only [List.cons_append, List.nil_append] at m; have M := Lib.hid m; clear m)
      | ((with_reducible refine gate_dst (N := 19) rfl ?_); go_must (refine M.out.ev_ldw 0 _ _ rfl rfl rfl Try.underlying27 rfl (by first | exact sz27 | (rw [S1.out]; exact sz27) | (rw [S2.out]; exact sz27) | (rw [S3.out]; exact sz27)) rfl ?_))
      | ((with_reducible refine gate_dst (N := 23) rfl ?_); go_must (refine M.out.ev_ldw 1 _ _ rfl rfl rfl Try.underlying50 rfl (by first | exact sz50 | (rw [S1.out]; exact sz50) | (rw [S2.out]; exact sz50) | (rw [S3.out]; exact sz50)) rfl ?_))
      | ((with_reducible refine gate_dst (N := 8) rfl ?_); go_must (refine M.out.ev_new rfl (by first | (go_simp; done) | (go_simp; rfl)) ?_); intro g8 w8 m; simp only [List.cons_append, List.nil_append] at m; have M := Lib.hid m; clear m)
      | ((with_reducible refine gate_store (x := .tmp 8) rfl ?_); go_must (refine M.out.ev_stw 2 _ _ _ rfl rfl rfl rfl _ rfl (by first | rfl | (simp only [S1.out]; rfl) | (simp only [S1.out, S2.out]; rfl) | (simp only [S3.out]; rfl) | (simp only [S1.out, S2.out, S3.out]; rfl)) (by first | exact sz51 | (rw [S1.out]; exact sz51) | (rw [S2.out]; exact sz51) | (rw [S3.out]; exact sz51)) (by first | exact ints_one _ _ | exact Fld.one _ | exact O1.out | exact Cs.one _ | rfl | (simp [Value.oneCell']; done)) rfl ?_); intro wn m; simp only [List.set_cons_succ, List.set_cons_zero, List.setIfInBounds_toArray] at m; have M := Lib.hid m; clear m)
      | ((with_reducible refine gate_dst (N := 31) rfl ?_); go_must (refine M.out.ev_ldw 0 _ _ rfl rfl rfl Try.underlying27 rfl (by first | exact sz27 | (rw [S1.out]; exact sz27) | (rw [S2.out]; exact sz27) | (rw [S3.out]; exact sz27)) rfl ?_))
      | ((with_reducible refine gate_dst (N := 34) rfl ?_); go_must (refine M.out.ev_ldw 1 _ _ rfl rfl rfl Try.underlying50 rfl (by first | exact sz50 | (rw [S1.out]; exact sz50) | (rw [S2.out]; exact sz50) | (rw [S3.out]; exact sz50)) rfl ?_))
      | ((with_reducible refine gate_dst (N := 11) rfl ?_); go_must (refine M.out.ev_new rfl (by first | (go_simp; done) | (go_simp; rfl)) ?_); intro g11 w11 m; simp only [List.cons_append, List.nil_append] at m; have M := Lib.hid m; clear m)
      | ((with_reducible refine gate_store (x := .tmp 11) rfl ?_); go_must (refine M.out.ev_stw 3 _ _ _ rfl rfl rfl rfl _ rfl (by first | rfl | (simp only [S1.out]; rfl) | (simp only [S1.out, S2.out]; rfl) | (simp only [S3.out]; rfl) | (simp only [S1.out, S2.out, S3.out]; rfl)) (by first | exact sz51 | (rw [S1.out]; exact sz51) | (rw [S2.out]; exact sz51) | (rw [S3.out]; exact sz51)) (by first | exact ints_one _ _ | exact Fld.one _ | exact O1.out | exact Cs.one _ | rfl | (simp [Value.oneCell']; done)) rfl ?_); intro wn m; simp only [List.set_cons_succ, List.set_cons_zero, List.setIfInBounds_toArray] at m; have M := Lib.hid m; clear m)
      | ((with_reducible refine gate_dst (N := 39) rfl ?_); go_must (refine M.out.ev_ldw 3 _ _ rfl rfl rfl Try.underlying51 rfl (by first | exact sz51 | (rw [S1.out]; exact sz51) | (rw [S2.out]; exact sz51) | (rw [S3.out]; exact sz51)) rfl ?_))
      | ((with_reducible refine gate_dst (N := 40) rfl ?_); go_must (refine M.out.ev_ldw 2 _ _ rfl rfl rfl Try.underlying51 rfl (by first | exact sz51 | (rw [S1.out]; exact sz51) | (rw [S2.out]; exact sz51) | (rw [S3.out]; exact sz51)) rfl ?_))
      | (go_at_call 25; go_must (refine (szNetS_any A xs.length n 1048576 _ (by omega) (by omega) hm).mono ?_); rintro e w_ ⟨rfl, rfl⟩; rw [if_pos hz]))
    go_ret
    exact ⟨ret_bool rfl, M.out.take 0⟩
end Go.Proofs.Ytnddoiapilookaa
