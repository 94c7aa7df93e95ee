/- The law of flocks that eat for a day: its walk. -/
import Derived.Test.YtbjcajhbhicokaaFeedAll
import Derived.Test.YtbjcajhbhicokaaFlockM
import Derived.Test.YtbjcajhbhicokaaGen2
namespace Go.Proofs.Ytbjcajhbhicokaa
set_option linter.unusedSimpArgs false
set_option linter.unusedVariables false
open Go.RowKit
attribute [local go_sem] cell?_mk frozen?_mk

set_option maxRecDepth 100000 in
set_option maxHeartbeats 8000000 in
theorem lawFeedAll_in (F : Fld) (hF : F.ok) (fs : List Int) (hfl : fs.length = 100) (hff : ∀ x ∈ fs, -32768 ≤ x ∧ x ≤ 32767) (A : Option Addr) (n : Nat) (xs : List Flock) (hx : ∀ x ∈ xs, x.ok) (hl : xs.length ≤ 1048576) (w : World) (hs : Sl w 6 A xs.length (flat Flock.vals xs)) :
    Calls Try.prog 13 #[.agg F.cells, .agg (ints .i16 fs), .slice A xs.length n] w fun e w' => e = .returned (.bool true) ∧ Mem w w' [] := by
  have M := Lib.hid (Mem.start w)
  have HFF := Lib.hid hff
  have HX := Lib.hid hx
  have HS := Lib.hid hs
  have S1 := Lib.hid (Fld.size hF.toLen)
  have S2 := Lib.hid (show (ints .i16 fs).size = 100 by rw [ints_size, hfl])
  have hz : ¬ ((1048576 : Int) < xs.length) := by omega
  have hz2 : ¬ ((1048576 : Int) - xs.length < 0) := by omega
  have hk1 : ¬ (1 + 6 * (xs.length : Int) < 0) := by omega
  have S3 := Lib.hid (Fld.size (faF_len hF fs xs))
  have O1 := Lib.hid (Fld.one (faF F fs xs))
  have LF := Lib.hid (faF_len hF fs xs)
  have hr := faV_len hF fs xs
  have IM := Lib.hid (fun A n w hs => impl_FeedAll_any F hF fs hfl HFF.out A n xs HX.out hl w hs)
  have SP := Lib.hid (fun A n w hs => spec_FeedAll_any F hF fs hfl HFF.out A n xs HX.out hl w hs)
  obtain ⟨R, hR⟩ : ∃ R, R = faF F fs xs := ⟨_, rfl⟩
  obtain ⟨V, hV⟩ : ∃ V, V = faV F fs xs := ⟨_, rfl⟩
  obtain ⟨C, hC⟩ : ∃ C, C = birdsCode F fs xs := ⟨_, rfl⟩
  rw [← hR, ← hV, ← hC] at IM SP
  rw [← hR] at S3 O1 LF
  rw [← hV] at hr
  have hk2 : ¬ (1 + 3 * (V.length : Int) < 0) := by omega
  clear hff hR hV hC hx hs
  go_enter Try.func13, Try.ntmps13
  go_wp2_with (first
    | ((with_reducible refine gate_dst (N := 75) rfl ?_); refine gate_want rfl ?_; go_must (refine M.out.ev_ldw 7 _ _ rfl rfl rfl Try.underlying35 rfl (by rw [S3.out]; exact sz35) rfl ?_))
    | ((with_reducible refine gate_dst (N := 76) rfl ?_); refine gate_want rfl ?_; go_must (refine M.out.ev_ldw 4 _ _ rfl rfl rfl Try.underlying35 rfl (by rw [S3.out]; exact sz35) rfl ?_))
    | ((with_reducible refine gate_dst (N := 3) rfl ?_); go_must (refine M.out.ev_new rfl (by first | (go_simp; done) | (go_simp; rfl)) ?_); intro g3 w3 m; simp only [List.cons_append, List.nil_append] at m; have M := Lib.hid m; clear m)
    | ((with_reducible refine gate_dst (N := 4) rfl ?_); go_must (refine M.out.ev_new rfl (by first | (go_simp; done) | (go_simp; rfl)) ?_); intro g4 w4 m; simp only [List.cons_append, List.nil_append] at m; have M := Lib.hid m; clear m)
    | ((with_reducible refine gate_dst (N := 27) rfl ?_); go_must (refine M.out.ev_ldw 0 _ _ rfl rfl rfl Try.underlying27 rfl (by first | exact sz27 | (rw [S1.out]; exact sz27) | (rw [S2.out]; exact sz27) | (rw [S3.out]; exact sz27)) rfl ?_))
    | ((with_reducible refine gate_dst (N := 29) rfl ?_); go_must (refine M.out.ev_ldw 1 _ _ rfl rfl rfl Try.underlying25 rfl (by first | exact sz25 | (rw [S1.out]; exact sz25) | (rw [S2.out]; exact sz25) | (rw [S3.out]; exact sz25)) rfl ?_))
    | ((with_reducible refine gate_dst (N := 8) rfl ?_); go_must (refine M.out.ev_new rfl (by first | (go_simp; done) | (go_simp; rfl)) ?_); intro g8 w8 m; simp only [List.cons_append, List.nil_append] at m; have M := Lib.hid m; clear m)
    | ((with_reducible refine gate_store (x := .tmp 8) rfl ?_); go_must (refine M.out.ev_stw 4 _ _ _ rfl rfl rfl rfl _ rfl (by first | rfl | (simp only [S1.out]; rfl) | (simp only [S1.out, S2.out]; rfl) | (simp only [S3.out]; rfl) | (simp only [S1.out, S2.out, S3.out]; rfl)) (by first | exact sz35 | (rw [S1.out]; exact sz35) | (rw [S2.out]; exact sz35) | (rw [S3.out]; exact sz35)) (by first | exact ints_one _ _ | exact Fld.one _ | exact O1.out | rfl | (simp [Value.oneCell']; done)) rfl ?_); intro wn m; simp only [List.set_cons_succ, List.set_cons_zero, List.setIfInBounds_toArray] at m; have M := Lib.hid m; clear m)
    | ((with_reducible refine gate_dst (N := 40) rfl ?_); go_must (refine M.out.ev_ldw 0 _ _ rfl rfl rfl Try.underlying27 rfl (by first | exact sz27 | (rw [S1.out]; exact sz27) | (rw [S2.out]; exact sz27) | (rw [S3.out]; exact sz27)) rfl ?_))
    | ((with_reducible refine gate_dst (N := 42) rfl ?_); go_must (refine M.out.ev_ldw 1 _ _ rfl rfl rfl Try.underlying25 rfl (by first | exact sz25 | (rw [S1.out]; exact sz25) | (rw [S2.out]; exact sz25) | (rw [S3.out]; exact sz25)) rfl ?_))
    | ((with_reducible refine gate_dst (N := 12) rfl ?_); go_must (refine M.out.ev_new rfl (by first | (go_simp; done) | (go_simp; rfl)) ?_); intro g12 w12 m; simp only [List.cons_append, List.nil_append] at m; have M := Lib.hid m; clear m)
    | ((with_reducible refine gate_store (x := .tmp 12) rfl ?_); go_must (refine M.out.ev_stw 7 _ _ _ rfl rfl rfl rfl _ rfl (by first | rfl | (simp only [S1.out]; rfl) | (simp only [S1.out, S2.out]; rfl) | (simp only [S3.out]; rfl) | (simp only [S1.out, S2.out, S3.out]; rfl)) (by first | exact sz35 | (rw [S1.out]; exact sz35) | (rw [S2.out]; exact sz35) | (rw [S3.out]; exact sz35)) (by first | exact ints_one _ _ | exact Fld.one _ | exact O1.out | rfl | (simp [Value.oneCell']; done)) rfl ?_); intro wn m; simp only [List.set_cons_succ, List.set_cons_zero, List.setIfInBounds_toArray] at m; have M := Lib.hid m; clear m)
    | ((with_reducible refine gate_dst (N := 49) rfl ?_); go_must (refine M.out.ev_ldw 7 _ _ rfl rfl rfl Try.underlying35 rfl (by first | exact sz35 | (rw [S1.out]; exact sz35) | (rw [S2.out]; exact sz35) | (rw [S3.out]; exact sz35)) rfl ?_))
    | ((with_reducible refine gate_dst (N := 50) rfl ?_); go_must (refine M.out.ev_ldw 4 _ _ rfl rfl rfl Try.underlying35 rfl (by first | exact sz35 | (rw [S1.out]; exact sz35) | (rw [S2.out]; exact sz35) | (rw [S3.out]; exact sz35)) rfl ?_))
    | ((with_reducible refine gate_dst (N := 103) rfl ?_); go_must (refine M.out.ev_ldw 0 _ _ rfl rfl rfl Try.underlying27 rfl (by first | exact sz27 | (rw [S1.out]; exact sz27) | (rw [S2.out]; exact sz27) | (rw [S3.out]; exact sz27)) rfl ?_))
    | ((with_reducible refine gate_dst (N := 105) rfl ?_); go_must (refine M.out.ev_ldw 1 _ _ rfl rfl rfl Try.underlying25 rfl (by first | exact sz25 | (rw [S1.out]; exact sz25) | (rw [S2.out]; exact sz25) | (rw [S3.out]; exact sz25)) rfl ?_))
    | ((with_reducible refine gate_dst (N := 18) rfl ?_); go_must (refine M.out.ev_new rfl (by first | (go_simp; done) | (go_simp; rfl)) ?_); intro g18 w18 m; simp only [List.cons_append, List.nil_append] at m; have M := Lib.hid m; clear m)
    | ((with_reducible refine gate_store (x := .tmp 18) rfl ?_); go_must (refine M.out.ev_stw 11 _ _ _ rfl rfl rfl rfl _ rfl (by first | rfl | (simp only [S1.out]; rfl) | (simp only [S1.out, S2.out]; rfl) | (simp only [S3.out]; rfl) | (simp only [S1.out, S2.out, S3.out]; rfl)) (by first | exact sz35 | (rw [S1.out]; exact sz35) | (rw [S2.out]; exact sz35) | (rw [S3.out]; exact sz35)) (by first | exact ints_one _ _ | exact Fld.one _ | exact O1.out | rfl | (simp [Value.oneCell']; done)) rfl ?_); intro wn m; simp only [List.set_cons_succ, List.set_cons_zero, List.setIfInBounds_toArray] at m; have M := Lib.hid m; clear m)
    | ((with_reducible refine gate_dst (N := 113) rfl ?_); go_must (refine M.out.ev_ldw 11 _ _ rfl rfl rfl Try.underlying35 rfl (by first | exact sz35 | (rw [S1.out]; exact sz35) | (rw [S2.out]; exact sz35) | (rw [S3.out]; exact sz35)) rfl ?_))
    | ((with_reducible refine gate_dst (N := 114) rfl ?_); go_must (refine M.out.ev_ldw 4 _ _ rfl rfl rfl Try.underlying35 rfl (by first | exact sz35 | (rw [S1.out]; exact sz35) | (rw [S2.out]; exact sz35) | (rw [S3.out]; exact sz35)) rfl ?_))
    | (go_at_call 16; go_must (refine (toField_any F hF.toLen _).mono ?_); rintro e w_ ⟨rfl, hB_⟩; have M := Lib.hid (M.out.kept hB_); clear hB_)
    | (go_at_call 17; go_must (refine (toFears_any fs hfl _).mono ?_); rintro e w_ ⟨rfl, hB_⟩; have M := Lib.hid (M.out.kept hB_); clear hB_)
    | (go_at_call 48; go_must (first | (refine Calls.mono (calls_args (by with_reducible rfl) (eqVisitS_any _ _ _ _ V V _ hr (M.out.slof 6 rfl) (M.out.slof 3 rfl))) ?_) | (refine Calls.mono (calls_args (by with_reducible rfl) (eqVisitS_any _ _ _ _ V V _ hr (M.out.slof 10 rfl) (M.out.slof 3 rfl))) ?_)); rintro e w_ ⟨rfl, N_⟩; have m := M.out.join N_; clear N_; simp only [List.cons_append, List.nil_append, List.append_nil] at m; have M := Lib.hid m; clear m; rw [decide_eq_true rfl])
    | (go_at_call 37; go_must (first | (refine Calls.mono (calls_args (by with_reducible rfl) (eqFlockS_any _ _ _ _ xs xs _ hl (M.out.slof 5 rfl) (M.out.slof 8 rfl))) ?_)); rintro e w_ ⟨rfl, N_⟩; have m := M.out.join N_; clear N_; simp only [List.cons_append, List.nil_append, List.append_nil] at m; have M := Lib.hid m; clear m; rw [decide_eq_true rfl])
    | (go_at_call 38; go_must (first | (refine Calls.mono (calls_args (by with_reducible rfl) (markFlock_any 5 M.out _ _ xs rfl hl)) ?_)); rintro e w_ ⟨rfl, m⟩; simp only [List.set_cons_succ, List.set_cons_zero] at m; have M := Lib.hid m; clear m)
    | (go_at_call 49; go_must (first | (refine Calls.mono (calls_args (by with_reducible rfl) (markVisit_any 6 M.out _ _ V rfl hr)) ?_)); rintro e w_ ⟨rfl, m⟩; simp only [List.set_cons_succ, List.set_cons_zero] at m; have M := Lib.hid m; clear m)
    | (go_at_call 56; go_must (refine (heldVisit_any _ _ V.length hr _ (M.out.slof 6 rfl)).mono ?_); rintro e w_ ⟨rfl, rfl⟩)
    | (go_at_call 35; go_must (refine (toFlockS_any A n xs _ hl (M.out.sl HS.out)).mono ?_); rintro e w_ ⟨A_, c_, rfl, hc_, N_⟩; have m := M.out.join N_; clear N_; simp only [List.cons_append, List.nil_append, List.append_nil] at m; have M := Lib.hid m; clear m)
    | (go_at_call 33; go_must (refine (szFlockS_any A xs.length n 1048576 _ (by omega) (by omega) (by omega)).mono ?_); rintro e w_ ⟨rfl, rfl⟩; rw [if_neg hz])
    | (go_at_call 52; go_must (refine (eqField_any R LF.out _).mono ?_); rintro e w_ ⟨rfl, N_⟩; have m := M.out.join N_; clear N_; simp only [List.cons_append, List.nil_append, List.append_nil] at m; have M := Lib.hid m; clear m)
    )
  refine region_anyH (fun w' => Mem w w' [.blk g3 27 F.cells, .blk g4 25 (ints .i16 fs)]) (by kernel_rfl) ?_
  have M9 := M.out.drew
  clear M
  apply merge5
  case hA =>
    intro REST0
    apply merge5
    case hA =>
      intro REST1
      apply merge3
      case hA =>
        intro REST2
        apply merge1
        case hA =>
          intro REST3
          apply merge1
          case hA =>
            intro REST4
            have M := Lib.hid M9
            apply takeH (i := 0) 27 rfl (by kernel_rfl) (by kernel_rfl) (by kernel_rfl) (fun _ _ _ h => h) rfl (by first | exact M.out | exact M.out.take 2)
            case' hy => exact yldw _ _ rfl rfl Try.underlying27 rfl (by first | exact sz27 | (rw [S1.out]; exact sz27) | (rw [S2.out]; exact sz27) | (rw [S3.out]; exact sz27)) rfl (fun w' hS => hS.blk 0 rfl)
            try simp only [Act.put, List.getElem_toArray, List.getElem_cons_succ, List.getElem_cons_zero, List.setIfInBounds_toArray, List.set_cons_succ, List.set_cons_zero]
            apply takeH (i := 2) 29 rfl (by kernel_rfl) (by kernel_rfl) (by kernel_rfl) (fun _ _ _ h => h) rfl (by first | exact M.out | exact M.out.take 2)
            case' hy => exact yldw _ _ rfl rfl Try.underlying25 rfl (by first | exact sz25 | (rw [S1.out]; exact sz25) | (rw [S2.out]; exact sz25) | (rw [S3.out]; exact sz25)) rfl (fun w' hS => hS.blk 1 rfl)
            try simp only [Act.put, List.getElem_toArray, List.getElem_cons_succ, List.getElem_cons_zero, List.setIfInBounds_toArray, List.set_cons_succ, List.set_cons_zero]
            apply takeH (i := 4) 31 rfl (by kernel_rfl) (by kernel_rfl) (by kernel_rfl) (fun _ _ _ h => h) rfl (by first | exact M.out | exact M.out.take 2)
            case' hy =>
              refine Or.inl ⟨by first | rfl | (go_simp; done), ?_⟩
              intro w hS
              clear hS
              go_simp
              try with_reducible rfl
            try simp only [Act.put, List.getElem_toArray, List.getElem_cons_succ, List.getElem_cons_zero, List.setIfInBounds_toArray, List.set_cons_succ, List.set_cons_zero]
            refine any2H 1 11 (by kernel_rfl) rfl rfl (fun K hK => ?_) (fun K hK => ?_)
            rotate_right 1
            case' _ =>
              go_wp2_with (first | ((with_reducible refine gate_dst (N := 8) rfl ?_); go_must (refine M.out.ev_new rfl (by first | (go_simp; done) | (go_simp; rfl)) ?_); intro g8 w8 m; simp only [List.cons_append, List.nil_append] at m; have M := Lib.hid m; clear m))
              refine onward_normal (hK _ _ ⟨(by first | exact M.out | exact M.out.take 2), ?_⟩)
              clear hK K
              try simp only [Act.put, List.getElem_toArray, List.getElem_cons_succ, List.getElem_cons_zero, List.setIfInBounds_toArray, List.set_cons_succ, List.set_cons_zero]
              refine any1H 1 (by kernel_rfl) rfl (fun K hK => ?_)
              go_wp2_with (first | (go_at_call 16; go_must (refine (toField_any F hF.toLen _).mono ?_); rintro e w_ ⟨rfl, hB_⟩; have M := Lib.hid (M.out.kept hB_); clear hB_))
              refine onward_normal (hK _ _ ⟨(by first | exact M.out | exact M.out.take 2), ?_⟩)
              clear hK K
              try simp only [Act.put, List.getElem_toArray, List.getElem_cons_succ, List.getElem_cons_zero, List.setIfInBounds_toArray, List.set_cons_succ, List.set_cons_zero]
              exact REST4 g8 w_ M.out
            rotate_right 1
            case' _ =>
              go_wp2_with (first | (go_at_call 16; go_must (refine (toField_any F hF.toLen _).mono ?_); rintro e w_ ⟨rfl, hB_⟩; have M := Lib.hid (M.out.kept hB_); clear hB_))
              refine onward_normal (hK _ _ ⟨(by first | exact M.out | exact M.out.take 2), ?_⟩)
              clear hK K
              try simp only [Act.put, List.getElem_toArray, List.getElem_cons_succ, List.getElem_cons_zero, List.setIfInBounds_toArray, List.set_cons_succ, List.set_cons_zero]
              refine any2H 3 11 (by kernel_rfl) rfl rfl (fun K hK => ?_) (fun K hK => ?_)
              rotate_right 1
              case' _ =>
                go_wp2_with (first | ((with_reducible refine gate_dst (N := 8) rfl ?_); go_must (refine M.out.ev_new rfl (by first | (go_simp; done) | (go_simp; rfl)) ?_); intro g8 w8 m; simp only [List.cons_append, List.nil_append] at m; have M := Lib.hid m; clear m))
                refine onward_normal (hK _ _ ⟨(by first | exact M.out | exact M.out.take 2), ?_⟩)
                clear hK K
                try simp only [Act.put, List.getElem_toArray, List.getElem_cons_succ, List.getElem_cons_zero, List.setIfInBounds_toArray, List.set_cons_succ, List.set_cons_zero]
                exact REST4 g8 w8 M.out
              rotate_right 1
              case' _ =>
                go_wp2_with (first | (go_at_call 17; go_must (refine (toFears_any fs hfl _).mono ?_); rintro e w_ ⟨rfl, hB_⟩; have M := Lib.hid (M.out.kept hB_); clear hB_))
                refine onward_normal (hK _ _ ⟨(by first | exact M.out | exact M.out.take 2), ?_⟩)
                clear hK K
                try simp only [Act.put, List.getElem_toArray, List.getElem_cons_succ, List.getElem_cons_zero, List.setIfInBounds_toArray, List.set_cons_succ, List.set_cons_zero]
                refine any2H 5 11 (by kernel_rfl) rfl rfl (fun K hK => ?_) (fun K hK => ?_)
                rotate_right 1
                case' _ =>
                  go_wp2_with (first | ((with_reducible refine gate_dst (N := 8) rfl ?_); go_must (refine M.out.ev_new rfl (by first | (go_simp; done) | (go_simp; rfl)) ?_); intro g8 w8 m; simp only [List.cons_append, List.nil_append] at m; have M := Lib.hid m; clear m))
                  refine onward_normal (hK _ _ ⟨(by first | exact M.out | exact M.out.take 2), ?_⟩)
                  clear hK K
                  try simp only [Act.put, List.getElem_toArray, List.getElem_cons_succ, List.getElem_cons_zero, List.setIfInBounds_toArray, List.set_cons_succ, List.set_cons_zero]
                  exact REST3 g8 w8 M.out
                rotate_right 1
                case' _ =>
                  go_wp2_with (first | (go_at_call 35; go_must (refine (toFlockS_any A n xs _ hl (M.out.sl HS.out)).mono ?_); rintro e w_ ⟨A32, c32, rfl, hc32, N_⟩; have m := M.out.join N_; clear N_; simp only [List.cons_append, List.nil_append, List.append_nil] at m; have M := Lib.hid m; clear m))
                  refine onward_normal (hK _ _ ⟨(by first | exact M.out | exact M.out.take 2), ?_⟩)
                  clear hK K
                  try simp only [Act.put, List.getElem_toArray, List.getElem_cons_succ, List.getElem_cons_zero, List.setIfInBounds_toArray, List.set_cons_succ, List.set_cons_zero]
                  refine any2H 6 11 (by kernel_rfl) rfl rfl (fun K hK => ?_) (fun K hK => ?_)
                  rotate_right 1
                  case' _ =>
                    go_wp2_with (first | ((with_reducible refine gate_dst (N := 8) rfl ?_); go_must (refine M.out.ev_new rfl (by first | (go_simp; done) | (go_simp; rfl)) ?_); intro g8 w8 m; simp only [List.cons_append, List.nil_append] at m; have M := Lib.hid m; clear m))
                    refine onward_normal (hK _ _ ⟨(by first | exact M.out | exact M.out.take 2), ?_⟩)
                    clear hK K
                    try simp only [Act.put, List.getElem_toArray, List.getElem_cons_succ, List.getElem_cons_zero, List.setIfInBounds_toArray, List.set_cons_succ, List.set_cons_zero]
                    exact REST2 A32 c32 g8 w8 M.out
                  rotate_right 1
                  case' _ =>
                    go_wp2_with (first | (go_at_call 59; go_must (first | (refine Calls.mono (calls_args (by with_reducible rfl) (SP.out _ _ _ (M.out.slof 1 rfl))) ?_) | (refine Calls.mono (calls_args (by with_reducible rfl) (SP.out _ _ _ (M.out.slof 2 rfl))) ?_) | (refine Calls.mono (calls_args (by with_reducible rfl) (SP.out _ _ _ (M.out.slof 3 rfl))) ?_)); rintro e w_ ⟨A33, c33, rfl, hc33, N_⟩; have m := M.out.join N_; clear N_; simp only [List.cons_append, List.nil_append, List.append_nil] at m; have M := Lib.hid m; clear m))
                    refine onward_normal (hK _ _ ⟨(by first | exact M.out | exact M.out.take 2), ?_⟩)
                    clear hK K
                    try simp only [Act.put, List.getElem_toArray, List.getElem_cons_succ, List.getElem_cons_zero, List.setIfInBounds_toArray, List.set_cons_succ, List.set_cons_zero]
                    apply takeH (i := 7) 26 rfl (by kernel_rfl) (by kernel_rfl) (by kernel_rfl) (fun _ _ _ h => h) rfl (by first | exact M.out | exact M.out.take 2)
                    case' hy =>
                      refine Or.inl ⟨by first | rfl | (go_simp; done), ?_⟩
                      intro w hS
                      clear hS
                      go_simp
                      try with_reducible rfl
                    try simp only [Act.put, List.getElem_toArray, List.getElem_cons_succ, List.getElem_cons_zero, List.setIfInBounds_toArray, List.set_cons_succ, List.set_cons_zero]
                    apply takeH (i := 8) 34 rfl (by kernel_rfl) (by kernel_rfl) (by kernel_rfl) (fun _ _ _ h => h) rfl (by first | exact M.out | exact M.out.take 2)
                    case' hy =>
                      refine Or.inl ⟨by first | rfl | (go_simp; done), ?_⟩
                      intro w hS
                      clear hS
                      go_simp
                      try with_reducible rfl
                    try simp only [Act.put, List.getElem_toArray, List.getElem_cons_succ, List.getElem_cons_zero, List.setIfInBounds_toArray, List.set_cons_succ, List.set_cons_zero]
                    apply takeH (i := 9) 35 rfl (by kernel_rfl) (by kernel_rfl) (by kernel_rfl) (fun _ _ _ h => h) rfl (by first | exact M.out | exact M.out.take 2)
                    case' hy =>
                      refine Or.inl ⟨by first | rfl | (go_simp; done), ?_⟩
                      intro w hS
                      clear hS
                      go_simp
                      try with_reducible rfl
                    try simp only [Act.put, List.getElem_toArray, List.getElem_cons_succ, List.getElem_cons_zero, List.setIfInBounds_toArray, List.set_cons_succ, List.set_cons_zero]
                    apply takeH (i := 10) 36 rfl (by kernel_rfl) (by kernel_rfl) (by kernel_rfl) (fun _ _ _ h => h) rfl (by first | exact M.out | exact M.out.take 2)
                    case' hy =>
                      refine Or.inl ⟨by first | rfl | (go_simp; done), ?_⟩
                      intro w hS
                      clear hS
                      go_simp
                      try with_reducible rfl
                    try simp only [Act.put, List.getElem_toArray, List.getElem_cons_succ, List.getElem_cons_zero, List.setIfInBounds_toArray, List.set_cons_succ, List.set_cons_zero]
                    refine any1H 11 (by kernel_rfl) rfl (fun K hK => ?_)
                    go_wp2_with (first | ((with_reducible refine gate_dst (N := 8) rfl ?_); go_must (refine M.out.ev_new rfl (by first | (go_simp; done) | (go_simp; rfl)) ?_); intro g8 w8 m; simp only [List.cons_append, List.nil_append] at m; have M := Lib.hid m; clear m))
                    refine onward_normal (hK _ _ ⟨(by first | exact M.out | exact M.out.take 2), ?_⟩)
                    clear hK K
                    try simp only [Act.put, List.getElem_toArray, List.getElem_cons_succ, List.getElem_cons_zero, List.setIfInBounds_toArray, List.set_cons_succ, List.set_cons_zero]
                    exact REST1 A32 c32 A33 c33 g8 w8 M.out
          case hB =>
            intro g8 w_ m
            have M := Lib.hid m
            clear m
            refine any1H 3 (by kernel_rfl) rfl (fun K hK => ?_)
            go_wp2_with (first | (go_at_call 17; go_must (refine (toFears_any fs hfl _).mono ?_); rintro e w_ ⟨rfl, hB_⟩; have M := Lib.hid (M.out.kept hB_); clear hB_))
            refine onward_normal (hK _ _ ⟨(by first | exact M.out | exact M.out.take 2), ?_⟩)
            clear hK K
            try simp only [Act.put, List.getElem_toArray, List.getElem_cons_succ, List.getElem_cons_zero, List.setIfInBounds_toArray, List.set_cons_succ, List.set_cons_zero]
            exact REST3 g8 w_ M.out
        case hB =>
          intro g8 w_ m
          have M := Lib.hid m
          clear m
          refine any1H 5 (by kernel_rfl) rfl (fun K hK => ?_)
          go_wp2_with (first | (go_at_call 35; go_must (refine (toFlockS_any A n xs _ hl (M.out.sl HS.out)).mono ?_); rintro e w_ ⟨A32, c32, rfl, hc32, N_⟩; have m := M.out.join N_; clear N_; simp only [List.cons_append, List.nil_append, List.append_nil] at m; have M := Lib.hid m; clear m))
          refine onward_normal (hK _ _ ⟨(by first | exact M.out | exact M.out.take 2), ?_⟩)
          clear hK K
          try simp only [Act.put, List.getElem_toArray, List.getElem_cons_succ, List.getElem_cons_zero, List.setIfInBounds_toArray, List.set_cons_succ, List.set_cons_zero]
          have m := M.out.only [0, 1, 3, 2] (K := [_, _, _, _]) rfl (by decide)
          exact REST2 A32 c32 g8 w_ m
      case hB =>
        intro A32 c32 g8 w_ m
        have M := Lib.hid m
        clear m
        refine any1H 6 (by kernel_rfl) rfl (fun K hK => ?_)
        go_wp2_with (first | (go_at_call 59; go_must (first | (refine Calls.mono (calls_args (by with_reducible rfl) (SP.out _ _ _ (M.out.slof 1 rfl))) ?_) | (refine Calls.mono (calls_args (by with_reducible rfl) (SP.out _ _ _ (M.out.slof 2 rfl))) ?_) | (refine Calls.mono (calls_args (by with_reducible rfl) (SP.out _ _ _ (M.out.slof 3 rfl))) ?_)); rintro e w_ ⟨A33, c33, rfl, hc33, N_⟩; have m := M.out.join N_; clear N_; simp only [List.cons_append, List.nil_append, List.append_nil] at m; have M := Lib.hid m; clear m))
        refine onward_normal (hK _ _ ⟨(by first | exact M.out | exact M.out.take 2), ?_⟩)
        clear hK K
        try simp only [Act.put, List.getElem_toArray, List.getElem_cons_succ, List.getElem_cons_zero, List.setIfInBounds_toArray, List.set_cons_succ, List.set_cons_zero]
        apply takeH (i := 7) 26 rfl (by kernel_rfl) (by kernel_rfl) (by kernel_rfl) (fun _ _ _ h => h) rfl (by first | exact M.out | exact M.out.take 2)
        case' hy =>
          refine Or.inl ⟨by first | rfl | (go_simp; done), ?_⟩
          intro w hS
          clear hS
          go_simp
          try with_reducible rfl
        try simp only [Act.put, List.getElem_toArray, List.getElem_cons_succ, List.getElem_cons_zero, List.setIfInBounds_toArray, List.set_cons_succ, List.set_cons_zero]
        apply takeH (i := 8) 34 rfl (by kernel_rfl) (by kernel_rfl) (by kernel_rfl) (fun _ _ _ h => h) rfl (by first | exact M.out | exact M.out.take 2)
        case' hy =>
          refine Or.inl ⟨by first | rfl | (go_simp; done), ?_⟩
          intro w hS
          clear hS
          go_simp
          try with_reducible rfl
        try simp only [Act.put, List.getElem_toArray, List.getElem_cons_succ, List.getElem_cons_zero, List.setIfInBounds_toArray, List.set_cons_succ, List.set_cons_zero]
        apply takeH (i := 9) 35 rfl (by kernel_rfl) (by kernel_rfl) (by kernel_rfl) (fun _ _ _ h => h) rfl (by first | exact M.out | exact M.out.take 2)
        case' hy =>
          refine Or.inl ⟨by first | rfl | (go_simp; done), ?_⟩
          intro w hS
          clear hS
          go_simp
          try with_reducible rfl
        try simp only [Act.put, List.getElem_toArray, List.getElem_cons_succ, List.getElem_cons_zero, List.setIfInBounds_toArray, List.set_cons_succ, List.set_cons_zero]
        apply takeH (i := 10) 36 rfl (by kernel_rfl) (by kernel_rfl) (by kernel_rfl) (fun _ _ _ h => h) rfl (by first | exact M.out | exact M.out.take 2)
        case' hy =>
          refine Or.inl ⟨by first | rfl | (go_simp; done), ?_⟩
          intro w hS
          clear hS
          go_simp
          try with_reducible rfl
        try simp only [Act.put, List.getElem_toArray, List.getElem_cons_succ, List.getElem_cons_zero, List.setIfInBounds_toArray, List.set_cons_succ, List.set_cons_zero]
        have m := M.out.only [0, 1, 2, 4, 3] (K := [_, _, _, _, _]) rfl (by decide)
        exact REST1 A32 c32 A33 c33 g8 w_ m
    case hB =>
      intro A32 c32 A33 c33 g8 w_ m
      have M := Lib.hid m
      clear m
      refine any1H 12 (by kernel_rfl) rfl (fun K hK => ?_)
      go_wp2_with (first | ((with_reducible refine gate_store (x := .tmp 8) rfl ?_); go_must (first | (refine M.out.ev_stw 2 _ _ _ rfl rfl rfl rfl _ rfl (by first | rfl | (simp only [S1.out]; rfl) | (simp only [S1.out, S2.out]; rfl) | (simp only [S3.out]; rfl) | (simp only [S1.out, S2.out, S3.out]; rfl)) (by first | exact sz35 | (rw [S1.out]; exact sz35) | (rw [S2.out]; exact sz35) | (rw [S3.out]; exact sz35)) (by first | exact ints_one _ _ | exact Fld.one _ | exact O1.out | rfl | (simp [Value.oneCell']; done)) rfl ?_) | (refine M.out.ev_stw 3 _ _ _ rfl rfl rfl rfl _ rfl (by first | rfl | (simp only [S1.out]; rfl) | (simp only [S1.out, S2.out]; rfl) | (simp only [S3.out]; rfl) | (simp only [S1.out, S2.out, S3.out]; rfl)) (by first | exact sz35 | (rw [S1.out]; exact sz35) | (rw [S2.out]; exact sz35) | (rw [S3.out]; exact sz35)) (by first | exact ints_one _ _ | exact Fld.one _ | exact O1.out | rfl | (simp [Value.oneCell']; done)) rfl ?_) | (refine M.out.ev_stw 4 _ _ _ rfl rfl rfl rfl _ rfl (by first | rfl | (simp only [S1.out]; rfl) | (simp only [S1.out, S2.out]; rfl) | (simp only [S3.out]; rfl) | (simp only [S1.out, S2.out, S3.out]; rfl)) (by first | exact sz35 | (rw [S1.out]; exact sz35) | (rw [S2.out]; exact sz35) | (rw [S3.out]; exact sz35)) (by first | exact ints_one _ _ | exact Fld.one _ | exact O1.out | rfl | (simp [Value.oneCell']; done)) rfl ?_)); intro wn m; simp only [List.set_cons_succ, List.set_cons_zero, List.setIfInBounds_toArray] at m; have M := Lib.hid m; clear m))
      refine onward_normal (hK _ _ ⟨(by first | exact M.out | exact M.out.take 2), ?_⟩)
      clear hK K
      try simp only [Act.put, List.getElem_toArray, List.getElem_cons_succ, List.getElem_cons_zero, List.setIfInBounds_toArray, List.set_cons_succ, List.set_cons_zero]
      apply takeH (i := 13) 9 rfl (by kernel_rfl) (by kernel_rfl) (by kernel_rfl) (fun _ _ _ h => h) rfl (by first | exact M.out | exact M.out.take 2)
      case' hy =>
        refine Or.inl ⟨by first | rfl | (go_simp; done), ?_⟩
        intro w hS
        clear hS
        go_simp
        try with_reducible rfl
      try simp only [Act.put, List.getElem_toArray, List.getElem_cons_succ, List.getElem_cons_zero, List.setIfInBounds_toArray, List.set_cons_succ, List.set_cons_zero]
      apply takeH (i := 14) 10 rfl (by kernel_rfl) (by kernel_rfl) (by kernel_rfl) (fun _ _ _ h => h) rfl (by first | exact M.out | exact M.out.take 2)
      case' hy =>
        refine Or.inl ⟨by first | rfl | (go_simp; done), ?_⟩
        intro w hS
        clear hS
        go_simp
        try with_reducible rfl
      try simp only [Act.put, List.getElem_toArray, List.getElem_cons_succ, List.getElem_cons_zero, List.setIfInBounds_toArray, List.set_cons_succ, List.set_cons_zero]
      exact REST0 A32 c32 A33 c33 g8 wn M.out
  intro A32 c32 A33 c33 g8 w_ m
  have M := Lib.hid m
  clear m M9
  refine wpAnyH_done (by kernel_rfl) ?_ _
  go_wp2_with (first
    | ((with_reducible refine gate_dst (N := 75) rfl ?_); refine gate_want rfl ?_; go_must (refine M.out.ev_ldw 7 _ _ rfl rfl rfl Try.underlying35 rfl (by rw [S3.out]; exact sz35) rfl ?_))
    | ((with_reducible refine gate_dst (N := 76) rfl ?_); refine gate_want rfl ?_; go_must (refine M.out.ev_ldw 4 _ _ rfl rfl rfl Try.underlying35 rfl (by rw [S3.out]; exact sz35) rfl ?_))
    | ((with_reducible refine gate_dst (N := 3) rfl ?_); go_must (refine M.out.ev_new rfl (by first | (go_simp; done) | (go_simp; rfl)) ?_); intro g3 w3 m; simp only [List.cons_append, List.nil_append] at m; have M := Lib.hid m; clear m)
    | ((with_reducible refine gate_dst (N := 4) rfl ?_); go_must (refine M.out.ev_new rfl (by first | (go_simp; done) | (go_simp; rfl)) ?_); intro g4 w4 m; simp only [List.cons_append, List.nil_append] at m; have M := Lib.hid m; clear m)
    | ((with_reducible refine gate_dst (N := 27) rfl ?_); go_must (refine M.out.ev_ldw 0 _ _ rfl rfl rfl Try.underlying27 rfl (by first | exact sz27 | (rw [S1.out]; exact sz27) | (rw [S2.out]; exact sz27) | (rw [S3.out]; exact sz27)) rfl ?_))
    | ((with_reducible refine gate_dst (N := 29) rfl ?_); go_must (refine M.out.ev_ldw 1 _ _ rfl rfl rfl Try.underlying25 rfl (by first | exact sz25 | (rw [S1.out]; exact sz25) | (rw [S2.out]; exact sz25) | (rw [S3.out]; exact sz25)) rfl ?_))
    | ((with_reducible refine gate_dst (N := 8) rfl ?_); go_must (refine M.out.ev_new rfl (by first | (go_simp; done) | (go_simp; rfl)) ?_); intro g8 w8 m; simp only [List.cons_append, List.nil_append] at m; have M := Lib.hid m; clear m)
    | ((with_reducible refine gate_store (x := .tmp 8) rfl ?_); go_must (refine M.out.ev_stw 4 _ _ _ rfl rfl rfl rfl _ rfl (by first | rfl | (simp only [S1.out]; rfl) | (simp only [S1.out, S2.out]; rfl) | (simp only [S3.out]; rfl) | (simp only [S1.out, S2.out, S3.out]; rfl)) (by first | exact sz35 | (rw [S1.out]; exact sz35) | (rw [S2.out]; exact sz35) | (rw [S3.out]; exact sz35)) (by first | exact ints_one _ _ | exact Fld.one _ | exact O1.out | rfl | (simp [Value.oneCell']; done)) rfl ?_); intro wn m; simp only [List.set_cons_succ, List.set_cons_zero, List.setIfInBounds_toArray] at m; have M := Lib.hid m; clear m)
    | ((with_reducible refine gate_dst (N := 40) rfl ?_); go_must (refine M.out.ev_ldw 0 _ _ rfl rfl rfl Try.underlying27 rfl (by first | exact sz27 | (rw [S1.out]; exact sz27) | (rw [S2.out]; exact sz27) | (rw [S3.out]; exact sz27)) rfl ?_))
    | ((with_reducible refine gate_dst (N := 42) rfl ?_); go_must (refine M.out.ev_ldw 1 _ _ rfl rfl rfl Try.underlying25 rfl (by first | exact sz25 | (rw [S1.out]; exact sz25) | (rw [S2.out]; exact sz25) | (rw [S3.out]; exact sz25)) rfl ?_))
    | ((with_reducible refine gate_dst (N := 12) rfl ?_); go_must (refine M.out.ev_new rfl (by first | (go_simp; done) | (go_simp; rfl)) ?_); intro g12 w12 m; simp only [List.cons_append, List.nil_append] at m; have M := Lib.hid m; clear m)
    | ((with_reducible refine gate_store (x := .tmp 12) rfl ?_); go_must (refine M.out.ev_stw 7 _ _ _ rfl rfl rfl rfl _ rfl (by first | rfl | (simp only [S1.out]; rfl) | (simp only [S1.out, S2.out]; rfl) | (simp only [S3.out]; rfl) | (simp only [S1.out, S2.out, S3.out]; rfl)) (by first | exact sz35 | (rw [S1.out]; exact sz35) | (rw [S2.out]; exact sz35) | (rw [S3.out]; exact sz35)) (by first | exact ints_one _ _ | exact Fld.one _ | exact O1.out | rfl | (simp [Value.oneCell']; done)) rfl ?_); intro wn m; simp only [List.set_cons_succ, List.set_cons_zero, List.setIfInBounds_toArray] at m; have M := Lib.hid m; clear m)
    | ((with_reducible refine gate_dst (N := 49) rfl ?_); go_must (refine M.out.ev_ldw 7 _ _ rfl rfl rfl Try.underlying35 rfl (by first | exact sz35 | (rw [S1.out]; exact sz35) | (rw [S2.out]; exact sz35) | (rw [S3.out]; exact sz35)) rfl ?_))
    | ((with_reducible refine gate_dst (N := 50) rfl ?_); go_must (refine M.out.ev_ldw 4 _ _ rfl rfl rfl Try.underlying35 rfl (by first | exact sz35 | (rw [S1.out]; exact sz35) | (rw [S2.out]; exact sz35) | (rw [S3.out]; exact sz35)) rfl ?_))
    | ((with_reducible refine gate_dst (N := 103) rfl ?_); go_must (refine M.out.ev_ldw 0 _ _ rfl rfl rfl Try.underlying27 rfl (by first | exact sz27 | (rw [S1.out]; exact sz27) | (rw [S2.out]; exact sz27) | (rw [S3.out]; exact sz27)) rfl ?_))
    | ((with_reducible refine gate_dst (N := 105) rfl ?_); go_must (refine M.out.ev_ldw 1 _ _ rfl rfl rfl Try.underlying25 rfl (by first | exact sz25 | (rw [S1.out]; exact sz25) | (rw [S2.out]; exact sz25) | (rw [S3.out]; exact sz25)) rfl ?_))
    | ((with_reducible refine gate_dst (N := 18) rfl ?_); go_must (refine M.out.ev_new rfl (by first | (go_simp; done) | (go_simp; rfl)) ?_); intro g18 w18 m; simp only [List.cons_append, List.nil_append] at m; have M := Lib.hid m; clear m)
    | ((with_reducible refine gate_store (x := .tmp 18) rfl ?_); go_must (refine M.out.ev_stw 11 _ _ _ rfl rfl rfl rfl _ rfl (by first | rfl | (simp only [S1.out]; rfl) | (simp only [S1.out, S2.out]; rfl) | (simp only [S3.out]; rfl) | (simp only [S1.out, S2.out, S3.out]; rfl)) (by first | exact sz35 | (rw [S1.out]; exact sz35) | (rw [S2.out]; exact sz35) | (rw [S3.out]; exact sz35)) (by first | exact ints_one _ _ | exact Fld.one _ | exact O1.out | rfl | (simp [Value.oneCell']; done)) rfl ?_); intro wn m; simp only [List.set_cons_succ, List.set_cons_zero, List.setIfInBounds_toArray] at m; have M := Lib.hid m; clear m)
    | ((with_reducible refine gate_dst (N := 113) rfl ?_); go_must (refine M.out.ev_ldw 11 _ _ rfl rfl rfl Try.underlying35 rfl (by first | exact sz35 | (rw [S1.out]; exact sz35) | (rw [S2.out]; exact sz35) | (rw [S3.out]; exact sz35)) rfl ?_))
    | ((with_reducible refine gate_dst (N := 114) rfl ?_); go_must (refine M.out.ev_ldw 4 _ _ rfl rfl rfl Try.underlying35 rfl (by first | exact sz35 | (rw [S1.out]; exact sz35) | (rw [S2.out]; exact sz35) | (rw [S3.out]; exact sz35)) rfl ?_))
    | (go_at_call 16; go_must (refine (toField_any F hF.toLen _).mono ?_); rintro e w_ ⟨rfl, hB_⟩; have M := Lib.hid (M.out.kept hB_); clear hB_)
    | (go_at_call 17; go_must (refine (toFears_any fs hfl _).mono ?_); rintro e w_ ⟨rfl, hB_⟩; have M := Lib.hid (M.out.kept hB_); clear hB_)
    | (go_at_call 48; go_must (first | (refine Calls.mono (calls_args (by with_reducible rfl) (eqVisitS_any _ _ _ _ V V _ hr (M.out.slof 6 rfl) (M.out.slof 3 rfl))) ?_) | (refine Calls.mono (calls_args (by with_reducible rfl) (eqVisitS_any _ _ _ _ V V _ hr (M.out.slof 10 rfl) (M.out.slof 3 rfl))) ?_)); rintro e w_ ⟨rfl, N_⟩; have m := M.out.join N_; clear N_; simp only [List.cons_append, List.nil_append, List.append_nil] at m; have M := Lib.hid m; clear m; rw [decide_eq_true rfl])
    | (go_at_call 37; go_must (first | (refine Calls.mono (calls_args (by with_reducible rfl) (eqFlockS_any _ _ _ _ xs xs _ hl (M.out.slof 5 rfl) (M.out.slof 8 rfl))) ?_)); rintro e w_ ⟨rfl, N_⟩; have m := M.out.join N_; clear N_; simp only [List.cons_append, List.nil_append, List.append_nil] at m; have M := Lib.hid m; clear m; rw [decide_eq_true rfl])
    | (go_at_call 38; go_must (first | (refine Calls.mono (calls_args (by with_reducible rfl) (markFlock_any 5 M.out _ _ xs rfl hl)) ?_)); rintro e w_ ⟨rfl, m⟩; simp only [List.set_cons_succ, List.set_cons_zero] at m; have M := Lib.hid m; clear m)
    | (go_at_call 49; go_must (first | (refine Calls.mono (calls_args (by with_reducible rfl) (markVisit_any 6 M.out _ _ V rfl hr)) ?_)); rintro e w_ ⟨rfl, m⟩; simp only [List.set_cons_succ, List.set_cons_zero] at m; have M := Lib.hid m; clear m)
    | (go_at_call 56; go_must (refine (heldVisit_any _ _ V.length hr _ (M.out.slof 6 rfl)).mono ?_); rintro e w_ ⟨rfl, rfl⟩)
    | (go_at_call 35; go_must (refine (toFlockS_any A n xs _ hl (M.out.sl HS.out)).mono ?_); rintro e w_ ⟨A_, c_, rfl, hc_, N_⟩; have m := M.out.join N_; clear N_; simp only [List.cons_append, List.nil_append, List.append_nil] at m; have M := Lib.hid m; clear m)
    | (go_at_call 33; go_must (refine (szFlockS_any A xs.length n 1048576 _ (by omega) (by omega) (by omega)).mono ?_); rintro e w_ ⟨rfl, rfl⟩; rw [if_neg hz])
    | (go_at_call 52; go_must (refine (eqField_any R LF.out _).mono ?_); rintro e w_ ⟨rfl, N_⟩; have m := M.out.join N_; clear N_; simp only [List.cons_append, List.nil_append, List.append_nil] at m; have M := Lib.hid m; clear m)
    )
  refine region_anyH (fun w' => Mem w w' [.blk g3 27 F.cells, .blk g4 25 (ints .i16 fs)]) (by kernel_rfl) ?_
  have M9 := M.out.drew
  clear M
  apply merge3
  case hA =>
    intro REST0
    apply merge3
    case hA =>
      intro REST1
      apply merge1
      case hA =>
        intro REST2
        apply merge1
        case hA =>
          intro REST3
          have M := Lib.hid M9
          apply takeH (i := 0) 40 rfl (by kernel_rfl) (by kernel_rfl) (by kernel_rfl) (fun _ _ _ h => h) rfl (by first | exact M.out | exact M.out.take 2)
          case' hy => exact yldw _ _ rfl rfl Try.underlying27 rfl (by first | exact sz27 | (rw [S1.out]; exact sz27) | (rw [S2.out]; exact sz27) | (rw [S3.out]; exact sz27)) rfl (fun w' hS => hS.blk 0 rfl)
          try simp only [Act.put, List.getElem_toArray, List.getElem_cons_succ, List.getElem_cons_zero, List.setIfInBounds_toArray, List.set_cons_succ, List.set_cons_zero]
          apply takeH (i := 2) 42 rfl (by kernel_rfl) (by kernel_rfl) (by kernel_rfl) (fun _ _ _ h => h) rfl (by first | exact M.out | exact M.out.take 2)
          case' hy => exact yldw _ _ rfl rfl Try.underlying25 rfl (by first | exact sz25 | (rw [S1.out]; exact sz25) | (rw [S2.out]; exact sz25) | (rw [S3.out]; exact sz25)) rfl (fun w' hS => hS.blk 1 rfl)
          try simp only [Act.put, List.getElem_toArray, List.getElem_cons_succ, List.getElem_cons_zero, List.setIfInBounds_toArray, List.set_cons_succ, List.set_cons_zero]
          apply takeH (i := 4) 44 rfl (by kernel_rfl) (by kernel_rfl) (by kernel_rfl) (fun _ _ _ h => h) rfl (by first | exact M.out | exact M.out.take 2)
          case' hy =>
            refine Or.inl ⟨by first | rfl | (go_simp; done), ?_⟩
            intro w hS
            clear hS
            go_simp
            try with_reducible rfl
          try simp only [Act.put, List.getElem_toArray, List.getElem_cons_succ, List.getElem_cons_zero, List.setIfInBounds_toArray, List.set_cons_succ, List.set_cons_zero]
          refine any2H 1 10 (by kernel_rfl) rfl rfl (fun K hK => ?_) (fun K hK => ?_)
          rotate_right 1
          case' _ =>
            go_wp2_with (first | ((with_reducible refine gate_dst (N := 12) rfl ?_); go_must (refine M.out.ev_new rfl (by first | (go_simp; done) | (go_simp; rfl)) ?_); intro g12 w12 m; simp only [List.cons_append, List.nil_append] at m; have M := Lib.hid m; clear m))
            refine onward_normal (hK _ _ ⟨(by first | exact M.out | exact M.out.take 2), ?_⟩)
            clear hK K
            try simp only [Act.put, List.getElem_toArray, List.getElem_cons_succ, List.getElem_cons_zero, List.setIfInBounds_toArray, List.set_cons_succ, List.set_cons_zero]
            refine any1H 1 (by kernel_rfl) rfl (fun K hK => ?_)
            go_wp2_with (first | (go_at_call 16; go_must (refine (toField_any F hF.toLen _).mono ?_); rintro e w_ ⟨rfl, hB_⟩; have M := Lib.hid (M.out.kept hB_); clear hB_))
            refine onward_normal (hK _ _ ⟨(by first | exact M.out | exact M.out.take 2), ?_⟩)
            clear hK K
            try simp only [Act.put, List.getElem_toArray, List.getElem_cons_succ, List.getElem_cons_zero, List.setIfInBounds_toArray, List.set_cons_succ, List.set_cons_zero]
            exact REST3 g12 w_ M.out
          rotate_right 1
          case' _ =>
            go_wp2_with (first | (go_at_call 16; go_must (refine (toField_any F hF.toLen _).mono ?_); rintro e w_ ⟨rfl, hB_⟩; have M := Lib.hid (M.out.kept hB_); clear hB_))
            refine onward_normal (hK _ _ ⟨(by first | exact M.out | exact M.out.take 2), ?_⟩)
            clear hK K
            try simp only [Act.put, List.getElem_toArray, List.getElem_cons_succ, List.getElem_cons_zero, List.setIfInBounds_toArray, List.set_cons_succ, List.set_cons_zero]
            refine any2H 3 10 (by kernel_rfl) rfl rfl (fun K hK => ?_) (fun K hK => ?_)
            rotate_right 1
            case' _ =>
              go_wp2_with (first | ((with_reducible refine gate_dst (N := 12) rfl ?_); go_must (refine M.out.ev_new rfl (by first | (go_simp; done) | (go_simp; rfl)) ?_); intro g12 w12 m; simp only [List.cons_append, List.nil_append] at m; have M := Lib.hid m; clear m))
              refine onward_normal (hK _ _ ⟨(by first | exact M.out | exact M.out.take 2), ?_⟩)
              clear hK K
              try simp only [Act.put, List.getElem_toArray, List.getElem_cons_succ, List.getElem_cons_zero, List.setIfInBounds_toArray, List.set_cons_succ, List.set_cons_zero]
              exact REST3 g12 w12 M.out
            rotate_right 1
            case' _ =>
              go_wp2_with (first | (go_at_call 17; go_must (refine (toFears_any fs hfl _).mono ?_); rintro e w_ ⟨rfl, hB_⟩; have M := Lib.hid (M.out.kept hB_); clear hB_))
              refine onward_normal (hK _ _ ⟨(by first | exact M.out | exact M.out.take 2), ?_⟩)
              clear hK K
              try simp only [Act.put, List.getElem_toArray, List.getElem_cons_succ, List.getElem_cons_zero, List.setIfInBounds_toArray, List.set_cons_succ, List.set_cons_zero]
              refine any2H 5 10 (by kernel_rfl) rfl rfl (fun K hK => ?_) (fun K hK => ?_)
              rotate_right 1
              case' _ =>
                go_wp2_with (first | ((with_reducible refine gate_dst (N := 12) rfl ?_); go_must (refine M.out.ev_new rfl (by first | (go_simp; done) | (go_simp; rfl)) ?_); intro g12 w12 m; simp only [List.cons_append, List.nil_append] at m; have M := Lib.hid m; clear m))
                refine onward_normal (hK _ _ ⟨(by first | exact M.out | exact M.out.take 2), ?_⟩)
                clear hK K
                try simp only [Act.put, List.getElem_toArray, List.getElem_cons_succ, List.getElem_cons_zero, List.setIfInBounds_toArray, List.set_cons_succ, List.set_cons_zero]
                exact REST2 g12 w12 M.out
              rotate_right 1
              case' _ =>
                go_wp2_with (first | (go_at_call 60; go_must (first | (refine Calls.mono (calls_args (by with_reducible rfl) (IM.out _ _ _ (M.out.slof 4 rfl))) ?_) | (refine Calls.mono (calls_args (by with_reducible rfl) (IM.out _ _ _ (M.out.slof 5 rfl))) ?_) | (refine Calls.mono (calls_args (by with_reducible rfl) (IM.out _ _ _ (M.out.slof 6 rfl))) ?_)); rintro e w_ ⟨A45, c45, rfl, hc45, N_⟩; have m := M.out.join N_; clear N_; simp only [List.cons_append, List.nil_append, List.append_nil] at m; have M := Lib.hid m; clear m))
                refine onward_normal (hK _ _ ⟨(by first | exact M.out | exact M.out.take 2), ?_⟩)
                clear hK K
                try simp only [Act.put, List.getElem_toArray, List.getElem_cons_succ, List.getElem_cons_zero, List.setIfInBounds_toArray, List.set_cons_succ, List.set_cons_zero]
                apply takeH (i := 6) 39 rfl (by kernel_rfl) (by kernel_rfl) (by kernel_rfl) (fun _ _ _ h => h) rfl (by first | exact M.out | exact M.out.take 2)
                case' hy =>
                  refine Or.inl ⟨by first | rfl | (go_simp; done), ?_⟩
                  intro w hS
                  clear hS
                  go_simp
                  try with_reducible rfl
                try simp only [Act.put, List.getElem_toArray, List.getElem_cons_succ, List.getElem_cons_zero, List.setIfInBounds_toArray, List.set_cons_succ, List.set_cons_zero]
                apply takeH (i := 7) 46 rfl (by kernel_rfl) (by kernel_rfl) (by kernel_rfl) (fun _ _ _ h => h) rfl (by first | exact M.out | exact M.out.take 2)
                case' hy =>
                  refine Or.inl ⟨by first | rfl | (go_simp; done), ?_⟩
                  intro w hS
                  clear hS
                  go_simp
                  try with_reducible rfl
                try simp only [Act.put, List.getElem_toArray, List.getElem_cons_succ, List.getElem_cons_zero, List.setIfInBounds_toArray, List.set_cons_succ, List.set_cons_zero]
                apply takeH (i := 8) 47 rfl (by kernel_rfl) (by kernel_rfl) (by kernel_rfl) (fun _ _ _ h => h) rfl (by first | exact M.out | exact M.out.take 2)
                case' hy =>
                  refine Or.inl ⟨by first | rfl | (go_simp; done), ?_⟩
                  intro w hS
                  clear hS
                  go_simp
                  try with_reducible rfl
                try simp only [Act.put, List.getElem_toArray, List.getElem_cons_succ, List.getElem_cons_zero, List.setIfInBounds_toArray, List.set_cons_succ, List.set_cons_zero]
                apply takeH (i := 9) 48 rfl (by kernel_rfl) (by kernel_rfl) (by kernel_rfl) (fun _ _ _ h => h) rfl (by first | exact M.out | exact M.out.take 2)
                case' hy =>
                  refine Or.inl ⟨by first | rfl | (go_simp; done), ?_⟩
                  intro w hS
                  clear hS
                  go_simp
                  try with_reducible rfl
                try simp only [Act.put, List.getElem_toArray, List.getElem_cons_succ, List.getElem_cons_zero, List.setIfInBounds_toArray, List.set_cons_succ, List.set_cons_zero]
                refine any1H 10 (by kernel_rfl) rfl (fun K hK => ?_)
                go_wp2_with (first | ((with_reducible refine gate_dst (N := 12) rfl ?_); go_must (refine M.out.ev_new rfl (by first | (go_simp; done) | (go_simp; rfl)) ?_); intro g12 w12 m; simp only [List.cons_append, List.nil_append] at m; have M := Lib.hid m; clear m))
                refine onward_normal (hK _ _ ⟨(by first | exact M.out | exact M.out.take 2), ?_⟩)
                clear hK K
                try simp only [Act.put, List.getElem_toArray, List.getElem_cons_succ, List.getElem_cons_zero, List.setIfInBounds_toArray, List.set_cons_succ, List.set_cons_zero]
                exact REST1 A45 c45 g12 w12 M.out
        case hB =>
          intro g12 w_ m
          have M := Lib.hid m
          clear m
          refine any1H 3 (by kernel_rfl) rfl (fun K hK => ?_)
          go_wp2_with (first | (go_at_call 17; go_must (refine (toFears_any fs hfl _).mono ?_); rintro e w_ ⟨rfl, hB_⟩; have M := Lib.hid (M.out.kept hB_); clear hB_))
          refine onward_normal (hK _ _ ⟨(by first | exact M.out | exact M.out.take 2), ?_⟩)
          clear hK K
          try simp only [Act.put, List.getElem_toArray, List.getElem_cons_succ, List.getElem_cons_zero, List.setIfInBounds_toArray, List.set_cons_succ, List.set_cons_zero]
          exact REST2 g12 w_ M.out
      case hB =>
        intro g12 w_ m
        have M := Lib.hid m
        clear m
        refine any1H 5 (by kernel_rfl) rfl (fun K hK => ?_)
        go_wp2_with (first | (go_at_call 60; go_must (first | (refine Calls.mono (calls_args (by with_reducible rfl) (IM.out _ _ _ (M.out.slof 4 rfl))) ?_) | (refine Calls.mono (calls_args (by with_reducible rfl) (IM.out _ _ _ (M.out.slof 5 rfl))) ?_) | (refine Calls.mono (calls_args (by with_reducible rfl) (IM.out _ _ _ (M.out.slof 6 rfl))) ?_)); rintro e w_ ⟨A45, c45, rfl, hc45, N_⟩; have m := M.out.join N_; clear N_; simp only [List.cons_append, List.nil_append, List.append_nil] at m; have M := Lib.hid m; clear m))
        refine onward_normal (hK _ _ ⟨(by first | exact M.out | exact M.out.take 2), ?_⟩)
        clear hK K
        try simp only [Act.put, List.getElem_toArray, List.getElem_cons_succ, List.getElem_cons_zero, List.setIfInBounds_toArray, List.set_cons_succ, List.set_cons_zero]
        apply takeH (i := 6) 39 rfl (by kernel_rfl) (by kernel_rfl) (by kernel_rfl) (fun _ _ _ h => h) rfl (by first | exact M.out | exact M.out.take 2)
        case' hy =>
          refine Or.inl ⟨by first | rfl | (go_simp; done), ?_⟩
          intro w hS
          clear hS
          go_simp
          try with_reducible rfl
        try simp only [Act.put, List.getElem_toArray, List.getElem_cons_succ, List.getElem_cons_zero, List.setIfInBounds_toArray, List.set_cons_succ, List.set_cons_zero]
        apply takeH (i := 7) 46 rfl (by kernel_rfl) (by kernel_rfl) (by kernel_rfl) (fun _ _ _ h => h) rfl (by first | exact M.out | exact M.out.take 2)
        case' hy =>
          refine Or.inl ⟨by first | rfl | (go_simp; done), ?_⟩
          intro w hS
          clear hS
          go_simp
          try with_reducible rfl
        try simp only [Act.put, List.getElem_toArray, List.getElem_cons_succ, List.getElem_cons_zero, List.setIfInBounds_toArray, List.set_cons_succ, List.set_cons_zero]
        apply takeH (i := 8) 47 rfl (by kernel_rfl) (by kernel_rfl) (by kernel_rfl) (fun _ _ _ h => h) rfl (by first | exact M.out | exact M.out.take 2)
        case' hy =>
          refine Or.inl ⟨by first | rfl | (go_simp; done), ?_⟩
          intro w hS
          clear hS
          go_simp
          try with_reducible rfl
        try simp only [Act.put, List.getElem_toArray, List.getElem_cons_succ, List.getElem_cons_zero, List.setIfInBounds_toArray, List.set_cons_succ, List.set_cons_zero]
        apply takeH (i := 9) 48 rfl (by kernel_rfl) (by kernel_rfl) (by kernel_rfl) (fun _ _ _ h => h) rfl (by first | exact M.out | exact M.out.take 2)
        case' hy =>
          refine Or.inl ⟨by first | rfl | (go_simp; done), ?_⟩
          intro w hS
          clear hS
          go_simp
          try with_reducible rfl
        try simp only [Act.put, List.getElem_toArray, List.getElem_cons_succ, List.getElem_cons_zero, List.setIfInBounds_toArray, List.set_cons_succ, List.set_cons_zero]
        have m := M.out.only [0, 1, 2, 3, 4, 5, 7, 6] (K := [_, _, _, _, _, _, _, _]) rfl (by decide)
        exact REST1 A45 c45 g12 w_ m
    case hB =>
      intro A45 c45 g12 w_ m
      have M := Lib.hid m
      clear m
      refine any1H 11 (by kernel_rfl) rfl (fun K hK => ?_)
      go_wp2_with (first | ((with_reducible refine gate_store (x := .tmp 12) rfl ?_); go_must (first | (refine M.out.ev_stw 6 _ _ _ rfl rfl rfl rfl _ rfl (by first | rfl | (simp only [S1.out]; rfl) | (simp only [S1.out, S2.out]; rfl) | (simp only [S3.out]; rfl) | (simp only [S1.out, S2.out, S3.out]; rfl)) (by first | exact sz35 | (rw [S1.out]; exact sz35) | (rw [S2.out]; exact sz35) | (rw [S3.out]; exact sz35)) (by first | exact ints_one _ _ | exact Fld.one _ | exact O1.out | rfl | (simp [Value.oneCell']; done)) rfl ?_) | (refine M.out.ev_stw 7 _ _ _ rfl rfl rfl rfl _ rfl (by first | rfl | (simp only [S1.out]; rfl) | (simp only [S1.out, S2.out]; rfl) | (simp only [S3.out]; rfl) | (simp only [S1.out, S2.out, S3.out]; rfl)) (by first | exact sz35 | (rw [S1.out]; exact sz35) | (rw [S2.out]; exact sz35) | (rw [S3.out]; exact sz35)) (by first | exact ints_one _ _ | exact Fld.one _ | exact O1.out | rfl | (simp [Value.oneCell']; done)) rfl ?_)); intro wn m; simp only [List.set_cons_succ, List.set_cons_zero, List.setIfInBounds_toArray] at m; have M := Lib.hid m; clear m))
      refine onward_normal (hK _ _ ⟨(by first | exact M.out | exact M.out.take 2), ?_⟩)
      clear hK K
      try simp only [Act.put, List.getElem_toArray, List.getElem_cons_succ, List.getElem_cons_zero, List.setIfInBounds_toArray, List.set_cons_succ, List.set_cons_zero]
      apply takeH (i := 12) 13 rfl (by kernel_rfl) (by kernel_rfl) (by kernel_rfl) (fun _ _ _ h => h) rfl (by first | exact M.out | exact M.out.take 2)
      case' hy =>
        refine Or.inl ⟨by first | rfl | (go_simp; done), ?_⟩
        intro w hS
        clear hS
        go_simp
        try with_reducible rfl
      try simp only [Act.put, List.getElem_toArray, List.getElem_cons_succ, List.getElem_cons_zero, List.setIfInBounds_toArray, List.set_cons_succ, List.set_cons_zero]
      apply takeH (i := 13) 14 rfl (by kernel_rfl) (by kernel_rfl) (by kernel_rfl) (fun _ _ _ h => h) rfl (by first | exact M.out | exact M.out.take 2)
      case' hy =>
        refine Or.inl ⟨by first | rfl | (go_simp; done), ?_⟩
        intro w hS
        clear hS
        go_simp
        try with_reducible rfl
      try simp only [Act.put, List.getElem_toArray, List.getElem_cons_succ, List.getElem_cons_zero, List.setIfInBounds_toArray, List.set_cons_succ, List.set_cons_zero]
      exact REST0 A45 c45 g12 wn M.out
  intro A45 c45 g12 w_ m
  have M := Lib.hid m
  clear m M9
  refine wpAnyH_done (by kernel_rfl) ?_ _
  go_wp2_with (first
    | ((with_reducible refine gate_dst (N := 75) rfl ?_); refine gate_want rfl ?_; go_must (refine M.out.ev_ldw 7 _ _ rfl rfl rfl Try.underlying35 rfl (by rw [S3.out]; exact sz35) rfl ?_))
    | ((with_reducible refine gate_dst (N := 76) rfl ?_); refine gate_want rfl ?_; go_must (refine M.out.ev_ldw 4 _ _ rfl rfl rfl Try.underlying35 rfl (by rw [S3.out]; exact sz35) rfl ?_))
    | ((with_reducible refine gate_dst (N := 3) rfl ?_); go_must (refine M.out.ev_new rfl (by first | (go_simp; done) | (go_simp; rfl)) ?_); intro g3 w3 m; simp only [List.cons_append, List.nil_append] at m; have M := Lib.hid m; clear m)
    | ((with_reducible refine gate_dst (N := 4) rfl ?_); go_must (refine M.out.ev_new rfl (by first | (go_simp; done) | (go_simp; rfl)) ?_); intro g4 w4 m; simp only [List.cons_append, List.nil_append] at m; have M := Lib.hid m; clear m)
    | ((with_reducible refine gate_dst (N := 27) rfl ?_); go_must (refine M.out.ev_ldw 0 _ _ rfl rfl rfl Try.underlying27 rfl (by first | exact sz27 | (rw [S1.out]; exact sz27) | (rw [S2.out]; exact sz27) | (rw [S3.out]; exact sz27)) rfl ?_))
    | ((with_reducible refine gate_dst (N := 29) rfl ?_); go_must (refine M.out.ev_ldw 1 _ _ rfl rfl rfl Try.underlying25 rfl (by first | exact sz25 | (rw [S1.out]; exact sz25) | (rw [S2.out]; exact sz25) | (rw [S3.out]; exact sz25)) rfl ?_))
    | ((with_reducible refine gate_dst (N := 8) rfl ?_); go_must (refine M.out.ev_new rfl (by first | (go_simp; done) | (go_simp; rfl)) ?_); intro g8 w8 m; simp only [List.cons_append, List.nil_append] at m; have M := Lib.hid m; clear m)
    | ((with_reducible refine gate_store (x := .tmp 8) rfl ?_); go_must (refine M.out.ev_stw 4 _ _ _ rfl rfl rfl rfl _ rfl (by first | rfl | (simp only [S1.out]; rfl) | (simp only [S1.out, S2.out]; rfl) | (simp only [S3.out]; rfl) | (simp only [S1.out, S2.out, S3.out]; rfl)) (by first | exact sz35 | (rw [S1.out]; exact sz35) | (rw [S2.out]; exact sz35) | (rw [S3.out]; exact sz35)) (by first | exact ints_one _ _ | exact Fld.one _ | exact O1.out | rfl | (simp [Value.oneCell']; done)) rfl ?_); intro wn m; simp only [List.set_cons_succ, List.set_cons_zero, List.setIfInBounds_toArray] at m; have M := Lib.hid m; clear m)
    | ((with_reducible refine gate_dst (N := 40) rfl ?_); go_must (refine M.out.ev_ldw 0 _ _ rfl rfl rfl Try.underlying27 rfl (by first | exact sz27 | (rw [S1.out]; exact sz27) | (rw [S2.out]; exact sz27) | (rw [S3.out]; exact sz27)) rfl ?_))
    | ((with_reducible refine gate_dst (N := 42) rfl ?_); go_must (refine M.out.ev_ldw 1 _ _ rfl rfl rfl Try.underlying25 rfl (by first | exact sz25 | (rw [S1.out]; exact sz25) | (rw [S2.out]; exact sz25) | (rw [S3.out]; exact sz25)) rfl ?_))
    | ((with_reducible refine gate_dst (N := 12) rfl ?_); go_must (refine M.out.ev_new rfl (by first | (go_simp; done) | (go_simp; rfl)) ?_); intro g12 w12 m; simp only [List.cons_append, List.nil_append] at m; have M := Lib.hid m; clear m)
    | ((with_reducible refine gate_store (x := .tmp 12) rfl ?_); go_must (refine M.out.ev_stw 7 _ _ _ rfl rfl rfl rfl _ rfl (by first | rfl | (simp only [S1.out]; rfl) | (simp only [S1.out, S2.out]; rfl) | (simp only [S3.out]; rfl) | (simp only [S1.out, S2.out, S3.out]; rfl)) (by first | exact sz35 | (rw [S1.out]; exact sz35) | (rw [S2.out]; exact sz35) | (rw [S3.out]; exact sz35)) (by first | exact ints_one _ _ | exact Fld.one _ | exact O1.out | rfl | (simp [Value.oneCell']; done)) rfl ?_); intro wn m; simp only [List.set_cons_succ, List.set_cons_zero, List.setIfInBounds_toArray] at m; have M := Lib.hid m; clear m)
    | ((with_reducible refine gate_dst (N := 49) rfl ?_); go_must (refine M.out.ev_ldw 7 _ _ rfl rfl rfl Try.underlying35 rfl (by first | exact sz35 | (rw [S1.out]; exact sz35) | (rw [S2.out]; exact sz35) | (rw [S3.out]; exact sz35)) rfl ?_))
    | ((with_reducible refine gate_dst (N := 50) rfl ?_); go_must (refine M.out.ev_ldw 4 _ _ rfl rfl rfl Try.underlying35 rfl (by first | exact sz35 | (rw [S1.out]; exact sz35) | (rw [S2.out]; exact sz35) | (rw [S3.out]; exact sz35)) rfl ?_))
    | ((with_reducible refine gate_dst (N := 103) rfl ?_); go_must (refine M.out.ev_ldw 0 _ _ rfl rfl rfl Try.underlying27 rfl (by first | exact sz27 | (rw [S1.out]; exact sz27) | (rw [S2.out]; exact sz27) | (rw [S3.out]; exact sz27)) rfl ?_))
    | ((with_reducible refine gate_dst (N := 105) rfl ?_); go_must (refine M.out.ev_ldw 1 _ _ rfl rfl rfl Try.underlying25 rfl (by first | exact sz25 | (rw [S1.out]; exact sz25) | (rw [S2.out]; exact sz25) | (rw [S3.out]; exact sz25)) rfl ?_))
    | ((with_reducible refine gate_dst (N := 18) rfl ?_); go_must (refine M.out.ev_new rfl (by first | (go_simp; done) | (go_simp; rfl)) ?_); intro g18 w18 m; simp only [List.cons_append, List.nil_append] at m; have M := Lib.hid m; clear m)
    | ((with_reducible refine gate_store (x := .tmp 18) rfl ?_); go_must (refine M.out.ev_stw 11 _ _ _ rfl rfl rfl rfl _ rfl (by first | rfl | (simp only [S1.out]; rfl) | (simp only [S1.out, S2.out]; rfl) | (simp only [S3.out]; rfl) | (simp only [S1.out, S2.out, S3.out]; rfl)) (by first | exact sz35 | (rw [S1.out]; exact sz35) | (rw [S2.out]; exact sz35) | (rw [S3.out]; exact sz35)) (by first | exact ints_one _ _ | exact Fld.one _ | exact O1.out | rfl | (simp [Value.oneCell']; done)) rfl ?_); intro wn m; simp only [List.set_cons_succ, List.set_cons_zero, List.setIfInBounds_toArray] at m; have M := Lib.hid m; clear m)
    | ((with_reducible refine gate_dst (N := 113) rfl ?_); go_must (refine M.out.ev_ldw 11 _ _ rfl rfl rfl Try.underlying35 rfl (by first | exact sz35 | (rw [S1.out]; exact sz35) | (rw [S2.out]; exact sz35) | (rw [S3.out]; exact sz35)) rfl ?_))
    | ((with_reducible refine gate_dst (N := 114) rfl ?_); go_must (refine M.out.ev_ldw 4 _ _ rfl rfl rfl Try.underlying35 rfl (by first | exact sz35 | (rw [S1.out]; exact sz35) | (rw [S2.out]; exact sz35) | (rw [S3.out]; exact sz35)) rfl ?_))
    | (go_at_call 16; go_must (refine (toField_any F hF.toLen _).mono ?_); rintro e w_ ⟨rfl, hB_⟩; have M := Lib.hid (M.out.kept hB_); clear hB_)
    | (go_at_call 17; go_must (refine (toFears_any fs hfl _).mono ?_); rintro e w_ ⟨rfl, hB_⟩; have M := Lib.hid (M.out.kept hB_); clear hB_)
    | (go_at_call 48; go_must (first | (refine Calls.mono (calls_args (by with_reducible rfl) (eqVisitS_any _ _ _ _ V V _ hr (M.out.slof 6 rfl) (M.out.slof 3 rfl))) ?_) | (refine Calls.mono (calls_args (by with_reducible rfl) (eqVisitS_any _ _ _ _ V V _ hr (M.out.slof 10 rfl) (M.out.slof 3 rfl))) ?_)); rintro e w_ ⟨rfl, N_⟩; have m := M.out.join N_; clear N_; simp only [List.cons_append, List.nil_append, List.append_nil] at m; have M := Lib.hid m; clear m; rw [decide_eq_true rfl])
    | (go_at_call 37; go_must (first | (refine Calls.mono (calls_args (by with_reducible rfl) (eqFlockS_any _ _ _ _ xs xs _ hl (M.out.slof 5 rfl) (M.out.slof 8 rfl))) ?_)); rintro e w_ ⟨rfl, N_⟩; have m := M.out.join N_; clear N_; simp only [List.cons_append, List.nil_append, List.append_nil] at m; have M := Lib.hid m; clear m; rw [decide_eq_true rfl])
    | (go_at_call 38; go_must (first | (refine Calls.mono (calls_args (by with_reducible rfl) (markFlock_any 5 M.out _ _ xs rfl hl)) ?_)); rintro e w_ ⟨rfl, m⟩; simp only [List.set_cons_succ, List.set_cons_zero] at m; have M := Lib.hid m; clear m)
    | (go_at_call 49; go_must (first | (refine Calls.mono (calls_args (by with_reducible rfl) (markVisit_any 6 M.out _ _ V rfl hr)) ?_)); rintro e w_ ⟨rfl, m⟩; simp only [List.set_cons_succ, List.set_cons_zero] at m; have M := Lib.hid m; clear m)
    | (go_at_call 56; go_must (refine (heldVisit_any _ _ V.length hr _ (M.out.slof 6 rfl)).mono ?_); rintro e w_ ⟨rfl, rfl⟩)
    | (go_at_call 35; go_must (refine (toFlockS_any A n xs _ hl (M.out.sl HS.out)).mono ?_); rintro e w_ ⟨A_, c_, rfl, hc_, N_⟩; have m := M.out.join N_; clear N_; simp only [List.cons_append, List.nil_append, List.append_nil] at m; have M := Lib.hid m; clear m)
    | (go_at_call 33; go_must (refine (szFlockS_any A xs.length n 1048576 _ (by omega) (by omega) (by omega)).mono ?_); rintro e w_ ⟨rfl, rfl⟩; rw [if_neg hz])
    | (go_at_call 52; go_must (refine (eqField_any R LF.out _).mono ?_); rintro e w_ ⟨rfl, N_⟩; have m := M.out.join N_; clear N_; simp only [List.cons_append, List.nil_append, List.append_nil] at m; have M := Lib.hid m; clear m)
    )
  refine region_anyH (fun w' => Mem w w' [.blk g3 27 F.cells, .blk g4 25 (ints .i16 fs)]) (by kernel_rfl) ?_
  have M9 := M.out.drew
  clear M
  apply merge5
  case hA =>
    intro REST0
    apply merge5
    case hA =>
      intro REST1
      apply merge3
      case hA =>
        intro REST2
        apply merge1
        case hA =>
          intro REST3
          apply merge1
          case hA =>
            intro REST4
            have M := Lib.hid M9
            apply takeH (i := 0) 103 rfl (by kernel_rfl) (by kernel_rfl) (by kernel_rfl) (fun _ _ _ h => h) rfl (by first | exact M.out | exact M.out.take 2)
            case' hy => exact yldw _ _ rfl rfl Try.underlying27 rfl (by first | exact sz27 | (rw [S1.out]; exact sz27) | (rw [S2.out]; exact sz27) | (rw [S3.out]; exact sz27)) rfl (fun w' hS => hS.blk 0 rfl)
            try simp only [Act.put, List.getElem_toArray, List.getElem_cons_succ, List.getElem_cons_zero, List.setIfInBounds_toArray, List.set_cons_succ, List.set_cons_zero]
            apply takeH (i := 2) 105 rfl (by kernel_rfl) (by kernel_rfl) (by kernel_rfl) (fun _ _ _ h => h) rfl (by first | exact M.out | exact M.out.take 2)
            case' hy => exact yldw _ _ rfl rfl Try.underlying25 rfl (by first | exact sz25 | (rw [S1.out]; exact sz25) | (rw [S2.out]; exact sz25) | (rw [S3.out]; exact sz25)) rfl (fun w' hS => hS.blk 1 rfl)
            try simp only [Act.put, List.getElem_toArray, List.getElem_cons_succ, List.getElem_cons_zero, List.setIfInBounds_toArray, List.set_cons_succ, List.set_cons_zero]
            apply takeH (i := 4) 107 rfl (by kernel_rfl) (by kernel_rfl) (by kernel_rfl) (fun _ _ _ h => h) rfl (by first | exact M.out | exact M.out.take 2)
            case' hy =>
              refine Or.inl ⟨by first | rfl | (go_simp; done), ?_⟩
              intro w hS
              clear hS
              go_simp
              try with_reducible rfl
            try simp only [Act.put, List.getElem_toArray, List.getElem_cons_succ, List.getElem_cons_zero, List.setIfInBounds_toArray, List.set_cons_succ, List.set_cons_zero]
            refine any2H 1 11 (by kernel_rfl) rfl rfl (fun K hK => ?_) (fun K hK => ?_)
            rotate_right 1
            case' _ =>
              go_wp2_with (first | ((with_reducible refine gate_dst (N := 18) rfl ?_); go_must (refine M.out.ev_new rfl (by first | (go_simp; done) | (go_simp; rfl)) ?_); intro g18 w18 m; simp only [List.cons_append, List.nil_append] at m; have M := Lib.hid m; clear m))
              refine onward_normal (hK _ _ ⟨(by first | exact M.out | exact M.out.take 2), ?_⟩)
              clear hK K
              try simp only [Act.put, List.getElem_toArray, List.getElem_cons_succ, List.getElem_cons_zero, List.setIfInBounds_toArray, List.set_cons_succ, List.set_cons_zero]
              refine any1H 1 (by kernel_rfl) rfl (fun K hK => ?_)
              go_wp2_with (first | (go_at_call 16; go_must (refine (toField_any F hF.toLen _).mono ?_); rintro e w_ ⟨rfl, hB_⟩; have M := Lib.hid (M.out.kept hB_); clear hB_))
              refine onward_normal (hK _ _ ⟨(by first | exact M.out | exact M.out.take 2), ?_⟩)
              clear hK K
              try simp only [Act.put, List.getElem_toArray, List.getElem_cons_succ, List.getElem_cons_zero, List.setIfInBounds_toArray, List.set_cons_succ, List.set_cons_zero]
              exact REST4 g18 w_ M.out
            rotate_right 1
            case' _ =>
              go_wp2_with (first | (go_at_call 16; go_must (refine (toField_any F hF.toLen _).mono ?_); rintro e w_ ⟨rfl, hB_⟩; have M := Lib.hid (M.out.kept hB_); clear hB_))
              refine onward_normal (hK _ _ ⟨(by first | exact M.out | exact M.out.take 2), ?_⟩)
              clear hK K
              try simp only [Act.put, List.getElem_toArray, List.getElem_cons_succ, List.getElem_cons_zero, List.setIfInBounds_toArray, List.set_cons_succ, List.set_cons_zero]
              refine any2H 3 11 (by kernel_rfl) rfl rfl (fun K hK => ?_) (fun K hK => ?_)
              rotate_right 1
              case' _ =>
                go_wp2_with (first | ((with_reducible refine gate_dst (N := 18) rfl ?_); go_must (refine M.out.ev_new rfl (by first | (go_simp; done) | (go_simp; rfl)) ?_); intro g18 w18 m; simp only [List.cons_append, List.nil_append] at m; have M := Lib.hid m; clear m))
                refine onward_normal (hK _ _ ⟨(by first | exact M.out | exact M.out.take 2), ?_⟩)
                clear hK K
                try simp only [Act.put, List.getElem_toArray, List.getElem_cons_succ, List.getElem_cons_zero, List.setIfInBounds_toArray, List.set_cons_succ, List.set_cons_zero]
                exact REST4 g18 w18 M.out
              rotate_right 1
              case' _ =>
                go_wp2_with (first | (go_at_call 17; go_must (refine (toFears_any fs hfl _).mono ?_); rintro e w_ ⟨rfl, hB_⟩; have M := Lib.hid (M.out.kept hB_); clear hB_))
                refine onward_normal (hK _ _ ⟨(by first | exact M.out | exact M.out.take 2), ?_⟩)
                clear hK K
                try simp only [Act.put, List.getElem_toArray, List.getElem_cons_succ, List.getElem_cons_zero, List.setIfInBounds_toArray, List.set_cons_succ, List.set_cons_zero]
                refine any2H 5 11 (by kernel_rfl) rfl rfl (fun K hK => ?_) (fun K hK => ?_)
                rotate_right 1
                case' _ =>
                  go_wp2_with (first | ((with_reducible refine gate_dst (N := 18) rfl ?_); go_must (refine M.out.ev_new rfl (by first | (go_simp; done) | (go_simp; rfl)) ?_); intro g18 w18 m; simp only [List.cons_append, List.nil_append] at m; have M := Lib.hid m; clear m))
                  refine onward_normal (hK _ _ ⟨(by first | exact M.out | exact M.out.take 2), ?_⟩)
                  clear hK K
                  try simp only [Act.put, List.getElem_toArray, List.getElem_cons_succ, List.getElem_cons_zero, List.setIfInBounds_toArray, List.set_cons_succ, List.set_cons_zero]
                  exact REST3 g18 w18 M.out
                rotate_right 1
                case' _ =>
                  go_wp2_with (first | (go_at_call 35; go_must (refine (toFlockS_any A n xs _ hl (M.out.sl HS.out)).mono ?_); rintro e w_ ⟨A108, c108, rfl, hc108, N_⟩; have m := M.out.join N_; clear N_; simp only [List.cons_append, List.nil_append, List.append_nil] at m; have M := Lib.hid m; clear m))
                  refine onward_normal (hK _ _ ⟨(by first | exact M.out | exact M.out.take 2), ?_⟩)
                  clear hK K
                  try simp only [Act.put, List.getElem_toArray, List.getElem_cons_succ, List.getElem_cons_zero, List.setIfInBounds_toArray, List.set_cons_succ, List.set_cons_zero]
                  refine any2H 6 11 (by kernel_rfl) rfl rfl (fun K hK => ?_) (fun K hK => ?_)
                  rotate_right 1
                  case' _ =>
                    go_wp2_with (first | ((with_reducible refine gate_dst (N := 18) rfl ?_); go_must (refine M.out.ev_new rfl (by first | (go_simp; done) | (go_simp; rfl)) ?_); intro g18 w18 m; simp only [List.cons_append, List.nil_append] at m; have M := Lib.hid m; clear m))
                    refine onward_normal (hK _ _ ⟨(by first | exact M.out | exact M.out.take 2), ?_⟩)
                    clear hK K
                    try simp only [Act.put, List.getElem_toArray, List.getElem_cons_succ, List.getElem_cons_zero, List.setIfInBounds_toArray, List.set_cons_succ, List.set_cons_zero]
                    exact REST2 A108 c108 g18 w18 M.out
                  rotate_right 1
                  case' _ =>
                    go_wp2_with (first | (go_at_call 60; go_must (first | (refine Calls.mono (calls_args (by with_reducible rfl) (IM.out _ _ _ (M.out.slof 8 rfl))) ?_) | (refine Calls.mono (calls_args (by with_reducible rfl) (IM.out _ _ _ (M.out.slof 9 rfl))) ?_) | (refine Calls.mono (calls_args (by with_reducible rfl) (IM.out _ _ _ (M.out.slof 10 rfl))) ?_)); rintro e w_ ⟨A109, c109, rfl, hc109, N_⟩; have m := M.out.join N_; clear N_; simp only [List.cons_append, List.nil_append, List.append_nil] at m; have M := Lib.hid m; clear m))
                    refine onward_normal (hK _ _ ⟨(by first | exact M.out | exact M.out.take 2), ?_⟩)
                    clear hK K
                    try simp only [Act.put, List.getElem_toArray, List.getElem_cons_succ, List.getElem_cons_zero, List.setIfInBounds_toArray, List.set_cons_succ, List.set_cons_zero]
                    apply takeH (i := 7) 102 rfl (by kernel_rfl) (by kernel_rfl) (by kernel_rfl) (fun _ _ _ h => h) rfl (by first | exact M.out | exact M.out.take 2)
                    case' hy =>
                      refine Or.inl ⟨by first | rfl | (go_simp; done), ?_⟩
                      intro w hS
                      clear hS
                      go_simp
                      try with_reducible rfl
                    try simp only [Act.put, List.getElem_toArray, List.getElem_cons_succ, List.getElem_cons_zero, List.setIfInBounds_toArray, List.set_cons_succ, List.set_cons_zero]
                    apply takeH (i := 8) 110 rfl (by kernel_rfl) (by kernel_rfl) (by kernel_rfl) (fun _ _ _ h => h) rfl (by first | exact M.out | exact M.out.take 2)
                    case' hy =>
                      refine Or.inl ⟨by first | rfl | (go_simp; done), ?_⟩
                      intro w hS
                      clear hS
                      go_simp
                      try with_reducible rfl
                    try simp only [Act.put, List.getElem_toArray, List.getElem_cons_succ, List.getElem_cons_zero, List.setIfInBounds_toArray, List.set_cons_succ, List.set_cons_zero]
                    apply takeH (i := 9) 111 rfl (by kernel_rfl) (by kernel_rfl) (by kernel_rfl) (fun _ _ _ h => h) rfl (by first | exact M.out | exact M.out.take 2)
                    case' hy =>
                      refine Or.inl ⟨by first | rfl | (go_simp; done), ?_⟩
                      intro w hS
                      clear hS
                      go_simp
                      try with_reducible rfl
                    try simp only [Act.put, List.getElem_toArray, List.getElem_cons_succ, List.getElem_cons_zero, List.setIfInBounds_toArray, List.set_cons_succ, List.set_cons_zero]
                    apply takeH (i := 10) 112 rfl (by kernel_rfl) (by kernel_rfl) (by kernel_rfl) (fun _ _ _ h => h) rfl (by first | exact M.out | exact M.out.take 2)
                    case' hy =>
                      refine Or.inl ⟨by first | rfl | (go_simp; done), ?_⟩
                      intro w hS
                      clear hS
                      go_simp
                      try with_reducible rfl
                    try simp only [Act.put, List.getElem_toArray, List.getElem_cons_succ, List.getElem_cons_zero, List.setIfInBounds_toArray, List.set_cons_succ, List.set_cons_zero]
                    refine any1H 11 (by kernel_rfl) rfl (fun K hK => ?_)
                    go_wp2_with (first | ((with_reducible refine gate_dst (N := 18) rfl ?_); go_must (refine M.out.ev_new rfl (by first | (go_simp; done) | (go_simp; rfl)) ?_); intro g18 w18 m; simp only [List.cons_append, List.nil_append] at m; have M := Lib.hid m; clear m))
                    refine onward_normal (hK _ _ ⟨(by first | exact M.out | exact M.out.take 2), ?_⟩)
                    clear hK K
                    try simp only [Act.put, List.getElem_toArray, List.getElem_cons_succ, List.getElem_cons_zero, List.setIfInBounds_toArray, List.set_cons_succ, List.set_cons_zero]
                    exact REST1 A108 c108 A109 c109 g18 w18 M.out
          case hB =>
            intro g18 w_ m
            have M := Lib.hid m
            clear m
            refine any1H 3 (by kernel_rfl) rfl (fun K hK => ?_)
            go_wp2_with (first | (go_at_call 17; go_must (refine (toFears_any fs hfl _).mono ?_); rintro e w_ ⟨rfl, hB_⟩; have M := Lib.hid (M.out.kept hB_); clear hB_))
            refine onward_normal (hK _ _ ⟨(by first | exact M.out | exact M.out.take 2), ?_⟩)
            clear hK K
            try simp only [Act.put, List.getElem_toArray, List.getElem_cons_succ, List.getElem_cons_zero, List.setIfInBounds_toArray, List.set_cons_succ, List.set_cons_zero]
            exact REST3 g18 w_ M.out
        case hB =>
          intro g18 w_ m
          have M := Lib.hid m
          clear m
          refine any1H 5 (by kernel_rfl) rfl (fun K hK => ?_)
          go_wp2_with (first | (go_at_call 35; go_must (refine (toFlockS_any A n xs _ hl (M.out.sl HS.out)).mono ?_); rintro e w_ ⟨A108, c108, rfl, hc108, N_⟩; have m := M.out.join N_; clear N_; simp only [List.cons_append, List.nil_append, List.append_nil] at m; have M := Lib.hid m; clear m))
          refine onward_normal (hK _ _ ⟨(by first | exact M.out | exact M.out.take 2), ?_⟩)
          clear hK K
          try simp only [Act.put, List.getElem_toArray, List.getElem_cons_succ, List.getElem_cons_zero, List.setIfInBounds_toArray, List.set_cons_succ, List.set_cons_zero]
          have m := M.out.only [0, 1, 2, 3, 4, 5, 6, 7, 8, 10, 9] (K := [_, _, _, _, _, _, _, _, _, _, _]) rfl (by decide)
          exact REST2 A108 c108 g18 w_ m
      case hB =>
        intro A108 c108 g18 w_ m
        have M := Lib.hid m
        clear m
        refine any1H 6 (by kernel_rfl) rfl (fun K hK => ?_)
        go_wp2_with (first | (go_at_call 60; go_must (first | (refine Calls.mono (calls_args (by with_reducible rfl) (IM.out _ _ _ (M.out.slof 8 rfl))) ?_) | (refine Calls.mono (calls_args (by with_reducible rfl) (IM.out _ _ _ (M.out.slof 9 rfl))) ?_) | (refine Calls.mono (calls_args (by with_reducible rfl) (IM.out _ _ _ (M.out.slof 10 rfl))) ?_)); rintro e w_ ⟨A109, c109, rfl, hc109, N_⟩; have m := M.out.join N_; clear N_; simp only [List.cons_append, List.nil_append, List.append_nil] at m; have M := Lib.hid m; clear m))
        refine onward_normal (hK _ _ ⟨(by first | exact M.out | exact M.out.take 2), ?_⟩)
        clear hK K
        try simp only [Act.put, List.getElem_toArray, List.getElem_cons_succ, List.getElem_cons_zero, List.setIfInBounds_toArray, List.set_cons_succ, List.set_cons_zero]
        apply takeH (i := 7) 102 rfl (by kernel_rfl) (by kernel_rfl) (by kernel_rfl) (fun _ _ _ h => h) rfl (by first | exact M.out | exact M.out.take 2)
        case' hy =>
          refine Or.inl ⟨by first | rfl | (go_simp; done), ?_⟩
          intro w hS
          clear hS
          go_simp
          try with_reducible rfl
        try simp only [Act.put, List.getElem_toArray, List.getElem_cons_succ, List.getElem_cons_zero, List.setIfInBounds_toArray, List.set_cons_succ, List.set_cons_zero]
        apply takeH (i := 8) 110 rfl (by kernel_rfl) (by kernel_rfl) (by kernel_rfl) (fun _ _ _ h => h) rfl (by first | exact M.out | exact M.out.take 2)
        case' hy =>
          refine Or.inl ⟨by first | rfl | (go_simp; done), ?_⟩
          intro w hS
          clear hS
          go_simp
          try with_reducible rfl
        try simp only [Act.put, List.getElem_toArray, List.getElem_cons_succ, List.getElem_cons_zero, List.setIfInBounds_toArray, List.set_cons_succ, List.set_cons_zero]
        apply takeH (i := 9) 111 rfl (by kernel_rfl) (by kernel_rfl) (by kernel_rfl) (fun _ _ _ h => h) rfl (by first | exact M.out | exact M.out.take 2)
        case' hy =>
          refine Or.inl ⟨by first | rfl | (go_simp; done), ?_⟩
          intro w hS
          clear hS
          go_simp
          try with_reducible rfl
        try simp only [Act.put, List.getElem_toArray, List.getElem_cons_succ, List.getElem_cons_zero, List.setIfInBounds_toArray, List.set_cons_succ, List.set_cons_zero]
        apply takeH (i := 10) 112 rfl (by kernel_rfl) (by kernel_rfl) (by kernel_rfl) (fun _ _ _ h => h) rfl (by first | exact M.out | exact M.out.take 2)
        case' hy =>
          refine Or.inl ⟨by first | rfl | (go_simp; done), ?_⟩
          intro w hS
          clear hS
          go_simp
          try with_reducible rfl
        try simp only [Act.put, List.getElem_toArray, List.getElem_cons_succ, List.getElem_cons_zero, List.setIfInBounds_toArray, List.set_cons_succ, List.set_cons_zero]
        have m := M.out.only [0, 1, 2, 3, 4, 5, 6, 7, 8, 9, 11, 10] (K := [_, _, _, _, _, _, _, _, _, _, _, _]) rfl (by decide)
        exact REST1 A108 c108 A109 c109 g18 w_ m
    case hB =>
      intro A108 c108 A109 c109 g18 w_ m
      have M := Lib.hid m
      clear m
      refine any1H 12 (by kernel_rfl) rfl (fun K hK => ?_)
      go_wp2_with (first | ((with_reducible refine gate_store (x := .tmp 18) rfl ?_); go_must (first | (refine M.out.ev_stw 9 _ _ _ rfl rfl rfl rfl _ rfl (by first | rfl | (simp only [S1.out]; rfl) | (simp only [S1.out, S2.out]; rfl) | (simp only [S3.out]; rfl) | (simp only [S1.out, S2.out, S3.out]; rfl)) (by first | exact sz35 | (rw [S1.out]; exact sz35) | (rw [S2.out]; exact sz35) | (rw [S3.out]; exact sz35)) (by first | exact ints_one _ _ | exact Fld.one _ | exact O1.out | rfl | (simp [Value.oneCell']; done)) rfl ?_) | (refine M.out.ev_stw 10 _ _ _ rfl rfl rfl rfl _ rfl (by first | rfl | (simp only [S1.out]; rfl) | (simp only [S1.out, S2.out]; rfl) | (simp only [S3.out]; rfl) | (simp only [S1.out, S2.out, S3.out]; rfl)) (by first | exact sz35 | (rw [S1.out]; exact sz35) | (rw [S2.out]; exact sz35) | (rw [S3.out]; exact sz35)) (by first | exact ints_one _ _ | exact Fld.one _ | exact O1.out | rfl | (simp [Value.oneCell']; done)) rfl ?_) | (refine M.out.ev_stw 11 _ _ _ rfl rfl rfl rfl _ rfl (by first | rfl | (simp only [S1.out]; rfl) | (simp only [S1.out, S2.out]; rfl) | (simp only [S3.out]; rfl) | (simp only [S1.out, S2.out, S3.out]; rfl)) (by first | exact sz35 | (rw [S1.out]; exact sz35) | (rw [S2.out]; exact sz35) | (rw [S3.out]; exact sz35)) (by first | exact ints_one _ _ | exact Fld.one _ | exact O1.out | rfl | (simp [Value.oneCell']; done)) rfl ?_)); intro wn m; simp only [List.set_cons_succ, List.set_cons_zero, List.setIfInBounds_toArray] at m; have M := Lib.hid m; clear m))
      refine onward_normal (hK _ _ ⟨(by first | exact M.out | exact M.out.take 2), ?_⟩)
      clear hK K
      try simp only [Act.put, List.getElem_toArray, List.getElem_cons_succ, List.getElem_cons_zero, List.setIfInBounds_toArray, List.set_cons_succ, List.set_cons_zero]
      apply takeH (i := 13) 19 rfl (by kernel_rfl) (by kernel_rfl) (by kernel_rfl) (fun _ _ _ h => h) rfl (by first | exact M.out | exact M.out.take 2)
      case' hy =>
        refine Or.inl ⟨by first | rfl | (go_simp; done), ?_⟩
        intro w hS
        clear hS
        go_simp
        try with_reducible rfl
      try simp only [Act.put, List.getElem_toArray, List.getElem_cons_succ, List.getElem_cons_zero, List.setIfInBounds_toArray, List.set_cons_succ, List.set_cons_zero]
      apply takeH (i := 14) 20 rfl (by kernel_rfl) (by kernel_rfl) (by kernel_rfl) (fun _ _ _ h => h) rfl (by first | exact M.out | exact M.out.take 2)
      case' hy =>
        refine Or.inl ⟨by first | rfl | (go_simp; done), ?_⟩
        intro w hS
        clear hS
        go_simp
        try with_reducible rfl
      try simp only [Act.put, List.getElem_toArray, List.getElem_cons_succ, List.getElem_cons_zero, List.setIfInBounds_toArray, List.set_cons_succ, List.set_cons_zero]
      exact REST0 A108 c108 A109 c109 g18 wn M.out
  intro A108 c108 A109 c109 g18 w_ m
  have M := Lib.hid m
  clear m M9
  refine wpAnyH_done (by kernel_rfl) ?_ _
  go_wp2_with (first
    | ((with_reducible refine gate_dst (N := 75) rfl ?_); refine gate_want rfl ?_; go_must (refine M.out.ev_ldw 7 _ _ rfl rfl rfl Try.underlying35 rfl (by rw [S3.out]; exact sz35) rfl ?_))
    | ((with_reducible refine gate_dst (N := 76) rfl ?_); refine gate_want rfl ?_; go_must (refine M.out.ev_ldw 4 _ _ rfl rfl rfl Try.underlying35 rfl (by rw [S3.out]; exact sz35) rfl ?_))
    | ((with_reducible refine gate_dst (N := 3) rfl ?_); go_must (refine M.out.ev_new rfl (by first | (go_simp; done) | (go_simp; rfl)) ?_); intro g3 w3 m; simp only [List.cons_append, List.nil_append] at m; have M := Lib.hid m; clear m)
    | ((with_reducible refine gate_dst (N := 4) rfl ?_); go_must (refine M.out.ev_new rfl (by first | (go_simp; done) | (go_simp; rfl)) ?_); intro g4 w4 m; simp only [List.cons_append, List.nil_append] at m; have M := Lib.hid m; clear m)
    | ((with_reducible refine gate_dst (N := 27) rfl ?_); go_must (refine M.out.ev_ldw 0 _ _ rfl rfl rfl Try.underlying27 rfl (by first | exact sz27 | (rw [S1.out]; exact sz27) | (rw [S2.out]; exact sz27) | (rw [S3.out]; exact sz27)) rfl ?_))
    | ((with_reducible refine gate_dst (N := 29) rfl ?_); go_must (refine M.out.ev_ldw 1 _ _ rfl rfl rfl Try.underlying25 rfl (by first | exact sz25 | (rw [S1.out]; exact sz25) | (rw [S2.out]; exact sz25) | (rw [S3.out]; exact sz25)) rfl ?_))
    | ((with_reducible refine gate_dst (N := 8) rfl ?_); go_must (refine M.out.ev_new rfl (by first | (go_simp; done) | (go_simp; rfl)) ?_); intro g8 w8 m; simp only [List.cons_append, List.nil_append] at m; have M := Lib.hid m; clear m)
    | ((with_reducible refine gate_store (x := .tmp 8) rfl ?_); go_must (refine M.out.ev_stw 4 _ _ _ rfl rfl rfl rfl _ rfl (by first | rfl | (simp only [S1.out]; rfl) | (simp only [S1.out, S2.out]; rfl) | (simp only [S3.out]; rfl) | (simp only [S1.out, S2.out, S3.out]; rfl)) (by first | exact sz35 | (rw [S1.out]; exact sz35) | (rw [S2.out]; exact sz35) | (rw [S3.out]; exact sz35)) (by first | exact ints_one _ _ | exact Fld.one _ | exact O1.out | rfl | (simp [Value.oneCell']; done)) rfl ?_); intro wn m; simp only [List.set_cons_succ, List.set_cons_zero, List.setIfInBounds_toArray] at m; have M := Lib.hid m; clear m)
    | ((with_reducible refine gate_dst (N := 40) rfl ?_); go_must (refine M.out.ev_ldw 0 _ _ rfl rfl rfl Try.underlying27 rfl (by first | exact sz27 | (rw [S1.out]; exact sz27) | (rw [S2.out]; exact sz27) | (rw [S3.out]; exact sz27)) rfl ?_))
    | ((with_reducible refine gate_dst (N := 42) rfl ?_); go_must (refine M.out.ev_ldw 1 _ _ rfl rfl rfl Try.underlying25 rfl (by first | exact sz25 | (rw [S1.out]; exact sz25) | (rw [S2.out]; exact sz25) | (rw [S3.out]; exact sz25)) rfl ?_))
    | ((with_reducible refine gate_dst (N := 12) rfl ?_); go_must (refine M.out.ev_new rfl (by first | (go_simp; done) | (go_simp; rfl)) ?_); intro g12 w12 m; simp only [List.cons_append, List.nil_append] at m; have M := Lib.hid m; clear m)
    | ((with_reducible refine gate_store (x := .tmp 12) rfl ?_); go_must (refine M.out.ev_stw 7 _ _ _ rfl rfl rfl rfl _ rfl (by first | rfl | (simp only [S1.out]; rfl) | (simp only [S1.out, S2.out]; rfl) | (simp only [S3.out]; rfl) | (simp only [S1.out, S2.out, S3.out]; rfl)) (by first | exact sz35 | (rw [S1.out]; exact sz35) | (rw [S2.out]; exact sz35) | (rw [S3.out]; exact sz35)) (by first | exact ints_one _ _ | exact Fld.one _ | exact O1.out | rfl | (simp [Value.oneCell']; done)) rfl ?_); intro wn m; simp only [List.set_cons_succ, List.set_cons_zero, List.setIfInBounds_toArray] at m; have M := Lib.hid m; clear m)
    | ((with_reducible refine gate_dst (N := 49) rfl ?_); go_must (refine M.out.ev_ldw 7 _ _ rfl rfl rfl Try.underlying35 rfl (by first | exact sz35 | (rw [S1.out]; exact sz35) | (rw [S2.out]; exact sz35) | (rw [S3.out]; exact sz35)) rfl ?_))
    | ((with_reducible refine gate_dst (N := 50) rfl ?_); go_must (refine M.out.ev_ldw 4 _ _ rfl rfl rfl Try.underlying35 rfl (by first | exact sz35 | (rw [S1.out]; exact sz35) | (rw [S2.out]; exact sz35) | (rw [S3.out]; exact sz35)) rfl ?_))
    | ((with_reducible refine gate_dst (N := 103) rfl ?_); go_must (refine M.out.ev_ldw 0 _ _ rfl rfl rfl Try.underlying27 rfl (by first | exact sz27 | (rw [S1.out]; exact sz27) | (rw [S2.out]; exact sz27) | (rw [S3.out]; exact sz27)) rfl ?_))
    | ((with_reducible refine gate_dst (N := 105) rfl ?_); go_must (refine M.out.ev_ldw 1 _ _ rfl rfl rfl Try.underlying25 rfl (by first | exact sz25 | (rw [S1.out]; exact sz25) | (rw [S2.out]; exact sz25) | (rw [S3.out]; exact sz25)) rfl ?_))
    | ((with_reducible refine gate_dst (N := 18) rfl ?_); go_must (refine M.out.ev_new rfl (by first | (go_simp; done) | (go_simp; rfl)) ?_); intro g18 w18 m; simp only [List.cons_append, List.nil_append] at m; have M := Lib.hid m; clear m)
    | ((with_reducible refine gate_store (x := .tmp 18) rfl ?_); go_must (refine M.out.ev_stw 11 _ _ _ rfl rfl rfl rfl _ rfl (by first | rfl | (simp only [S1.out]; rfl) | (simp only [S1.out, S2.out]; rfl) | (simp only [S3.out]; rfl) | (simp only [S1.out, S2.out, S3.out]; rfl)) (by first | exact sz35 | (rw [S1.out]; exact sz35) | (rw [S2.out]; exact sz35) | (rw [S3.out]; exact sz35)) (by first | exact ints_one _ _ | exact Fld.one _ | exact O1.out | rfl | (simp [Value.oneCell']; done)) rfl ?_); intro wn m; simp only [List.set_cons_succ, List.set_cons_zero, List.setIfInBounds_toArray] at m; have M := Lib.hid m; clear m)
    | ((with_reducible refine gate_dst (N := 113) rfl ?_); go_must (refine M.out.ev_ldw 11 _ _ rfl rfl rfl Try.underlying35 rfl (by first | exact sz35 | (rw [S1.out]; exact sz35) | (rw [S2.out]; exact sz35) | (rw [S3.out]; exact sz35)) rfl ?_))
    | ((with_reducible refine gate_dst (N := 114) rfl ?_); go_must (refine M.out.ev_ldw 4 _ _ rfl rfl rfl Try.underlying35 rfl (by first | exact sz35 | (rw [S1.out]; exact sz35) | (rw [S2.out]; exact sz35) | (rw [S3.out]; exact sz35)) rfl ?_))
    | (go_at_call 16; go_must (refine (toField_any F hF.toLen _).mono ?_); rintro e w_ ⟨rfl, hB_⟩; have M := Lib.hid (M.out.kept hB_); clear hB_)
    | (go_at_call 17; go_must (refine (toFears_any fs hfl _).mono ?_); rintro e w_ ⟨rfl, hB_⟩; have M := Lib.hid (M.out.kept hB_); clear hB_)
    | (go_at_call 48; go_must (first | (refine Calls.mono (calls_args (by with_reducible rfl) (eqVisitS_any _ _ _ _ V V _ hr (M.out.slof 6 rfl) (M.out.slof 3 rfl))) ?_) | (refine Calls.mono (calls_args (by with_reducible rfl) (eqVisitS_any _ _ _ _ V V _ hr (M.out.slof 10 rfl) (M.out.slof 3 rfl))) ?_)); rintro e w_ ⟨rfl, N_⟩; have m := M.out.join N_; clear N_; simp only [List.cons_append, List.nil_append, List.append_nil] at m; have M := Lib.hid m; clear m; rw [decide_eq_true rfl])
    | (go_at_call 37; go_must (first | (refine Calls.mono (calls_args (by with_reducible rfl) (eqFlockS_any _ _ _ _ xs xs _ hl (M.out.slof 5 rfl) (M.out.slof 8 rfl))) ?_)); rintro e w_ ⟨rfl, N_⟩; have m := M.out.join N_; clear N_; simp only [List.cons_append, List.nil_append, List.append_nil] at m; have M := Lib.hid m; clear m; rw [decide_eq_true rfl])
    | (go_at_call 38; go_must (first | (refine Calls.mono (calls_args (by with_reducible rfl) (markFlock_any 5 M.out _ _ xs rfl hl)) ?_)); rintro e w_ ⟨rfl, m⟩; simp only [List.set_cons_succ, List.set_cons_zero] at m; have M := Lib.hid m; clear m)
    | (go_at_call 49; go_must (first | (refine Calls.mono (calls_args (by with_reducible rfl) (markVisit_any 6 M.out _ _ V rfl hr)) ?_)); rintro e w_ ⟨rfl, m⟩; simp only [List.set_cons_succ, List.set_cons_zero] at m; have M := Lib.hid m; clear m)
    | (go_at_call 56; go_must (refine (heldVisit_any _ _ V.length hr _ (M.out.slof 6 rfl)).mono ?_); rintro e w_ ⟨rfl, rfl⟩)
    | (go_at_call 35; go_must (refine (toFlockS_any A n xs _ hl (M.out.sl HS.out)).mono ?_); rintro e w_ ⟨A_, c_, rfl, hc_, N_⟩; have m := M.out.join N_; clear N_; simp only [List.cons_append, List.nil_append, List.append_nil] at m; have M := Lib.hid m; clear m)
    | (go_at_call 33; go_must (refine (szFlockS_any A xs.length n 1048576 _ (by omega) (by omega) (by omega)).mono ?_); rintro e w_ ⟨rfl, rfl⟩; rw [if_neg hz])
    | (go_at_call 52; go_must (refine (eqField_any R LF.out _).mono ?_); rintro e w_ ⟨rfl, N_⟩; have m := M.out.join N_; clear N_; simp only [List.cons_append, List.nil_append, List.append_nil] at m; have M := Lib.hid m; clear m)
    )
  go_ret
  exact ⟨ret_bool rfl, M.out.take 0⟩
set_option maxRecDepth 100000 in
set_option maxHeartbeats 8000000 in
theorem lawFeedAll_any (F : Fld) (hF : F.ok) (fs : List Int) (hfl : fs.length = 100) (hff : ∀ x ∈ fs, -32768 ≤ x ∧ x ≤ 32767) (A : Option Addr) (n : Nat) (xs : List Flock) (hx : ∀ x ∈ xs, x.ok) (hm : xs.length ≤ 9223372036854775807) (w : World) (hs : Sl w 6 A xs.length (flat Flock.vals xs)) :
    Calls Try.prog 13 #[.agg F.cells, .agg (ints .i16 fs), .slice A xs.length n] w fun e w' => e = .returned (.bool true) ∧ Mem w w' [] := by
  have M := Lib.hid (Mem.start w)
  have HFF := Lib.hid hff
  have HX := Lib.hid hx
  have HS := Lib.hid hs
  have S1 := Lib.hid (Fld.size hF.toLen)
  have S2 := Lib.hid (show (ints .i16 fs).size = 100 by rw [ints_size, hfl])
  clear hx hs hff
  by_cases hl : xs.length ≤ 1048576
  · refine lawFeedAll_in F hF fs hfl HFF.out A n xs HX.out hl w HS.out
  · have hz : (1048576 : Int) < xs.length := by omega
    go_enter Try.func13, Try.ntmps13
    go_wp2_with (first
      | ((with_reducible refine gate_dst (N := 3) rfl ?_); go_must (refine M.out.ev_new rfl (by first | (go_simp; done) | (go_simp; rfl)) ?_); intro g3 w3 m; simp only [List.cons_append, List.nil_append] at m; have M := Lib.hid m; clear m)
      | ((with_reducible refine gate_dst (N := 4) rfl ?_); go_must (refine M.out.ev_new rfl (by first | (go_simp; done) | (go_simp; rfl)) ?_); intro g4 w4 m; simp only [List.cons_append, List.nil_append] at m; have M := Lib.hid m; clear m)
      | ((with_reducible refine gate_dst (N := 27) rfl ?_); go_must (refine M.out.ev_ldw 0 _ _ rfl rfl rfl Try.underlying27 rfl (by first | exact sz27 | (rw [S1.out]; exact sz27) | (rw [S2.out]; exact sz27) | (rw [S3.out]; exact sz27)) rfl ?_))
      | ((with_reducible refine gate_dst (N := 29) rfl ?_); go_must (refine M.out.ev_ldw 1 _ _ rfl rfl rfl Try.underlying25 rfl (by first | exact sz25 | (rw [S1.out]; exact sz25) | (rw [S2.out]; exact sz25) | (rw [S3.out]; exact sz25)) rfl ?_))
      | ((with_reducible refine gate_dst (N := 8) rfl ?_); go_must (refine M.out.ev_new rfl (by first | (go_simp; done) | (go_simp; rfl)) ?_); intro g8 w8 m; simp only [List.cons_append, List.nil_append] at m; have M := Lib.hid m; clear m)
      | ((with_reducible refine gate_store (x := .tmp 8) rfl ?_); go_must (refine M.out.ev_stw 2 _ _ _ rfl rfl rfl rfl _ rfl (by first | rfl | (simp only [S1.out]; rfl) | (simp only [S1.out, S2.out]; rfl) | (simp only [S3.out]; rfl) | (simp only [S1.out, S2.out, S3.out]; rfl)) (by first | exact sz35 | (rw [S1.out]; exact sz35) | (rw [S2.out]; exact sz35) | (rw [S3.out]; exact sz35)) (by first | exact ints_one _ _ | exact Fld.one _ | exact O1.out | rfl | (simp [Value.oneCell']; done)) rfl ?_); intro wn m; simp only [List.set_cons_succ, List.set_cons_zero, List.setIfInBounds_toArray] at m; have M := Lib.hid m; clear m)
      | ((with_reducible refine gate_dst (N := 40) rfl ?_); go_must (refine M.out.ev_ldw 0 _ _ rfl rfl rfl Try.underlying27 rfl (by first | exact sz27 | (rw [S1.out]; exact sz27) | (rw [S2.out]; exact sz27) | (rw [S3.out]; exact sz27)) rfl ?_))
      | ((with_reducible refine gate_dst (N := 42) rfl ?_); go_must (refine M.out.ev_ldw 1 _ _ rfl rfl rfl Try.underlying25 rfl (by first | exact sz25 | (rw [S1.out]; exact sz25) | (rw [S2.out]; exact sz25) | (rw [S3.out]; exact sz25)) rfl ?_))
      | ((with_reducible refine gate_dst (N := 12) rfl ?_); go_must (refine M.out.ev_new rfl (by first | (go_simp; done) | (go_simp; rfl)) ?_); intro g12 w12 m; simp only [List.cons_append, List.nil_append] at m; have M := Lib.hid m; clear m)
      | ((with_reducible refine gate_store (x := .tmp 12) rfl ?_); go_must (refine M.out.ev_stw 3 _ _ _ rfl rfl rfl rfl _ rfl (by first | rfl | (simp only [S1.out]; rfl) | (simp only [S1.out, S2.out]; rfl) | (simp only [S3.out]; rfl) | (simp only [S1.out, S2.out, S3.out]; rfl)) (by first | exact sz35 | (rw [S1.out]; exact sz35) | (rw [S2.out]; exact sz35) | (rw [S3.out]; exact sz35)) (by first | exact ints_one _ _ | exact Fld.one _ | exact O1.out | rfl | (simp [Value.oneCell']; done)) rfl ?_); intro wn m; simp only [List.set_cons_succ, List.set_cons_zero, List.setIfInBounds_toArray] at m; have M := Lib.hid m; clear m)
      | ((with_reducible refine gate_dst (N := 49) rfl ?_); go_must (refine M.out.ev_ldw 3 _ _ rfl rfl rfl Try.underlying35 rfl (by first | exact sz35 | (rw [S1.out]; exact sz35) | (rw [S2.out]; exact sz35) | (rw [S3.out]; exact sz35)) rfl ?_))
      | ((with_reducible refine gate_dst (N := 50) rfl ?_); go_must (refine M.out.ev_ldw 2 _ _ rfl rfl rfl Try.underlying35 rfl (by first | exact sz35 | (rw [S1.out]; exact sz35) | (rw [S2.out]; exact sz35) | (rw [S3.out]; exact sz35)) rfl ?_))
      | ((with_reducible refine gate_dst (N := 103) rfl ?_); go_must (refine M.out.ev_ldw 0 _ _ rfl rfl rfl Try.underlying27 rfl (by first | exact sz27 | (rw [S1.out]; exact sz27) | (rw [S2.out]; exact sz27) | (rw [S3.out]; exact sz27)) rfl ?_))
      | ((with_reducible refine gate_dst (N := 105) rfl ?_); go_must (refine M.out.ev_ldw 1 _ _ rfl rfl rfl Try.underlying25 rfl (by first | exact sz25 | (rw [S1.out]; exact sz25) | (rw [S2.out]; exact sz25) | (rw [S3.out]; exact sz25)) rfl ?_))
      | ((with_reducible refine gate_dst (N := 18) rfl ?_); go_must (refine M.out.ev_new rfl (by first | (go_simp; done) | (go_simp; rfl)) ?_); intro g18 w18 m; simp only [List.cons_append, List.nil_append] at m; have M := Lib.hid m; clear m)
      | ((with_reducible refine gate_store (x := .tmp 18) rfl ?_); go_must (refine M.out.ev_stw 4 _ _ _ rfl rfl rfl rfl _ rfl (by first | rfl | (simp only [S1.out]; rfl) | (simp only [S1.out, S2.out]; rfl) | (simp only [S3.out]; rfl) | (simp only [S1.out, S2.out, S3.out]; rfl)) (by first | exact sz35 | (rw [S1.out]; exact sz35) | (rw [S2.out]; exact sz35) | (rw [S3.out]; exact sz35)) (by first | exact ints_one _ _ | exact Fld.one _ | exact O1.out | rfl | (simp [Value.oneCell']; done)) rfl ?_); intro wn m; simp only [List.set_cons_succ, List.set_cons_zero, List.setIfInBounds_toArray] at m; have M := Lib.hid m; clear m)
      | ((with_reducible refine gate_dst (N := 113) rfl ?_); go_must (refine M.out.ev_ldw 4 _ _ rfl rfl rfl Try.underlying35 rfl (by first | exact sz35 | (rw [S1.out]; exact sz35) | (rw [S2.out]; exact sz35) | (rw [S3.out]; exact sz35)) rfl ?_))
      | ((with_reducible refine gate_dst (N := 114) rfl ?_); go_must (refine M.out.ev_ldw 2 _ _ rfl rfl rfl Try.underlying35 rfl (by first | exact sz35 | (rw [S1.out]; exact sz35) | (rw [S2.out]; exact sz35) | (rw [S3.out]; exact sz35)) rfl ?_))
      | (go_at_call 33; go_must (refine (szFlockS_any A xs.length n 1048576 _ (by omega) (by omega) hm).mono ?_); rintro e w_ ⟨rfl, rfl⟩; rw [if_pos hz]))
    go_ret
    exact ⟨ret_bool rfl, M.out.take 0⟩
end Go.Proofs.Ytbjcajhbhicokaa
