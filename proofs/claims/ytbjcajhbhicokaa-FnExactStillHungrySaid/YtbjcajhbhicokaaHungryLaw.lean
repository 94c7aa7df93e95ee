/- The law of the flocks that still want something: its walk. -/
import Derived.Test.YtbjcajhbhicokaaHungry
import Derived.Test.YtbjcajhbhicokaaFlockM
import Derived.Test.YtbjcajhbhicokaaGen2
namespace Go.Proofs.Ytbjcajhbhicokaa
set_option linter.unusedSimpArgs false
set_option linter.unusedVariables false
open Go.RowKit
attribute [local go_sem] cell?_mk frozen?_mk

set_option maxRecDepth 100000 in
set_option maxHeartbeats 8000000 in
theorem lawStillHungry_in (F : Fld) (hF : F.ok) (fs : List Int) (hfl : fs.length = 100) (hff : ∀ x ∈ fs, -32768 ≤ x ∧ x ≤ 32767) (A : Option Addr) (n : Nat) (xs : List Flock) (hx : ∀ x ∈ xs, x.ok) (hl : xs.length ≤ 1048576) (w : World) (hs : Sl w 6 A xs.length (flat Flock.vals xs)) :
    Calls Try.prog 12 #[.agg F.cells, .agg (ints .i16 fs), .slice A xs.length n] w fun e w' => e = .returned (.bool true) ∧ Mem w w' [] := by
  have M := Lib.hid (Mem.start w)
  have HFF := Lib.hid hff
  have HX := Lib.hid hx
  have HS := Lib.hid hs
  have S1 := Lib.hid (Fld.size hF.toLen)
  have S2 := Lib.hid (show (ints .i16 fs).size = 100 by rw [ints_size, hfl])
  have hz : ¬ ((1048576 : Int) < xs.length) := by omega
  have hz2 : ¬ ((1048576 : Int) - xs.length < 0) := by omega
  have hk1 : ¬ (1 + 6 * (xs.length : Int) < 0) := by omega
  have hr := shI_len F fs xs
  have IM := Lib.hid (fun A n w hs => impl_StillHungry_any F hF fs hfl HFF.out A n xs HX.out hl w hs)
  have SP := Lib.hid (fun A n w hs => spec_StillHungry_any F hF fs hfl HFF.out A n xs HX.out hl w hs)
  obtain ⟨V, hV⟩ : ∃ V, V = shI F fs xs := ⟨_, rfl⟩
  obtain ⟨C, hC⟩ : ∃ C, C = birdsCode F fs xs := ⟨_, rfl⟩
  rw [← hV, ← hC] at IM SP
  rw [← hV] at hr
  have hk2 : ¬ (1 + (V.length : Int) < 0) := by omega
  clear hff hV hC hx hs
  go_enter Try.func12, Try.ntmps12
  go_wp2_with (first
    | ((with_reducible refine gate_dst (N := 3) rfl ?_); go_must (refine M.out.ev_new rfl (by first | (go_simp; done) | (go_simp; rfl)) ?_); intro g3 w3 m; simp only [List.cons_append, List.nil_append] at m; have M := Lib.hid m; clear m)
    | ((with_reducible refine gate_dst (N := 4) rfl ?_); go_must (refine M.out.ev_new rfl (by first | (go_simp; done) | (go_simp; rfl)) ?_); intro g4 w4 m; simp only [List.cons_append, List.nil_append] at m; have M := Lib.hid m; clear m)
    | ((with_reducible refine gate_dst (N := 24) rfl ?_); go_must (refine M.out.ev_ldw 0 _ _ rfl rfl rfl Try.underlying27 rfl (by first | exact sz27 | (rw [S1.out]; exact sz27) | (rw [S2.out]; exact sz27) | (rw [S3.out]; exact sz27)) rfl ?_))
    | ((with_reducible refine gate_dst (N := 26) rfl ?_); go_must (refine M.out.ev_ldw 1 _ _ rfl rfl rfl Try.underlying25 rfl (by first | exact sz25 | (rw [S1.out]; exact sz25) | (rw [S2.out]; exact sz25) | (rw [S3.out]; exact sz25)) rfl ?_))
    | ((with_reducible refine gate_dst (N := 36) rfl ?_); go_must (refine M.out.ev_ldw 0 _ _ rfl rfl rfl Try.underlying27 rfl (by first | exact sz27 | (rw [S1.out]; exact sz27) | (rw [S2.out]; exact sz27) | (rw [S3.out]; exact sz27)) rfl ?_))
    | ((with_reducible refine gate_dst (N := 38) rfl ?_); go_must (refine M.out.ev_ldw 1 _ _ rfl rfl rfl Try.underlying25 rfl (by first | exact sz25 | (rw [S1.out]; exact sz25) | (rw [S2.out]; exact sz25) | (rw [S3.out]; exact sz25)) rfl ?_))
    | ((with_reducible refine gate_dst (N := 86) rfl ?_); go_must (refine M.out.ev_ldw 0 _ _ rfl rfl rfl Try.underlying27 rfl (by first | exact sz27 | (rw [S1.out]; exact sz27) | (rw [S2.out]; exact sz27) | (rw [S3.out]; exact sz27)) rfl ?_))
    | ((with_reducible refine gate_dst (N := 88) rfl ?_); go_must (refine M.out.ev_ldw 1 _ _ rfl rfl rfl Try.underlying25 rfl (by first | exact sz25 | (rw [S1.out]; exact sz25) | (rw [S2.out]; exact sz25) | (rw [S3.out]; exact sz25)) rfl ?_))
    | (go_at_call 16; go_must (refine (toField_any F hF.toLen _).mono ?_); rintro e w_ ⟨rfl, hB_⟩; have M := Lib.hid (M.out.kept hB_); clear hB_)
    | (go_at_call 17; go_must (refine (toFears_any fs hfl _).mono ?_); rintro e w_ ⟨rfl, hB_⟩; have M := Lib.hid (M.out.kept hB_); clear hB_)
    | (go_at_call 26; go_must (first | (refine Calls.mono (calls_args (by with_reducible rfl) (eqI_any _ _ _ _ V _ hr (M.out.slof 5 rfl) (M.out.slof 3 rfl))) ?_) | (refine Calls.mono (calls_args (by with_reducible rfl) (eqI_any _ _ _ _ V _ hr (M.out.slof 8 rfl) (M.out.slof 3 rfl))) ?_)); rintro e w_ ⟨rfl, N_⟩; have m := M.out.join N_; clear N_; simp only [List.cons_append, List.nil_append, List.append_nil] at m; have M := Lib.hid m; clear m)
    | (go_at_call 37; go_must (first | (refine Calls.mono (calls_args (by with_reducible rfl) (eqFlockS_any _ _ _ _ xs xs _ hl (M.out.slof 4 rfl) (M.out.slof 6 rfl))) ?_)); rintro e w_ ⟨rfl, N_⟩; have m := M.out.join N_; clear N_; simp only [List.cons_append, List.nil_append, List.append_nil] at m; have M := Lib.hid m; clear m; rw [decide_eq_true rfl])
    | (go_at_call 38; go_must (first | (refine Calls.mono (calls_args (by with_reducible rfl) (markFlock_any 4 M.out _ _ xs rfl hl)) ?_)); rintro e w_ ⟨rfl, m⟩; simp only [List.set_cons_succ, List.set_cons_zero] at m; have M := Lib.hid m; clear m)
    | (go_at_call 29; go_must (first | (refine Calls.mono (calls_args (by with_reducible rfl) (mark64_any 5 M.out _ _ _ _ rfl hr)) ?_)); rintro e w_ ⟨rfl, m⟩; simp only [List.set_cons_succ, List.set_cons_zero] at m; have M := Lib.hid m; clear m)
    | (go_at_call 30; go_must (refine (held64_any _ _ V.length hr _ (M.out.slof 5 rfl)).mono ?_); rintro e w_ ⟨rfl, rfl⟩)
    | (go_at_call 35; go_must (refine (toFlockS_any A n xs _ hl (M.out.sl HS.out)).mono ?_); rintro e w_ ⟨A_, c_, rfl, hc_, N_⟩; have m := M.out.join N_; clear N_; simp only [List.cons_append, List.nil_append, List.append_nil] at m; have M := Lib.hid m; clear m)
    | (go_at_call 33; go_must (refine (szFlockS_any A xs.length n 1048576 _ (by omega) (by omega) (by omega)).mono ?_); rintro e w_ ⟨rfl, rfl⟩; rw [if_neg hz])
    )
  refine region_anyH (fun w' => Mem w w' [.blk g3 27 F.cells, .blk g4 25 (ints .i16 fs)]) (by kernel_rfl) ?_
  have M9 := M.out.drew
  clear M
  apply merge4
  case hA =>
    intro REST0
    have M := Lib.hid M9
    apply takeH (i := 0) 24 rfl (by kernel_rfl) (by kernel_rfl) (by kernel_rfl) (fun _ _ _ h => h) rfl (by first | exact M.out | exact M.out.take 2)
    case' hy => exact yldw _ _ rfl rfl Try.underlying27 rfl (by first | exact sz27 | (rw [S1.out]; exact sz27) | (rw [S2.out]; exact sz27) | (rw [S3.out]; exact sz27)) rfl (fun w' hS => hS.blk 0 rfl)
    try simp only [Act.put, List.getElem_toArray, List.getElem_cons_succ, List.getElem_cons_zero, List.setIfInBounds_toArray, List.set_cons_succ, List.set_cons_zero]
    apply takeH (i := 2) 26 rfl (by kernel_rfl) (by kernel_rfl) (by kernel_rfl) (fun _ _ _ h => h) rfl (by first | exact M.out | exact M.out.take 2)
    case' hy => exact yldw _ _ rfl rfl Try.underlying25 rfl (by first | exact sz25 | (rw [S1.out]; exact sz25) | (rw [S2.out]; exact sz25) | (rw [S3.out]; exact sz25)) rfl (fun w' hS => hS.blk 1 rfl)
    try simp only [Act.put, List.getElem_toArray, List.getElem_cons_succ, List.getElem_cons_zero, List.setIfInBounds_toArray, List.set_cons_succ, List.set_cons_zero]
    apply takeH (i := 4) 28 rfl (by kernel_rfl) (by kernel_rfl) (by kernel_rfl) (fun _ _ _ h => h) rfl (by first | exact M.out | exact M.out.take 2)
    case' hy =>
      refine Or.inl ⟨by first | rfl | (go_simp; done), ?_⟩
      intro w hS
      clear hS
      go_simp
      try with_reducible rfl
    try simp only [Act.put, List.getElem_toArray, List.getElem_cons_succ, List.getElem_cons_zero, List.setIfInBounds_toArray, List.set_cons_succ, List.set_cons_zero]
    refine any1H 1 (by kernel_rfl) rfl (fun K hK => ?_)
    go_wp2_with (first | (go_at_call 16; go_must (refine (toField_any F hF.toLen _).mono ?_); rintro e w_ ⟨rfl, hB_⟩; have M := Lib.hid (M.out.kept hB_); clear hB_))
    refine onward_normal (hK _ _ ⟨(by first | exact M.out | exact M.out.take 2), ?_⟩)
    clear hK K
    try simp only [Act.put, List.getElem_toArray, List.getElem_cons_succ, List.getElem_cons_zero, List.setIfInBounds_toArray, List.set_cons_succ, List.set_cons_zero]
    refine any1H 3 (by kernel_rfl) rfl (fun K hK => ?_)
    go_wp2_with (first | (go_at_call 17; go_must (refine (toFears_any fs hfl _).mono ?_); rintro e w_ ⟨rfl, hB_⟩; have M := Lib.hid (M.out.kept hB_); clear hB_))
    refine onward_normal (hK _ _ ⟨(by first | exact M.out | exact M.out.take 2), ?_⟩)
    clear hK K
    try simp only [Act.put, List.getElem_toArray, List.getElem_cons_succ, List.getElem_cons_zero, List.setIfInBounds_toArray, List.set_cons_succ, List.set_cons_zero]
    refine any1H 5 (by kernel_rfl) rfl (fun K hK => ?_)
    go_wp2_with (first | (go_at_call 35; go_must (refine (toFlockS_any A n xs _ hl (M.out.sl HS.out)).mono ?_); rintro e w_ ⟨A29, c29, rfl, hc29, N_⟩; have m := M.out.join N_; clear N_; simp only [List.cons_append, List.nil_append, List.append_nil] at m; have M := Lib.hid m; clear m))
    refine onward_normal (hK _ _ ⟨(by first | exact M.out | exact M.out.take 2), ?_⟩)
    clear hK K
    try simp only [Act.put, List.getElem_toArray, List.getElem_cons_succ, List.getElem_cons_zero, List.setIfInBounds_toArray, List.set_cons_succ, List.set_cons_zero]
    refine any1H 6 (by kernel_rfl) rfl (fun K hK => ?_)
    go_wp2_with (first | (go_at_call 57; go_must (first | (refine Calls.mono (calls_args (by with_reducible rfl) (SP.out _ _ _ (M.out.slof 1 rfl))) ?_) | (refine Calls.mono (calls_args (by with_reducible rfl) (SP.out _ _ _ (M.out.slof 2 rfl))) ?_) | (refine Calls.mono (calls_args (by with_reducible rfl) (SP.out _ _ _ (M.out.slof 3 rfl))) ?_)); rintro e w_ ⟨A30, c30, rfl, hc30, N_⟩; have m := M.out.join N_; clear N_; simp only [List.cons_append, List.nil_append, List.append_nil] at m; have M := Lib.hid m; clear m))
    refine onward_normal (hK _ _ ⟨(by first | exact M.out | exact M.out.take 2), ?_⟩)
    clear hK K
    try simp only [Act.put, List.getElem_toArray, List.getElem_cons_succ, List.getElem_cons_zero, List.setIfInBounds_toArray, List.set_cons_succ, List.set_cons_zero]
    apply takeH (i := 7) 23 rfl (by kernel_rfl) (by kernel_rfl) (by kernel_rfl) (fun _ _ _ h => h) rfl (by first | exact M.out | exact M.out.take 2)
    case' hy =>
      refine Or.inl ⟨by first | rfl | (go_simp; done), ?_⟩
      intro w hS
      clear hS
      go_simp
      try with_reducible rfl
    try simp only [Act.put, List.getElem_toArray, List.getElem_cons_succ, List.getElem_cons_zero, List.setIfInBounds_toArray, List.set_cons_succ, List.set_cons_zero]
    apply takeH (i := 8) 31 rfl (by kernel_rfl) (by kernel_rfl) (by kernel_rfl) (fun _ _ _ h => h) rfl (by first | exact M.out | exact M.out.take 2)
    case' hy =>
      refine Or.inl ⟨by first | rfl | (go_simp; done), ?_⟩
      intro w hS
      clear hS
      go_simp
      try with_reducible rfl
    try simp only [Act.put, List.getElem_toArray, List.getElem_cons_succ, List.getElem_cons_zero, List.setIfInBounds_toArray, List.set_cons_succ, List.set_cons_zero]
    apply takeH (i := 9) 32 rfl (by kernel_rfl) (by kernel_rfl) (by kernel_rfl) (fun _ _ _ h => h) rfl (by first | exact M.out | exact M.out.take 2)
    case' hy =>
      refine Or.inl ⟨by first | rfl | (go_simp; done), ?_⟩
      intro w hS
      clear hS
      go_simp
      try with_reducible rfl
    try simp only [Act.put, List.getElem_toArray, List.getElem_cons_succ, List.getElem_cons_zero, List.setIfInBounds_toArray, List.set_cons_succ, List.set_cons_zero]
    apply takeH (i := 10) 8 rfl (by kernel_rfl) (by kernel_rfl) (by kernel_rfl) (fun _ _ _ h => h) rfl (by first | exact M.out | exact M.out.take 2)
    case' hy =>
      refine Or.inl ⟨by first | rfl | (go_simp; done), ?_⟩
      intro w hS
      clear hS
      go_simp
      try with_reducible rfl
    try simp only [Act.put, List.getElem_toArray, List.getElem_cons_succ, List.getElem_cons_zero, List.setIfInBounds_toArray, List.set_cons_succ, List.set_cons_zero]
    apply takeH (i := 11) 9 rfl (by kernel_rfl) (by kernel_rfl) (by kernel_rfl) (fun _ _ _ h => h) rfl (by first | exact M.out | exact M.out.take 2)
    case' hy =>
      refine Or.inl ⟨by first | rfl | (go_simp; done), ?_⟩
      intro w hS
      clear hS
      go_simp
      try with_reducible rfl
    try simp only [Act.put, List.getElem_toArray, List.getElem_cons_succ, List.getElem_cons_zero, List.setIfInBounds_toArray, List.set_cons_succ, List.set_cons_zero]
    exact REST0 A29 c29 A30 c30 w_ M.out
  intro A29 c29 A30 c30 w_ m
  have M := Lib.hid m
  clear m M9
  refine wpAnyH_done (by kernel_rfl) ?_ _
  go_wp2_with (first
    | ((with_reducible refine gate_dst (N := 3) rfl ?_); go_must (refine M.out.ev_new rfl (by first | (go_simp; done) | (go_simp; rfl)) ?_); intro g3 w3 m; simp only [List.cons_append, List.nil_append] at m; have M := Lib.hid m; clear m)
    | ((with_reducible refine gate_dst (N := 4) rfl ?_); go_must (refine M.out.ev_new rfl (by first | (go_simp; done) | (go_simp; rfl)) ?_); intro g4 w4 m; simp only [List.cons_append, List.nil_append] at m; have M := Lib.hid m; clear m)
    | ((with_reducible refine gate_dst (N := 24) rfl ?_); go_must (refine M.out.ev_ldw 0 _ _ rfl rfl rfl Try.underlying27 rfl (by first | exact sz27 | (rw [S1.out]; exact sz27) | (rw [S2.out]; exact sz27) | (rw [S3.out]; exact sz27)) rfl ?_))
    | ((with_reducible refine gate_dst (N := 26) rfl ?_); go_must (refine M.out.ev_ldw 1 _ _ rfl rfl rfl Try.underlying25 rfl (by first | exact sz25 | (rw [S1.out]; exact sz25) | (rw [S2.out]; exact sz25) | (rw [S3.out]; exact sz25)) rfl ?_))
    | ((with_reducible refine gate_dst (N := 36) rfl ?_); go_must (refine M.out.ev_ldw 0 _ _ rfl rfl rfl Try.underlying27 rfl (by first | exact sz27 | (rw [S1.out]; exact sz27) | (rw [S2.out]; exact sz27) | (rw [S3.out]; exact sz27)) rfl ?_))
    | ((with_reducible refine gate_dst (N := 38) rfl ?_); go_must (refine M.out.ev_ldw 1 _ _ rfl rfl rfl Try.underlying25 rfl (by first | exact sz25 | (rw [S1.out]; exact sz25) | (rw [S2.out]; exact sz25) | (rw [S3.out]; exact sz25)) rfl ?_))
    | ((with_reducible refine gate_dst (N := 86) rfl ?_); go_must (refine M.out.ev_ldw 0 _ _ rfl rfl rfl Try.underlying27 rfl (by first | exact sz27 | (rw [S1.out]; exact sz27) | (rw [S2.out]; exact sz27) | (rw [S3.out]; exact sz27)) rfl ?_))
    | ((with_reducible refine gate_dst (N := 88) rfl ?_); go_must (refine M.out.ev_ldw 1 _ _ rfl rfl rfl Try.underlying25 rfl (by first | exact sz25 | (rw [S1.out]; exact sz25) | (rw [S2.out]; exact sz25) | (rw [S3.out]; exact sz25)) rfl ?_))
    | (go_at_call 16; go_must (refine (toField_any F hF.toLen _).mono ?_); rintro e w_ ⟨rfl, hB_⟩; have M := Lib.hid (M.out.kept hB_); clear hB_)
    | (go_at_call 17; go_must (refine (toFears_any fs hfl _).mono ?_); rintro e w_ ⟨rfl, hB_⟩; have M := Lib.hid (M.out.kept hB_); clear hB_)
    | (go_at_call 26; go_must (first | (refine Calls.mono (calls_args (by with_reducible rfl) (eqI_any _ _ _ _ V _ hr (M.out.slof 5 rfl) (M.out.slof 3 rfl))) ?_) | (refine Calls.mono (calls_args (by with_reducible rfl) (eqI_any _ _ _ _ V _ hr (M.out.slof 8 rfl) (M.out.slof 3 rfl))) ?_)); rintro e w_ ⟨rfl, N_⟩; have m := M.out.join N_; clear N_; simp only [List.cons_append, List.nil_append, List.append_nil] at m; have M := Lib.hid m; clear m)
    | (go_at_call 37; go_must (first | (refine Calls.mono (calls_args (by with_reducible rfl) (eqFlockS_any _ _ _ _ xs xs _ hl (M.out.slof 4 rfl) (M.out.slof 6 rfl))) ?_)); rintro e w_ ⟨rfl, N_⟩; have m := M.out.join N_; clear N_; simp only [List.cons_append, List.nil_append, List.append_nil] at m; have M := Lib.hid m; clear m; rw [decide_eq_true rfl])
    | (go_at_call 38; go_must (first | (refine Calls.mono (calls_args (by with_reducible rfl) (markFlock_any 4 M.out _ _ xs rfl hl)) ?_)); rintro e w_ ⟨rfl, m⟩; simp only [List.set_cons_succ, List.set_cons_zero] at m; have M := Lib.hid m; clear m)
    | (go_at_call 29; go_must (first | (refine Calls.mono (calls_args (by with_reducible rfl) (mark64_any 5 M.out _ _ _ _ rfl hr)) ?_)); rintro e w_ ⟨rfl, m⟩; simp only [List.set_cons_succ, List.set_cons_zero] at m; have M := Lib.hid m; clear m)
    | (go_at_call 30; go_must (refine (held64_any _ _ V.length hr _ (M.out.slof 5 rfl)).mono ?_); rintro e w_ ⟨rfl, rfl⟩)
    | (go_at_call 35; go_must (refine (toFlockS_any A n xs _ hl (M.out.sl HS.out)).mono ?_); rintro e w_ ⟨A_, c_, rfl, hc_, N_⟩; have m := M.out.join N_; clear N_; simp only [List.cons_append, List.nil_append, List.append_nil] at m; have M := Lib.hid m; clear m)
    | (go_at_call 33; go_must (refine (szFlockS_any A xs.length n 1048576 _ (by omega) (by omega) (by omega)).mono ?_); rintro e w_ ⟨rfl, rfl⟩; rw [if_neg hz])
    )
  refine region_anyH (fun w' => Mem w w' [.blk g3 27 F.cells, .blk g4 25 (ints .i16 fs)]) (by kernel_rfl) ?_
  have M9 := M.out.drew
  clear M
  apply merge2
  case hA =>
    intro REST0
    have M := Lib.hid M9
    apply takeH (i := 0) 36 rfl (by kernel_rfl) (by kernel_rfl) (by kernel_rfl) (fun _ _ _ h => h) rfl (by first | exact M.out | exact M.out.take 2)
    case' hy => exact yldw _ _ rfl rfl Try.underlying27 rfl (by first | exact sz27 | (rw [S1.out]; exact sz27) | (rw [S2.out]; exact sz27) | (rw [S3.out]; exact sz27)) rfl (fun w' hS => hS.blk 0 rfl)
    try simp only [Act.put, List.getElem_toArray, List.getElem_cons_succ, List.getElem_cons_zero, List.setIfInBounds_toArray, List.set_cons_succ, List.set_cons_zero]
    apply takeH (i := 2) 38 rfl (by kernel_rfl) (by kernel_rfl) (by kernel_rfl) (fun _ _ _ h => h) rfl (by first | exact M.out | exact M.out.take 2)
    case' hy => exact yldw _ _ rfl rfl Try.underlying25 rfl (by first | exact sz25 | (rw [S1.out]; exact sz25) | (rw [S2.out]; exact sz25) | (rw [S3.out]; exact sz25)) rfl (fun w' hS => hS.blk 1 rfl)
    try simp only [Act.put, List.getElem_toArray, List.getElem_cons_succ, List.getElem_cons_zero, List.setIfInBounds_toArray, List.set_cons_succ, List.set_cons_zero]
    apply takeH (i := 4) 40 rfl (by kernel_rfl) (by kernel_rfl) (by kernel_rfl) (fun _ _ _ h => h) rfl (by first | exact M.out | exact M.out.take 2)
    case' hy =>
      refine Or.inl ⟨by first | rfl | (go_simp; done), ?_⟩
      intro w hS
      clear hS
      go_simp
      try with_reducible rfl
    try simp only [Act.put, List.getElem_toArray, List.getElem_cons_succ, List.getElem_cons_zero, List.setIfInBounds_toArray, List.set_cons_succ, List.set_cons_zero]
    refine any1H 1 (by kernel_rfl) rfl (fun K hK => ?_)
    go_wp2_with (first | (go_at_call 16; go_must (refine (toField_any F hF.toLen _).mono ?_); rintro e w_ ⟨rfl, hB_⟩; have M := Lib.hid (M.out.kept hB_); clear hB_))
    refine onward_normal (hK _ _ ⟨(by first | exact M.out | exact M.out.take 2), ?_⟩)
    clear hK K
    try simp only [Act.put, List.getElem_toArray, List.getElem_cons_succ, List.getElem_cons_zero, List.setIfInBounds_toArray, List.set_cons_succ, List.set_cons_zero]
    refine any1H 3 (by kernel_rfl) rfl (fun K hK => ?_)
    go_wp2_with (first | (go_at_call 17; go_must (refine (toFears_any fs hfl _).mono ?_); rintro e w_ ⟨rfl, hB_⟩; have M := Lib.hid (M.out.kept hB_); clear hB_))
    refine onward_normal (hK _ _ ⟨(by first | exact M.out | exact M.out.take 2), ?_⟩)
    clear hK K
    try simp only [Act.put, List.getElem_toArray, List.getElem_cons_succ, List.getElem_cons_zero, List.setIfInBounds_toArray, List.set_cons_succ, List.set_cons_zero]
    refine any1H 5 (by kernel_rfl) rfl (fun K hK => ?_)
    go_wp2_with (first | (go_at_call 58; go_must (first | (refine Calls.mono (calls_args (by with_reducible rfl) (IM.out _ _ _ (M.out.slof 3 rfl))) ?_) | (refine Calls.mono (calls_args (by with_reducible rfl) (IM.out _ _ _ (M.out.slof 4 rfl))) ?_) | (refine Calls.mono (calls_args (by with_reducible rfl) (IM.out _ _ _ (M.out.slof 5 rfl))) ?_)); rintro e w_ ⟨A41, c41, rfl, hc41, N_⟩; have m := M.out.join N_; clear N_; simp only [List.cons_append, List.nil_append, List.append_nil] at m; have M := Lib.hid m; clear m))
    refine onward_normal (hK _ _ ⟨(by first | exact M.out | exact M.out.take 2), ?_⟩)
    clear hK K
    try simp only [Act.put, List.getElem_toArray, List.getElem_cons_succ, List.getElem_cons_zero, List.setIfInBounds_toArray, List.set_cons_succ, List.set_cons_zero]
    apply takeH (i := 6) 35 rfl (by kernel_rfl) (by kernel_rfl) (by kernel_rfl) (fun _ _ _ h => h) rfl (by first | exact M.out | exact M.out.take 2)
    case' hy =>
      refine Or.inl ⟨by first | rfl | (go_simp; done), ?_⟩
      intro w hS
      clear hS
      go_simp
      try with_reducible rfl
    try simp only [Act.put, List.getElem_toArray, List.getElem_cons_succ, List.getElem_cons_zero, List.setIfInBounds_toArray, List.set_cons_succ, List.set_cons_zero]
    apply takeH (i := 7) 42 rfl (by kernel_rfl) (by kernel_rfl) (by kernel_rfl) (fun _ _ _ h => h) rfl (by first | exact M.out | exact M.out.take 2)
    case' hy =>
      refine Or.inl ⟨by first | rfl | (go_simp; done), ?_⟩
      intro w hS
      clear hS
      go_simp
      try with_reducible rfl
    try simp only [Act.put, List.getElem_toArray, List.getElem_cons_succ, List.getElem_cons_zero, List.setIfInBounds_toArray, List.set_cons_succ, List.set_cons_zero]
    apply takeH (i := 8) 43 rfl (by kernel_rfl) (by kernel_rfl) (by kernel_rfl) (fun _ _ _ h => h) rfl (by first | exact M.out | exact M.out.take 2)
    case' hy =>
      refine Or.inl ⟨by first | rfl | (go_simp; done), ?_⟩
      intro w hS
      clear hS
      go_simp
      try with_reducible rfl
    try simp only [Act.put, List.getElem_toArray, List.getElem_cons_succ, List.getElem_cons_zero, List.setIfInBounds_toArray, List.set_cons_succ, List.set_cons_zero]
    apply takeH (i := 9) 11 rfl (by kernel_rfl) (by kernel_rfl) (by kernel_rfl) (fun _ _ _ h => h) rfl (by first | exact M.out | exact M.out.take 2)
    case' hy =>
      refine Or.inl ⟨by first | rfl | (go_simp; done), ?_⟩
      intro w hS
      clear hS
      go_simp
      try with_reducible rfl
    try simp only [Act.put, List.getElem_toArray, List.getElem_cons_succ, List.getElem_cons_zero, List.setIfInBounds_toArray, List.set_cons_succ, List.set_cons_zero]
    apply takeH (i := 10) 12 rfl (by kernel_rfl) (by kernel_rfl) (by kernel_rfl) (fun _ _ _ h => h) rfl (by first | exact M.out | exact M.out.take 2)
    case' hy =>
      refine Or.inl ⟨by first | rfl | (go_simp; done), ?_⟩
      intro w hS
      clear hS
      go_simp
      try with_reducible rfl
    try simp only [Act.put, List.getElem_toArray, List.getElem_cons_succ, List.getElem_cons_zero, List.setIfInBounds_toArray, List.set_cons_succ, List.set_cons_zero]
    exact REST0 A41 c41 w_ M.out
  intro A41 c41 w_ m
  have M := Lib.hid m
  clear m M9
  refine wpAnyH_done (by kernel_rfl) ?_ _
  go_wp2_with (first
    | ((with_reducible refine gate_dst (N := 3) rfl ?_); go_must (refine M.out.ev_new rfl (by first | (go_simp; done) | (go_simp; rfl)) ?_); intro g3 w3 m; simp only [List.cons_append, List.nil_append] at m; have M := Lib.hid m; clear m)
    | ((with_reducible refine gate_dst (N := 4) rfl ?_); go_must (refine M.out.ev_new rfl (by first | (go_simp; done) | (go_simp; rfl)) ?_); intro g4 w4 m; simp only [List.cons_append, List.nil_append] at m; have M := Lib.hid m; clear m)
    | ((with_reducible refine gate_dst (N := 24) rfl ?_); go_must (refine M.out.ev_ldw 0 _ _ rfl rfl rfl Try.underlying27 rfl (by first | exact sz27 | (rw [S1.out]; exact sz27) | (rw [S2.out]; exact sz27) | (rw [S3.out]; exact sz27)) rfl ?_))
    | ((with_reducible refine gate_dst (N := 26) rfl ?_); go_must (refine M.out.ev_ldw 1 _ _ rfl rfl rfl Try.underlying25 rfl (by first | exact sz25 | (rw [S1.out]; exact sz25) | (rw [S2.out]; exact sz25) | (rw [S3.out]; exact sz25)) rfl ?_))
    | ((with_reducible refine gate_dst (N := 36) rfl ?_); go_must (refine M.out.ev_ldw 0 _ _ rfl rfl rfl Try.underlying27 rfl (by first | exact sz27 | (rw [S1.out]; exact sz27) | (rw [S2.out]; exact sz27) | (rw [S3.out]; exact sz27)) rfl ?_))
    | ((with_reducible refine gate_dst (N := 38) rfl ?_); go_must (refine M.out.ev_ldw 1 _ _ rfl rfl rfl Try.underlying25 rfl (by first | exact sz25 | (rw [S1.out]; exact sz25) | (rw [S2.out]; exact sz25) | (rw [S3.out]; exact sz25)) rfl ?_))
    | ((with_reducible refine gate_dst (N := 86) rfl ?_); go_must (refine M.out.ev_ldw 0 _ _ rfl rfl rfl Try.underlying27 rfl (by first | exact sz27 | (rw [S1.out]; exact sz27) | (rw [S2.out]; exact sz27) | (rw [S3.out]; exact sz27)) rfl ?_))
    | ((with_reducible refine gate_dst (N := 88) rfl ?_); go_must (refine M.out.ev_ldw 1 _ _ rfl rfl rfl Try.underlying25 rfl (by first | exact sz25 | (rw [S1.out]; exact sz25) | (rw [S2.out]; exact sz25) | (rw [S3.out]; exact sz25)) rfl ?_))
    | (go_at_call 16; go_must (refine (toField_any F hF.toLen _).mono ?_); rintro e w_ ⟨rfl, hB_⟩; have M := Lib.hid (M.out.kept hB_); clear hB_)
    | (go_at_call 17; go_must (refine (toFears_any fs hfl _).mono ?_); rintro e w_ ⟨rfl, hB_⟩; have M := Lib.hid (M.out.kept hB_); clear hB_)
    | (go_at_call 26; go_must (first | (refine Calls.mono (calls_args (by with_reducible rfl) (eqI_any _ _ _ _ V _ hr (M.out.slof 5 rfl) (M.out.slof 3 rfl))) ?_) | (refine Calls.mono (calls_args (by with_reducible rfl) (eqI_any _ _ _ _ V _ hr (M.out.slof 8 rfl) (M.out.slof 3 rfl))) ?_)); rintro e w_ ⟨rfl, N_⟩; have m := M.out.join N_; clear N_; simp only [List.cons_append, List.nil_append, List.append_nil] at m; have M := Lib.hid m; clear m)
    | (go_at_call 37; go_must (first | (refine Calls.mono (calls_args (by with_reducible rfl) (eqFlockS_any _ _ _ _ xs xs _ hl (M.out.slof 4 rfl) (M.out.slof 6 rfl))) ?_)); rintro e w_ ⟨rfl, N_⟩; have m := M.out.join N_; clear N_; simp only [List.cons_append, List.nil_append, List.append_nil] at m; have M := Lib.hid m; clear m; rw [decide_eq_true rfl])
    | (go_at_call 38; go_must (first | (refine Calls.mono (calls_args (by with_reducible rfl) (markFlock_any 4 M.out _ _ xs rfl hl)) ?_)); rintro e w_ ⟨rfl, m⟩; simp only [List.set_cons_succ, List.set_cons_zero] at m; have M := Lib.hid m; clear m)
    | (go_at_call 29; go_must (first | (refine Calls.mono (calls_args (by with_reducible rfl) (mark64_any 5 M.out _ _ _ _ rfl hr)) ?_)); rintro e w_ ⟨rfl, m⟩; simp only [List.set_cons_succ, List.set_cons_zero] at m; have M := Lib.hid m; clear m)
    | (go_at_call 30; go_must (refine (held64_any _ _ V.length hr _ (M.out.slof 5 rfl)).mono ?_); rintro e w_ ⟨rfl, rfl⟩)
    | (go_at_call 35; go_must (refine (toFlockS_any A n xs _ hl (M.out.sl HS.out)).mono ?_); rintro e w_ ⟨A_, c_, rfl, hc_, N_⟩; have m := M.out.join N_; clear N_; simp only [List.cons_append, List.nil_append, List.append_nil] at m; have M := Lib.hid m; clear m)
    | (go_at_call 33; go_must (refine (szFlockS_any A xs.length n 1048576 _ (by omega) (by omega) (by omega)).mono ?_); rintro e w_ ⟨rfl, rfl⟩; rw [if_neg hz])
    )
  refine region_anyH (fun w' => Mem w w' [.blk g3 27 F.cells, .blk g4 25 (ints .i16 fs)]) (by kernel_rfl) ?_
  have M9 := M.out.drew
  clear M
  apply merge4
  case hA =>
    intro REST0
    have M := Lib.hid M9
    apply takeH (i := 0) 86 rfl (by kernel_rfl) (by kernel_rfl) (by kernel_rfl) (fun _ _ _ h => h) rfl (by first | exact M.out | exact M.out.take 2)
    case' hy => exact yldw _ _ rfl rfl Try.underlying27 rfl (by first | exact sz27 | (rw [S1.out]; exact sz27) | (rw [S2.out]; exact sz27) | (rw [S3.out]; exact sz27)) rfl (fun w' hS => hS.blk 0 rfl)
    try simp only [Act.put, List.getElem_toArray, List.getElem_cons_succ, List.getElem_cons_zero, List.setIfInBounds_toArray, List.set_cons_succ, List.set_cons_zero]
    apply takeH (i := 2) 88 rfl (by kernel_rfl) (by kernel_rfl) (by kernel_rfl) (fun _ _ _ h => h) rfl (by first | exact M.out | exact M.out.take 2)
    case' hy => exact yldw _ _ rfl rfl Try.underlying25 rfl (by first | exact sz25 | (rw [S1.out]; exact sz25) | (rw [S2.out]; exact sz25) | (rw [S3.out]; exact sz25)) rfl (fun w' hS => hS.blk 1 rfl)
    try simp only [Act.put, List.getElem_toArray, List.getElem_cons_succ, List.getElem_cons_zero, List.setIfInBounds_toArray, List.set_cons_succ, List.set_cons_zero]
    apply takeH (i := 4) 90 rfl (by kernel_rfl) (by kernel_rfl) (by kernel_rfl) (fun _ _ _ h => h) rfl (by first | exact M.out | exact M.out.take 2)
    case' hy =>
      refine Or.inl ⟨by first | rfl | (go_simp; done), ?_⟩
      intro w hS
      clear hS
      go_simp
      try with_reducible rfl
    try simp only [Act.put, List.getElem_toArray, List.getElem_cons_succ, List.getElem_cons_zero, List.setIfInBounds_toArray, List.set_cons_succ, List.set_cons_zero]
    refine any1H 1 (by kernel_rfl) rfl (fun K hK => ?_)
    go_wp2_with (first | (go_at_call 16; go_must (refine (toField_any F hF.toLen _).mono ?_); rintro e w_ ⟨rfl, hB_⟩; have M := Lib.hid (M.out.kept hB_); clear hB_))
    refine onward_normal (hK _ _ ⟨(by first | exact M.out | exact M.out.take 2), ?_⟩)
    clear hK K
    try simp only [Act.put, List.getElem_toArray, List.getElem_cons_succ, List.getElem_cons_zero, List.setIfInBounds_toArray, List.set_cons_succ, List.set_cons_zero]
    refine any1H 3 (by kernel_rfl) rfl (fun K hK => ?_)
    go_wp2_with (first | (go_at_call 17; go_must (refine (toFears_any fs hfl _).mono ?_); rintro e w_ ⟨rfl, hB_⟩; have M := Lib.hid (M.out.kept hB_); clear hB_))
    refine onward_normal (hK _ _ ⟨(by first | exact M.out | exact M.out.take 2), ?_⟩)
    clear hK K
    try simp only [Act.put, List.getElem_toArray, List.getElem_cons_succ, List.getElem_cons_zero, List.setIfInBounds_toArray, List.set_cons_succ, List.set_cons_zero]
    refine any1H 5 (by kernel_rfl) rfl (fun K hK => ?_)
    go_wp2_with (first | (go_at_call 35; go_must (refine (toFlockS_any A n xs _ hl (M.out.sl HS.out)).mono ?_); rintro e w_ ⟨A91, c91, rfl, hc91, N_⟩; have m := M.out.join N_; clear N_; simp only [List.cons_append, List.nil_append, List.append_nil] at m; have M := Lib.hid m; clear m))
    refine onward_normal (hK _ _ ⟨(by first | exact M.out | exact M.out.take 2), ?_⟩)
    clear hK K
    try simp only [Act.put, List.getElem_toArray, List.getElem_cons_succ, List.getElem_cons_zero, List.setIfInBounds_toArray, List.set_cons_succ, List.set_cons_zero]
    refine any1H 6 (by kernel_rfl) rfl (fun K hK => ?_)
    go_wp2_with (first | (go_at_call 58; go_must (first | (refine Calls.mono (calls_args (by with_reducible rfl) (IM.out _ _ _ (M.out.slof 6 rfl))) ?_) | (refine Calls.mono (calls_args (by with_reducible rfl) (IM.out _ _ _ (M.out.slof 7 rfl))) ?_) | (refine Calls.mono (calls_args (by with_reducible rfl) (IM.out _ _ _ (M.out.slof 8 rfl))) ?_)); rintro e w_ ⟨A92, c92, rfl, hc92, N_⟩; have m := M.out.join N_; clear N_; simp only [List.cons_append, List.nil_append, List.append_nil] at m; have M := Lib.hid m; clear m))
    refine onward_normal (hK _ _ ⟨(by first | exact M.out | exact M.out.take 2), ?_⟩)
    clear hK K
    try simp only [Act.put, List.getElem_toArray, List.getElem_cons_succ, List.getElem_cons_zero, List.setIfInBounds_toArray, List.set_cons_succ, List.set_cons_zero]
    apply takeH (i := 7) 85 rfl (by kernel_rfl) (by kernel_rfl) (by kernel_rfl) (fun _ _ _ h => h) rfl (by first | exact M.out | exact M.out.take 2)
    case' hy =>
      refine Or.inl ⟨by first | rfl | (go_simp; done), ?_⟩
      intro w hS
      clear hS
      go_simp
      try with_reducible rfl
    try simp only [Act.put, List.getElem_toArray, List.getElem_cons_succ, List.getElem_cons_zero, List.setIfInBounds_toArray, List.set_cons_succ, List.set_cons_zero]
    apply takeH (i := 8) 93 rfl (by kernel_rfl) (by kernel_rfl) (by kernel_rfl) (fun _ _ _ h => h) rfl (by first | exact M.out | exact M.out.take 2)
    case' hy =>
      refine Or.inl ⟨by first | rfl | (go_simp; done), ?_⟩
      intro w hS
      clear hS
      go_simp
      try with_reducible rfl
    try simp only [Act.put, List.getElem_toArray, List.getElem_cons_succ, List.getElem_cons_zero, List.setIfInBounds_toArray, List.set_cons_succ, List.set_cons_zero]
    apply takeH (i := 9) 94 rfl (by kernel_rfl) (by kernel_rfl) (by kernel_rfl) (fun _ _ _ h => h) rfl (by first | exact M.out | exact M.out.take 2)
    case' hy =>
      refine Or.inl ⟨by first | rfl | (go_simp; done), ?_⟩
      intro w hS
      clear hS
      go_simp
      try with_reducible rfl
    try simp only [Act.put, List.getElem_toArray, List.getElem_cons_succ, List.getElem_cons_zero, List.setIfInBounds_toArray, List.set_cons_succ, List.set_cons_zero]
    apply takeH (i := 10) 16 rfl (by kernel_rfl) (by kernel_rfl) (by kernel_rfl) (fun _ _ _ h => h) rfl (by first | exact M.out | exact M.out.take 2)
    case' hy =>
      refine Or.inl ⟨by first | rfl | (go_simp; done), ?_⟩
      intro w hS
      clear hS
      go_simp
      try with_reducible rfl
    try simp only [Act.put, List.getElem_toArray, List.getElem_cons_succ, List.getElem_cons_zero, List.setIfInBounds_toArray, List.set_cons_succ, List.set_cons_zero]
    apply takeH (i := 11) 17 rfl (by kernel_rfl) (by kernel_rfl) (by kernel_rfl) (fun _ _ _ h => h) rfl (by first | exact M.out | exact M.out.take 2)
    case' hy =>
      refine Or.inl ⟨by first | rfl | (go_simp; done), ?_⟩
      intro w hS
      clear hS
      go_simp
      try with_reducible rfl
    try simp only [Act.put, List.getElem_toArray, List.getElem_cons_succ, List.getElem_cons_zero, List.setIfInBounds_toArray, List.set_cons_succ, List.set_cons_zero]
    exact REST0 A91 c91 A92 c92 w_ M.out
  intro A91 c91 A92 c92 w_ m
  have M := Lib.hid m
  clear m M9
  refine wpAnyH_done (by kernel_rfl) ?_ _
  go_wp2_with (first
    | ((with_reducible refine gate_dst (N := 3) rfl ?_); go_must (refine M.out.ev_new rfl (by first | (go_simp; done) | (go_simp; rfl)) ?_); intro g3 w3 m; simp only [List.cons_append, List.nil_append] at m; have M := Lib.hid m; clear m)
    | ((with_reducible refine gate_dst (N := 4) rfl ?_); go_must (refine M.out.ev_new rfl (by first | (go_simp; done) | (go_simp; rfl)) ?_); intro g4 w4 m; simp only [List.cons_append, List.nil_append] at m; have M := Lib.hid m; clear m)
    | ((with_reducible refine gate_dst (N := 24) rfl ?_); go_must (refine M.out.ev_ldw 0 _ _ rfl rfl rfl Try.underlying27 rfl (by first | exact sz27 | (rw [S1.out]; exact sz27) | (rw [S2.out]; exact sz27) | (rw [S3.out]; exact sz27)) rfl ?_))
    | ((with_reducible refine gate_dst (N := 26) rfl ?_); go_must (refine M.out.ev_ldw 1 _ _ rfl rfl rfl Try.underlying25 rfl (by first | exact sz25 | (rw [S1.out]; exact sz25) | (rw [S2.out]; exact sz25) | (rw [S3.out]; exact sz25)) rfl ?_))
    | ((with_reducible refine gate_dst (N := 36) rfl ?_); go_must (refine M.out.ev_ldw 0 _ _ rfl rfl rfl Try.underlying27 rfl (by first | exact sz27 | (rw [S1.out]; exact sz27) | (rw [S2.out]; exact sz27) | (rw [S3.out]; exact sz27)) rfl ?_))
    | ((with_reducible refine gate_dst (N := 38) rfl ?_); go_must (refine M.out.ev_ldw 1 _ _ rfl rfl rfl Try.underlying25 rfl (by first | exact sz25 | (rw [S1.out]; exact sz25) | (rw [S2.out]; exact sz25) | (rw [S3.out]; exact sz25)) rfl ?_))
    | ((with_reducible refine gate_dst (N := 86) rfl ?_); go_must (refine M.out.ev_ldw 0 _ _ rfl rfl rfl Try.underlying27 rfl (by first | exact sz27 | (rw [S1.out]; exact sz27) | (rw [S2.out]; exact sz27) | (rw [S3.out]; exact sz27)) rfl ?_))
    | ((with_reducible refine gate_dst (N := 88) rfl ?_); go_must (refine M.out.ev_ldw 1 _ _ rfl rfl rfl Try.underlying25 rfl (by first | exact sz25 | (rw [S1.out]; exact sz25) | (rw [S2.out]; exact sz25) | (rw [S3.out]; exact sz25)) rfl ?_))
    | (go_at_call 16; go_must (refine (toField_any F hF.toLen _).mono ?_); rintro e w_ ⟨rfl, hB_⟩; have M := Lib.hid (M.out.kept hB_); clear hB_)
    | (go_at_call 17; go_must (refine (toFears_any fs hfl _).mono ?_); rintro e w_ ⟨rfl, hB_⟩; have M := Lib.hid (M.out.kept hB_); clear hB_)
    | (go_at_call 26; go_must (first | (refine Calls.mono (calls_args (by with_reducible rfl) (eqI_any _ _ _ _ V _ hr (M.out.slof 5 rfl) (M.out.slof 3 rfl))) ?_) | (refine Calls.mono (calls_args (by with_reducible rfl) (eqI_any _ _ _ _ V _ hr (M.out.slof 8 rfl) (M.out.slof 3 rfl))) ?_)); rintro e w_ ⟨rfl, N_⟩; have m := M.out.join N_; clear N_; simp only [List.cons_append, List.nil_append, List.append_nil] at m; have M := Lib.hid m; clear m)
    | (go_at_call 37; go_must (first | (refine Calls.mono (calls_args (by with_reducible rfl) (eqFlockS_any _ _ _ _ xs xs _ hl (M.out.slof 4 rfl) (M.out.slof 6 rfl))) ?_)); rintro e w_ ⟨rfl, N_⟩; have m := M.out.join N_; clear N_; simp only [List.cons_append, List.nil_append, List.append_nil] at m; have M := Lib.hid m; clear m; rw [decide_eq_true rfl])
    | (go_at_call 38; go_must (first | (refine Calls.mono (calls_args (by with_reducible rfl) (markFlock_any 4 M.out _ _ xs rfl hl)) ?_)); rintro e w_ ⟨rfl, m⟩; simp only [List.set_cons_succ, List.set_cons_zero] at m; have M := Lib.hid m; clear m)
    | (go_at_call 29; go_must (first | (refine Calls.mono (calls_args (by with_reducible rfl) (mark64_any 5 M.out _ _ _ _ rfl hr)) ?_)); rintro e w_ ⟨rfl, m⟩; simp only [List.set_cons_succ, List.set_cons_zero] at m; have M := Lib.hid m; clear m)
    | (go_at_call 30; go_must (refine (held64_any _ _ V.length hr _ (M.out.slof 5 rfl)).mono ?_); rintro e w_ ⟨rfl, rfl⟩)
    | (go_at_call 35; go_must (refine (toFlockS_any A n xs _ hl (M.out.sl HS.out)).mono ?_); rintro e w_ ⟨A_, c_, rfl, hc_, N_⟩; have m := M.out.join N_; clear N_; simp only [List.cons_append, List.nil_append, List.append_nil] at m; have M := Lib.hid m; clear m)
    | (go_at_call 33; go_must (refine (szFlockS_any A xs.length n 1048576 _ (by omega) (by omega) (by omega)).mono ?_); rintro e w_ ⟨rfl, rfl⟩; rw [if_neg hz])
    )
  go_ret
  exact ⟨ret_bool rfl, M.out.take 0⟩
set_option maxRecDepth 100000 in
set_option maxHeartbeats 8000000 in
theorem lawStillHungry_any (F : Fld) (hF : F.ok) (fs : List Int) (hfl : fs.length = 100) (hff : ∀ x ∈ fs, -32768 ≤ x ∧ x ≤ 32767) (A : Option Addr) (n : Nat) (xs : List Flock) (hx : ∀ x ∈ xs, x.ok) (hm : xs.length ≤ 9223372036854775807) (w : World) (hs : Sl w 6 A xs.length (flat Flock.vals xs)) :
    Calls Try.prog 12 #[.agg F.cells, .agg (ints .i16 fs), .slice A xs.length n] w fun e w' => e = .returned (.bool true) ∧ Mem w w' [] := by
  have M := Lib.hid (Mem.start w)
  have HFF := Lib.hid hff
  have HX := Lib.hid hx
  have HS := Lib.hid hs
  have S1 := Lib.hid (Fld.size hF.toLen)
  have S2 := Lib.hid (show (ints .i16 fs).size = 100 by rw [ints_size, hfl])
  clear hx hs hff
  by_cases hl : xs.length ≤ 1048576
  · refine lawStillHungry_in F hF fs hfl HFF.out A n xs HX.out hl w HS.out
  · have hz : (1048576 : Int) < xs.length := by omega
    go_enter Try.func12, Try.ntmps12
    go_wp2_with (first
      | ((with_reducible refine gate_dst (N := 3) rfl ?_); go_must (refine M.out.ev_new rfl (by first | (go_simp; done) | (go_simp; rfl)) ?_); intro g3 w3 m; simp only [List.cons_append, List.nil_append] at m; have M := Lib.hid m; clear m)
      | ((with_reducible refine gate_dst (N := 4) rfl ?_); go_must (refine M.out.ev_new rfl (by first | (go_simp; done) | (go_simp; rfl)) ?_); intro g4 w4 m; simp only [List.cons_append, List.nil_append] at m; have M := Lib.hid m; clear m)
      | ((with_reducible refine gate_dst (N := 24) rfl ?_); go_must (refine M.out.ev_ldw 0 _ _ rfl rfl rfl Try.underlying27 rfl (by first | exact sz27 | (rw [S1.out]; exact sz27) | (rw [S2.out]; exact sz27) | (rw [S3.out]; exact sz27)) rfl ?_))
      | ((with_reducible refine gate_dst (N := 26) rfl ?_); go_must (refine M.out.ev_ldw 1 _ _ rfl rfl rfl Try.underlying25 rfl (by first | exact sz25 | (rw [S1.out]; exact sz25) | (rw [S2.out]; exact sz25) | (rw [S3.out]; exact sz25)) rfl ?_))
      | ((with_reducible refine gate_dst (N := 36) rfl ?_); go_must (refine M.out.ev_ldw 0 _ _ rfl rfl rfl Try.underlying27 rfl (by first | exact sz27 | (rw [S1.out]; exact sz27) | (rw [S2.out]; exact sz27) | (rw [S3.out]; exact sz27)) rfl ?_))
      | ((with_reducible refine gate_dst (N := 38) rfl ?_); go_must (refine M.out.ev_ldw 1 _ _ rfl rfl rfl Try.underlying25 rfl (by first | exact sz25 | (rw [S1.out]; exact sz25) | (rw [S2.out]; exact sz25) | (rw [S3.out]; exact sz25)) rfl ?_))
      | ((with_reducible refine gate_dst (N := 86) rfl ?_); go_must (refine M.out.ev_ldw 0 _ _ rfl rfl rfl Try.underlying27 rfl (by first | exact sz27 | (rw [S1.out]; exact sz27) | (rw [S2.out]; exact sz27) | (rw [S3.out]; exact sz27)) rfl ?_))
      | ((with_reducible refine gate_dst (N := 88) rfl ?_); go_must (refine M.out.ev_ldw 1 _ _ rfl rfl rfl Try.underlying25 rfl (by first | exact sz25 | (rw [S1.out]; exact sz25) | (rw [S2.out]; exact sz25) | (rw [S3.out]; exact sz25)) rfl ?_))
      | (go_at_call 33; go_must (refine (szFlockS_any A xs.length n 1048576 _ (by omega) (by omega) hm).mono ?_); rintro e w_ ⟨rfl, rfl⟩; rw [if_pos hz]))
    go_ret
    exact ⟨ret_bool rfl, M.out.take 0⟩
end Go.Proofs.Ytbjcajhbhicokaa
