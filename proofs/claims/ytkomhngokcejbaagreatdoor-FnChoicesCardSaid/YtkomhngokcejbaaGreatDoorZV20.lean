/- Texts of a proof, laid together: ChoW. -/
import Derived.Test.YtkomhngokcejbaaGreatDoorZV19
namespace Go.Proofs.YtkomhngokcejbaaGreatDoor
set_option linter.unusedSimpArgs false
set_option linter.unusedVariables false
open Go.RowKit
attribute [local go_sem] cell?_mk frozen?_mk
--ONES exact Fld.one _ | exact Flock.one _ | exact ints_one _ _ | exact Cs.one _

theorem neqCs (s : Cs) (w : World) : (binOp .neq 40 (.agg s.cells) (.agg s.cells)).run Tryz.prog w = .ok (.bool false) w := by
  have q1 := run_eqArr 9998 40 38 2 .u64 [s.lo, s.hi] rfl Tryz.underlying40 Tryz.underlying38 Tryz.isAgg38 Tryz.sizeOf38 w
  have e : s.cells = ints .u64 [s.lo, s.hi] := rfl
  rw [e, run_neq_struct, show (10000 : Nat) = 9998 + 2 from rfl, q1]
  rfl
set_option maxRecDepth 100000 in
set_option maxHeartbeats 20000000 in
theorem FnChoices_any (A B : Option Addr) (na nb : Nat) (bs cs : List Int) (hb : ∀ x ∈ bs, U8.ok x) (hc : ∀ x ∈ cs, U8.ok x) (hbl : bs.length ≤ 3000) (hcl : cs.length ≤ 3000) (w : World) (htb : Tabs w) (hs : Sl w 1 A bs.length (flat oneB bs)) (ht : Sl w 1 B cs.length (flat oneB cs)) :
    Calls Tryz.prog 3 #[.slice A bs.length na, .slice B cs.length nb] w fun e w' => e = .returned (.bool true) ∧ Mem w w' [] := by
  have M := Lib.hid (Mem.start w)
  have HS := Lib.hid hs
  have HT := Lib.hid ht
  have HTB := Lib.hid htb
  have YB := Lib.hid (U8.bytes hb (by omega))
  have YC := Lib.hid (U8.bytes hc (by omega))
  have G1 := Lib.hid (show (decide (3000 < bs.length) || decide (3000 < cs.length)) = false by rw [decide_eq_false (by omega), decide_eq_false (by omega)]; rfl)
  clear hs ht htb hb hc hbl hcl
  go_enter Tryz.func3, Tryz.ntmps3
  go_wp2_with (first
    | (go_at_call 5; go_must (refine (a2Long_any A B bs.length cs.length na nb _).mono ?_); rintro e w_ ⟨rfl, rfl⟩; rw [G1.out])
    | (go_at_call 6; go_must (refine (A2Field_any A na bs YB.out _ (M.out.sl HS.out)).mono ?_); rintro e w_ ⟨F, rfl, hF, N_⟩; have m := M.out.join N_; clear N_; simp only [List.cons_append, List.nil_append, List.append_nil] at m; have M := Lib.hid m; clear m; have WF := Lib.hid hF; have S1 := Lib.hid (Fld.size hF.ok.toLen); clear hF)
    | ((with_reducible refine gate_dst (N := 5) rfl ?_); go_must (refine M.out.ev_new rfl (by first | (go_simp; done) | (go_simp; rfl)) ?_); intro g5 w5 m; simp only [List.cons_append, List.nil_append] at m; have M := Lib.hid m; clear m)
    | ((with_reducible refine gate_store (x := .tmp 5) rfl ?_); go_must (refine M.out.ev_stw 0 _ _ _ rfl rfl rfl rfl _ rfl (by rw [S1.out]; exact szZ) (by rw [S1.out]; exact sz29) (Fld.one _) rfl ?_); intro wn m; simp only [List.set_cons_zero, List.set_cons_succ] at m; have M := Lib.hid m; clear m)
    | ((with_reducible refine gate_dst (N := 38) rfl ?_); go_must (refine M.out.ev_ldw 0 _ _ rfl rfl rfl Tryz.underlying29 rfl (by rw [S1.out]; exact sz29) rfl ?_))
    | (go_at_call 7; go_must (refine (A2Fears_any B nb cs YC.out F WF.out.ok _ (M.out.sl HT.out)).mono ?_); rintro e w_ ⟨fs, rfl, hA, N_⟩; have m := M.out.join N_; clear N_; simp only [List.cons_append, List.nil_append, List.append_nil] at m; have M := Lib.hid m; clear m; have AF := Lib.hid hA; have SF := Lib.hid (show (ints .i16 fs).size = 100 by rw [ints_size, hA.len]); clear hA)
    | ((with_reducible refine gate_dst (N := 6) rfl ?_); go_must (refine M.out.ev_new rfl (by first | (go_simp; done) | (go_simp; rfl)) ?_); intro g6 w6 m; simp only [List.cons_append, List.nil_append] at m; have M := Lib.hid m; clear m)
    | ((with_reducible refine gate_store (x := .tmp 6) rfl ?_); go_must (refine M.out.ev_stw 1 _ _ _ rfl rfl rfl rfl _ rfl (by rw [SF.out, zeroFears]; rfl) (by rw [SF.out]; exact sz31) (ints_one _ _) rfl ?_); intro wn m; simp only [List.set_cons_zero, List.set_cons_succ] at m; have M := Lib.hid m; clear m)
    | ((with_reducible refine gate_dst (N := 41) rfl ?_); go_must (refine M.out.ev_ldw 0 _ _ rfl rfl rfl Tryz.underlying29 rfl (by rw [S1.out]; exact sz29) rfl ?_))
    | (go_at_call 8; go_must (refine (A2Flocks_any B nb cs YC.out F WF.out _ (M.out.sl HT.out)).mono ?_); rintro e w_ ⟨xs, Bx, cp, rfl, hX, h1, h3, hcp, N_⟩; have m := M.out.join N_; clear N_; simp only [List.cons_append, List.nil_append, List.append_nil] at m; have M := Lib.hid m; clear m; have h3' := h3; obtain ⟨T, SF_, C_⟩ := cho_calls WF.out AF.out hX h3; have C := Lib.hid C_; have nS := neqCs SF_; clear C_ hX)
    | (go_at_call 10; go_must (refine (C.out.txt _ _ _ (M.out.tabs HTB.out).2.2.2 (M.out.slof 2 rfl)).mono ?_); rintro e w_ ⟨rfl, N_⟩; have m := M.out.join N_; clear N_; simp only [List.cons_append, List.nil_append, List.append_nil] at m; have M := Lib.hid m; clear m)
    | (go_at_call 9; go_must (refine (C.out.read _ (M.out.tabs HTB.out)).mono ?_); rintro e w_ ⟨A8, c8, rfl, hc8, N_⟩; have m := M.out.join N_; clear N_; simp only [List.cons_append, List.nil_append, List.append_nil] at m; have M := Lib.hid m; clear m)
    | ((with_reducible refine gate_dst (N := 50) rfl ?_); go_must (refine M.out.ev_ldw 0 _ _ rfl rfl rfl Tryz.underlying29 rfl (by rw [S1.out]; exact sz29) rfl ?_))
    | ((with_reducible refine gate_dst (N := 51) rfl ?_); go_must (refine M.out.ev_ldw 1 _ _ rfl rfl rfl Tryz.underlying31 rfl (by rw [SF.out]; exact sz31) rfl ?_))
    | (go_at_call 11; go_must (refine (C.out.sfI _ _ _ (M.out.slof 2 rfl)).mono ?_); rintro e w_ ⟨rfl, N_⟩; have m := M.out.join N_; clear N_; simp only [List.cons_append, List.nil_append, List.append_nil] at m; have M := Lib.hid m; clear m)
    | ((with_reducible refine gate_dst (N := 10) rfl ?_); go_must (refine M.out.ev_new rfl (by first | (go_simp; done) | (go_simp; rfl)) ?_); intro g10 w10 m; simp only [List.cons_append, List.nil_append] at m; have M := Lib.hid m; clear m)
    | ((with_reducible refine gate_store (x := .tmp 10) rfl ?_); go_must (refine M.out.ev_stw 4 _ _ _ rfl rfl rfl rfl _ rfl (by first | rfl | kernel_rfl) (by exact sz40) (Cs.one _) rfl ?_); intro wn m; simp only [List.set_cons_zero, List.set_cons_succ] at m; have M := Lib.hid m; clear m)
    | ((with_reducible refine gate_dst (N := 57) rfl ?_); go_must (refine M.out.ev_ldw 0 _ _ rfl rfl rfl Tryz.underlying29 rfl (by rw [S1.out]; exact sz29) rfl ?_))
    | ((with_reducible refine gate_dst (N := 58) rfl ?_); go_must (refine M.out.ev_ldw 1 _ _ rfl rfl rfl Tryz.underlying31 rfl (by rw [SF.out]; exact sz31) rfl ?_))
    | (go_at_call 12; go_must (refine (C.out.sfS _ _ _ (M.out.slof 2 rfl)).mono ?_); rintro e w_ ⟨rfl, N_⟩; have m := M.out.join N_; clear N_; simp only [List.cons_append, List.nil_append, List.append_nil] at m; have M := Lib.hid m; clear m)
    | ((with_reducible refine gate_dst (N := 12) rfl ?_); go_must (refine M.out.ev_new rfl (by first | (go_simp; done) | (go_simp; rfl)) ?_); intro g12 w12 m; simp only [List.cons_append, List.nil_append] at m; have M := Lib.hid m; clear m)
    | ((with_reducible refine gate_store (x := .tmp 12) rfl ?_); go_must (refine M.out.ev_stw 5 _ _ _ rfl rfl rfl rfl _ rfl (by first | rfl | kernel_rfl) (by exact sz40) (Cs.one _) rfl ?_); intro wn m; simp only [List.set_cons_zero, List.set_cons_succ] at m; have M := Lib.hid m; clear m)
    )
  have S2 := SF
  refine region_anyH (fun w' => Mem w w' [.blk g5 29 F.cells, .blk g6 31 (ints .i16 fs), .row (.slice Bx xs.length cp) 48 6 xs.length (flat Flock.vals xs), .row (.slice A8 xs.length c8) 48 6 xs.length (flat Flock.vals xs), .blk g10 40 SF_.cells, .blk g12 40 SF_.cells]) (by kernel_rfl) ?_
  have m := M.out.drew
  clear M
  have M := Lib.hid m
  clear m
  apply takeH (i := 0) 63 rfl (by kernel_rfl) (by kernel_rfl) (by kernel_rfl) (fun _ _ _ h => h) rfl (by first | exact M.out | exact M.out.take 6)
  case' hy =>
    refine Or.inl ⟨by first | rfl | (go_simp; done), ?_⟩
    intro w hS
    clear hS
    go_simp
    try with_reducible rfl
  try simp only [Act.put, List.getElem_toArray, List.getElem_cons_succ, List.getElem_cons_zero, List.setIfInBounds_toArray, List.set_cons_succ, List.set_cons_zero]
  apply takeH (i := 1) 64 rfl (by kernel_rfl) (by kernel_rfl) (by kernel_rfl) (fun _ _ _ h => h) rfl (by first | exact M.out | exact M.out.take 6)
  case' hy =>
    refine Or.inl ⟨by first | rfl | (go_simp; done), ?_⟩
    intro w hS
    clear hS
    go_simp
    try with_reducible rfl
  try simp only [Act.put, List.getElem_toArray, List.getElem_cons_succ, List.getElem_cons_zero, List.setIfInBounds_toArray, List.set_cons_succ, List.set_cons_zero]
  apply takeH (i := 2) 65 rfl (by kernel_rfl) (by kernel_rfl) (by kernel_rfl) (fun _ _ _ h => h) rfl (by first | exact M.out | exact M.out.take 6)
  case' hy =>
    refine Or.inl ⟨by first | rfl | (go_simp; done), ?_⟩
    intro w hS
    clear hS
    go_simp
    try with_reducible rfl
  try simp only [Act.put, List.getElem_toArray, List.getElem_cons_succ, List.getElem_cons_zero, List.setIfInBounds_toArray, List.set_cons_succ, List.set_cons_zero]
  apply takeH (i := 3) 66 rfl (by kernel_rfl) (by kernel_rfl) (by kernel_rfl) (fun _ _ _ h => h) rfl (by first | exact M.out | exact M.out.take 6)
  case' hy =>
    refine Or.inl ⟨by first | rfl | (go_simp; done), ?_⟩
    intro w hS
    clear hS
    go_simp
    try with_reducible rfl
  try simp only [Act.put, List.getElem_toArray, List.getElem_cons_succ, List.getElem_cons_zero, List.setIfInBounds_toArray, List.set_cons_succ, List.set_cons_zero]
  apply takeH (i := 4) 67 rfl (by kernel_rfl) (by kernel_rfl) (by kernel_rfl) (fun _ _ _ h => h) rfl (by first | exact M.out | exact M.out.take 6)
  case' hy =>
    refine Or.inl ⟨by first | rfl | (go_simp; done), ?_⟩
    intro w hS
    clear hS
    go_simp
    try with_reducible rfl
  try simp only [Act.put, List.getElem_toArray, List.getElem_cons_succ, List.getElem_cons_zero, List.setIfInBounds_toArray, List.set_cons_succ, List.set_cons_zero]
  refine any1H 5 (by kernel_rfl) rfl (fun K hK => ?_)
  go_wp2_with (first | (go_at_call 13; go_must (refine (FlockSame_any _ _ _ _ xs _ (by omega) (M.out.slof 3 rfl) (M.out.slof 2 rfl)).mono ?_); rintro e w_ ⟨rfl, N_⟩; have m := M.out.join N_; clear N_; simp only [List.cons_append, List.nil_append, List.append_nil] at m; have M := Lib.hid m; clear m) | (go_at_call 14; go_must (refine (impl_SameFlocks_any _ _ _ _ xs _ (by omega) (M.out.slof 3 rfl) (M.out.slof 2 rfl)).mono ?_); rintro e w_ ⟨rfl, N_⟩; have m := M.out.join N_; clear N_; simp only [List.cons_append, List.nil_append, List.append_nil] at m; have M := Lib.hid m; clear m) | (go_at_call 15; go_must (refine (C.out.vf _ _ _ (M.out.slof 2 rfl)).mono ?_); rintro e w_ ⟨rfl, N_⟩; have m := M.out.join N_; clear N_; simp only [List.cons_append, List.nil_append, List.append_nil] at m; have M := Lib.hid m; clear m) | (go_at_call 17; go_must (refine (CalmFears_any _).mono ?_); rintro e w_ ⟨rfl, N_⟩; have m := M.out.join N_; clear N_; simp only [List.cons_append, List.nil_append, List.append_nil] at m; have M := Lib.hid m; clear m) | (go_at_call 16; go_must (first | (refine Calls.mono (calls_args (by with_reducible rfl) (C.out.va _)) ?_; rintro e w_ ⟨rfl, N_⟩; have m := M.out.join N_; clear N_; simp only [List.cons_append, List.nil_append, List.append_nil] at m; have M := Lib.hid m; clear m) | (refine Calls.mono (calls_args (by with_reducible rfl) (C.out.vz _)) ?_; rintro e w_ ⟨rfl, N_⟩; have m := M.out.join N_; clear N_; simp only [List.cons_append, List.nil_append, List.append_nil] at m; have M := Lib.hid m; clear m))))
  refine onward_normal (hK _ _ ⟨(by first | exact M.out | exact M.out.take 6), ?_⟩)
  clear hK K
  try simp only [Act.put, List.getElem_toArray, List.getElem_cons_succ, List.getElem_cons_zero, List.setIfInBounds_toArray, List.set_cons_succ, List.set_cons_zero]
  apply takeH (i := 6) 69 rfl (by kernel_rfl) (by kernel_rfl) (by kernel_rfl) (fun _ _ _ h => h) rfl (by first | exact M.out | exact M.out.take 6)
  case' hy =>
    refine Or.inl ⟨by first | rfl | (go_simp; done), ?_⟩
    intro w hS
    clear hS
    go_simp
    try with_reducible rfl
  try simp only [Act.put, List.getElem_toArray, List.getElem_cons_succ, List.getElem_cons_zero, List.setIfInBounds_toArray, List.set_cons_succ, List.set_cons_zero]
  apply takeH (i := 7) 70 rfl (by kernel_rfl) (by kernel_rfl) (by kernel_rfl) (fun _ _ _ h => h) rfl (by first | exact M.out | exact M.out.take 6)
  case' hy =>
    refine Or.inl ⟨by first | rfl | (go_simp; done), ?_⟩
    intro w hS
    clear hS
    go_simp
    try with_reducible rfl
  try simp only [Act.put, List.getElem_toArray, List.getElem_cons_succ, List.getElem_cons_zero, List.setIfInBounds_toArray, List.set_cons_succ, List.set_cons_zero]
  apply takeH (i := 8) 71 rfl (by kernel_rfl) (by kernel_rfl) (by kernel_rfl) (fun _ _ _ h => h) rfl (by first | exact M.out | exact M.out.take 6)
  case' hy =>
    refine Or.inl ⟨by first | rfl | (go_simp; done), ?_⟩
    intro w hS
    clear hS
    go_simp
    try with_reducible rfl
  try simp only [Act.put, List.getElem_toArray, List.getElem_cons_succ, List.getElem_cons_zero, List.setIfInBounds_toArray, List.set_cons_succ, List.set_cons_zero]
  apply takeH (i := 9) 72 rfl (by kernel_rfl) (by kernel_rfl) (by kernel_rfl) (fun _ _ _ h => h) rfl (by first | exact M.out | exact M.out.take 6)
  case' hy =>
    refine Or.inl ⟨by first | rfl | (go_simp; done), ?_⟩
    intro w hS
    clear hS
    go_simp
    try with_reducible rfl
  try simp only [Act.put, List.getElem_toArray, List.getElem_cons_succ, List.getElem_cons_zero, List.setIfInBounds_toArray, List.set_cons_succ, List.set_cons_zero]
  apply takeH (i := 10) 73 rfl (by kernel_rfl) (by kernel_rfl) (by kernel_rfl) (fun _ _ _ h => h) rfl (by first | exact M.out | exact M.out.take 6)
  case' hy =>
    refine Or.inl ⟨by first | rfl | (go_simp; done), ?_⟩
    intro w hS
    clear hS
    go_simp
    try with_reducible rfl
  try simp only [Act.put, List.getElem_toArray, List.getElem_cons_succ, List.getElem_cons_zero, List.setIfInBounds_toArray, List.set_cons_succ, List.set_cons_zero]
  apply takeH (i := 11) 74 rfl (by kernel_rfl) (by kernel_rfl) (by kernel_rfl) (fun _ _ _ h => h) rfl (by first | exact M.out | exact M.out.take 6)
  case' hy =>
    refine Or.inl ⟨by first | rfl | (go_simp; done), ?_⟩
    intro w hS
    clear hS
    go_simp
    try with_reducible rfl
  try simp only [Act.put, List.getElem_toArray, List.getElem_cons_succ, List.getElem_cons_zero, List.setIfInBounds_toArray, List.set_cons_succ, List.set_cons_zero]
  apply takeH (i := 12) 75 rfl (by kernel_rfl) (by kernel_rfl) (by kernel_rfl) (fun _ _ _ h => h) rfl (by first | exact M.out | exact M.out.take 6)
  case' hy =>
    refine Or.inl ⟨by first | rfl | (go_simp; done), ?_⟩
    intro w hS
    clear hS
    go_simp
    try with_reducible rfl
  try simp only [Act.put, List.getElem_toArray, List.getElem_cons_succ, List.getElem_cons_zero, List.setIfInBounds_toArray, List.set_cons_succ, List.set_cons_zero]
  apply takeH (i := 13) 76 rfl (by kernel_rfl) (by kernel_rfl) (by kernel_rfl) (fun _ _ _ h => h) rfl (by first | exact M.out | exact M.out.take 6)
  case' hy =>
    refine Or.inl ⟨by first | rfl | (go_simp; done), ?_⟩
    intro w hS
    clear hS
    go_simp
    try with_reducible rfl
  try simp only [Act.put, List.getElem_toArray, List.getElem_cons_succ, List.getElem_cons_zero, List.setIfInBounds_toArray, List.set_cons_succ, List.set_cons_zero]
  apply takeH (i := 14) 77 rfl (by kernel_rfl) (by kernel_rfl) (by kernel_rfl) (fun _ _ _ h => h) rfl (by first | exact M.out | exact M.out.take 6)
  case' hy =>
    refine Or.inl ⟨by first | rfl | (go_simp; done), ?_⟩
    intro w hS
    clear hS
    go_simp
    try with_reducible rfl
  try simp only [Act.put, List.getElem_toArray, List.getElem_cons_succ, List.getElem_cons_zero, List.setIfInBounds_toArray, List.set_cons_succ, List.set_cons_zero]
  apply takeH (i := 15) 78 rfl (by kernel_rfl) (by kernel_rfl) (by kernel_rfl) (fun _ _ _ h => h) rfl (by first | exact M.out | exact M.out.take 6)
  case' hy =>
    refine Or.inl ⟨by first | rfl | (go_simp; done), ?_⟩
    intro w hS
    clear hS
    go_simp
    try with_reducible rfl
  try simp only [Act.put, List.getElem_toArray, List.getElem_cons_succ, List.getElem_cons_zero, List.setIfInBounds_toArray, List.set_cons_succ, List.set_cons_zero]
  apply takeH (i := 16) 79 rfl (by kernel_rfl) (by kernel_rfl) (by kernel_rfl) (fun _ _ _ h => h) rfl (by first | exact M.out | exact M.out.take 6)
  case' hy =>
    refine Or.inl ⟨by first | rfl | (go_simp; done), ?_⟩
    intro w hS
    clear hS
    go_simp
    try with_reducible rfl
  try simp only [Act.put, List.getElem_toArray, List.getElem_cons_succ, List.getElem_cons_zero, List.setIfInBounds_toArray, List.set_cons_succ, List.set_cons_zero]
  apply takeH (i := 17) 80 rfl (by kernel_rfl) (by kernel_rfl) (by kernel_rfl) (fun _ _ _ h => h) rfl (by first | exact M.out | exact M.out.take 6)
  case' hy =>
    refine Or.inl ⟨by first | rfl | (go_simp; done), ?_⟩
    intro w hS
    clear hS
    go_simp
    try with_reducible rfl
  try simp only [Act.put, List.getElem_toArray, List.getElem_cons_succ, List.getElem_cons_zero, List.setIfInBounds_toArray, List.set_cons_succ, List.set_cons_zero]
  refine any1H 18 (by kernel_rfl) rfl (fun K hK => ?_)
  go_wp2_with (first | (go_at_call 13; go_must (refine (FlockSame_any _ _ _ _ xs _ (by omega) (M.out.slof 3 rfl) (M.out.slof 2 rfl)).mono ?_); rintro e w_ ⟨rfl, N_⟩; have m := M.out.join N_; clear N_; simp only [List.cons_append, List.nil_append, List.append_nil] at m; have M := Lib.hid m; clear m) | (go_at_call 14; go_must (refine (impl_SameFlocks_any _ _ _ _ xs _ (by omega) (M.out.slof 3 rfl) (M.out.slof 2 rfl)).mono ?_); rintro e w_ ⟨rfl, N_⟩; have m := M.out.join N_; clear N_; simp only [List.cons_append, List.nil_append, List.append_nil] at m; have M := Lib.hid m; clear m) | (go_at_call 15; go_must (refine (C.out.vf _ _ _ (M.out.slof 2 rfl)).mono ?_); rintro e w_ ⟨rfl, N_⟩; have m := M.out.join N_; clear N_; simp only [List.cons_append, List.nil_append, List.append_nil] at m; have M := Lib.hid m; clear m) | (go_at_call 17; go_must (refine (CalmFears_any _).mono ?_); rintro e w_ ⟨rfl, N_⟩; have m := M.out.join N_; clear N_; simp only [List.cons_append, List.nil_append, List.append_nil] at m; have M := Lib.hid m; clear m) | (go_at_call 16; go_must (first | (refine Calls.mono (calls_args (by with_reducible rfl) (C.out.va _)) ?_; rintro e w_ ⟨rfl, N_⟩; have m := M.out.join N_; clear N_; simp only [List.cons_append, List.nil_append, List.append_nil] at m; have M := Lib.hid m; clear m) | (refine Calls.mono (calls_args (by with_reducible rfl) (C.out.vz _)) ?_; rintro e w_ ⟨rfl, N_⟩; have m := M.out.join N_; clear N_; simp only [List.cons_append, List.nil_append, List.append_nil] at m; have M := Lib.hid m; clear m))))
  refine onward_normal (hK _ _ ⟨(by first | exact M.out | exact M.out.take 6), ?_⟩)
  clear hK K
  try simp only [Act.put, List.getElem_toArray, List.getElem_cons_succ, List.getElem_cons_zero, List.setIfInBounds_toArray, List.set_cons_succ, List.set_cons_zero]
  apply takeH (i := 19) 82 rfl (by kernel_rfl) (by kernel_rfl) (by kernel_rfl) (fun _ _ _ h => h) rfl (by first | exact M.out | exact M.out.take 6)
  case' hy =>
    refine Or.inl ⟨by first | rfl | (go_simp; done), ?_⟩
    intro w hS
    clear hS
    go_simp
    try with_reducible rfl
  try simp only [Act.put, List.getElem_toArray, List.getElem_cons_succ, List.getElem_cons_zero, List.setIfInBounds_toArray, List.set_cons_succ, List.set_cons_zero]
  apply takeH (i := 20) 83 rfl (by kernel_rfl) (by kernel_rfl) (by kernel_rfl) (fun _ _ _ h => h) rfl (by first | exact M.out | exact M.out.take 6)
  case' hy =>
    refine Or.inl ⟨by first | rfl | (go_simp; done), ?_⟩
    intro w hS
    clear hS
    go_simp
    try with_reducible rfl
  try simp only [Act.put, List.getElem_toArray, List.getElem_cons_succ, List.getElem_cons_zero, List.setIfInBounds_toArray, List.set_cons_succ, List.set_cons_zero]
  apply takeH (i := 21) 84 rfl (by kernel_rfl) (by kernel_rfl) (by kernel_rfl) (fun _ _ _ h => h) rfl (by first | exact M.out | exact M.out.take 6)
  case' hy =>
    refine Or.inl ⟨by first | rfl | (go_simp; done), ?_⟩
    intro w hS
    clear hS
    go_simp
    try with_reducible rfl
  try simp only [Act.put, List.getElem_toArray, List.getElem_cons_succ, List.getElem_cons_zero, List.setIfInBounds_toArray, List.set_cons_succ, List.set_cons_zero]
  apply takeH (i := 22) 85 rfl (by kernel_rfl) (by kernel_rfl) (by kernel_rfl) (fun _ _ _ h => h) rfl (by first | exact M.out | exact M.out.take 6)
  case' hy => exact yldwW _ _ rfl (by first | rfl | (go_simp; done)) Tryz.underlying29 rfl (by first | exact sz29 | (rw [S1.out]; exact sz29) | (rw [S2.out]; exact sz29) | (rw [S3.out]; exact sz29)) rfl (fun w' hS => hS.blk 0 rfl)
  try simp only [Act.put, List.getElem_toArray, List.getElem_cons_succ, List.getElem_cons_zero, List.setIfInBounds_toArray, List.set_cons_succ, List.set_cons_zero]
  apply takeH (i := 23) 86 rfl (by kernel_rfl) (by kernel_rfl) (by kernel_rfl) (fun _ _ _ h => h) rfl (by first | exact M.out | exact M.out.take 6)
  case' hy =>
    refine Or.inl ⟨by first | rfl | (go_simp; done), ?_⟩
    intro w hS
    clear hS
    go_simp
    try with_reducible rfl
  try simp only [Act.put, List.getElem_toArray, List.getElem_cons_succ, List.getElem_cons_zero, List.setIfInBounds_toArray, List.set_cons_succ, List.set_cons_zero]
  refine any1H 24 (by kernel_rfl) rfl (fun K hK => ?_)
  go_wp2_with (first | (go_at_call 13; go_must (refine (FlockSame_any _ _ _ _ xs _ (by omega) (M.out.slof 3 rfl) (M.out.slof 2 rfl)).mono ?_); rintro e w_ ⟨rfl, N_⟩; have m := M.out.join N_; clear N_; simp only [List.cons_append, List.nil_append, List.append_nil] at m; have M := Lib.hid m; clear m) | (go_at_call 14; go_must (refine (impl_SameFlocks_any _ _ _ _ xs _ (by omega) (M.out.slof 3 rfl) (M.out.slof 2 rfl)).mono ?_); rintro e w_ ⟨rfl, N_⟩; have m := M.out.join N_; clear N_; simp only [List.cons_append, List.nil_append, List.append_nil] at m; have M := Lib.hid m; clear m) | (go_at_call 15; go_must (refine (C.out.vf _ _ _ (M.out.slof 2 rfl)).mono ?_); rintro e w_ ⟨rfl, N_⟩; have m := M.out.join N_; clear N_; simp only [List.cons_append, List.nil_append, List.append_nil] at m; have M := Lib.hid m; clear m) | (go_at_call 17; go_must (refine (CalmFears_any _).mono ?_); rintro e w_ ⟨rfl, N_⟩; have m := M.out.join N_; clear N_; simp only [List.cons_append, List.nil_append, List.append_nil] at m; have M := Lib.hid m; clear m) | (go_at_call 16; go_must (first | (refine Calls.mono (calls_args (by with_reducible rfl) (C.out.va _)) ?_; rintro e w_ ⟨rfl, N_⟩; have m := M.out.join N_; clear N_; simp only [List.cons_append, List.nil_append, List.append_nil] at m; have M := Lib.hid m; clear m) | (refine Calls.mono (calls_args (by with_reducible rfl) (C.out.vz _)) ?_; rintro e w_ ⟨rfl, N_⟩; have m := M.out.join N_; clear N_; simp only [List.cons_append, List.nil_append, List.append_nil] at m; have M := Lib.hid m; clear m))))
  refine onward_normal (hK _ _ ⟨(by first | exact M.out | exact M.out.take 6), ?_⟩)
  clear hK K
  try simp only [Act.put, List.getElem_toArray, List.getElem_cons_succ, List.getElem_cons_zero, List.setIfInBounds_toArray, List.set_cons_succ, List.set_cons_zero]
  apply takeH (i := 25) 88 rfl (by kernel_rfl) (by kernel_rfl) (by kernel_rfl) (fun _ _ _ h => h) rfl (by first | exact M.out | exact M.out.take 6)
  case' hy =>
    refine Or.inl ⟨by first | rfl | (go_simp; done), ?_⟩
    intro w hS
    clear hS
    go_simp
    try with_reducible rfl
  try simp only [Act.put, List.getElem_toArray, List.getElem_cons_succ, List.getElem_cons_zero, List.setIfInBounds_toArray, List.set_cons_succ, List.set_cons_zero]
  apply takeH (i := 26) 89 rfl (by kernel_rfl) (by kernel_rfl) (by kernel_rfl) (fun _ _ _ h => h) rfl (by first | exact M.out | exact M.out.take 6)
  case' hy =>
    refine Or.inl ⟨by first | rfl | (go_simp; done), ?_⟩
    intro w hS
    clear hS
    go_simp
    try with_reducible rfl
  try simp only [Act.put, List.getElem_toArray, List.getElem_cons_succ, List.getElem_cons_zero, List.setIfInBounds_toArray, List.set_cons_succ, List.set_cons_zero]
  apply takeH (i := 27) 90 rfl (by kernel_rfl) (by kernel_rfl) (by kernel_rfl) (fun _ _ _ h => h) rfl (by first | exact M.out | exact M.out.take 6)
  case' hy =>
    refine Or.inl ⟨by first | rfl | (go_simp; done), ?_⟩
    intro w hS
    clear hS
    go_simp
    try with_reducible rfl
  try simp only [Act.put, List.getElem_toArray, List.getElem_cons_succ, List.getElem_cons_zero, List.setIfInBounds_toArray, List.set_cons_succ, List.set_cons_zero]
  apply takeH (i := 28) 91 rfl (by kernel_rfl) (by kernel_rfl) (by kernel_rfl) (fun _ _ _ h => h) rfl (by first | exact M.out | exact M.out.take 6)
  case' hy => exact yldwW _ _ rfl (by first | rfl | (go_simp; done)) Tryz.underlying29 rfl (by first | exact sz29 | (rw [S1.out]; exact sz29) | (rw [S2.out]; exact sz29) | (rw [S3.out]; exact sz29)) rfl (fun w' hS => hS.blk 0 rfl)
  try simp only [Act.put, List.getElem_toArray, List.getElem_cons_succ, List.getElem_cons_zero, List.setIfInBounds_toArray, List.set_cons_succ, List.set_cons_zero]
  apply takeH (i := 29) 92 rfl (by kernel_rfl) (by kernel_rfl) (by kernel_rfl) (fun _ _ _ h => h) rfl (by first | exact M.out | exact M.out.take 6)
  case' hy => exact yldwW _ _ rfl (by first | rfl | (go_simp; done)) Tryz.underlying31 rfl (by first | exact sz31 | (rw [S1.out]; exact sz31) | (rw [S2.out]; exact sz31) | (rw [S3.out]; exact sz31)) rfl (fun w' hS => hS.blk 1 rfl)
  try simp only [Act.put, List.getElem_toArray, List.getElem_cons_succ, List.getElem_cons_zero, List.setIfInBounds_toArray, List.set_cons_succ, List.set_cons_zero]
  refine any1H 30 (by kernel_rfl) rfl (fun K hK => ?_)
  go_wp2_with (first | (go_at_call 13; go_must (refine (FlockSame_any _ _ _ _ xs _ (by omega) (M.out.slof 3 rfl) (M.out.slof 2 rfl)).mono ?_); rintro e w_ ⟨rfl, N_⟩; have m := M.out.join N_; clear N_; simp only [List.cons_append, List.nil_append, List.append_nil] at m; have M := Lib.hid m; clear m) | (go_at_call 14; go_must (refine (impl_SameFlocks_any _ _ _ _ xs _ (by omega) (M.out.slof 3 rfl) (M.out.slof 2 rfl)).mono ?_); rintro e w_ ⟨rfl, N_⟩; have m := M.out.join N_; clear N_; simp only [List.cons_append, List.nil_append, List.append_nil] at m; have M := Lib.hid m; clear m) | (go_at_call 15; go_must (refine (C.out.vf _ _ _ (M.out.slof 2 rfl)).mono ?_); rintro e w_ ⟨rfl, N_⟩; have m := M.out.join N_; clear N_; simp only [List.cons_append, List.nil_append, List.append_nil] at m; have M := Lib.hid m; clear m) | (go_at_call 17; go_must (refine (CalmFears_any _).mono ?_); rintro e w_ ⟨rfl, N_⟩; have m := M.out.join N_; clear N_; simp only [List.cons_append, List.nil_append, List.append_nil] at m; have M := Lib.hid m; clear m) | (go_at_call 16; go_must (first | (refine Calls.mono (calls_args (by with_reducible rfl) (C.out.va _)) ?_; rintro e w_ ⟨rfl, N_⟩; have m := M.out.join N_; clear N_; simp only [List.cons_append, List.nil_append, List.append_nil] at m; have M := Lib.hid m; clear m) | (refine Calls.mono (calls_args (by with_reducible rfl) (C.out.vz _)) ?_; rintro e w_ ⟨rfl, N_⟩; have m := M.out.join N_; clear N_; simp only [List.cons_append, List.nil_append, List.append_nil] at m; have M := Lib.hid m; clear m))))
  refine onward_normal (hK _ _ ⟨(by first | exact M.out | exact M.out.take 6), ?_⟩)
  clear hK K
  try simp only [Act.put, List.getElem_toArray, List.getElem_cons_succ, List.getElem_cons_zero, List.setIfInBounds_toArray, List.set_cons_succ, List.set_cons_zero]
  apply takeH (i := 31) 94 rfl (by kernel_rfl) (by kernel_rfl) (by kernel_rfl) (fun _ _ _ h => h) rfl (by first | exact M.out | exact M.out.take 6)
  case' hy =>
    refine Or.inl ⟨by first | rfl | (go_simp; done), ?_⟩
    intro w hS
    clear hS
    go_simp
    try with_reducible rfl
  try simp only [Act.put, List.getElem_toArray, List.getElem_cons_succ, List.getElem_cons_zero, List.setIfInBounds_toArray, List.set_cons_succ, List.set_cons_zero]
  apply takeH (i := 32) 95 rfl (by kernel_rfl) (by kernel_rfl) (by kernel_rfl) (fun _ _ _ h => h) rfl (by first | exact M.out | exact M.out.take 6)
  case' hy =>
    refine Or.inl ⟨by first | rfl | (go_simp; done), ?_⟩
    intro w hS
    clear hS
    go_simp
    try with_reducible rfl
  try simp only [Act.put, List.getElem_toArray, List.getElem_cons_succ, List.getElem_cons_zero, List.setIfInBounds_toArray, List.set_cons_succ, List.set_cons_zero]
  apply takeH (i := 33) 96 rfl (by kernel_rfl) (by kernel_rfl) (by kernel_rfl) (fun _ _ _ h => h) rfl (by first | exact M.out | exact M.out.take 6)
  case' hy =>
    refine Or.inl ⟨by first | rfl | (go_simp; done), ?_⟩
    intro w hS
    clear hS
    go_simp
    try with_reducible rfl
  try simp only [Act.put, List.getElem_toArray, List.getElem_cons_succ, List.getElem_cons_zero, List.setIfInBounds_toArray, List.set_cons_succ, List.set_cons_zero]
  apply takeH (i := 34) 97 rfl (by kernel_rfl) (by kernel_rfl) (by kernel_rfl) (fun _ _ _ h => h) rfl (by first | exact M.out | exact M.out.take 6)
  case' hy => exact yldwW _ _ rfl (by first | rfl | (go_simp; done)) Tryz.underlying29 rfl (by first | exact sz29 | (rw [S1.out]; exact sz29) | (rw [S2.out]; exact sz29) | (rw [S3.out]; exact sz29)) rfl (fun w' hS => hS.blk 0 rfl)
  try simp only [Act.put, List.getElem_toArray, List.getElem_cons_succ, List.getElem_cons_zero, List.setIfInBounds_toArray, List.set_cons_succ, List.set_cons_zero]
  refine any1H 35 (by kernel_rfl) rfl (fun K hK => ?_)
  go_wp2_with (first | (go_at_call 13; go_must (refine (FlockSame_any _ _ _ _ xs _ (by omega) (M.out.slof 3 rfl) (M.out.slof 2 rfl)).mono ?_); rintro e w_ ⟨rfl, N_⟩; have m := M.out.join N_; clear N_; simp only [List.cons_append, List.nil_append, List.append_nil] at m; have M := Lib.hid m; clear m) | (go_at_call 14; go_must (refine (impl_SameFlocks_any _ _ _ _ xs _ (by omega) (M.out.slof 3 rfl) (M.out.slof 2 rfl)).mono ?_); rintro e w_ ⟨rfl, N_⟩; have m := M.out.join N_; clear N_; simp only [List.cons_append, List.nil_append, List.append_nil] at m; have M := Lib.hid m; clear m) | (go_at_call 15; go_must (refine (C.out.vf _ _ _ (M.out.slof 2 rfl)).mono ?_); rintro e w_ ⟨rfl, N_⟩; have m := M.out.join N_; clear N_; simp only [List.cons_append, List.nil_append, List.append_nil] at m; have M := Lib.hid m; clear m) | (go_at_call 17; go_must (refine (CalmFears_any _).mono ?_); rintro e w_ ⟨rfl, N_⟩; have m := M.out.join N_; clear N_; simp only [List.cons_append, List.nil_append, List.append_nil] at m; have M := Lib.hid m; clear m) | (go_at_call 16; go_must (first | (refine Calls.mono (calls_args (by with_reducible rfl) (C.out.va _)) ?_; rintro e w_ ⟨rfl, N_⟩; have m := M.out.join N_; clear N_; simp only [List.cons_append, List.nil_append, List.append_nil] at m; have M := Lib.hid m; clear m) | (refine Calls.mono (calls_args (by with_reducible rfl) (C.out.vz _)) ?_; rintro e w_ ⟨rfl, N_⟩; have m := M.out.join N_; clear N_; simp only [List.cons_append, List.nil_append, List.append_nil] at m; have M := Lib.hid m; clear m))))
  refine onward_normal (hK _ _ ⟨(by first | exact M.out | exact M.out.take 6), ?_⟩)
  clear hK K
  try simp only [Act.put, List.getElem_toArray, List.getElem_cons_succ, List.getElem_cons_zero, List.setIfInBounds_toArray, List.set_cons_succ, List.set_cons_zero]
  refine any1H 36 (by kernel_rfl) rfl (fun K hK => ?_)
  go_wp2_with (first | (go_at_call 13; go_must (refine (FlockSame_any _ _ _ _ xs _ (by omega) (M.out.slof 3 rfl) (M.out.slof 2 rfl)).mono ?_); rintro e w_ ⟨rfl, N_⟩; have m := M.out.join N_; clear N_; simp only [List.cons_append, List.nil_append, List.append_nil] at m; have M := Lib.hid m; clear m) | (go_at_call 14; go_must (refine (impl_SameFlocks_any _ _ _ _ xs _ (by omega) (M.out.slof 3 rfl) (M.out.slof 2 rfl)).mono ?_); rintro e w_ ⟨rfl, N_⟩; have m := M.out.join N_; clear N_; simp only [List.cons_append, List.nil_append, List.append_nil] at m; have M := Lib.hid m; clear m) | (go_at_call 15; go_must (refine (C.out.vf _ _ _ (M.out.slof 2 rfl)).mono ?_); rintro e w_ ⟨rfl, N_⟩; have m := M.out.join N_; clear N_; simp only [List.cons_append, List.nil_append, List.append_nil] at m; have M := Lib.hid m; clear m) | (go_at_call 17; go_must (refine (CalmFears_any _).mono ?_); rintro e w_ ⟨rfl, N_⟩; have m := M.out.join N_; clear N_; simp only [List.cons_append, List.nil_append, List.append_nil] at m; have M := Lib.hid m; clear m) | (go_at_call 16; go_must (first | (refine Calls.mono (calls_args (by with_reducible rfl) (C.out.va _)) ?_; rintro e w_ ⟨rfl, N_⟩; have m := M.out.join N_; clear N_; simp only [List.cons_append, List.nil_append, List.append_nil] at m; have M := Lib.hid m; clear m) | (refine Calls.mono (calls_args (by with_reducible rfl) (C.out.vz _)) ?_; rintro e w_ ⟨rfl, N_⟩; have m := M.out.join N_; clear N_; simp only [List.cons_append, List.nil_append, List.append_nil] at m; have M := Lib.hid m; clear m))))
  refine onward_normal (hK _ _ ⟨(by first | exact M.out | exact M.out.take 6), ?_⟩)
  clear hK K
  try simp only [Act.put, List.getElem_toArray, List.getElem_cons_succ, List.getElem_cons_zero, List.setIfInBounds_toArray, List.set_cons_succ, List.set_cons_zero]
  apply takeH (i := 37) 100 rfl (by kernel_rfl) (by kernel_rfl) (by kernel_rfl) (fun _ _ _ h => h) rfl (by first | exact M.out | exact M.out.take 6)
  case' hy =>
    refine Or.inl ⟨by first | rfl | (go_simp; done), ?_⟩
    intro w hS
    clear hS
    go_simp
    try with_reducible rfl
  try simp only [Act.put, List.getElem_toArray, List.getElem_cons_succ, List.getElem_cons_zero, List.setIfInBounds_toArray, List.set_cons_succ, List.set_cons_zero]
  apply takeH (i := 38) 101 rfl (by kernel_rfl) (by kernel_rfl) (by kernel_rfl) (fun _ _ _ h => h) rfl (by first | exact M.out | exact M.out.take 6)
  case' hy =>
    refine Or.inl ⟨by first | rfl | (go_simp; done), ?_⟩
    intro w hS
    clear hS
    go_simp
    try with_reducible rfl
  try simp only [Act.put, List.getElem_toArray, List.getElem_cons_succ, List.getElem_cons_zero, List.setIfInBounds_toArray, List.set_cons_succ, List.set_cons_zero]
  apply takeH (i := 39) 102 rfl (by kernel_rfl) (by kernel_rfl) (by kernel_rfl) (fun _ _ _ h => h) rfl (by first | exact M.out | exact M.out.take 6)
  case' hy =>
    refine Or.inl ⟨by first | rfl | (go_simp; done), ?_⟩
    intro w hS
    clear hS
    go_simp
    try with_reducible rfl
  try simp only [Act.put, List.getElem_toArray, List.getElem_cons_succ, List.getElem_cons_zero, List.setIfInBounds_toArray, List.set_cons_succ, List.set_cons_zero]
  apply takeH (i := 40) 103 rfl (by kernel_rfl) (by kernel_rfl) (by kernel_rfl) (fun _ _ _ h => h) rfl (by first | exact M.out | exact M.out.take 6)
  case' hy =>
    refine Or.inl ⟨by first | rfl | (go_simp; done), ?_⟩
    intro w hS
    clear hS
    go_simp
    try with_reducible rfl
  try simp only [Act.put, List.getElem_toArray, List.getElem_cons_succ, List.getElem_cons_zero, List.setIfInBounds_toArray, List.set_cons_succ, List.set_cons_zero]
  apply takeH (i := 41) 104 rfl (by kernel_rfl) (by kernel_rfl) (by kernel_rfl) (fun _ _ _ h => h) rfl (by first | exact M.out | exact M.out.take 6)
  case' hy =>
    refine Or.inl ⟨by first | rfl | (go_simp; done), ?_⟩
    intro w hS
    clear hS
    go_simp
    try with_reducible rfl
  try simp only [Act.put, List.getElem_toArray, List.getElem_cons_succ, List.getElem_cons_zero, List.setIfInBounds_toArray, List.set_cons_succ, List.set_cons_zero]
  apply takeH (i := 42) 105 rfl (by kernel_rfl) (by kernel_rfl) (by kernel_rfl) (fun _ _ _ h => h) rfl (by first | exact M.out | exact M.out.take 6)
  case' hy =>
    refine Or.inl ⟨by first | rfl | (go_simp; done), ?_⟩
    intro w hS
    clear hS
    go_simp
    try with_reducible rfl
  try simp only [Act.put, List.getElem_toArray, List.getElem_cons_succ, List.getElem_cons_zero, List.setIfInBounds_toArray, List.set_cons_succ, List.set_cons_zero]
  apply takeH (i := 43) 106 rfl (by kernel_rfl) (by kernel_rfl) (by kernel_rfl) (fun _ _ _ h => h) rfl (by first | exact M.out | exact M.out.take 6)
  case' hy =>
    refine Or.inl ⟨by first | rfl | (go_simp; done), ?_⟩
    intro w hS
    clear hS
    go_simp
    try with_reducible rfl
  try simp only [Act.put, List.getElem_toArray, List.getElem_cons_succ, List.getElem_cons_zero, List.setIfInBounds_toArray, List.set_cons_succ, List.set_cons_zero]
  apply takeH (i := 44) 107 rfl (by kernel_rfl) (by kernel_rfl) (by kernel_rfl) (fun _ _ _ h => h) rfl (by first | exact M.out | exact M.out.take 6)
  case' hy =>
    refine Or.inl ⟨by first | rfl | (go_simp; done), ?_⟩
    intro w hS
    clear hS
    go_simp
    try with_reducible rfl
  try simp only [Act.put, List.getElem_toArray, List.getElem_cons_succ, List.getElem_cons_zero, List.setIfInBounds_toArray, List.set_cons_succ, List.set_cons_zero]
  apply takeH (i := 45) 108 rfl (by kernel_rfl) (by kernel_rfl) (by kernel_rfl) (fun _ _ _ h => h) rfl (by first | exact M.out | exact M.out.take 6)
  case' hy =>
    refine Or.inl ⟨by first | rfl | (go_simp; done), ?_⟩
    intro w hS
    clear hS
    go_simp
    try with_reducible rfl
  try simp only [Act.put, List.getElem_toArray, List.getElem_cons_succ, List.getElem_cons_zero, List.setIfInBounds_toArray, List.set_cons_succ, List.set_cons_zero]
  apply takeH (i := 46) 109 rfl (by kernel_rfl) (by kernel_rfl) (by kernel_rfl) (fun _ _ _ h => h) rfl (by first | exact M.out | exact M.out.take 6)
  case' hy =>
    refine Or.inl ⟨by first | rfl | (go_simp; done), ?_⟩
    intro w hS
    clear hS
    go_simp
    try with_reducible rfl
  try simp only [Act.put, List.getElem_toArray, List.getElem_cons_succ, List.getElem_cons_zero, List.setIfInBounds_toArray, List.set_cons_succ, List.set_cons_zero]
  apply takeH (i := 47) 110 rfl (by kernel_rfl) (by kernel_rfl) (by kernel_rfl) (fun _ _ _ h => h) rfl (by first | exact M.out | exact M.out.take 6)
  case' hy =>
    refine Or.inl ⟨by first | rfl | (go_simp; done), ?_⟩
    intro w hS
    clear hS
    go_simp
    try with_reducible rfl
  try simp only [Act.put, List.getElem_toArray, List.getElem_cons_succ, List.getElem_cons_zero, List.setIfInBounds_toArray, List.set_cons_succ, List.set_cons_zero]
  apply takeH (i := 48) 111 rfl (by kernel_rfl) (by kernel_rfl) (by kernel_rfl) (fun _ _ _ h => h) rfl (by first | exact M.out | exact M.out.take 6)
  case' hy =>
    refine Or.inl ⟨by first | rfl | (go_simp; done), ?_⟩
    intro w hS
    clear hS
    go_simp
    try with_reducible rfl
  try simp only [Act.put, List.getElem_toArray, List.getElem_cons_succ, List.getElem_cons_zero, List.setIfInBounds_toArray, List.set_cons_succ, List.set_cons_zero]
  apply takeH (i := 49) 112 rfl (by kernel_rfl) (by kernel_rfl) (by kernel_rfl) (fun _ _ _ h => h) rfl (by first | exact M.out | exact M.out.take 6)
  case' hy => exact yldwW _ _ rfl (by first | rfl | (go_simp; done)) Tryz.underlying40 rfl (by first | exact sz40 | (rw [S1.out]; exact sz40) | (rw [S2.out]; exact sz40) | (rw [S3.out]; exact sz40)) rfl (fun w' hS => hS.blk 4 rfl)
  try simp only [Act.put, List.getElem_toArray, List.getElem_cons_succ, List.getElem_cons_zero, List.setIfInBounds_toArray, List.set_cons_succ, List.set_cons_zero]
  apply takeH (i := 50) 113 rfl (by kernel_rfl) (by kernel_rfl) (by kernel_rfl) (fun _ _ _ h => h) rfl (by first | exact M.out | exact M.out.take 6)
  case' hy => exact yldwW _ _ rfl (by first | rfl | (go_simp; done)) Tryz.underlying40 rfl (by first | exact sz40 | (rw [S1.out]; exact sz40) | (rw [S2.out]; exact sz40) | (rw [S3.out]; exact sz40)) rfl (fun w' hS => hS.blk 5 rfl)
  try simp only [Act.put, List.getElem_toArray, List.getElem_cons_succ, List.getElem_cons_zero, List.setIfInBounds_toArray, List.set_cons_succ, List.set_cons_zero]
  apply takeH (i := 51) 114 rfl (by kernel_rfl) (by kernel_rfl) (by kernel_rfl) (fun _ _ _ h => h) rfl (by first | exact M.out | exact M.out.take 6)
  case' hy =>
    refine Or.inl ⟨by first | rfl | (go_simp; done), ?_⟩
    intro w hS
    clear hS
    go_simp
    try with_reducible rfl
  try simp only [Act.put, List.getElem_toArray, List.getElem_cons_succ, List.getElem_cons_zero, List.setIfInBounds_toArray, List.set_cons_succ, List.set_cons_zero]
  apply takeH (i := 52) 115 rfl (by kernel_rfl) (by kernel_rfl) (by kernel_rfl) (fun _ _ _ h => h) rfl (by first | exact M.out | exact M.out.take 6)
  case' hy =>
    refine Or.inl ⟨by first | rfl | (go_simp; done), ?_⟩
    intro w hS
    clear hS
    go_simp
    try with_reducible rfl
  try simp only [Act.put, List.getElem_toArray, List.getElem_cons_succ, List.getElem_cons_zero, List.setIfInBounds_toArray, List.set_cons_succ, List.set_cons_zero]
  refine wpAnyH_done (by kernel_rfl) ?_ _
  all_goals
    go_wp2
    go_loopw [14] (fun v wr => ∃ k : Nat, k ≤ xs.length ∧ v = .int .i64 k ∧ Mem w wr [.blk g5 29 F.cells, .blk g6 31 (ints .i16 fs), .row (.slice Bx xs.length cp) 48 6 xs.length (flat Flock.vals xs), .row (.slice A8 xs.length c8) 48 6 xs.length (flat Flock.vals xs), .blk g10 40 SF_.cells, .blk g12 40 SF_.cells])
      (fun v _ => xs.length - (intOf v).toNat)
    case atStart => exact ⟨0, by omega, rfl, M.out.take 6⟩
    case round =>
      clear M
      obtain ⟨k, hk, rfl, m⟩ := hrel
      have M := Lib.hid m
      clear m
      by_cases hlt : k < xs.length
      · as_aux_lemma =>
        obtain ⟨CF, ch, cc, hO⟩ := C.out.one k hlt
        have HXK0 : xs[k]? = some xs[k] := List.getElem?_eq_getElem hlt
        obtain ⟨x, hx⟩ : ∃ x, x = xs[k] := ⟨_, rfl⟩
        rw [← hx] at hO HXK0
        have HXK := Lib.hid HXK0
        have O := Lib.hid hO
        have KK := Lib.hid hlt
        have nF := neqCs CF
        have XT := Lib.hid (show x.vals.toArray[0]? = some (.int .i16 x.tree) from rfl)
        have XB := Lib.hid (show x.vals.toArray[3]? = some (.int .i16 x.bold) from rfl)
        have XR := Lib.hid (show x.vals.toArray[4]? = some (.int .i16 x.reach) from rfl)
        have XA := Lib.hid (show x.vals.toArray[5]? = some (.int .i8 x.taste) from rfl)
        have tw : IntKind.i64.wrap x.tree = x.tree := IntWalk.i64_in _ (by have := hO.b.1; omega)
        have rw_ : IntKind.i64.wrap x.reach = x.reach := IntWalk.i64_in _ (by have := hO.b.2.2.1; omega)
        obtain ⟨lb, lo, rfl, hr⟩ := (M.out.slof 2 rfl).2 (by omega)
        have k0 : (0 : Int) ≤ (k : Int) := by omega
        have k1 : (k : Int) < (xs.length : Int) := by omega
        have K := hO.kase
        clear hr hx hO HXK0
        rcases K with ⟨rfl, hcl, c, rfl, hc, hcC_, hsq_, hbest__⟩ | ⟨rfl, hcl⟩
        · have hcC := Lib.hid hcC_
          have hsq := Lib.hid hsq_
          have hbest_ := Lib.hid hbest__
          have c0 : (0 : Int) ≤ (c : Int) := by omega
          have c1 : (c : Int) < 100 := by omega
          clear hcC_ hsq_ hbest__
          as_aux_lemma =>
            have q0 : decide (0 < CF.all.length) = true := decide_eq_true (by omega)
            clear hcl
            go_wp2_with (first
              | ((with_reducible refine gate_dst (N := 125) rfl ?_); go_must (refine ev_ldr _ _ rfl rfl (show World.rangeAt _ lb (lo + k * 6) x.vals from range_at Flock.vl (sl_rangeFlock (M.out.slof 2 rfl) KK.out) HXK.out) Tryz.underlying48 rfl sz48 rfl ?_))
              | ((with_reducible refine gate_dst (N := 15) rfl ?_); go_must (refine M.out.ev_new rfl (by first | (go_simp; done) | (go_simp; rfl)) ?_); intro g15 w15 m; simp only [List.cons_append, List.nil_append] at m; have M := Lib.hid m; clear m)
              | ((with_reducible refine gate_store (x := .tmp 15) rfl ?_); go_must (refine M.out.ev_stw 6 _ _ _ rfl rfl rfl rfl _ rfl (by first | rfl | kernel_rfl) (by exact sz48) (Flock.one _) rfl ?_); intro wn m; simp only [List.set_cons_zero, List.set_cons_succ] at m; have M := Lib.hid m; clear m)
              | ((with_reducible refine gate_dst (N := 127) rfl ?_); go_must (refine M.out.ev_ldw 0 _ _ rfl rfl rfl Tryz.underlying29 rfl (by rw [S1.out]; exact sz29) rfl ?_))
              | ((with_reducible refine gate_dst (N := 128) rfl ?_); go_must (refine M.out.ev_ldw 1 _ _ rfl rfl rfl Tryz.underlying31 rfl (by rw [SF.out]; exact sz31) rfl ?_))
              | ((with_reducible refine gate_dst (N := 129) rfl ?_); go_must (refine M.out.ev_ldw 6 _ _ rfl rfl rfl Tryz.underlying48 rfl (by exact sz48) rfl ?_))
              | (go_at_call 18; go_must (refine (O.out.cfI _).mono ?_); rintro e w_ ⟨rfl, N_⟩; have m := M.out.join N_; clear N_; simp only [List.cons_append, List.nil_append, List.append_nil] at m; have M := Lib.hid m; clear m)
              | ((with_reducible refine gate_dst (N := 16) rfl ?_); go_must (refine M.out.ev_new rfl (by first | (go_simp; done) | (go_simp; rfl)) ?_); intro g16 w16 m; simp only [List.cons_append, List.nil_append] at m; have M := Lib.hid m; clear m)
              | ((with_reducible refine gate_store (x := .tmp 16) rfl ?_); go_must (refine M.out.ev_stw 7 _ _ _ rfl rfl rfl rfl _ rfl (by first | rfl | kernel_rfl) (by exact sz40) (Cs.one _) rfl ?_); intro wn m; simp only [List.set_cons_zero, List.set_cons_succ] at m; have M := Lib.hid m; clear m)
              | ((with_reducible refine gate_dst (N := 134) rfl ?_); go_must (refine M.out.ev_ldw 0 _ _ rfl rfl rfl Tryz.underlying29 rfl (by rw [S1.out]; exact sz29) rfl ?_))
              | ((with_reducible refine gate_dst (N := 135) rfl ?_); go_must (refine M.out.ev_ldw 1 _ _ rfl rfl rfl Tryz.underlying31 rfl (by rw [SF.out]; exact sz31) rfl ?_))
              | ((with_reducible refine gate_dst (N := 136) rfl ?_); go_must (refine M.out.ev_ldw 6 _ _ rfl rfl rfl Tryz.underlying48 rfl (by exact sz48) rfl ?_))
              | (go_at_call 19; go_must (refine (O.out.cfS _).mono ?_); rintro e w_ ⟨rfl, N_⟩; have m := M.out.join N_; clear N_; simp only [List.cons_append, List.nil_append, List.append_nil] at m; have M := Lib.hid m; clear m)
              | ((with_reducible refine gate_dst (N := 18) rfl ?_); go_must (refine M.out.ev_new rfl (by first | (go_simp; done) | (go_simp; rfl)) ?_); intro g18 w18 m; simp only [List.cons_append, List.nil_append] at m; have M := Lib.hid m; clear m)
              | ((with_reducible refine gate_store (x := .tmp 18) rfl ?_); go_must (refine M.out.ev_stw 8 _ _ _ rfl rfl rfl rfl _ rfl (by first | rfl | kernel_rfl) (by exact sz40) (Cs.one _) rfl ?_); intro wn m; simp only [List.set_cons_zero, List.set_cons_succ] at m; have M := Lib.hid m; clear m)
              | ((with_reducible refine gate_dst (N := 141) rfl ?_); go_must (refine M.out.ev_ldw 0 _ _ rfl rfl rfl Tryz.underlying29 rfl (by rw [S1.out]; exact sz29) rfl ?_))
              | ((with_reducible refine gate_dst (N := 142) rfl ?_); go_must (refine M.out.ev_ldw 1 _ _ rfl rfl rfl Tryz.underlying31 rfl (by rw [SF.out]; exact sz31) rfl ?_))
              | ((with_reducible refine gate_dst (N := 143) rfl ?_); go_must (refine M.out.ev_ldw 6 _ _ rfl rfl rfl Tryz.underlying48 rfl (by exact sz48) rfl ?_))
              | (go_at_call 20; go_must (refine (O.out.chI _).mono ?_); rintro e w_ ⟨rfl, N_⟩; have m := M.out.join N_; clear N_; simp only [List.cons_append, List.nil_append, List.append_nil] at m; have M := Lib.hid m; clear m)
              | ((with_reducible refine gate_dst (N := 148) rfl ?_); go_must (refine M.out.ev_ldw 0 _ _ rfl rfl rfl Tryz.underlying29 rfl (by rw [S1.out]; exact sz29) rfl ?_))
              | ((with_reducible refine gate_dst (N := 149) rfl ?_); go_must (refine M.out.ev_ldw 1 _ _ rfl rfl rfl Tryz.underlying31 rfl (by rw [SF.out]; exact sz31) rfl ?_))
              | ((with_reducible refine gate_dst (N := 150) rfl ?_); go_must (refine M.out.ev_ldw 6 _ _ rfl rfl rfl Tryz.underlying48 rfl (by exact sz48) rfl ?_))
              | (go_at_call 21; go_must (refine (O.out.chS _).mono ?_); rintro e w_ ⟨rfl, N_⟩; have m := M.out.join N_; clear N_; simp only [List.cons_append, List.nil_append, List.append_nil] at m; have M := Lib.hid m; clear m)
              | ((with_reducible refine gate_dst (N := 162) rfl ?_); refine gate_want rfl ?_; go_must (refine M.out.ev_ldw 7 _ _ rfl rfl rfl Tryz.underlying40 rfl (by exact sz40) rfl ?_))
              | ((with_reducible refine gate_dst (N := 163) rfl ?_); refine gate_want rfl ?_; go_must (refine M.out.ev_ldw 8 _ _ rfl rfl rfl Tryz.underlying40 rfl (by exact sz40) rfl ?_))
              | ((with_reducible refine gate_dst (N := 179) rfl ?_); refine gate_want rfl ?_; go_must (refine M.out.ev_ldw 8 _ _ rfl rfl rfl Tryz.underlying40 rfl (by exact sz40) rfl ?_))
              | (go_at_call 22; go_must (refine (CountS_any CF O.out.CFok _).mono ?_); rintro e w_ ⟨rfl, N_⟩; have m := M.out.join N_; clear N_; simp only [List.cons_append, List.nil_append, List.append_nil] at m; have M := Lib.hid m; clear m)
              )
            clear q0
            go_loopw [24] (fun v wr => ∃ i : Nat, i ≤ 100 ∧ v = .int .i64 i ∧ Mem w wr [.blk g5 29 F.cells, .blk g6 31 (ints .i16 fs), .row (.slice (some ⟨lb, lo, none⟩) xs.length cp) 48 6 xs.length (flat Flock.vals xs), .row (.slice A8 xs.length c8) 48 6 xs.length (flat Flock.vals xs), .blk g10 40 SF_.cells, .blk g12 40 SF_.cells, .blk g15 48 x.vals.toArray, .blk g16 40 CF.cells, .blk g18 40 CF.cells])
              (fun v _ => 100 - (intOf v).toNat)
            case atStart => exact ⟨0, by omega, rfl, M.out⟩
            case round =>
              clear M
              obtain ⟨i, hi, rfl, m⟩ := hrel
              have M := Lib.hid m
              clear m
              by_cases hlt2 : i < 100
              · as_aux_lemma =>
                have i0 : (0 : Int) ≤ (i : Int) := by omega
                have i1 : (i : Int) < 100 := by omega
                cases hh : F.has (i : Int) with
                | false =>
                  have HH := Lib.hid hh
                  have CFI := Lib.hid (O.out.out i hlt2 hh)
                  clear hh
                  go_wp2_with (first
                    | ((with_reducible refine gate_dst (N := 188) rfl ?_); go_must (refine M.out.ev_ldw 0 _ _ rfl rfl rfl Tryz.underlying29 rfl (by rw [S1.out]; exact sz29) rfl ?_))
                    | (go_at_call 23; go_must (refine (A2Is_any F WF.out.ok i _).mono ?_); rintro e w_ ⟨rfl, N_⟩; have m := M.out.join N_; clear N_; simp only [List.cons_append, List.nil_append, List.append_nil] at m; have M := Lib.hid m; clear m; rw [HH.out])
                    | ((with_reducible refine gate_dst (N := 192) rfl ?_); go_must (refine M.out.ev_ldw 8 _ _ rfl rfl rfl Tryz.underlying40 rfl (by exact sz40) rfl ?_))
                    | (go_at_call 24; go_must (refine (HasCellS_any CF O.out.CFok i hlt2 _).mono ?_); rintro e w_ ⟨rfl, N_⟩; have m := M.out.join N_; clear N_; simp only [List.cons_append, List.nil_append, List.append_nil] at m; have M := Lib.hid m; clear m; rw [CFI.out])
                    )
                  exact ⟨⟨i + 1, hlt2, by go_num, M.out.take 9⟩, by simp [intOf]; omega⟩
                | true =>
                  have HH := Lib.hid hh
                  have SQ := Lib.hid (fun w1 => O.out.sqI i hlt2 hh w1)
                  have hgo := O.out.go i hlt2 hh
                  have hfree := O.out.free i hlt2
                  have XS := Lib.hid (Fld.cellS WF.out.ok.toLen hlt2)
                  have XF := Lib.hid (show (ints .i16 fs)[i]? = some (.int .i16 (gi fs i)) from ints_at (by rw [AF.out.len]; exact hlt2))
                  have hbest := hbest_.out i hlt2
                  have XC := Lib.hid (Fld.cellS WF.out.ok.toLen hc)
                  have XG := Lib.hid (show (ints .i16 fs)[c]? = some (.int .i16 (gi fs c)) from ints_at (by rw [AF.out.len]; exact hc))
                  have SQ2 := Lib.hid (fun w1 => hsq.out w1)
                  obtain ⟨sdc, hsdc⟩ : ∃ z, z = F.seed c := ⟨_, rfl⟩
                  obtain ⟨frc, hfrc⟩ : ∃ z, z = gi fs c := ⟨_, rfl⟩
                  obtain ⟨sqc, hsqc⟩ : ∃ z, z = sq (c : Int) x.tree := ⟨_, rfl⟩
                  rw [← hsdc] at hbest XC
                  rw [← hfrc] at hbest XG
                  rw [← hsqc] at hbest SQ2
                  clear hsdc hfrc hsqc
                  obtain ⟨sd, hsd⟩ : ∃ z, z = F.seed i := ⟨_, rfl⟩
                  obtain ⟨fr, hfr⟩ : ∃ z, z = gi fs i := ⟨_, rfl⟩
                  obtain ⟨sq_, hsq_⟩ : ∃ z, z = sq (i : Int) x.tree := ⟨_, rfl⟩
                  rw [← hsd] at hgo XS hbest
                  rw [← hfr] at hgo XF hbest
                  rw [← hsq_] at hgo SQ hbest
                  clear hsd hfr hsq_ hh
                  cases q1 : decide (0 < sd) with
                  | false =>
                    have CFI := Lib.hid (show CF.has i = false by rw [hgo, q1]; rfl)
                    clear hgo hfree hbest
                    go_wp2_with (first
                      | ((with_reducible refine gate_dst (N := 188) rfl ?_); go_must (refine M.out.ev_ldw 0 _ _ rfl rfl rfl Tryz.underlying29 rfl (by rw [S1.out]; exact sz29) rfl ?_))
                      | (go_at_call 23; go_must (refine (A2Is_any F WF.out.ok i _).mono ?_); rintro e w_ ⟨rfl, N_⟩; have m := M.out.join N_; clear N_; simp only [List.cons_append, List.nil_append, List.append_nil] at m; have M := Lib.hid m; clear m; rw [HH.out])
                      | ((with_reducible refine gate_dst (N := 196) rfl ?_); go_must (refine M.out.ev_ldw 0 _ _ rfl rfl rfl Tryz.underlying29 rfl (by rw [S1.out]; exact sz29) rfl ?_))
                      | ((with_reducible refine gate_dst (N := 199) rfl ?_); go_must (refine M.out.ev_ld 6 _ _ rfl rfl rfl Tryz.underlying26 rfl rfl XT.out ?_))
                      | (go_at_call 25; go_must (refine (SQ.out _).mono ?_); rintro e w_ ⟨rfl, N_⟩; have m := M.out.join N_; clear N_; simp only [List.cons_append, List.nil_append, List.append_nil] at m; have M := Lib.hid m; clear m)
                      )
                    refine region_anyH (fun w' => Mem w w' [.blk g5 29 F.cells, .blk g6 31 (ints .i16 fs), .row (.slice (some ⟨lb, lo, none⟩) xs.length cp) 48 6 xs.length (flat Flock.vals xs), .row (.slice A8 xs.length c8) 48 6 xs.length (flat Flock.vals xs), .blk g10 40 SF_.cells, .blk g12 40 SF_.cells, .blk g15 48 x.vals.toArray, .blk g16 40 CF.cells, .blk g18 40 CF.cells]) (by kernel_rfl) ?_
                    have m := M.out.drew
                    clear M
                    have M := Lib.hid m
                    clear m
                    apply takeH (i := 0) 204 rfl (by kernel_rfl) (by kernel_rfl) (by kernel_rfl) (fun _ _ _ h => h) rfl (by first | exact M.out | exact M.out.take 9)
                    case' hy =>
                      refine Or.inl ⟨by first | rfl | (go_simp; done), ?_⟩
                      intro w hS
                      clear hS
                      go_simp
                      try with_reducible rfl
                    try simp only [Act.put, List.getElem_toArray, List.getElem_cons_succ, List.getElem_cons_zero, List.setIfInBounds_toArray, List.set_cons_succ, List.set_cons_zero]
                    apply takeH (i := 1) 205 rfl (by kernel_rfl) (by kernel_rfl) (by kernel_rfl) (fun _ _ _ h => h) rfl (by first | exact M.out | exact M.out.take 9)
                    case' hy =>
                      refine Or.inl ⟨by first | rfl | (go_simp; done), ?_⟩
                      intro w hS
                      clear hS
                      go_simp
                      try with_reducible rfl
                    try simp only [Act.put, List.getElem_toArray, List.getElem_cons_succ, List.getElem_cons_zero, List.setIfInBounds_toArray, List.set_cons_succ, List.set_cons_zero]
                    apply takeH (i := 2) 206 rfl (by kernel_rfl) (by kernel_rfl) (by kernel_rfl) (fun _ _ _ h => h) rfl (by first | exact M.out | exact M.out.take 9)
                    case' hy =>
                      refine Or.inl ⟨by first | rfl | (go_simp; done), ?_⟩
                      intro w hS
                      clear hS
                      go_simp
                      try with_reducible rfl
                    try simp only [Act.put, List.getElem_toArray, List.getElem_cons_succ, List.getElem_cons_zero, List.setIfInBounds_toArray, List.set_cons_succ, List.set_cons_zero]
                    apply takeH (i := 3) 207 rfl (by kernel_rfl) (by kernel_rfl) (by kernel_rfl) (fun _ _ _ h => h) rfl (by first | exact M.out | exact M.out.take 9)
                    case' hy => exact ylds _ _ rfl rfl Tryz.underlying26 rfl rfl (fun w' hS => hS.cell 0 rfl XS.out)
                    try simp only [Act.put, List.getElem_toArray, List.getElem_cons_succ, List.getElem_cons_zero, List.setIfInBounds_toArray, List.set_cons_succ, List.set_cons_zero]
                    apply takeH (i := 4) 208 rfl (by kernel_rfl) (by kernel_rfl) (by kernel_rfl) (fun _ _ _ h => h) rfl (by first | exact M.out | exact M.out.take 9)
                    case' hy =>
                      refine Or.inl ⟨by first | rfl | (go_simp; done), ?_⟩
                      intro w hS
                      clear hS
                      go_simp
                      try with_reducible rfl
                    try simp only [Act.put, List.getElem_toArray, List.getElem_cons_succ, List.getElem_cons_zero, List.setIfInBounds_toArray, List.set_cons_succ, List.set_cons_zero]
                    apply takeH (i := 5) 209 rfl (by kernel_rfl) (by kernel_rfl) (by kernel_rfl) (fun _ _ _ h => h) rfl (by first | exact M.out | exact M.out.take 9)
                    case' hy =>
                      refine Or.inl ⟨by first | rfl | (go_simp; done), ?_⟩
                      intro w hS
                      clear hS
                      go_simp
                      try with_reducible rfl
                    try simp only [Act.put, List.getElem_toArray, List.getElem_cons_succ, List.getElem_cons_zero, List.setIfInBounds_toArray, List.set_cons_succ, List.set_cons_zero]
                    refine wpAnyH_take (i := 6) (v := undef) rfl (by kernel_rfl) (by kernel_rfl) (by kernel_rfl) (fun _ _ _ h => h) (Or.inr ⟨by kernel_rfl, rfl⟩) (by first | exact M.out | exact M.out.take 9) ?_
                    try simp only [Act.put, List.getElem_toArray, List.getElem_cons_succ, List.getElem_cons_zero, List.setIfInBounds_toArray, List.set_cons_succ, List.set_cons_zero]
                    refine wpAnyH_take (i := 7) (v := undef) rfl (by kernel_rfl) (by kernel_rfl) (by kernel_rfl) (fun _ _ _ h => h) (Or.inr ⟨by kernel_rfl, rfl⟩) (by first | exact M.out | exact M.out.take 9) ?_
                    try simp only [Act.put, List.getElem_toArray, List.getElem_cons_succ, List.getElem_cons_zero, List.setIfInBounds_toArray, List.set_cons_succ, List.set_cons_zero]
                    refine wpAnyH_take (i := 8) (v := undef) rfl (by kernel_rfl) (by kernel_rfl) (by kernel_rfl) (fun _ _ _ h => h) (Or.inr ⟨by kernel_rfl, rfl⟩) (by first | exact M.out | exact M.out.take 9) ?_
                    try simp only [Act.put, List.getElem_toArray, List.getElem_cons_succ, List.getElem_cons_zero, List.setIfInBounds_toArray, List.set_cons_succ, List.set_cons_zero]
                    refine wpAnyH_take (i := 9) (v := undef) rfl (by kernel_rfl) (by kernel_rfl) (by kernel_rfl) (fun _ _ _ h => h) (Or.inr ⟨by kernel_rfl, rfl⟩) (by first | exact M.out | exact M.out.take 9) ?_
                    try simp only [Act.put, List.getElem_toArray, List.getElem_cons_succ, List.getElem_cons_zero, List.setIfInBounds_toArray, List.set_cons_succ, List.set_cons_zero]
                    refine wpAnyH_take (i := 10) (v := undef) rfl (by kernel_rfl) (by kernel_rfl) (by kernel_rfl) (fun _ _ _ h => h) (Or.inr ⟨by kernel_rfl, rfl⟩) (by first | exact M.out | exact M.out.take 9) ?_
                    try simp only [Act.put, List.getElem_toArray, List.getElem_cons_succ, List.getElem_cons_zero, List.setIfInBounds_toArray, List.set_cons_succ, List.set_cons_zero]
                    refine wpAnyH_take (i := 11) (v := undef) rfl (by kernel_rfl) (by kernel_rfl) (by kernel_rfl) (fun _ _ _ h => h) (Or.inr ⟨by kernel_rfl, rfl⟩) (by first | exact M.out | exact M.out.take 9) ?_
                    try simp only [Act.put, List.getElem_toArray, List.getElem_cons_succ, List.getElem_cons_zero, List.setIfInBounds_toArray, List.set_cons_succ, List.set_cons_zero]
                    apply takeH (i := 12) 216 rfl (by kernel_rfl) (by kernel_rfl) (by kernel_rfl) (fun _ _ _ h => h) rfl (by first | exact M.out | exact M.out.take 9)
                    case' hy =>
                      refine Or.inl ⟨by first | rfl | (go_simp; done), ?_⟩
                      intro w hS
                      clear hS
                      go_simp
                      try with_reducible rfl
                    try simp only [Act.put, List.getElem_toArray, List.getElem_cons_succ, List.getElem_cons_zero, List.setIfInBounds_toArray, List.set_cons_succ, List.set_cons_zero]
                    apply takeH (i := 13) 217 rfl (by kernel_rfl) (by kernel_rfl) (by kernel_rfl) (fun _ _ _ h => h) rfl (by first | exact M.out | exact M.out.take 9)
                    case' hy =>
                      refine Or.inl ⟨by first | rfl | (go_simp; done), ?_⟩
                      intro w hS
                      clear hS
                      go_simp
                      try with_reducible rfl
                    try simp only [Act.put, List.getElem_toArray, List.getElem_cons_succ, List.getElem_cons_zero, List.setIfInBounds_toArray, List.set_cons_succ, List.set_cons_zero]
                    refine wpAnyH_take (i := 14) (v := undef) rfl (by kernel_rfl) (by kernel_rfl) (by kernel_rfl) (fun _ _ _ h => h) (Or.inr ⟨by kernel_rfl, rfl⟩) (by first | exact M.out | exact M.out.take 9) ?_
                    try simp only [Act.put, List.getElem_toArray, List.getElem_cons_succ, List.getElem_cons_zero, List.setIfInBounds_toArray, List.set_cons_succ, List.set_cons_zero]
                    refine wpAnyH_take (i := 15) (v := undef) rfl (by kernel_rfl) (by kernel_rfl) (by kernel_rfl) (fun _ _ _ h => h) (Or.inr ⟨by kernel_rfl, rfl⟩) (by first | exact M.out | exact M.out.take 9) ?_
                    try simp only [Act.put, List.getElem_toArray, List.getElem_cons_succ, List.getElem_cons_zero, List.setIfInBounds_toArray, List.set_cons_succ, List.set_cons_zero]
                    refine wpAnyH_take (i := 16) (v := undef) rfl (by kernel_rfl) (by kernel_rfl) (by kernel_rfl) (fun _ _ _ h => h) (Or.inr ⟨by kernel_rfl, rfl⟩) (by first | exact M.out | exact M.out.take 9) ?_
                    try simp only [Act.put, List.getElem_toArray, List.getElem_cons_succ, List.getElem_cons_zero, List.setIfInBounds_toArray, List.set_cons_succ, List.set_cons_zero]
                    refine wpAnyH_take (i := 17) (v := undef) rfl (by kernel_rfl) (by kernel_rfl) (by kernel_rfl) (fun _ _ _ h => h) (Or.inr ⟨by kernel_rfl, rfl⟩) (by first | exact M.out | exact M.out.take 9) ?_
                    try simp only [Act.put, List.getElem_toArray, List.getElem_cons_succ, List.getElem_cons_zero, List.setIfInBounds_toArray, List.set_cons_succ, List.set_cons_zero]
                    refine wpAnyH_take (i := 18) (v := undef) rfl (by kernel_rfl) (by kernel_rfl) (by kernel_rfl) (fun _ _ _ h => h) (Or.inr ⟨by kernel_rfl, rfl⟩) (by first | exact M.out | exact M.out.take 9) ?_
                    try simp only [Act.put, List.getElem_toArray, List.getElem_cons_succ, List.getElem_cons_zero, List.setIfInBounds_toArray, List.set_cons_succ, List.set_cons_zero]
                    apply takeH (i := 19) 223 rfl (by kernel_rfl) (by kernel_rfl) (by kernel_rfl) (fun _ _ _ h => h) rfl (by first | exact M.out | exact M.out.take 9)
                    case' hy =>
                      refine Or.inl ⟨by first | rfl | (go_simp; done), ?_⟩
                      intro w hS
                      clear hS
                      go_simp
                      try with_reducible rfl
                    try simp only [Act.put, List.getElem_toArray, List.getElem_cons_succ, List.getElem_cons_zero, List.setIfInBounds_toArray, List.set_cons_succ, List.set_cons_zero]
                    apply takeH (i := 20) 27 rfl (by kernel_rfl) (by kernel_rfl) (by kernel_rfl) (fun _ _ _ h => h) rfl (by first | exact M.out | exact M.out.take 9)
                    case' hy =>
                      refine Or.inl ⟨by first | rfl | (go_simp; done), ?_⟩
                      intro w hS
                      clear hS
                      go_simp
                      try with_reducible rfl
                    try simp only [Act.put, List.getElem_toArray, List.getElem_cons_succ, List.getElem_cons_zero, List.setIfInBounds_toArray, List.set_cons_succ, List.set_cons_zero]
                    refine wpAnyH_done (by kernel_rfl) ?_ _
                    all_goals
                      go_wp2_with (first
                        | ((with_reducible refine gate_dst (N := 227) rfl ?_); refine gate_want rfl ?_; go_must (refine M.out.ev_ldw 8 _ _ rfl rfl rfl Tryz.underlying40 rfl (by exact sz40) rfl ?_))
                        | ((with_reducible refine gate_dst (N := 236) rfl ?_); refine gate_want rfl ?_; go_must (refine M.out.ev_ldw 5 _ _ rfl rfl rfl Tryz.underlying40 rfl (by exact sz40) rfl ?_))
                        | (go_at_call 24; go_must (first | (refine Calls.mono (calls_args (by with_reducible rfl) (HasCellS_any CF O.out.CFok i hlt2 _)) ?_; rintro e w_ ⟨rfl, N_⟩; have m := M.out.join N_; clear N_; simp only [List.cons_append, List.nil_append, List.append_nil] at m; have M := Lib.hid m; clear m; rw [CFI.out]) | (refine Calls.mono (calls_args (by with_reducible rfl) (HasCellS_any SF_ C.out.SFok i hlt2 _)) ?_; rintro e w_ ⟨rfl, N_⟩; have m := M.out.join N_; clear N_; simp only [List.cons_append, List.nil_append, List.append_nil] at m; have M := Lib.hid m; clear m; rw [SFI.out])))
                        )
                      exact ⟨⟨i + 1, hlt2, by go_num, M.out.take 9⟩, by simp [intOf]; omega⟩
                  | true =>
                    cases q2 : decide (fr ≤ x.bold) with
                    | false =>
                      have CFI := Lib.hid (show CF.has i = false by rw [hgo, q1, q2]; rfl)
                      clear hgo hfree hbest
                      go_wp2_with (first
                        | ((with_reducible refine gate_dst (N := 188) rfl ?_); go_must (refine M.out.ev_ldw 0 _ _ rfl rfl rfl Tryz.underlying29 rfl (by rw [S1.out]; exact sz29) rfl ?_))
                        | (go_at_call 23; go_must (refine (A2Is_any F WF.out.ok i _).mono ?_); rintro e w_ ⟨rfl, N_⟩; have m := M.out.join N_; clear N_; simp only [List.cons_append, List.nil_append, List.append_nil] at m; have M := Lib.hid m; clear m; rw [HH.out])
                        | ((with_reducible refine gate_dst (N := 196) rfl ?_); go_must (refine M.out.ev_ldw 0 _ _ rfl rfl rfl Tryz.underlying29 rfl (by rw [S1.out]; exact sz29) rfl ?_))
                        | ((with_reducible refine gate_dst (N := 199) rfl ?_); go_must (refine M.out.ev_ld 6 _ _ rfl rfl rfl Tryz.underlying26 rfl rfl XT.out ?_))
                        | (go_at_call 25; go_must (refine (SQ.out _).mono ?_); rintro e w_ ⟨rfl, N_⟩; have m := M.out.join N_; clear N_; simp only [List.cons_append, List.nil_append, List.append_nil] at m; have M := Lib.hid m; clear m)
                        )
                      refine region_anyH (fun w' => Mem w w' [.blk g5 29 F.cells, .blk g6 31 (ints .i16 fs), .row (.slice (some ⟨lb, lo, none⟩) xs.length cp) 48 6 xs.length (flat Flock.vals xs), .row (.slice A8 xs.length c8) 48 6 xs.length (flat Flock.vals xs), .blk g10 40 SF_.cells, .blk g12 40 SF_.cells, .blk g15 48 x.vals.toArray, .blk g16 40 CF.cells, .blk g18 40 CF.cells]) (by kernel_rfl) ?_
                      have m := M.out.drew
                      clear M
                      have M := Lib.hid m
                      clear m
                      apply takeH (i := 0) 204 rfl (by kernel_rfl) (by kernel_rfl) (by kernel_rfl) (fun _ _ _ h => h) rfl (by first | exact M.out | exact M.out.take 9)
                      case' hy =>
                        refine Or.inl ⟨by first | rfl | (go_simp; done), ?_⟩
                        intro w hS
                        clear hS
                        go_simp
                        try with_reducible rfl
                      try simp only [Act.put, List.getElem_toArray, List.getElem_cons_succ, List.getElem_cons_zero, List.setIfInBounds_toArray, List.set_cons_succ, List.set_cons_zero]
                      apply takeH (i := 1) 205 rfl (by kernel_rfl) (by kernel_rfl) (by kernel_rfl) (fun _ _ _ h => h) rfl (by first | exact M.out | exact M.out.take 9)
                      case' hy =>
                        refine Or.inl ⟨by first | rfl | (go_simp; done), ?_⟩
                        intro w hS
                        clear hS
                        go_simp
                        try with_reducible rfl
                      try simp only [Act.put, List.getElem_toArray, List.getElem_cons_succ, List.getElem_cons_zero, List.setIfInBounds_toArray, List.set_cons_succ, List.set_cons_zero]
                      apply takeH (i := 2) 206 rfl (by kernel_rfl) (by kernel_rfl) (by kernel_rfl) (fun _ _ _ h => h) rfl (by first | exact M.out | exact M.out.take 9)
                      case' hy =>
                        refine Or.inl ⟨by first | rfl | (go_simp; done), ?_⟩
                        intro w hS
                        clear hS
                        go_simp
                        try with_reducible rfl
                      try simp only [Act.put, List.getElem_toArray, List.getElem_cons_succ, List.getElem_cons_zero, List.setIfInBounds_toArray, List.set_cons_succ, List.set_cons_zero]
                      apply takeH (i := 3) 207 rfl (by kernel_rfl) (by kernel_rfl) (by kernel_rfl) (fun _ _ _ h => h) rfl (by first | exact M.out | exact M.out.take 9)
                      case' hy => exact ylds _ _ rfl rfl Tryz.underlying26 rfl rfl (fun w' hS => hS.cell 0 rfl XS.out)
                      try simp only [Act.put, List.getElem_toArray, List.getElem_cons_succ, List.getElem_cons_zero, List.setIfInBounds_toArray, List.set_cons_succ, List.set_cons_zero]
                      apply takeH (i := 4) 208 rfl (by kernel_rfl) (by kernel_rfl) (by kernel_rfl) (fun _ _ _ h => h) rfl (by first | exact M.out | exact M.out.take 9)
                      case' hy =>
                        refine Or.inl ⟨by first | rfl | (go_simp; done), ?_⟩
                        intro w hS
                        clear hS
                        go_simp
                        try with_reducible rfl
                      try simp only [Act.put, List.getElem_toArray, List.getElem_cons_succ, List.getElem_cons_zero, List.setIfInBounds_toArray, List.set_cons_succ, List.set_cons_zero]
                      apply takeH (i := 5) 209 rfl (by kernel_rfl) (by kernel_rfl) (by kernel_rfl) (fun _ _ _ h => h) rfl (by first | exact M.out | exact M.out.take 9)
                      case' hy =>
                        refine Or.inl ⟨by first | rfl | (go_simp; done), ?_⟩
                        intro w hS
                        clear hS
                        go_simp
                        try with_reducible rfl
                      try simp only [Act.put, List.getElem_toArray, List.getElem_cons_succ, List.getElem_cons_zero, List.setIfInBounds_toArray, List.set_cons_succ, List.set_cons_zero]
                      apply takeH (i := 6) 210 rfl (by kernel_rfl) (by kernel_rfl) (by kernel_rfl) (fun _ _ _ h => h) rfl (by first | exact M.out | exact M.out.take 9)
                      case' hy =>
                        refine Or.inl ⟨by first | rfl | (go_simp; done), ?_⟩
                        intro w hS
                        clear hS
                        go_simp
                        try with_reducible rfl
                      try simp only [Act.put, List.getElem_toArray, List.getElem_cons_succ, List.getElem_cons_zero, List.setIfInBounds_toArray, List.set_cons_succ, List.set_cons_zero]
                      apply takeH (i := 7) 211 rfl (by kernel_rfl) (by kernel_rfl) (by kernel_rfl) (fun _ _ _ h => h) rfl (by first | exact M.out | exact M.out.take 9)
                      case' hy =>
                        refine Or.inl ⟨by first | rfl | (go_simp; done), ?_⟩
                        intro w hS
                        clear hS
                        go_simp
                        try with_reducible rfl
                      try simp only [Act.put, List.getElem_toArray, List.getElem_cons_succ, List.getElem_cons_zero, List.setIfInBounds_toArray, List.set_cons_succ, List.set_cons_zero]
                      apply takeH (i := 8) 212 rfl (by kernel_rfl) (by kernel_rfl) (by kernel_rfl) (fun _ _ _ h => h) rfl (by first | exact M.out | exact M.out.take 9)
                      case' hy => exact yldsW _ _ rfl (by first | rfl | (go_simp; done)) Tryz.underlying26 rfl rfl (fun w' hS => hS.cell 1 rfl XF.out)
                      try simp only [Act.put, List.getElem_toArray, List.getElem_cons_succ, List.getElem_cons_zero, List.setIfInBounds_toArray, List.set_cons_succ, List.set_cons_zero]
                      apply takeH (i := 9) 213 rfl (by kernel_rfl) (by kernel_rfl) (by kernel_rfl) (fun _ _ _ h => h) rfl (by first | exact M.out | exact M.out.take 9)
                      case' hy =>
                        refine Or.inl ⟨by first | rfl | (go_simp; done), ?_⟩
                        intro w hS
                        clear hS
                        go_simp
                        try with_reducible rfl
                      try simp only [Act.put, List.getElem_toArray, List.getElem_cons_succ, List.getElem_cons_zero, List.setIfInBounds_toArray, List.set_cons_succ, List.set_cons_zero]
                      apply takeH (i := 10) 214 rfl (by kernel_rfl) (by kernel_rfl) (by kernel_rfl) (fun _ _ _ h => h) rfl (by first | exact M.out | exact M.out.take 9)
                      case' hy => exact yldsW _ _ rfl (by first | rfl | (go_simp; done)) Tryz.underlying26 rfl rfl (fun w' hS => hS.cell 6 rfl XB.out)
                      try simp only [Act.put, List.getElem_toArray, List.getElem_cons_succ, List.getElem_cons_zero, List.setIfInBounds_toArray, List.set_cons_succ, List.set_cons_zero]
                      apply takeH (i := 11) 215 rfl (by kernel_rfl) (by kernel_rfl) (by kernel_rfl) (fun _ _ _ h => h) rfl (by first | exact M.out | exact M.out.take 9)
                      case' hy =>
                        refine Or.inl ⟨by first | rfl | (go_simp; done), ?_⟩
                        intro w hS
                        clear hS
                        go_simp
                        try with_reducible rfl
                      try simp only [Act.put, List.getElem_toArray, List.getElem_cons_succ, List.getElem_cons_zero, List.setIfInBounds_toArray, List.set_cons_succ, List.set_cons_zero]
                      apply takeH (i := 12) 216 rfl (by kernel_rfl) (by kernel_rfl) (by kernel_rfl) (fun _ _ _ h => h) rfl (by first | exact M.out | exact M.out.take 9)
                      case' hy =>
                        refine Or.inl ⟨by first | rfl | (go_simp; done), ?_⟩
                        intro w hS
                        clear hS
                        go_simp
                        try with_reducible rfl
                      try simp only [Act.put, List.getElem_toArray, List.getElem_cons_succ, List.getElem_cons_zero, List.setIfInBounds_toArray, List.set_cons_succ, List.set_cons_zero]
                      apply takeH (i := 13) 217 rfl (by kernel_rfl) (by kernel_rfl) (by kernel_rfl) (fun _ _ _ h => h) rfl (by first | exact M.out | exact M.out.take 9)
                      case' hy =>
                        refine Or.inl ⟨by first | rfl | (go_simp; done), ?_⟩
                        intro w hS
                        clear hS
                        go_simp
                        try with_reducible rfl
                      try simp only [Act.put, List.getElem_toArray, List.getElem_cons_succ, List.getElem_cons_zero, List.setIfInBounds_toArray, List.set_cons_succ, List.set_cons_zero]
                      refine wpAnyH_take (i := 14) (v := undef) rfl (by kernel_rfl) (by kernel_rfl) (by kernel_rfl) (fun _ _ _ h => h) (Or.inr ⟨by kernel_rfl, rfl⟩) (by first | exact M.out | exact M.out.take 9) ?_
                      try simp only [Act.put, List.getElem_toArray, List.getElem_cons_succ, List.getElem_cons_zero, List.setIfInBounds_toArray, List.set_cons_succ, List.set_cons_zero]
                      refine wpAnyH_take (i := 15) (v := undef) rfl (by kernel_rfl) (by kernel_rfl) (by kernel_rfl) (fun _ _ _ h => h) (Or.inr ⟨by kernel_rfl, rfl⟩) (by first | exact M.out | exact M.out.take 9) ?_
                      try simp only [Act.put, List.getElem_toArray, List.getElem_cons_succ, List.getElem_cons_zero, List.setIfInBounds_toArray, List.set_cons_succ, List.set_cons_zero]
                      refine wpAnyH_take (i := 16) (v := undef) rfl (by kernel_rfl) (by kernel_rfl) (by kernel_rfl) (fun _ _ _ h => h) (Or.inr ⟨by kernel_rfl, rfl⟩) (by first | exact M.out | exact M.out.take 9) ?_
                      try simp only [Act.put, List.getElem_toArray, List.getElem_cons_succ, List.getElem_cons_zero, List.setIfInBounds_toArray, List.set_cons_succ, List.set_cons_zero]
                      refine wpAnyH_take (i := 17) (v := undef) rfl (by kernel_rfl) (by kernel_rfl) (by kernel_rfl) (fun _ _ _ h => h) (Or.inr ⟨by kernel_rfl, rfl⟩) (by first | exact M.out | exact M.out.take 9) ?_
                      try simp only [Act.put, List.getElem_toArray, List.getElem_cons_succ, List.getElem_cons_zero, List.setIfInBounds_toArray, List.set_cons_succ, List.set_cons_zero]
                      refine wpAnyH_take (i := 18) (v := undef) rfl (by kernel_rfl) (by kernel_rfl) (by kernel_rfl) (fun _ _ _ h => h) (Or.inr ⟨by kernel_rfl, rfl⟩) (by first | exact M.out | exact M.out.take 9) ?_
                      try simp only [Act.put, List.getElem_toArray, List.getElem_cons_succ, List.getElem_cons_zero, List.setIfInBounds_toArray, List.set_cons_succ, List.set_cons_zero]
                      apply takeH (i := 19) 223 rfl (by kernel_rfl) (by kernel_rfl) (by kernel_rfl) (fun _ _ _ h => h) rfl (by first | exact M.out | exact M.out.take 9)
                      case' hy =>
                        refine Or.inl ⟨by first | rfl | (go_simp; done), ?_⟩
                        intro w hS
                        clear hS
                        go_simp
                        try with_reducible rfl
                      try simp only [Act.put, List.getElem_toArray, List.getElem_cons_succ, List.getElem_cons_zero, List.setIfInBounds_toArray, List.set_cons_succ, List.set_cons_zero]
                      apply takeH (i := 20) 27 rfl (by kernel_rfl) (by kernel_rfl) (by kernel_rfl) (fun _ _ _ h => h) rfl (by first | exact M.out | exact M.out.take 9)
                      case' hy =>
                        refine Or.inl ⟨by first | rfl | (go_simp; done), ?_⟩
                        intro w hS
                        clear hS
                        go_simp
                        try with_reducible rfl
                      try simp only [Act.put, List.getElem_toArray, List.getElem_cons_succ, List.getElem_cons_zero, List.setIfInBounds_toArray, List.set_cons_succ, List.set_cons_zero]
                      refine wpAnyH_done (by kernel_rfl) ?_ _
                      all_goals
                        go_wp2_with (first
                          | ((with_reducible refine gate_dst (N := 227) rfl ?_); refine gate_want rfl ?_; go_must (refine M.out.ev_ldw 8 _ _ rfl rfl rfl Tryz.underlying40 rfl (by exact sz40) rfl ?_))
                          | ((with_reducible refine gate_dst (N := 236) rfl ?_); refine gate_want rfl ?_; go_must (refine M.out.ev_ldw 5 _ _ rfl rfl rfl Tryz.underlying40 rfl (by exact sz40) rfl ?_))
                          | (go_at_call 24; go_must (first | (refine Calls.mono (calls_args (by with_reducible rfl) (HasCellS_any CF O.out.CFok i hlt2 _)) ?_; rintro e w_ ⟨rfl, N_⟩; have m := M.out.join N_; clear N_; simp only [List.cons_append, List.nil_append, List.append_nil] at m; have M := Lib.hid m; clear m; rw [CFI.out]) | (refine Calls.mono (calls_args (by with_reducible rfl) (HasCellS_any SF_ C.out.SFok i hlt2 _)) ?_; rintro e w_ ⟨rfl, N_⟩; have m := M.out.join N_; clear N_; simp only [List.cons_append, List.nil_append, List.append_nil] at m; have M := Lib.hid m; clear m; rw [SFI.out])))
                          )
                        exact ⟨⟨i + 1, hlt2, by go_num, M.out.take 9⟩, by simp [intOf]; omega⟩
                    | true =>
                      cases q3 : decide (sq_ ≤ x.reach) with
                      | false =>
                        have CFI := Lib.hid (show CF.has i = false by rw [hgo, q1, q2, q3]; rfl)
                        clear hgo hfree hbest
                        go_wp2_with (first
                          | ((with_reducible refine gate_dst (N := 188) rfl ?_); go_must (refine M.out.ev_ldw 0 _ _ rfl rfl rfl Tryz.underlying29 rfl (by rw [S1.out]; exact sz29) rfl ?_))
                          | (go_at_call 23; go_must (refine (A2Is_any F WF.out.ok i _).mono ?_); rintro e w_ ⟨rfl, N_⟩; have m := M.out.join N_; clear N_; simp only [List.cons_append, List.nil_append, List.append_nil] at m; have M := Lib.hid m; clear m; rw [HH.out])
                          | ((with_reducible refine gate_dst (N := 196) rfl ?_); go_must (refine M.out.ev_ldw 0 _ _ rfl rfl rfl Tryz.underlying29 rfl (by rw [S1.out]; exact sz29) rfl ?_))
                          | ((with_reducible refine gate_dst (N := 199) rfl ?_); go_must (refine M.out.ev_ld 6 _ _ rfl rfl rfl Tryz.underlying26 rfl rfl XT.out ?_))
                          | (go_at_call 25; go_must (refine (SQ.out _).mono ?_); rintro e w_ ⟨rfl, N_⟩; have m := M.out.join N_; clear N_; simp only [List.cons_append, List.nil_append, List.append_nil] at m; have M := Lib.hid m; clear m)
                          )
                        refine region_anyH (fun w' => Mem w w' [.blk g5 29 F.cells, .blk g6 31 (ints .i16 fs), .row (.slice (some ⟨lb, lo, none⟩) xs.length cp) 48 6 xs.length (flat Flock.vals xs), .row (.slice A8 xs.length c8) 48 6 xs.length (flat Flock.vals xs), .blk g10 40 SF_.cells, .blk g12 40 SF_.cells, .blk g15 48 x.vals.toArray, .blk g16 40 CF.cells, .blk g18 40 CF.cells]) (by kernel_rfl) ?_
                        have m := M.out.drew
                        clear M
                        have M := Lib.hid m
                        clear m
                        apply takeH (i := 0) 204 rfl (by kernel_rfl) (by kernel_rfl) (by kernel_rfl) (fun _ _ _ h => h) rfl (by first | exact M.out | exact M.out.take 9)
                        case' hy =>
                          refine Or.inl ⟨by first | rfl | (go_simp; done), ?_⟩
                          intro w hS
                          clear hS
                          go_simp
                          try with_reducible rfl
                        try simp only [Act.put, List.getElem_toArray, List.getElem_cons_succ, List.getElem_cons_zero, List.setIfInBounds_toArray, List.set_cons_succ, List.set_cons_zero]
                        apply takeH (i := 1) 205 rfl (by kernel_rfl) (by kernel_rfl) (by kernel_rfl) (fun _ _ _ h => h) rfl (by first | exact M.out | exact M.out.take 9)
                        case' hy =>
                          refine Or.inl ⟨by first | rfl | (go_simp; done), ?_⟩
                          intro w hS
                          clear hS
                          go_simp
                          try with_reducible rfl
                        try simp only [Act.put, List.getElem_toArray, List.getElem_cons_succ, List.getElem_cons_zero, List.setIfInBounds_toArray, List.set_cons_succ, List.set_cons_zero]
                        apply takeH (i := 2) 206 rfl (by kernel_rfl) (by kernel_rfl) (by kernel_rfl) (fun _ _ _ h => h) rfl (by first | exact M.out | exact M.out.take 9)
                        case' hy =>
                          refine Or.inl ⟨by first | rfl | (go_simp; done), ?_⟩
                          intro w hS
                          clear hS
                          go_simp
                          try with_reducible rfl
                        try simp only [Act.put, List.getElem_toArray, List.getElem_cons_succ, List.getElem_cons_zero, List.setIfInBounds_toArray, List.set_cons_succ, List.set_cons_zero]
                        apply takeH (i := 3) 207 rfl (by kernel_rfl) (by kernel_rfl) (by kernel_rfl) (fun _ _ _ h => h) rfl (by first | exact M.out | exact M.out.take 9)
                        case' hy => exact ylds _ _ rfl rfl Tryz.underlying26 rfl rfl (fun w' hS => hS.cell 0 rfl XS.out)
                        try simp only [Act.put, List.getElem_toArray, List.getElem_cons_succ, List.getElem_cons_zero, List.setIfInBounds_toArray, List.set_cons_succ, List.set_cons_zero]
                        apply takeH (i := 4) 208 rfl (by kernel_rfl) (by kernel_rfl) (by kernel_rfl) (fun _ _ _ h => h) rfl (by first | exact M.out | exact M.out.take 9)
                        case' hy =>
                          refine Or.inl ⟨by first | rfl | (go_simp; done), ?_⟩
                          intro w hS
                          clear hS
                          go_simp
                          try with_reducible rfl
                        try simp only [Act.put, List.getElem_toArray, List.getElem_cons_succ, List.getElem_cons_zero, List.setIfInBounds_toArray, List.set_cons_succ, List.set_cons_zero]
                        apply takeH (i := 5) 209 rfl (by kernel_rfl) (by kernel_rfl) (by kernel_rfl) (fun _ _ _ h => h) rfl (by first | exact M.out | exact M.out.take 9)
                        case' hy =>
                          refine Or.inl ⟨by first | rfl | (go_simp; done), ?_⟩
                          intro w hS
                          clear hS
                          go_simp
                          try with_reducible rfl
                        try simp only [Act.put, List.getElem_toArray, List.getElem_cons_succ, List.getElem_cons_zero, List.setIfInBounds_toArray, List.set_cons_succ, List.set_cons_zero]
                        apply takeH (i := 6) 210 rfl (by kernel_rfl) (by kernel_rfl) (by kernel_rfl) (fun _ _ _ h => h) rfl (by first | exact M.out | exact M.out.take 9)
                        case' hy =>
                          refine Or.inl ⟨by first | rfl | (go_simp; done), ?_⟩
                          intro w hS
                          clear hS
                          go_simp
                          try with_reducible rfl
                        try simp only [Act.put, List.getElem_toArray, List.getElem_cons_succ, List.getElem_cons_zero, List.setIfInBounds_toArray, List.set_cons_succ, List.set_cons_zero]
                        apply takeH (i := 7) 211 rfl (by kernel_rfl) (by kernel_rfl) (by kernel_rfl) (fun _ _ _ h => h) rfl (by first | exact M.out | exact M.out.take 9)
                        case' hy =>
                          refine Or.inl ⟨by first | rfl | (go_simp; done), ?_⟩
                          intro w hS
                          clear hS
                          go_simp
                          try with_reducible rfl
                        try simp only [Act.put, List.getElem_toArray, List.getElem_cons_succ, List.getElem_cons_zero, List.setIfInBounds_toArray, List.set_cons_succ, List.set_cons_zero]
                        apply takeH (i := 8) 212 rfl (by kernel_rfl) (by kernel_rfl) (by kernel_rfl) (fun _ _ _ h => h) rfl (by first | exact M.out | exact M.out.take 9)
                        case' hy => exact yldsW _ _ rfl (by first | rfl | (go_simp; done)) Tryz.underlying26 rfl rfl (fun w' hS => hS.cell 1 rfl XF.out)
                        try simp only [Act.put, List.getElem_toArray, List.getElem_cons_succ, List.getElem_cons_zero, List.setIfInBounds_toArray, List.set_cons_succ, List.set_cons_zero]
                        apply takeH (i := 9) 213 rfl (by kernel_rfl) (by kernel_rfl) (by kernel_rfl) (fun _ _ _ h => h) rfl (by first | exact M.out | exact M.out.take 9)
                        case' hy =>
                          refine Or.inl ⟨by first | rfl | (go_simp; done), ?_⟩
                          intro w hS
                          clear hS
                          go_simp
                          try with_reducible rfl
                        try simp only [Act.put, List.getElem_toArray, List.getElem_cons_succ, List.getElem_cons_zero, List.setIfInBounds_toArray, List.set_cons_succ, List.set_cons_zero]
                        apply takeH (i := 10) 214 rfl (by kernel_rfl) (by kernel_rfl) (by kernel_rfl) (fun _ _ _ h => h) rfl (by first | exact M.out | exact M.out.take 9)
                        case' hy => exact yldsW _ _ rfl (by first | rfl | (go_simp; done)) Tryz.underlying26 rfl rfl (fun w' hS => hS.cell 6 rfl XB.out)
                        try simp only [Act.put, List.getElem_toArray, List.getElem_cons_succ, List.getElem_cons_zero, List.setIfInBounds_toArray, List.set_cons_succ, List.set_cons_zero]
                        apply takeH (i := 11) 215 rfl (by kernel_rfl) (by kernel_rfl) (by kernel_rfl) (fun _ _ _ h => h) rfl (by first | exact M.out | exact M.out.take 9)
                        case' hy =>
                          refine Or.inl ⟨by first | rfl | (go_simp; done), ?_⟩
                          intro w hS
                          clear hS
                          go_simp
                          try with_reducible rfl
                        try simp only [Act.put, List.getElem_toArray, List.getElem_cons_succ, List.getElem_cons_zero, List.setIfInBounds_toArray, List.set_cons_succ, List.set_cons_zero]
                        apply takeH (i := 12) 216 rfl (by kernel_rfl) (by kernel_rfl) (by kernel_rfl) (fun _ _ _ h => h) rfl (by first | exact M.out | exact M.out.take 9)
                        case' hy =>
                          refine Or.inl ⟨by first | rfl | (go_simp; done), ?_⟩
                          intro w hS
                          clear hS
                          go_simp
                          try with_reducible rfl
                        try simp only [Act.put, List.getElem_toArray, List.getElem_cons_succ, List.getElem_cons_zero, List.setIfInBounds_toArray, List.set_cons_succ, List.set_cons_zero]
                        apply takeH (i := 13) 217 rfl (by kernel_rfl) (by kernel_rfl) (by kernel_rfl) (fun _ _ _ h => h) rfl (by first | exact M.out | exact M.out.take 9)
                        case' hy =>
                          refine Or.inl ⟨by first | rfl | (go_simp; done), ?_⟩
                          intro w hS
                          clear hS
                          go_simp
                          try with_reducible rfl
                        try simp only [Act.put, List.getElem_toArray, List.getElem_cons_succ, List.getElem_cons_zero, List.setIfInBounds_toArray, List.set_cons_succ, List.set_cons_zero]
                        apply takeH (i := 14) 218 rfl (by kernel_rfl) (by kernel_rfl) (by kernel_rfl) (fun _ _ _ h => h) rfl (by first | exact M.out | exact M.out.take 9)
                        case' hy =>
                          refine Or.inl ⟨by first | rfl | (go_simp; done), ?_⟩
                          intro w hS
                          clear hS
                          go_simp
                          try with_reducible rfl
                        try simp only [Act.put, List.getElem_toArray, List.getElem_cons_succ, List.getElem_cons_zero, List.setIfInBounds_toArray, List.set_cons_succ, List.set_cons_zero]
                        apply takeH (i := 15) 219 rfl (by kernel_rfl) (by kernel_rfl) (by kernel_rfl) (fun _ _ _ h => h) rfl (by first | exact M.out | exact M.out.take 9)
                        case' hy =>
                          refine Or.inl ⟨by first | rfl | (go_simp; done), ?_⟩
                          intro w hS
                          clear hS
                          go_simp
                          try with_reducible rfl
                        try simp only [Act.put, List.getElem_toArray, List.getElem_cons_succ, List.getElem_cons_zero, List.setIfInBounds_toArray, List.set_cons_succ, List.set_cons_zero]
                        apply takeH (i := 16) 220 rfl (by kernel_rfl) (by kernel_rfl) (by kernel_rfl) (fun _ _ _ h => h) rfl (by first | exact M.out | exact M.out.take 9)
                        case' hy => exact yldsW _ _ rfl (by first | rfl | (go_simp; done)) Tryz.underlying26 rfl rfl (fun w' hS => hS.cell 6 rfl XR.out)
                        try simp only [Act.put, List.getElem_toArray, List.getElem_cons_succ, List.getElem_cons_zero, List.setIfInBounds_toArray, List.set_cons_succ, List.set_cons_zero]
                        apply takeH (i := 17) 221 rfl (by kernel_rfl) (by kernel_rfl) (by kernel_rfl) (fun _ _ _ h => h) rfl (by first | exact M.out | exact M.out.take 9)
                        case' hy =>
                          refine Or.inl ⟨by first | rfl | (go_simp; done), ?_⟩
                          intro w hS
                          clear hS
                          go_simp
                          try with_reducible rfl
                        try simp only [Act.put, List.getElem_toArray, List.getElem_cons_succ, List.getElem_cons_zero, List.setIfInBounds_toArray, List.set_cons_succ, List.set_cons_zero]
                        apply takeH (i := 18) 222 rfl (by kernel_rfl) (by kernel_rfl) (by kernel_rfl) (fun _ _ _ h => h) rfl (by first | exact M.out | exact M.out.take 9)
                        case' hy =>
                          refine Or.inl ⟨by first | rfl | (go_simp; done), ?_⟩
                          intro w hS
                          clear hS
                          go_simp
                          try with_reducible rfl
                        try simp only [Act.put, List.getElem_toArray, List.getElem_cons_succ, List.getElem_cons_zero, List.setIfInBounds_toArray, List.set_cons_succ, List.set_cons_zero]
                        apply takeH (i := 19) 223 rfl (by kernel_rfl) (by kernel_rfl) (by kernel_rfl) (fun _ _ _ h => h) rfl (by first | exact M.out | exact M.out.take 9)
                        case' hy =>
                          refine Or.inl ⟨by first | rfl | (go_simp; done), ?_⟩
                          intro w hS
                          clear hS
                          go_simp
                          try with_reducible rfl
                        try simp only [Act.put, List.getElem_toArray, List.getElem_cons_succ, List.getElem_cons_zero, List.setIfInBounds_toArray, List.set_cons_succ, List.set_cons_zero]
                        apply takeH (i := 20) 27 rfl (by kernel_rfl) (by kernel_rfl) (by kernel_rfl) (fun _ _ _ h => h) rfl (by first | exact M.out | exact M.out.take 9)
                        case' hy =>
                          refine Or.inl ⟨by first | rfl | (go_simp; done), ?_⟩
                          intro w hS
                          clear hS
                          go_simp
                          try with_reducible rfl
                        try simp only [Act.put, List.getElem_toArray, List.getElem_cons_succ, List.getElem_cons_zero, List.setIfInBounds_toArray, List.set_cons_succ, List.set_cons_zero]
                        refine wpAnyH_done (by kernel_rfl) ?_ _
                        all_goals
                          go_wp2_with (first
                            | ((with_reducible refine gate_dst (N := 227) rfl ?_); refine gate_want rfl ?_; go_must (refine M.out.ev_ldw 8 _ _ rfl rfl rfl Tryz.underlying40 rfl (by exact sz40) rfl ?_))
                            | ((with_reducible refine gate_dst (N := 236) rfl ?_); refine gate_want rfl ?_; go_must (refine M.out.ev_ldw 5 _ _ rfl rfl rfl Tryz.underlying40 rfl (by exact sz40) rfl ?_))
                            | (go_at_call 24; go_must (first | (refine Calls.mono (calls_args (by with_reducible rfl) (HasCellS_any CF O.out.CFok i hlt2 _)) ?_; rintro e w_ ⟨rfl, N_⟩; have m := M.out.join N_; clear N_; simp only [List.cons_append, List.nil_append, List.append_nil] at m; have M := Lib.hid m; clear m; rw [CFI.out]) | (refine Calls.mono (calls_args (by with_reducible rfl) (HasCellS_any SF_ C.out.SFok i hlt2 _)) ?_; rintro e w_ ⟨rfl, N_⟩; have m := M.out.join N_; clear N_; simp only [List.cons_append, List.nil_append, List.append_nil] at m; have M := Lib.hid m; clear m; rw [SFI.out])))
                            )
                          exact ⟨⟨i + 1, hlt2, by go_num, M.out.take 9⟩, by simp [intOf]; omega⟩
                      | true =>
                        have hci : CF.has i = true := by rw [hgo, q1, q2, q3]; rfl
                        have CFI := Lib.hid hci
                        have SFI := Lib.hid (hfree hci)
                        obtain ⟨b0, b1, b2⟩ := hbest hci
                        clear hgo hfree hbest hci
                        rcases (show x.taste = 0 ∨ x.taste = 1 ∨ x.taste = 2 by have := O.out.b.2.2.2; omega) with ht | ht | ht
                        · have f0 : decide (sdc < sd) = false := decide_eq_false (by have := b0 ht; omega)
                          have t0 : (x.taste == 0) = true := by rw [ht]; rfl
                          have t1 : (x.taste == 1) = false := by rw [ht]; rfl
                          have t2 : (x.taste == 2) = false := by rw [ht]; rfl
                          clear b0 b1 b2 ht
                          go_wp2_with (first
                            | ((with_reducible refine gate_dst (N := 188) rfl ?_); go_must (refine M.out.ev_ldw 0 _ _ rfl rfl rfl Tryz.underlying29 rfl (by rw [S1.out]; exact sz29) rfl ?_))
                            | (go_at_call 23; go_must (refine (A2Is_any F WF.out.ok i _).mono ?_); rintro e w_ ⟨rfl, N_⟩; have m := M.out.join N_; clear N_; simp only [List.cons_append, List.nil_append, List.append_nil] at m; have M := Lib.hid m; clear m; rw [HH.out])
                            | ((with_reducible refine gate_dst (N := 196) rfl ?_); go_must (refine M.out.ev_ldw 0 _ _ rfl rfl rfl Tryz.underlying29 rfl (by rw [S1.out]; exact sz29) rfl ?_))
                            | ((with_reducible refine gate_dst (N := 199) rfl ?_); go_must (refine M.out.ev_ld 6 _ _ rfl rfl rfl Tryz.underlying26 rfl rfl XT.out ?_))
                            | (go_at_call 25; go_must (refine (SQ.out _).mono ?_); rintro e w_ ⟨rfl, N_⟩; have m := M.out.join N_; clear N_; simp only [List.cons_append, List.nil_append, List.append_nil] at m; have M := Lib.hid m; clear m)
                            )
                          refine region_anyH (fun w' => Mem w w' [.blk g5 29 F.cells, .blk g6 31 (ints .i16 fs), .row (.slice (some ⟨lb, lo, none⟩) xs.length cp) 48 6 xs.length (flat Flock.vals xs), .row (.slice A8 xs.length c8) 48 6 xs.length (flat Flock.vals xs), .blk g10 40 SF_.cells, .blk g12 40 SF_.cells, .blk g15 48 x.vals.toArray, .blk g16 40 CF.cells, .blk g18 40 CF.cells]) (by kernel_rfl) ?_
                          have m := M.out.drew
                          clear M
                          have M := Lib.hid m
                          clear m
                          apply takeH (i := 0) 204 rfl (by kernel_rfl) (by kernel_rfl) (by kernel_rfl) (fun _ _ _ h => h) rfl (by first | exact M.out | exact M.out.take 9)
                          case' hy =>
                            refine Or.inl ⟨by first | rfl | (go_simp; done), ?_⟩
                            intro w hS
                            clear hS
                            go_simp
                            try with_reducible rfl
                          try simp only [Act.put, List.getElem_toArray, List.getElem_cons_succ, List.getElem_cons_zero, List.setIfInBounds_toArray, List.set_cons_succ, List.set_cons_zero]
                          apply takeH (i := 1) 205 rfl (by kernel_rfl) (by kernel_rfl) (by kernel_rfl) (fun _ _ _ h => h) rfl (by first | exact M.out | exact M.out.take 9)
                          case' hy =>
                            refine Or.inl ⟨by first | rfl | (go_simp; done), ?_⟩
                            intro w hS
                            clear hS
                            go_simp
                            try with_reducible rfl
                          try simp only [Act.put, List.getElem_toArray, List.getElem_cons_succ, List.getElem_cons_zero, List.setIfInBounds_toArray, List.set_cons_succ, List.set_cons_zero]
                          apply takeH (i := 2) 206 rfl (by kernel_rfl) (by kernel_rfl) (by kernel_rfl) (fun _ _ _ h => h) rfl (by first | exact M.out | exact M.out.take 9)
                          case' hy =>
                            refine Or.inl ⟨by first | rfl | (go_simp; done), ?_⟩
                            intro w hS
                            clear hS
                            go_simp
                            try with_reducible rfl
                          try simp only [Act.put, List.getElem_toArray, List.getElem_cons_succ, List.getElem_cons_zero, List.setIfInBounds_toArray, List.set_cons_succ, List.set_cons_zero]
                          apply takeH (i := 3) 207 rfl (by kernel_rfl) (by kernel_rfl) (by kernel_rfl) (fun _ _ _ h => h) rfl (by first | exact M.out | exact M.out.take 9)
                          case' hy => exact ylds _ _ rfl rfl Tryz.underlying26 rfl rfl (fun w' hS => hS.cell 0 rfl XS.out)
                          try simp only [Act.put, List.getElem_toArray, List.getElem_cons_succ, List.getElem_cons_zero, List.setIfInBounds_toArray, List.set_cons_succ, List.set_cons_zero]
                          apply takeH (i := 4) 208 rfl (by kernel_rfl) (by kernel_rfl) (by kernel_rfl) (fun _ _ _ h => h) rfl (by first | exact M.out | exact M.out.take 9)
                          case' hy =>
                            refine Or.inl ⟨by first | rfl | (go_simp; done), ?_⟩
                            intro w hS
                            clear hS
                            go_simp
                            try with_reducible rfl
                          try simp only [Act.put, List.getElem_toArray, List.getElem_cons_succ, List.getElem_cons_zero, List.setIfInBounds_toArray, List.set_cons_succ, List.set_cons_zero]
                          apply takeH (i := 5) 209 rfl (by kernel_rfl) (by kernel_rfl) (by kernel_rfl) (fun _ _ _ h => h) rfl (by first | exact M.out | exact M.out.take 9)
                          case' hy =>
                            refine Or.inl ⟨by first | rfl | (go_simp; done), ?_⟩
                            intro w hS
                            clear hS
                            go_simp
                            try with_reducible rfl
                          try simp only [Act.put, List.getElem_toArray, List.getElem_cons_succ, List.getElem_cons_zero, List.setIfInBounds_toArray, List.set_cons_succ, List.set_cons_zero]
                          apply takeH (i := 6) 210 rfl (by kernel_rfl) (by kernel_rfl) (by kernel_rfl) (fun _ _ _ h => h) rfl (by first | exact M.out | exact M.out.take 9)
                          case' hy =>
                            refine Or.inl ⟨by first | rfl | (go_simp; done), ?_⟩
                            intro w hS
                            clear hS
                            go_simp
                            try with_reducible rfl
                          try simp only [Act.put, List.getElem_toArray, List.getElem_cons_succ, List.getElem_cons_zero, List.setIfInBounds_toArray, List.set_cons_succ, List.set_cons_zero]
                          apply takeH (i := 7) 211 rfl (by kernel_rfl) (by kernel_rfl) (by kernel_rfl) (fun _ _ _ h => h) rfl (by first | exact M.out | exact M.out.take 9)
                          case' hy =>
                            refine Or.inl ⟨by first | rfl | (go_simp; done), ?_⟩
                            intro w hS
                            clear hS
                            go_simp
                            try with_reducible rfl
                          try simp only [Act.put, List.getElem_toArray, List.getElem_cons_succ, List.getElem_cons_zero, List.setIfInBounds_toArray, List.set_cons_succ, List.set_cons_zero]
                          apply takeH (i := 8) 212 rfl (by kernel_rfl) (by kernel_rfl) (by kernel_rfl) (fun _ _ _ h => h) rfl (by first | exact M.out | exact M.out.take 9)
                          case' hy => exact yldsW _ _ rfl (by first | rfl | (go_simp; done)) Tryz.underlying26 rfl rfl (fun w' hS => hS.cell 1 rfl XF.out)
                          try simp only [Act.put, List.getElem_toArray, List.getElem_cons_succ, List.getElem_cons_zero, List.setIfInBounds_toArray, List.set_cons_succ, List.set_cons_zero]
                          apply takeH (i := 9) 213 rfl (by kernel_rfl) (by kernel_rfl) (by kernel_rfl) (fun _ _ _ h => h) rfl (by first | exact M.out | exact M.out.take 9)
                          case' hy =>
                            refine Or.inl ⟨by first | rfl | (go_simp; done), ?_⟩
                            intro w hS
                            clear hS
                            go_simp
                            try with_reducible rfl
                          try simp only [Act.put, List.getElem_toArray, List.getElem_cons_succ, List.getElem_cons_zero, List.setIfInBounds_toArray, List.set_cons_succ, List.set_cons_zero]
                          apply takeH (i := 10) 214 rfl (by kernel_rfl) (by kernel_rfl) (by kernel_rfl) (fun _ _ _ h => h) rfl (by first | exact M.out | exact M.out.take 9)
                          case' hy => exact yldsW _ _ rfl (by first | rfl | (go_simp; done)) Tryz.underlying26 rfl rfl (fun w' hS => hS.cell 6 rfl XB.out)
                          try simp only [Act.put, List.getElem_toArray, List.getElem_cons_succ, List.getElem_cons_zero, List.setIfInBounds_toArray, List.set_cons_succ, List.set_cons_zero]
                          apply takeH (i := 11) 215 rfl (by kernel_rfl) (by kernel_rfl) (by kernel_rfl) (fun _ _ _ h => h) rfl (by first | exact M.out | exact M.out.take 9)
                          case' hy =>
                            refine Or.inl ⟨by first | rfl | (go_simp; done), ?_⟩
                            intro w hS
                            clear hS
                            go_simp
                            try with_reducible rfl
                          try simp only [Act.put, List.getElem_toArray, List.getElem_cons_succ, List.getElem_cons_zero, List.setIfInBounds_toArray, List.set_cons_succ, List.set_cons_zero]
                          apply takeH (i := 12) 216 rfl (by kernel_rfl) (by kernel_rfl) (by kernel_rfl) (fun _ _ _ h => h) rfl (by first | exact M.out | exact M.out.take 9)
                          case' hy =>
                            refine Or.inl ⟨by first | rfl | (go_simp; done), ?_⟩
                            intro w hS
                            clear hS
                            go_simp
                            try with_reducible rfl
                          try simp only [Act.put, List.getElem_toArray, List.getElem_cons_succ, List.getElem_cons_zero, List.setIfInBounds_toArray, List.set_cons_succ, List.set_cons_zero]
                          apply takeH (i := 13) 217 rfl (by kernel_rfl) (by kernel_rfl) (by kernel_rfl) (fun _ _ _ h => h) rfl (by first | exact M.out | exact M.out.take 9)
                          case' hy =>
                            refine Or.inl ⟨by first | rfl | (go_simp; done), ?_⟩
                            intro w hS
                            clear hS
                            go_simp
                            try with_reducible rfl
                          try simp only [Act.put, List.getElem_toArray, List.getElem_cons_succ, List.getElem_cons_zero, List.setIfInBounds_toArray, List.set_cons_succ, List.set_cons_zero]
                          apply takeH (i := 14) 218 rfl (by kernel_rfl) (by kernel_rfl) (by kernel_rfl) (fun _ _ _ h => h) rfl (by first | exact M.out | exact M.out.take 9)
                          case' hy =>
                            refine Or.inl ⟨by first | rfl | (go_simp; done), ?_⟩
                            intro w hS
                            clear hS
                            go_simp
                            try with_reducible rfl
                          try simp only [Act.put, List.getElem_toArray, List.getElem_cons_succ, List.getElem_cons_zero, List.setIfInBounds_toArray, List.set_cons_succ, List.set_cons_zero]
                          apply takeH (i := 15) 219 rfl (by kernel_rfl) (by kernel_rfl) (by kernel_rfl) (fun _ _ _ h => h) rfl (by first | exact M.out | exact M.out.take 9)
                          case' hy =>
                            refine Or.inl ⟨by first | rfl | (go_simp; done), ?_⟩
                            intro w hS
                            clear hS
                            go_simp
                            try with_reducible rfl
                          try simp only [Act.put, List.getElem_toArray, List.getElem_cons_succ, List.getElem_cons_zero, List.setIfInBounds_toArray, List.set_cons_succ, List.set_cons_zero]
                          apply takeH (i := 16) 220 rfl (by kernel_rfl) (by kernel_rfl) (by kernel_rfl) (fun _ _ _ h => h) rfl (by first | exact M.out | exact M.out.take 9)
                          case' hy => exact yldsW _ _ rfl (by first | rfl | (go_simp; done)) Tryz.underlying26 rfl rfl (fun w' hS => hS.cell 6 rfl XR.out)
                          try simp only [Act.put, List.getElem_toArray, List.getElem_cons_succ, List.getElem_cons_zero, List.setIfInBounds_toArray, List.set_cons_succ, List.set_cons_zero]
                          apply takeH (i := 17) 221 rfl (by kernel_rfl) (by kernel_rfl) (by kernel_rfl) (fun _ _ _ h => h) rfl (by first | exact M.out | exact M.out.take 9)
                          case' hy =>
                            refine Or.inl ⟨by first | rfl | (go_simp; done), ?_⟩
                            intro w hS
                            clear hS
                            go_simp
                            try with_reducible rfl
                          try simp only [Act.put, List.getElem_toArray, List.getElem_cons_succ, List.getElem_cons_zero, List.setIfInBounds_toArray, List.set_cons_succ, List.set_cons_zero]
                          apply takeH (i := 18) 222 rfl (by kernel_rfl) (by kernel_rfl) (by kernel_rfl) (fun _ _ _ h => h) rfl (by first | exact M.out | exact M.out.take 9)
                          case' hy =>
                            refine Or.inl ⟨by first | rfl | (go_simp; done), ?_⟩
                            intro w hS
                            clear hS
                            go_simp
                            try with_reducible rfl
                          try simp only [Act.put, List.getElem_toArray, List.getElem_cons_succ, List.getElem_cons_zero, List.setIfInBounds_toArray, List.set_cons_succ, List.set_cons_zero]
                          apply takeH (i := 19) 223 rfl (by kernel_rfl) (by kernel_rfl) (by kernel_rfl) (fun _ _ _ h => h) rfl (by first | exact M.out | exact M.out.take 9)
                          case' hy =>
                            refine Or.inl ⟨by first | rfl | (go_simp; done), ?_⟩
                            intro w hS
                            clear hS
                            go_simp
                            try with_reducible rfl
                          try simp only [Act.put, List.getElem_toArray, List.getElem_cons_succ, List.getElem_cons_zero, List.setIfInBounds_toArray, List.set_cons_succ, List.set_cons_zero]
                          apply takeH (i := 20) 27 rfl (by kernel_rfl) (by kernel_rfl) (by kernel_rfl) (fun _ _ _ h => h) rfl (by first | exact M.out | exact M.out.take 9)
                          case' hy =>
                            refine Or.inl ⟨by first | rfl | (go_simp; done), ?_⟩
                            intro w hS
                            clear hS
                            go_simp
                            try with_reducible rfl
                          try simp only [Act.put, List.getElem_toArray, List.getElem_cons_succ, List.getElem_cons_zero, List.setIfInBounds_toArray, List.set_cons_succ, List.set_cons_zero]
                          refine wpAnyH_done (by kernel_rfl) ?_ _
                          all_goals
                            go_wp2_with (first
                              | ((with_reducible refine gate_dst (N := 227) rfl ?_); refine gate_want rfl ?_; go_must (refine M.out.ev_ldw 8 _ _ rfl rfl rfl Tryz.underlying40 rfl (by exact sz40) rfl ?_))
                              | ((with_reducible refine gate_dst (N := 236) rfl ?_); refine gate_want rfl ?_; go_must (refine M.out.ev_ldw 5 _ _ rfl rfl rfl Tryz.underlying40 rfl (by exact sz40) rfl ?_))
                              | (go_at_call 24; go_must (first | (refine Calls.mono (calls_args (by with_reducible rfl) (HasCellS_any CF O.out.CFok i hlt2 _)) ?_; rintro e w_ ⟨rfl, N_⟩; have m := M.out.join N_; clear N_; simp only [List.cons_append, List.nil_append, List.append_nil] at m; have M := Lib.hid m; clear m; rw [CFI.out]) | (refine Calls.mono (calls_args (by with_reducible rfl) (HasCellS_any SF_ C.out.SFok i hlt2 _)) ?_; rintro e w_ ⟨rfl, N_⟩; have m := M.out.join N_; clear N_; simp only [List.cons_append, List.nil_append, List.append_nil] at m; have M := Lib.hid m; clear m; rw [SFI.out])))
                              | ((with_reducible refine gate_dst (N := 248) rfl ?_); go_must (refine M.out.ev_ldw 0 _ _ rfl rfl rfl Tryz.underlying29 rfl (by rw [S1.out]; exact sz29) rfl ?_))
                              | ((with_reducible refine gate_dst (N := 251) rfl ?_); go_must (refine M.out.ev_ld 6 _ _ rfl rfl rfl Tryz.underlying26 rfl rfl XT.out ?_))
                              | (go_at_call 26; go_must (refine (SQ2.out _).mono ?_); rintro e w_ ⟨rfl, N_⟩; have m := M.out.join N_; clear N_; simp only [List.cons_append, List.nil_append, List.append_nil] at m; have M := Lib.hid m; clear m)
                              )
                            refine region_anyH (fun w' => Mem w w' [.blk g5 29 F.cells, .blk g6 31 (ints .i16 fs), .row (.slice (some ⟨lb, lo, none⟩) xs.length cp) 48 6 xs.length (flat Flock.vals xs), .row (.slice A8 xs.length c8) 48 6 xs.length (flat Flock.vals xs), .blk g10 40 SF_.cells, .blk g12 40 SF_.cells, .blk g15 48 x.vals.toArray, .blk g16 40 CF.cells, .blk g18 40 CF.cells]) (by kernel_rfl) ?_
                            have m := M.out.drew
                            clear M
                            have M := Lib.hid m
                            clear m
                            apply takeH (i := 0) 256 rfl (by kernel_rfl) (by kernel_rfl) (by kernel_rfl) (fun _ _ _ h => h) rfl (by first | exact M.out | exact M.out.take 9)
                            case' hy =>
                              refine Or.inl ⟨by first | rfl | (go_simp; done), ?_⟩
                              intro w hS
                              clear hS
                              go_simp
                              try with_reducible rfl
                            try simp only [Act.put, List.getElem_toArray, List.getElem_cons_succ, List.getElem_cons_zero, List.setIfInBounds_toArray, List.set_cons_succ, List.set_cons_zero]
                            apply takeH (i := 1) 257 rfl (by kernel_rfl) (by kernel_rfl) (by kernel_rfl) (fun _ _ _ h => h) rfl (by first | exact M.out | exact M.out.take 9)
                            case' hy =>
                              refine Or.inl ⟨by first | rfl | (go_simp; done), ?_⟩
                              intro w hS
                              clear hS
                              go_simp
                              try with_reducible rfl
                            try simp only [Act.put, List.getElem_toArray, List.getElem_cons_succ, List.getElem_cons_zero, List.setIfInBounds_toArray, List.set_cons_succ, List.set_cons_zero]
                            apply takeH (i := 2) 258 rfl (by kernel_rfl) (by kernel_rfl) (by kernel_rfl) (fun _ _ _ h => h) rfl (by first | exact M.out | exact M.out.take 9)
                            case' hy =>
                              refine Or.inl ⟨by first | rfl | (go_simp; done), ?_⟩
                              intro w hS
                              clear hS
                              go_simp
                              try with_reducible rfl
                            try simp only [Act.put, List.getElem_toArray, List.getElem_cons_succ, List.getElem_cons_zero, List.setIfInBounds_toArray, List.set_cons_succ, List.set_cons_zero]
                            apply takeH (i := 3) 259 rfl (by kernel_rfl) (by kernel_rfl) (by kernel_rfl) (fun _ _ _ h => h) rfl (by first | exact M.out | exact M.out.take 9)
                            case' hy =>
                              refine Or.inl ⟨by first | rfl | (go_simp; done), ?_⟩
                              intro w hS
                              clear hS
                              go_simp
                              try with_reducible rfl
                            try simp only [Act.put, List.getElem_toArray, List.getElem_cons_succ, List.getElem_cons_zero, List.setIfInBounds_toArray, List.set_cons_succ, List.set_cons_zero]
                            apply takeH (i := 4) 260 rfl (by kernel_rfl) (by kernel_rfl) (by kernel_rfl) (fun _ _ _ h => h) rfl (by first | exact M.out | exact M.out.take 9)
                            case' hy => exact yldsW _ _ rfl (by first | rfl | (go_simp; done)) Tryz.underlying24 rfl rfl (fun w' hS => hS.cell 6 rfl XA.out)
                            try simp only [Act.put, List.getElem_toArray, List.getElem_cons_succ, List.getElem_cons_zero, List.setIfInBounds_toArray, List.set_cons_succ, List.set_cons_zero]
                            apply takeH (i := 5) 261 rfl (by kernel_rfl) (by kernel_rfl) (by kernel_rfl) (fun _ _ _ h => h) rfl (by first | exact M.out | exact M.out.take 9)
                            case' hy =>
                              refine Or.inl ⟨by first | rfl | (go_simp; done), ?_⟩
                              intro w hS
                              clear hS
                              go_simp
                              try with_reducible rfl
                            try simp only [Act.put, List.getElem_toArray, List.getElem_cons_succ, List.getElem_cons_zero, List.setIfInBounds_toArray, List.set_cons_succ, List.set_cons_zero]
                            apply takeH (i := 6) 262 rfl (by kernel_rfl) (by kernel_rfl) (by kernel_rfl) (fun _ _ _ h => h) rfl (by first | exact M.out | exact M.out.take 9)
                            case' hy =>
                              refine Or.inl ⟨by first | rfl | (go_simp; done), ?_⟩
                              intro w hS
                              clear hS
                              go_simp
                              try with_reducible rfl
                            try simp only [Act.put, List.getElem_toArray, List.getElem_cons_succ, List.getElem_cons_zero, List.setIfInBounds_toArray, List.set_cons_succ, List.set_cons_zero]
                            apply takeH (i := 7) 263 rfl (by kernel_rfl) (by kernel_rfl) (by kernel_rfl) (fun _ _ _ h => h) rfl (by first | exact M.out | exact M.out.take 9)
                            case' hy =>
                              refine Or.inl ⟨by first | rfl | (go_simp; done), ?_⟩
                              intro w hS
                              clear hS
                              go_simp
                              try with_reducible rfl
                            try simp only [Act.put, List.getElem_toArray, List.getElem_cons_succ, List.getElem_cons_zero, List.setIfInBounds_toArray, List.set_cons_succ, List.set_cons_zero]
                            apply takeH (i := 8) 264 rfl (by kernel_rfl) (by kernel_rfl) (by kernel_rfl) (fun _ _ _ h => h) rfl (by first | exact M.out | exact M.out.take 9)
                            case' hy =>
                              refine Or.inl ⟨by first | rfl | (go_simp; done), ?_⟩
                              intro w hS
                              clear hS
                              go_simp
                              try with_reducible rfl
                            try simp only [Act.put, List.getElem_toArray, List.getElem_cons_succ, List.getElem_cons_zero, List.setIfInBounds_toArray, List.set_cons_succ, List.set_cons_zero]
                            apply takeH (i := 9) 265 rfl (by kernel_rfl) (by kernel_rfl) (by kernel_rfl) (fun _ _ _ h => h) rfl (by first | exact M.out | exact M.out.take 9)
                            case' hy =>
                              refine Or.inl ⟨by first | rfl | (go_simp; done), ?_⟩
                              intro w hS
                              clear hS
                              go_simp
                              try with_reducible rfl
                            try simp only [Act.put, List.getElem_toArray, List.getElem_cons_succ, List.getElem_cons_zero, List.setIfInBounds_toArray, List.set_cons_succ, List.set_cons_zero]
                            apply takeH (i := 10) 266 rfl (by kernel_rfl) (by kernel_rfl) (by kernel_rfl) (fun _ _ _ h => h) rfl (by first | exact M.out | exact M.out.take 9)
                            case' hy => exact yldsW _ _ rfl (by first | rfl | (go_simp; done)) Tryz.underlying26 rfl rfl (fun w' hS => hS.cell 0 rfl XS.out)
                            try simp only [Act.put, List.getElem_toArray, List.getElem_cons_succ, List.getElem_cons_zero, List.setIfInBounds_toArray, List.set_cons_succ, List.set_cons_zero]
                            apply takeH (i := 11) 267 rfl (by kernel_rfl) (by kernel_rfl) (by kernel_rfl) (fun _ _ _ h => h) rfl (by first | exact M.out | exact M.out.take 9)
                            case' hy =>
                              refine Or.inl ⟨by first | rfl | (go_simp; done), ?_⟩
                              intro w hS
                              clear hS
                              go_simp
                              try with_reducible rfl
                            try simp only [Act.put, List.getElem_toArray, List.getElem_cons_succ, List.getElem_cons_zero, List.setIfInBounds_toArray, List.set_cons_succ, List.set_cons_zero]
                            apply takeH (i := 12) 268 rfl (by kernel_rfl) (by kernel_rfl) (by kernel_rfl) (fun _ _ _ h => h) rfl (by first | exact M.out | exact M.out.take 9)
                            case' hy =>
                              refine Or.inl ⟨by first | rfl | (go_simp; done), ?_⟩
                              intro w hS
                              clear hS
                              go_simp
                              try with_reducible rfl
                            try simp only [Act.put, List.getElem_toArray, List.getElem_cons_succ, List.getElem_cons_zero, List.setIfInBounds_toArray, List.set_cons_succ, List.set_cons_zero]
                            apply takeH (i := 13) 269 rfl (by kernel_rfl) (by kernel_rfl) (by kernel_rfl) (fun _ _ _ h => h) rfl (by first | exact M.out | exact M.out.take 9)
                            case' hy =>
                              refine Or.inl ⟨by first | rfl | (go_simp; done), ?_⟩
                              intro w hS
                              clear hS
                              go_simp
                              try with_reducible rfl
                            try simp only [Act.put, List.getElem_toArray, List.getElem_cons_succ, List.getElem_cons_zero, List.setIfInBounds_toArray, List.set_cons_succ, List.set_cons_zero]
                            apply takeH (i := 14) 270 rfl (by kernel_rfl) (by kernel_rfl) (by kernel_rfl) (fun _ _ _ h => h) rfl (by first | exact M.out | exact M.out.take 9)
                            case' hy => exact yldsW _ _ rfl (by first | rfl | (go_simp; done)) Tryz.underlying26 rfl rfl (fun w' hS => hS.cell 0 rfl XC.out)
                            try simp only [Act.put, List.getElem_toArray, List.getElem_cons_succ, List.getElem_cons_zero, List.setIfInBounds_toArray, List.set_cons_succ, List.set_cons_zero]
                            apply takeH (i := 15) 271 rfl (by kernel_rfl) (by kernel_rfl) (by kernel_rfl) (fun _ _ _ h => h) rfl (by first | exact M.out | exact M.out.take 9)
                            case' hy =>
                              refine Or.inl ⟨by first | rfl | (go_simp; done), ?_⟩
                              intro w hS
                              clear hS
                              go_simp
                              try with_reducible rfl
                            try simp only [Act.put, List.getElem_toArray, List.getElem_cons_succ, List.getElem_cons_zero, List.setIfInBounds_toArray, List.set_cons_succ, List.set_cons_zero]
                            apply takeH (i := 16) 272 rfl (by kernel_rfl) (by kernel_rfl) (by kernel_rfl) (fun _ _ _ h => h) rfl (by first | exact M.out | exact M.out.take 9)
                            case' hy =>
                              refine Or.inl ⟨by first | rfl | (go_simp; done), ?_⟩
                              intro w hS
                              clear hS
                              go_simp
                              try with_reducible rfl
                            try simp only [Act.put, List.getElem_toArray, List.getElem_cons_succ, List.getElem_cons_zero, List.setIfInBounds_toArray, List.set_cons_succ, List.set_cons_zero]
                            apply takeH (i := 17) 273 rfl (by kernel_rfl) (by kernel_rfl) (by kernel_rfl) (fun _ _ _ h => h) rfl (by first | exact M.out | exact M.out.take 9)
                            case' hy =>
                              refine Or.inl ⟨by first | rfl | (go_simp; done), ?_⟩
                              intro w hS
                              clear hS
                              go_simp
                              try with_reducible rfl
                            try simp only [Act.put, List.getElem_toArray, List.getElem_cons_succ, List.getElem_cons_zero, List.setIfInBounds_toArray, List.set_cons_succ, List.set_cons_zero]
                            apply takeH (i := 18) 274 rfl (by kernel_rfl) (by kernel_rfl) (by kernel_rfl) (fun _ _ _ h => h) rfl (by first | exact M.out | exact M.out.take 9)
                            case' hy =>
                              refine Or.inl ⟨by first | rfl | (go_simp; done), ?_⟩
                              intro w hS
                              clear hS
                              go_simp
                              try with_reducible rfl
                            try simp only [Act.put, List.getElem_toArray, List.getElem_cons_succ, List.getElem_cons_zero, List.setIfInBounds_toArray, List.set_cons_succ, List.set_cons_zero]
                            apply takeH (i := 19) 275 rfl (by kernel_rfl) (by kernel_rfl) (by kernel_rfl) (fun _ _ _ h => h) rfl (by first | exact M.out | exact M.out.take 9)
                            case' hy =>
                              refine Or.inl ⟨by first | rfl | (go_simp; done), ?_⟩
                              intro w hS
                              clear hS
                              go_simp
                              try with_reducible rfl
                            try simp only [Act.put, List.getElem_toArray, List.getElem_cons_succ, List.getElem_cons_zero, List.setIfInBounds_toArray, List.set_cons_succ, List.set_cons_zero]
                            apply takeH (i := 20) 276 rfl (by kernel_rfl) (by kernel_rfl) (by kernel_rfl) (fun _ _ _ h => h) rfl (by first | exact M.out | exact M.out.take 9)
                            case' hy => exact yldsW _ _ rfl (by first | rfl | (go_simp; done)) Tryz.underlying24 rfl rfl (fun w' hS => hS.cell 6 rfl XA.out)
                            try simp only [Act.put, List.getElem_toArray, List.getElem_cons_succ, List.getElem_cons_zero, List.setIfInBounds_toArray, List.set_cons_succ, List.set_cons_zero]
                            apply takeH (i := 21) 277 rfl (by kernel_rfl) (by kernel_rfl) (by kernel_rfl) (fun _ _ _ h => h) rfl (by first | exact M.out | exact M.out.take 9)
                            case' hy =>
                              refine Or.inl ⟨by first | rfl | (go_simp; done), ?_⟩
                              intro w hS
                              clear hS
                              go_simp
                              try with_reducible rfl
                            try simp only [Act.put, List.getElem_toArray, List.getElem_cons_succ, List.getElem_cons_zero, List.setIfInBounds_toArray, List.set_cons_succ, List.set_cons_zero]
                            apply takeH (i := 22) 278 rfl (by kernel_rfl) (by kernel_rfl) (by kernel_rfl) (fun _ _ _ h => h) rfl (by first | exact M.out | exact M.out.take 9)
                            case' hy =>
                              refine Or.inl ⟨by first | rfl | (go_simp; done), ?_⟩
                              intro w hS
                              clear hS
                              go_simp
                              try with_reducible rfl
                            try simp only [Act.put, List.getElem_toArray, List.getElem_cons_succ, List.getElem_cons_zero, List.setIfInBounds_toArray, List.set_cons_succ, List.set_cons_zero]
                            refine wpAnyH_take (i := 23) (v := undef) rfl (by kernel_rfl) (by kernel_rfl) (by kernel_rfl) (fun _ _ _ h => h) (Or.inr ⟨by kernel_rfl, rfl⟩) (by first | exact M.out | exact M.out.take 9) ?_
                            try simp only [Act.put, List.getElem_toArray, List.getElem_cons_succ, List.getElem_cons_zero, List.setIfInBounds_toArray, List.set_cons_succ, List.set_cons_zero]
                            refine wpAnyH_take (i := 24) (v := undef) rfl (by kernel_rfl) (by kernel_rfl) (by kernel_rfl) (fun _ _ _ h => h) (Or.inr ⟨by kernel_rfl, rfl⟩) (by first | exact M.out | exact M.out.take 9) ?_
                            try simp only [Act.put, List.getElem_toArray, List.getElem_cons_succ, List.getElem_cons_zero, List.setIfInBounds_toArray, List.set_cons_succ, List.set_cons_zero]
                            refine wpAnyH_take (i := 25) (v := undef) rfl (by kernel_rfl) (by kernel_rfl) (by kernel_rfl) (fun _ _ _ h => h) (Or.inr ⟨by kernel_rfl, rfl⟩) (by first | exact M.out | exact M.out.take 9) ?_
                            try simp only [Act.put, List.getElem_toArray, List.getElem_cons_succ, List.getElem_cons_zero, List.setIfInBounds_toArray, List.set_cons_succ, List.set_cons_zero]
                            apply takeH (i := 26) 282 rfl (by kernel_rfl) (by kernel_rfl) (by kernel_rfl) (fun _ _ _ h => h) rfl (by first | exact M.out | exact M.out.take 9)
                            case' hy =>
                              refine Or.inl ⟨by first | rfl | (go_simp; done), ?_⟩
                              intro w hS
                              clear hS
                              go_simp
                              try with_reducible rfl
                            try simp only [Act.put, List.getElem_toArray, List.getElem_cons_succ, List.getElem_cons_zero, List.setIfInBounds_toArray, List.set_cons_succ, List.set_cons_zero]
                            apply takeH (i := 27) 283 rfl (by kernel_rfl) (by kernel_rfl) (by kernel_rfl) (fun _ _ _ h => h) rfl (by first | exact M.out | exact M.out.take 9)
                            case' hy =>
                              refine Or.inl ⟨by first | rfl | (go_simp; done), ?_⟩
                              intro w hS
                              clear hS
                              go_simp
                              try with_reducible rfl
                            try simp only [Act.put, List.getElem_toArray, List.getElem_cons_succ, List.getElem_cons_zero, List.setIfInBounds_toArray, List.set_cons_succ, List.set_cons_zero]
                            apply takeH (i := 28) 284 rfl (by kernel_rfl) (by kernel_rfl) (by kernel_rfl) (fun _ _ _ h => h) rfl (by first | exact M.out | exact M.out.take 9)
                            case' hy =>
                              refine Or.inl ⟨by first | rfl | (go_simp; done), ?_⟩
                              intro w hS
                              clear hS
                              go_simp
                              try with_reducible rfl
                            try simp only [Act.put, List.getElem_toArray, List.getElem_cons_succ, List.getElem_cons_zero, List.setIfInBounds_toArray, List.set_cons_succ, List.set_cons_zero]
                            apply takeH (i := 29) 285 rfl (by kernel_rfl) (by kernel_rfl) (by kernel_rfl) (fun _ _ _ h => h) rfl (by first | exact M.out | exact M.out.take 9)
                            case' hy =>
                              refine Or.inl ⟨by first | rfl | (go_simp; done), ?_⟩
                              intro w hS
                              clear hS
                              go_simp
                              try with_reducible rfl
                            try simp only [Act.put, List.getElem_toArray, List.getElem_cons_succ, List.getElem_cons_zero, List.setIfInBounds_toArray, List.set_cons_succ, List.set_cons_zero]
                            apply takeH (i := 30) 286 rfl (by kernel_rfl) (by kernel_rfl) (by kernel_rfl) (fun _ _ _ h => h) rfl (by first | exact M.out | exact M.out.take 9)
                            case' hy => exact yldsW _ _ rfl (by first | rfl | (go_simp; done)) Tryz.underlying24 rfl rfl (fun w' hS => hS.cell 6 rfl XA.out)
                            try simp only [Act.put, List.getElem_toArray, List.getElem_cons_succ, List.getElem_cons_zero, List.setIfInBounds_toArray, List.set_cons_succ, List.set_cons_zero]
                            apply takeH (i := 31) 287 rfl (by kernel_rfl) (by kernel_rfl) (by kernel_rfl) (fun _ _ _ h => h) rfl (by first | exact M.out | exact M.out.take 9)
                            case' hy =>
                              refine Or.inl ⟨by first | rfl | (go_simp; done), ?_⟩
                              intro w hS
                              clear hS
                              go_simp
                              try with_reducible rfl
                            try simp only [Act.put, List.getElem_toArray, List.getElem_cons_succ, List.getElem_cons_zero, List.setIfInBounds_toArray, List.set_cons_succ, List.set_cons_zero]
                            apply takeH (i := 32) 288 rfl (by kernel_rfl) (by kernel_rfl) (by kernel_rfl) (fun _ _ _ h => h) rfl (by first | exact M.out | exact M.out.take 9)
                            case' hy =>
                              refine Or.inl ⟨by first | rfl | (go_simp; done), ?_⟩
                              intro w hS
                              clear hS
                              go_simp
                              try with_reducible rfl
                            try simp only [Act.put, List.getElem_toArray, List.getElem_cons_succ, List.getElem_cons_zero, List.setIfInBounds_toArray, List.set_cons_succ, List.set_cons_zero]
                            refine wpAnyH_take (i := 33) (v := undef) rfl (by kernel_rfl) (by kernel_rfl) (by kernel_rfl) (fun _ _ _ h => h) (Or.inr ⟨by kernel_rfl, rfl⟩) (by first | exact M.out | exact M.out.take 9) ?_
                            try simp only [Act.put, List.getElem_toArray, List.getElem_cons_succ, List.getElem_cons_zero, List.setIfInBounds_toArray, List.set_cons_succ, List.set_cons_zero]
                            refine wpAnyH_take (i := 34) (v := undef) rfl (by kernel_rfl) (by kernel_rfl) (by kernel_rfl) (fun _ _ _ h => h) (Or.inr ⟨by kernel_rfl, rfl⟩) (by first | exact M.out | exact M.out.take 9) ?_
                            try simp only [Act.put, List.getElem_toArray, List.getElem_cons_succ, List.getElem_cons_zero, List.setIfInBounds_toArray, List.set_cons_succ, List.set_cons_zero]
                            refine wpAnyH_take (i := 35) (v := undef) rfl (by kernel_rfl) (by kernel_rfl) (by kernel_rfl) (fun _ _ _ h => h) (Or.inr ⟨by kernel_rfl, rfl⟩) (by first | exact M.out | exact M.out.take 9) ?_
                            try simp only [Act.put, List.getElem_toArray, List.getElem_cons_succ, List.getElem_cons_zero, List.setIfInBounds_toArray, List.set_cons_succ, List.set_cons_zero]
                            refine wpAnyH_take (i := 36) (v := undef) rfl (by kernel_rfl) (by kernel_rfl) (by kernel_rfl) (fun _ _ _ h => h) (Or.inr ⟨by kernel_rfl, rfl⟩) (by first | exact M.out | exact M.out.take 9) ?_
                            try simp only [Act.put, List.getElem_toArray, List.getElem_cons_succ, List.getElem_cons_zero, List.setIfInBounds_toArray, List.set_cons_succ, List.set_cons_zero]
                            refine wpAnyH_take (i := 37) (v := undef) rfl (by kernel_rfl) (by kernel_rfl) (by kernel_rfl) (fun _ _ _ h => h) (Or.inr ⟨by kernel_rfl, rfl⟩) (by first | exact M.out | exact M.out.take 9) ?_
                            try simp only [Act.put, List.getElem_toArray, List.getElem_cons_succ, List.getElem_cons_zero, List.setIfInBounds_toArray, List.set_cons_succ, List.set_cons_zero]
                            refine wpAnyH_take (i := 38) (v := undef) rfl (by kernel_rfl) (by kernel_rfl) (by kernel_rfl) (fun _ _ _ h => h) (Or.inr ⟨by kernel_rfl, rfl⟩) (by first | exact M.out | exact M.out.take 9) ?_
                            try simp only [Act.put, List.getElem_toArray, List.getElem_cons_succ, List.getElem_cons_zero, List.setIfInBounds_toArray, List.set_cons_succ, List.set_cons_zero]
                            refine wpAnyH_take (i := 39) (v := undef) rfl (by kernel_rfl) (by kernel_rfl) (by kernel_rfl) (fun _ _ _ h => h) (Or.inr ⟨by kernel_rfl, rfl⟩) (by first | exact M.out | exact M.out.take 9) ?_
                            try simp only [Act.put, List.getElem_toArray, List.getElem_cons_succ, List.getElem_cons_zero, List.setIfInBounds_toArray, List.set_cons_succ, List.set_cons_zero]
                            apply takeH (i := 40) 296 rfl (by kernel_rfl) (by kernel_rfl) (by kernel_rfl) (fun _ _ _ h => h) rfl (by first | exact M.out | exact M.out.take 9)
                            case' hy =>
                              refine Or.inl ⟨by first | rfl | (go_simp; done), ?_⟩
                              intro w hS
                              clear hS
                              go_simp
                              try with_reducible rfl
                            try simp only [Act.put, List.getElem_toArray, List.getElem_cons_succ, List.getElem_cons_zero, List.setIfInBounds_toArray, List.set_cons_succ, List.set_cons_zero]
                            apply takeH (i := 41) 297 rfl (by kernel_rfl) (by kernel_rfl) (by kernel_rfl) (fun _ _ _ h => h) rfl (by first | exact M.out | exact M.out.take 9)
                            case' hy =>
                              refine Or.inl ⟨by first | rfl | (go_simp; done), ?_⟩
                              intro w hS
                              clear hS
                              go_simp
                              try with_reducible rfl
                            try simp only [Act.put, List.getElem_toArray, List.getElem_cons_succ, List.getElem_cons_zero, List.setIfInBounds_toArray, List.set_cons_succ, List.set_cons_zero]
                            refine wpAnyH_done (by kernel_rfl) ?_ _
                            all_goals
                              go_wp2
                              exact ⟨⟨i + 1, hlt2, by go_num, M.out.take 9⟩, by simp [intOf]; omega⟩
                        · have f0 : decide (sq_ < sqc) = false := decide_eq_false (by have := b1 ht; omega)
                          have t0 : (x.taste == 0) = false := by rw [ht]; rfl
                          have t1 : (x.taste == 1) = true := by rw [ht]; rfl
                          have t2 : (x.taste == 2) = false := by rw [ht]; rfl
                          clear b0 b1 b2 ht
                          go_wp2_with (first
                            | ((with_reducible refine gate_dst (N := 188) rfl ?_); go_must (refine M.out.ev_ldw 0 _ _ rfl rfl rfl Tryz.underlying29 rfl (by rw [S1.out]; exact sz29) rfl ?_))
                            | (go_at_call 23; go_must (refine (A2Is_any F WF.out.ok i _).mono ?_); rintro e w_ ⟨rfl, N_⟩; have m := M.out.join N_; clear N_; simp only [List.cons_append, List.nil_append, List.append_nil] at m; have M := Lib.hid m; clear m; rw [HH.out])
                            | ((with_reducible refine gate_dst (N := 196) rfl ?_); go_must (refine M.out.ev_ldw 0 _ _ rfl rfl rfl Tryz.underlying29 rfl (by rw [S1.out]; exact sz29) rfl ?_))
                            | ((with_reducible refine gate_dst (N := 199) rfl ?_); go_must (refine M.out.ev_ld 6 _ _ rfl rfl rfl Tryz.underlying26 rfl rfl XT.out ?_))
                            | (go_at_call 25; go_must (refine (SQ.out _).mono ?_); rintro e w_ ⟨rfl, N_⟩; have m := M.out.join N_; clear N_; simp only [List.cons_append, List.nil_append, List.append_nil] at m; have M := Lib.hid m; clear m)
                            )
                          refine region_anyH (fun w' => Mem w w' [.blk g5 29 F.cells, .blk g6 31 (ints .i16 fs), .row (.slice (some ⟨lb, lo, none⟩) xs.length cp) 48 6 xs.length (flat Flock.vals xs), .row (.slice A8 xs.length c8) 48 6 xs.length (flat Flock.vals xs), .blk g10 40 SF_.cells, .blk g12 40 SF_.cells, .blk g15 48 x.vals.toArray, .blk g16 40 CF.cells, .blk g18 40 CF.cells]) (by kernel_rfl) ?_
                          have m := M.out.drew
                          clear M
                          have M := Lib.hid m
                          clear m
                          apply takeH (i := 0) 204 rfl (by kernel_rfl) (by kernel_rfl) (by kernel_rfl) (fun _ _ _ h => h) rfl (by first | exact M.out | exact M.out.take 9)
                          case' hy =>
                            refine Or.inl ⟨by first | rfl | (go_simp; done), ?_⟩
                            intro w hS
                            clear hS
                            go_simp
                            try with_reducible rfl
                          try simp only [Act.put, List.getElem_toArray, List.getElem_cons_succ, List.getElem_cons_zero, List.setIfInBounds_toArray, List.set_cons_succ, List.set_cons_zero]
                          apply takeH (i := 1) 205 rfl (by kernel_rfl) (by kernel_rfl) (by kernel_rfl) (fun _ _ _ h => h) rfl (by first | exact M.out | exact M.out.take 9)
                          case' hy =>
                            refine Or.inl ⟨by first | rfl | (go_simp; done), ?_⟩
                            intro w hS
                            clear hS
                            go_simp
                            try with_reducible rfl
                          try simp only [Act.put, List.getElem_toArray, List.getElem_cons_succ, List.getElem_cons_zero, List.setIfInBounds_toArray, List.set_cons_succ, List.set_cons_zero]
                          apply takeH (i := 2) 206 rfl (by kernel_rfl) (by kernel_rfl) (by kernel_rfl) (fun _ _ _ h => h) rfl (by first | exact M.out | exact M.out.take 9)
                          case' hy =>
                            refine Or.inl ⟨by first | rfl | (go_simp; done), ?_⟩
                            intro w hS
                            clear hS
                            go_simp
                            try with_reducible rfl
                          try simp only [Act.put, List.getElem_toArray, List.getElem_cons_succ, List.getElem_cons_zero, List.setIfInBounds_toArray, List.set_cons_succ, List.set_cons_zero]
                          apply takeH (i := 3) 207 rfl (by kernel_rfl) (by kernel_rfl) (by kernel_rfl) (fun _ _ _ h => h) rfl (by first | exact M.out | exact M.out.take 9)
                          case' hy => exact ylds _ _ rfl rfl Tryz.underlying26 rfl rfl (fun w' hS => hS.cell 0 rfl XS.out)
                          try simp only [Act.put, List.getElem_toArray, List.getElem_cons_succ, List.getElem_cons_zero, List.setIfInBounds_toArray, List.set_cons_succ, List.set_cons_zero]
                          apply takeH (i := 4) 208 rfl (by kernel_rfl) (by kernel_rfl) (by kernel_rfl) (fun _ _ _ h => h) rfl (by first | exact M.out | exact M.out.take 9)
                          case' hy =>
                            refine Or.inl ⟨by first | rfl | (go_simp; done), ?_⟩
                            intro w hS
                            clear hS
                            go_simp
                            try with_reducible rfl
                          try simp only [Act.put, List.getElem_toArray, List.getElem_cons_succ, List.getElem_cons_zero, List.setIfInBounds_toArray, List.set_cons_succ, List.set_cons_zero]
                          apply takeH (i := 5) 209 rfl (by kernel_rfl) (by kernel_rfl) (by kernel_rfl) (fun _ _ _ h => h) rfl (by first | exact M.out | exact M.out.take 9)
                          case' hy =>
                            refine Or.inl ⟨by first | rfl | (go_simp; done), ?_⟩
                            intro w hS
                            clear hS
                            go_simp
                            try with_reducible rfl
                          try simp only [Act.put, List.getElem_toArray, List.getElem_cons_succ, List.getElem_cons_zero, List.setIfInBounds_toArray, List.set_cons_succ, List.set_cons_zero]
                          apply takeH (i := 6) 210 rfl (by kernel_rfl) (by kernel_rfl) (by kernel_rfl) (fun _ _ _ h => h) rfl (by first | exact M.out | exact M.out.take 9)
                          case' hy =>
                            refine Or.inl ⟨by first | rfl | (go_simp; done), ?_⟩
                            intro w hS
                            clear hS
                            go_simp
                            try with_reducible rfl
                          try simp only [Act.put, List.getElem_toArray, List.getElem_cons_succ, List.getElem_cons_zero, List.setIfInBounds_toArray, List.set_cons_succ, List.set_cons_zero]
                          apply takeH (i := 7) 211 rfl (by kernel_rfl) (by kernel_rfl) (by kernel_rfl) (fun _ _ _ h => h) rfl (by first | exact M.out | exact M.out.take 9)
                          case' hy =>
                            refine Or.inl ⟨by first | rfl | (go_simp; done), ?_⟩
                            intro w hS
                            clear hS
                            go_simp
                            try with_reducible rfl
                          try simp only [Act.put, List.getElem_toArray, List.getElem_cons_succ, List.getElem_cons_zero, List.setIfInBounds_toArray, List.set_cons_succ, List.set_cons_zero]
                          apply takeH (i := 8) 212 rfl (by kernel_rfl) (by kernel_rfl) (by kernel_rfl) (fun _ _ _ h => h) rfl (by first | exact M.out | exact M.out.take 9)
                          case' hy => exact yldsW _ _ rfl (by first | rfl | (go_simp; done)) Tryz.underlying26 rfl rfl (fun w' hS => hS.cell 1 rfl XF.out)
                          try simp only [Act.put, List.getElem_toArray, List.getElem_cons_succ, List.getElem_cons_zero, List.setIfInBounds_toArray, List.set_cons_succ, List.set_cons_zero]
                          apply takeH (i := 9) 213 rfl (by kernel_rfl) (by kernel_rfl) (by kernel_rfl) (fun _ _ _ h => h) rfl (by first | exact M.out | exact M.out.take 9)
                          case' hy =>
                            refine Or.inl ⟨by first | rfl | (go_simp; done), ?_⟩
                            intro w hS
                            clear hS
                            go_simp
                            try with_reducible rfl
                          try simp only [Act.put, List.getElem_toArray, List.getElem_cons_succ, List.getElem_cons_zero, List.setIfInBounds_toArray, List.set_cons_succ, List.set_cons_zero]
                          apply takeH (i := 10) 214 rfl (by kernel_rfl) (by kernel_rfl) (by kernel_rfl) (fun _ _ _ h => h) rfl (by first | exact M.out | exact M.out.take 9)
                          case' hy => exact yldsW _ _ rfl (by first | rfl | (go_simp; done)) Tryz.underlying26 rfl rfl (fun w' hS => hS.cell 6 rfl XB.out)
                          try simp only [Act.put, List.getElem_toArray, List.getElem_cons_succ, List.getElem_cons_zero, List.setIfInBounds_toArray, List.set_cons_succ, List.set_cons_zero]
                          apply takeH (i := 11) 215 rfl (by kernel_rfl) (by kernel_rfl) (by kernel_rfl) (fun _ _ _ h => h) rfl (by first | exact M.out | exact M.out.take 9)
                          case' hy =>
                            refine Or.inl ⟨by first | rfl | (go_simp; done), ?_⟩
                            intro w hS
                            clear hS
                            go_simp
                            try with_reducible rfl
                          try simp only [Act.put, List.getElem_toArray, List.getElem_cons_succ, List.getElem_cons_zero, List.setIfInBounds_toArray, List.set_cons_succ, List.set_cons_zero]
                          apply takeH (i := 12) 216 rfl (by kernel_rfl) (by kernel_rfl) (by kernel_rfl) (fun _ _ _ h => h) rfl (by first | exact M.out | exact M.out.take 9)
                          case' hy =>
                            refine Or.inl ⟨by first | rfl | (go_simp; done), ?_⟩
                            intro w hS
                            clear hS
                            go_simp
                            try with_reducible rfl
                          try simp only [Act.put, List.getElem_toArray, List.getElem_cons_succ, List.getElem_cons_zero, List.setIfInBounds_toArray, List.set_cons_succ, List.set_cons_zero]
                          apply takeH (i := 13) 217 rfl (by kernel_rfl) (by kernel_rfl) (by kernel_rfl) (fun _ _ _ h => h) rfl (by first | exact M.out | exact M.out.take 9)
                          case' hy =>
                            refine Or.inl ⟨by first | rfl | (go_simp; done), ?_⟩
                            intro w hS
                            clear hS
                            go_simp
                            try with_reducible rfl
                          try simp only [Act.put, List.getElem_toArray, List.getElem_cons_succ, List.getElem_cons_zero, List.setIfInBounds_toArray, List.set_cons_succ, List.set_cons_zero]
                          apply takeH (i := 14) 218 rfl (by kernel_rfl) (by kernel_rfl) (by kernel_rfl) (fun _ _ _ h => h) rfl (by first | exact M.out | exact M.out.take 9)
                          case' hy =>
                            refine Or.inl ⟨by first | rfl | (go_simp; done), ?_⟩
                            intro w hS
                            clear hS
                            go_simp
                            try with_reducible rfl
                          try simp only [Act.put, List.getElem_toArray, List.getElem_cons_succ, List.getElem_cons_zero, List.setIfInBounds_toArray, List.set_cons_succ, List.set_cons_zero]
                          apply takeH (i := 15) 219 rfl (by kernel_rfl) (by kernel_rfl) (by kernel_rfl) (fun _ _ _ h => h) rfl (by first | exact M.out | exact M.out.take 9)
                          case' hy =>
                            refine Or.inl ⟨by first | rfl | (go_simp; done), ?_⟩
                            intro w hS
                            clear hS
                            go_simp
                            try with_reducible rfl
                          try simp only [Act.put, List.getElem_toArray, List.getElem_cons_succ, List.getElem_cons_zero, List.setIfInBounds_toArray, List.set_cons_succ, List.set_cons_zero]
                          apply takeH (i := 16) 220 rfl (by kernel_rfl) (by kernel_rfl) (by kernel_rfl) (fun _ _ _ h => h) rfl (by first | exact M.out | exact M.out.take 9)
                          case' hy => exact yldsW _ _ rfl (by first | rfl | (go_simp; done)) Tryz.underlying26 rfl rfl (fun w' hS => hS.cell 6 rfl XR.out)
                          try simp only [Act.put, List.getElem_toArray, List.getElem_cons_succ, List.getElem_cons_zero, List.setIfInBounds_toArray, List.set_cons_succ, List.set_cons_zero]
                          apply takeH (i := 17) 221 rfl (by kernel_rfl) (by kernel_rfl) (by kernel_rfl) (fun _ _ _ h => h) rfl (by first | exact M.out | exact M.out.take 9)
                          case' hy =>
                            refine Or.inl ⟨by first | rfl | (go_simp; done), ?_⟩
                            intro w hS
                            clear hS
                            go_simp
                            try with_reducible rfl
                          try simp only [Act.put, List.getElem_toArray, List.getElem_cons_succ, List.getElem_cons_zero, List.setIfInBounds_toArray, List.set_cons_succ, List.set_cons_zero]
                          apply takeH (i := 18) 222 rfl (by kernel_rfl) (by kernel_rfl) (by kernel_rfl) (fun _ _ _ h => h) rfl (by first | exact M.out | exact M.out.take 9)
                          case' hy =>
                            refine Or.inl ⟨by first | rfl | (go_simp; done), ?_⟩
                            intro w hS
                            clear hS
                            go_simp
                            try with_reducible rfl
                          try simp only [Act.put, List.getElem_toArray, List.getElem_cons_succ, List.getElem_cons_zero, List.setIfInBounds_toArray, List.set_cons_succ, List.set_cons_zero]
                          apply takeH (i := 19) 223 rfl (by kernel_rfl) (by kernel_rfl) (by kernel_rfl) (fun _ _ _ h => h) rfl (by first | exact M.out | exact M.out.take 9)
                          case' hy =>
                            refine Or.inl ⟨by first | rfl | (go_simp; done), ?_⟩
                            intro w hS
                            clear hS
                            go_simp
                            try with_reducible rfl
                          try simp only [Act.put, List.getElem_toArray, List.getElem_cons_succ, List.getElem_cons_zero, List.setIfInBounds_toArray, List.set_cons_succ, List.set_cons_zero]
                          apply takeH (i := 20) 27 rfl (by kernel_rfl) (by kernel_rfl) (by kernel_rfl) (fun _ _ _ h => h) rfl (by first | exact M.out | exact M.out.take 9)
                          case' hy =>
                            refine Or.inl ⟨by first | rfl | (go_simp; done), ?_⟩
                            intro w hS
                            clear hS
                            go_simp
                            try with_reducible rfl
                          try simp only [Act.put, List.getElem_toArray, List.getElem_cons_succ, List.getElem_cons_zero, List.setIfInBounds_toArray, List.set_cons_succ, List.set_cons_zero]
                          refine wpAnyH_done (by kernel_rfl) ?_ _
                          all_goals
                            go_wp2_with (first
                              | ((with_reducible refine gate_dst (N := 227) rfl ?_); refine gate_want rfl ?_; go_must (refine M.out.ev_ldw 8 _ _ rfl rfl rfl Tryz.underlying40 rfl (by exact sz40) rfl ?_))
                              | ((with_reducible refine gate_dst (N := 236) rfl ?_); refine gate_want rfl ?_; go_must (refine M.out.ev_ldw 5 _ _ rfl rfl rfl Tryz.underlying40 rfl (by exact sz40) rfl ?_))
                              | (go_at_call 24; go_must (first | (refine Calls.mono (calls_args (by with_reducible rfl) (HasCellS_any CF O.out.CFok i hlt2 _)) ?_; rintro e w_ ⟨rfl, N_⟩; have m := M.out.join N_; clear N_; simp only [List.cons_append, List.nil_append, List.append_nil] at m; have M := Lib.hid m; clear m; rw [CFI.out]) | (refine Calls.mono (calls_args (by with_reducible rfl) (HasCellS_any SF_ C.out.SFok i hlt2 _)) ?_; rintro e w_ ⟨rfl, N_⟩; have m := M.out.join N_; clear N_; simp only [List.cons_append, List.nil_append, List.append_nil] at m; have M := Lib.hid m; clear m; rw [SFI.out])))
                              | ((with_reducible refine gate_dst (N := 248) rfl ?_); go_must (refine M.out.ev_ldw 0 _ _ rfl rfl rfl Tryz.underlying29 rfl (by rw [S1.out]; exact sz29) rfl ?_))
                              | ((with_reducible refine gate_dst (N := 251) rfl ?_); go_must (refine M.out.ev_ld 6 _ _ rfl rfl rfl Tryz.underlying26 rfl rfl XT.out ?_))
                              | (go_at_call 26; go_must (refine (SQ2.out _).mono ?_); rintro e w_ ⟨rfl, N_⟩; have m := M.out.join N_; clear N_; simp only [List.cons_append, List.nil_append, List.append_nil] at m; have M := Lib.hid m; clear m)
                              )
                            refine region_anyH (fun w' => Mem w w' [.blk g5 29 F.cells, .blk g6 31 (ints .i16 fs), .row (.slice (some ⟨lb, lo, none⟩) xs.length cp) 48 6 xs.length (flat Flock.vals xs), .row (.slice A8 xs.length c8) 48 6 xs.length (flat Flock.vals xs), .blk g10 40 SF_.cells, .blk g12 40 SF_.cells, .blk g15 48 x.vals.toArray, .blk g16 40 CF.cells, .blk g18 40 CF.cells]) (by kernel_rfl) ?_
                            have m := M.out.drew
                            clear M
                            have M := Lib.hid m
                            clear m
                            apply takeH (i := 0) 256 rfl (by kernel_rfl) (by kernel_rfl) (by kernel_rfl) (fun _ _ _ h => h) rfl (by first | exact M.out | exact M.out.take 9)
                            case' hy =>
                              refine Or.inl ⟨by first | rfl | (go_simp; done), ?_⟩
                              intro w hS
                              clear hS
                              go_simp
                              try with_reducible rfl
                            try simp only [Act.put, List.getElem_toArray, List.getElem_cons_succ, List.getElem_cons_zero, List.setIfInBounds_toArray, List.set_cons_succ, List.set_cons_zero]
                            apply takeH (i := 1) 257 rfl (by kernel_rfl) (by kernel_rfl) (by kernel_rfl) (fun _ _ _ h => h) rfl (by first | exact M.out | exact M.out.take 9)
                            case' hy =>
                              refine Or.inl ⟨by first | rfl | (go_simp; done), ?_⟩
                              intro w hS
                              clear hS
                              go_simp
                              try with_reducible rfl
                            try simp only [Act.put, List.getElem_toArray, List.getElem_cons_succ, List.getElem_cons_zero, List.setIfInBounds_toArray, List.set_cons_succ, List.set_cons_zero]
                            apply takeH (i := 2) 258 rfl (by kernel_rfl) (by kernel_rfl) (by kernel_rfl) (fun _ _ _ h => h) rfl (by first | exact M.out | exact M.out.take 9)
                            case' hy =>
                              refine Or.inl ⟨by first | rfl | (go_simp; done), ?_⟩
                              intro w hS
                              clear hS
                              go_simp
                              try with_reducible rfl
                            try simp only [Act.put, List.getElem_toArray, List.getElem_cons_succ, List.getElem_cons_zero, List.setIfInBounds_toArray, List.set_cons_succ, List.set_cons_zero]
                            apply takeH (i := 3) 259 rfl (by kernel_rfl) (by kernel_rfl) (by kernel_rfl) (fun _ _ _ h => h) rfl (by first | exact M.out | exact M.out.take 9)
                            case' hy =>
                              refine Or.inl ⟨by first | rfl | (go_simp; done), ?_⟩
                              intro w hS
                              clear hS
                              go_simp
                              try with_reducible rfl
                            try simp only [Act.put, List.getElem_toArray, List.getElem_cons_succ, List.getElem_cons_zero, List.setIfInBounds_toArray, List.set_cons_succ, List.set_cons_zero]
                            apply takeH (i := 4) 260 rfl (by kernel_rfl) (by kernel_rfl) (by kernel_rfl) (fun _ _ _ h => h) rfl (by first | exact M.out | exact M.out.take 9)
                            case' hy => exact yldsW _ _ rfl (by first | rfl | (go_simp; done)) Tryz.underlying24 rfl rfl (fun w' hS => hS.cell 6 rfl XA.out)
                            try simp only [Act.put, List.getElem_toArray, List.getElem_cons_succ, List.getElem_cons_zero, List.setIfInBounds_toArray, List.set_cons_succ, List.set_cons_zero]
                            apply takeH (i := 5) 261 rfl (by kernel_rfl) (by kernel_rfl) (by kernel_rfl) (fun _ _ _ h => h) rfl (by first | exact M.out | exact M.out.take 9)
                            case' hy =>
                              refine Or.inl ⟨by first | rfl | (go_simp; done), ?_⟩
                              intro w hS
                              clear hS
                              go_simp
                              try with_reducible rfl
                            try simp only [Act.put, List.getElem_toArray, List.getElem_cons_succ, List.getElem_cons_zero, List.setIfInBounds_toArray, List.set_cons_succ, List.set_cons_zero]
                            apply takeH (i := 6) 262 rfl (by kernel_rfl) (by kernel_rfl) (by kernel_rfl) (fun _ _ _ h => h) rfl (by first | exact M.out | exact M.out.take 9)
                            case' hy =>
                              refine Or.inl ⟨by first | rfl | (go_simp; done), ?_⟩
                              intro w hS
                              clear hS
                              go_simp
                              try with_reducible rfl
                            try simp only [Act.put, List.getElem_toArray, List.getElem_cons_succ, List.getElem_cons_zero, List.setIfInBounds_toArray, List.set_cons_succ, List.set_cons_zero]
                            refine wpAnyH_take (i := 7) (v := undef) rfl (by kernel_rfl) (by kernel_rfl) (by kernel_rfl) (fun _ _ _ h => h) (Or.inr ⟨by kernel_rfl, rfl⟩) (by first | exact M.out | exact M.out.take 9) ?_
                            try simp only [Act.put, List.getElem_toArray, List.getElem_cons_succ, List.getElem_cons_zero, List.setIfInBounds_toArray, List.set_cons_succ, List.set_cons_zero]
                            refine wpAnyH_take (i := 8) (v := undef) rfl (by kernel_rfl) (by kernel_rfl) (by kernel_rfl) (fun _ _ _ h => h) (Or.inr ⟨by kernel_rfl, rfl⟩) (by first | exact M.out | exact M.out.take 9) ?_
                            try simp only [Act.put, List.getElem_toArray, List.getElem_cons_succ, List.getElem_cons_zero, List.setIfInBounds_toArray, List.set_cons_succ, List.set_cons_zero]
                            refine wpAnyH_take (i := 9) (v := undef) rfl (by kernel_rfl) (by kernel_rfl) (by kernel_rfl) (fun _ _ _ h => h) (Or.inr ⟨by kernel_rfl, rfl⟩) (by first | exact M.out | exact M.out.take 9) ?_
                            try simp only [Act.put, List.getElem_toArray, List.getElem_cons_succ, List.getElem_cons_zero, List.setIfInBounds_toArray, List.set_cons_succ, List.set_cons_zero]
                            refine wpAnyH_take (i := 10) (v := undef) rfl (by kernel_rfl) (by kernel_rfl) (by kernel_rfl) (fun _ _ _ h => h) (Or.inr ⟨by kernel_rfl, rfl⟩) (by first | exact M.out | exact M.out.take 9) ?_
                            try simp only [Act.put, List.getElem_toArray, List.getElem_cons_succ, List.getElem_cons_zero, List.setIfInBounds_toArray, List.set_cons_succ, List.set_cons_zero]
                            refine wpAnyH_take (i := 11) (v := undef) rfl (by kernel_rfl) (by kernel_rfl) (by kernel_rfl) (fun _ _ _ h => h) (Or.inr ⟨by kernel_rfl, rfl⟩) (by first | exact M.out | exact M.out.take 9) ?_
                            try simp only [Act.put, List.getElem_toArray, List.getElem_cons_succ, List.getElem_cons_zero, List.setIfInBounds_toArray, List.set_cons_succ, List.set_cons_zero]
                            refine wpAnyH_take (i := 12) (v := undef) rfl (by kernel_rfl) (by kernel_rfl) (by kernel_rfl) (fun _ _ _ h => h) (Or.inr ⟨by kernel_rfl, rfl⟩) (by first | exact M.out | exact M.out.take 9) ?_
                            try simp only [Act.put, List.getElem_toArray, List.getElem_cons_succ, List.getElem_cons_zero, List.setIfInBounds_toArray, List.set_cons_succ, List.set_cons_zero]
                            refine wpAnyH_take (i := 13) (v := undef) rfl (by kernel_rfl) (by kernel_rfl) (by kernel_rfl) (fun _ _ _ h => h) (Or.inr ⟨by kernel_rfl, rfl⟩) (by first | exact M.out | exact M.out.take 9) ?_
                            try simp only [Act.put, List.getElem_toArray, List.getElem_cons_succ, List.getElem_cons_zero, List.setIfInBounds_toArray, List.set_cons_succ, List.set_cons_zero]
                            refine wpAnyH_take (i := 14) (v := undef) rfl (by kernel_rfl) (by kernel_rfl) (by kernel_rfl) (fun _ _ _ h => h) (Or.inr ⟨by kernel_rfl, rfl⟩) (by first | exact M.out | exact M.out.take 9) ?_
                            try simp only [Act.put, List.getElem_toArray, List.getElem_cons_succ, List.getElem_cons_zero, List.setIfInBounds_toArray, List.set_cons_succ, List.set_cons_zero]
                            refine wpAnyH_take (i := 15) (v := undef) rfl (by kernel_rfl) (by kernel_rfl) (by kernel_rfl) (fun _ _ _ h => h) (Or.inr ⟨by kernel_rfl, rfl⟩) (by first | exact M.out | exact M.out.take 9) ?_
                            try simp only [Act.put, List.getElem_toArray, List.getElem_cons_succ, List.getElem_cons_zero, List.setIfInBounds_toArray, List.set_cons_succ, List.set_cons_zero]
                            apply takeH (i := 16) 272 rfl (by kernel_rfl) (by kernel_rfl) (by kernel_rfl) (fun _ _ _ h => h) rfl (by first | exact M.out | exact M.out.take 9)
                            case' hy =>
                              refine Or.inl ⟨by first | rfl | (go_simp; done), ?_⟩
                              intro w hS
                              clear hS
                              go_simp
                              try with_reducible rfl
                            try simp only [Act.put, List.getElem_toArray, List.getElem_cons_succ, List.getElem_cons_zero, List.setIfInBounds_toArray, List.set_cons_succ, List.set_cons_zero]
                            apply takeH (i := 17) 273 rfl (by kernel_rfl) (by kernel_rfl) (by kernel_rfl) (fun _ _ _ h => h) rfl (by first | exact M.out | exact M.out.take 9)
                            case' hy =>
                              refine Or.inl ⟨by first | rfl | (go_simp; done), ?_⟩
                              intro w hS
                              clear hS
                              go_simp
                              try with_reducible rfl
                            try simp only [Act.put, List.getElem_toArray, List.getElem_cons_succ, List.getElem_cons_zero, List.setIfInBounds_toArray, List.set_cons_succ, List.set_cons_zero]
                            apply takeH (i := 18) 274 rfl (by kernel_rfl) (by kernel_rfl) (by kernel_rfl) (fun _ _ _ h => h) rfl (by first | exact M.out | exact M.out.take 9)
                            case' hy =>
                              refine Or.inl ⟨by first | rfl | (go_simp; done), ?_⟩
                              intro w hS
                              clear hS
                              go_simp
                              try with_reducible rfl
                            try simp only [Act.put, List.getElem_toArray, List.getElem_cons_succ, List.getElem_cons_zero, List.setIfInBounds_toArray, List.set_cons_succ, List.set_cons_zero]
                            apply takeH (i := 19) 275 rfl (by kernel_rfl) (by kernel_rfl) (by kernel_rfl) (fun _ _ _ h => h) rfl (by first | exact M.out | exact M.out.take 9)
                            case' hy =>
                              refine Or.inl ⟨by first | rfl | (go_simp; done), ?_⟩
                              intro w hS
                              clear hS
                              go_simp
                              try with_reducible rfl
                            try simp only [Act.put, List.getElem_toArray, List.getElem_cons_succ, List.getElem_cons_zero, List.setIfInBounds_toArray, List.set_cons_succ, List.set_cons_zero]
                            apply takeH (i := 20) 276 rfl (by kernel_rfl) (by kernel_rfl) (by kernel_rfl) (fun _ _ _ h => h) rfl (by first | exact M.out | exact M.out.take 9)
                            case' hy => exact yldsW _ _ rfl (by first | rfl | (go_simp; done)) Tryz.underlying24 rfl rfl (fun w' hS => hS.cell 6 rfl XA.out)
                            try simp only [Act.put, List.getElem_toArray, List.getElem_cons_succ, List.getElem_cons_zero, List.setIfInBounds_toArray, List.set_cons_succ, List.set_cons_zero]
                            apply takeH (i := 21) 277 rfl (by kernel_rfl) (by kernel_rfl) (by kernel_rfl) (fun _ _ _ h => h) rfl (by first | exact M.out | exact M.out.take 9)
                            case' hy =>
                              refine Or.inl ⟨by first | rfl | (go_simp; done), ?_⟩
                              intro w hS
                              clear hS
                              go_simp
                              try with_reducible rfl
                            try simp only [Act.put, List.getElem_toArray, List.getElem_cons_succ, List.getElem_cons_zero, List.setIfInBounds_toArray, List.set_cons_succ, List.set_cons_zero]
                            apply takeH (i := 22) 278 rfl (by kernel_rfl) (by kernel_rfl) (by kernel_rfl) (fun _ _ _ h => h) rfl (by first | exact M.out | exact M.out.take 9)
                            case' hy =>
                              refine Or.inl ⟨by first | rfl | (go_simp; done), ?_⟩
                              intro w hS
                              clear hS
                              go_simp
                              try with_reducible rfl
                            try simp only [Act.put, List.getElem_toArray, List.getElem_cons_succ, List.getElem_cons_zero, List.setIfInBounds_toArray, List.set_cons_succ, List.set_cons_zero]
                            apply takeH (i := 23) 279 rfl (by kernel_rfl) (by kernel_rfl) (by kernel_rfl) (fun _ _ _ h => h) rfl (by first | exact M.out | exact M.out.take 9)
                            case' hy =>
                              refine Or.inl ⟨by first | rfl | (go_simp; done), ?_⟩
                              intro w hS
                              clear hS
                              go_simp
                              try with_reducible rfl
                            try simp only [Act.put, List.getElem_toArray, List.getElem_cons_succ, List.getElem_cons_zero, List.setIfInBounds_toArray, List.set_cons_succ, List.set_cons_zero]
                            apply takeH (i := 24) 280 rfl (by kernel_rfl) (by kernel_rfl) (by kernel_rfl) (fun _ _ _ h => h) rfl (by first | exact M.out | exact M.out.take 9)
                            case' hy =>
                              refine Or.inl ⟨by first | rfl | (go_simp; done), ?_⟩
                              intro w hS
                              clear hS
                              go_simp
                              try with_reducible rfl
                            try simp only [Act.put, List.getElem_toArray, List.getElem_cons_succ, List.getElem_cons_zero, List.setIfInBounds_toArray, List.set_cons_succ, List.set_cons_zero]
                            apply takeH (i := 25) 281 rfl (by kernel_rfl) (by kernel_rfl) (by kernel_rfl) (fun _ _ _ h => h) rfl (by first | exact M.out | exact M.out.take 9)
                            case' hy =>
                              refine Or.inl ⟨by first | rfl | (go_simp; done), ?_⟩
                              intro w hS
                              clear hS
                              go_simp
                              try with_reducible rfl
                            try simp only [Act.put, List.getElem_toArray, List.getElem_cons_succ, List.getElem_cons_zero, List.setIfInBounds_toArray, List.set_cons_succ, List.set_cons_zero]
                            apply takeH (i := 26) 282 rfl (by kernel_rfl) (by kernel_rfl) (by kernel_rfl) (fun _ _ _ h => h) rfl (by first | exact M.out | exact M.out.take 9)
                            case' hy =>
                              refine Or.inl ⟨by first | rfl | (go_simp; done), ?_⟩
                              intro w hS
                              clear hS
                              go_simp
                              try with_reducible rfl
                            try simp only [Act.put, List.getElem_toArray, List.getElem_cons_succ, List.getElem_cons_zero, List.setIfInBounds_toArray, List.set_cons_succ, List.set_cons_zero]
                            apply takeH (i := 27) 283 rfl (by kernel_rfl) (by kernel_rfl) (by kernel_rfl) (fun _ _ _ h => h) rfl (by first | exact M.out | exact M.out.take 9)
                            case' hy =>
                              refine Or.inl ⟨by first | rfl | (go_simp; done), ?_⟩
                              intro w hS
                              clear hS
                              go_simp
                              try with_reducible rfl
                            try simp only [Act.put, List.getElem_toArray, List.getElem_cons_succ, List.getElem_cons_zero, List.setIfInBounds_toArray, List.set_cons_succ, List.set_cons_zero]
                            apply takeH (i := 28) 284 rfl (by kernel_rfl) (by kernel_rfl) (by kernel_rfl) (fun _ _ _ h => h) rfl (by first | exact M.out | exact M.out.take 9)
                            case' hy =>
                              refine Or.inl ⟨by first | rfl | (go_simp; done), ?_⟩
                              intro w hS
                              clear hS
                              go_simp
                              try with_reducible rfl
                            try simp only [Act.put, List.getElem_toArray, List.getElem_cons_succ, List.getElem_cons_zero, List.setIfInBounds_toArray, List.set_cons_succ, List.set_cons_zero]
                            apply takeH (i := 29) 285 rfl (by kernel_rfl) (by kernel_rfl) (by kernel_rfl) (fun _ _ _ h => h) rfl (by first | exact M.out | exact M.out.take 9)
                            case' hy =>
                              refine Or.inl ⟨by first | rfl | (go_simp; done), ?_⟩
                              intro w hS
                              clear hS
                              go_simp
                              try with_reducible rfl
                            try simp only [Act.put, List.getElem_toArray, List.getElem_cons_succ, List.getElem_cons_zero, List.setIfInBounds_toArray, List.set_cons_succ, List.set_cons_zero]
                            apply takeH (i := 30) 286 rfl (by kernel_rfl) (by kernel_rfl) (by kernel_rfl) (fun _ _ _ h => h) rfl (by first | exact M.out | exact M.out.take 9)
                            case' hy => exact yldsW _ _ rfl (by first | rfl | (go_simp; done)) Tryz.underlying24 rfl rfl (fun w' hS => hS.cell 6 rfl XA.out)
                            try simp only [Act.put, List.getElem_toArray, List.getElem_cons_succ, List.getElem_cons_zero, List.setIfInBounds_toArray, List.set_cons_succ, List.set_cons_zero]
                            apply takeH (i := 31) 287 rfl (by kernel_rfl) (by kernel_rfl) (by kernel_rfl) (fun _ _ _ h => h) rfl (by first | exact M.out | exact M.out.take 9)
                            case' hy =>
                              refine Or.inl ⟨by first | rfl | (go_simp; done), ?_⟩
                              intro w hS
                              clear hS
                              go_simp
                              try with_reducible rfl
                            try simp only [Act.put, List.getElem_toArray, List.getElem_cons_succ, List.getElem_cons_zero, List.setIfInBounds_toArray, List.set_cons_succ, List.set_cons_zero]
                            apply takeH (i := 32) 288 rfl (by kernel_rfl) (by kernel_rfl) (by kernel_rfl) (fun _ _ _ h => h) rfl (by first | exact M.out | exact M.out.take 9)
                            case' hy =>
                              refine Or.inl ⟨by first | rfl | (go_simp; done), ?_⟩
                              intro w hS
                              clear hS
                              go_simp
                              try with_reducible rfl
                            try simp only [Act.put, List.getElem_toArray, List.getElem_cons_succ, List.getElem_cons_zero, List.setIfInBounds_toArray, List.set_cons_succ, List.set_cons_zero]
                            refine wpAnyH_take (i := 33) (v := undef) rfl (by kernel_rfl) (by kernel_rfl) (by kernel_rfl) (fun _ _ _ h => h) (Or.inr ⟨by kernel_rfl, rfl⟩) (by first | exact M.out | exact M.out.take 9) ?_
                            try simp only [Act.put, List.getElem_toArray, List.getElem_cons_succ, List.getElem_cons_zero, List.setIfInBounds_toArray, List.set_cons_succ, List.set_cons_zero]
                            refine wpAnyH_take (i := 34) (v := undef) rfl (by kernel_rfl) (by kernel_rfl) (by kernel_rfl) (fun _ _ _ h => h) (Or.inr ⟨by kernel_rfl, rfl⟩) (by first | exact M.out | exact M.out.take 9) ?_
                            try simp only [Act.put, List.getElem_toArray, List.getElem_cons_succ, List.getElem_cons_zero, List.setIfInBounds_toArray, List.set_cons_succ, List.set_cons_zero]
                            refine wpAnyH_take (i := 35) (v := undef) rfl (by kernel_rfl) (by kernel_rfl) (by kernel_rfl) (fun _ _ _ h => h) (Or.inr ⟨by kernel_rfl, rfl⟩) (by first | exact M.out | exact M.out.take 9) ?_
                            try simp only [Act.put, List.getElem_toArray, List.getElem_cons_succ, List.getElem_cons_zero, List.setIfInBounds_toArray, List.set_cons_succ, List.set_cons_zero]
                            refine wpAnyH_take (i := 36) (v := undef) rfl (by kernel_rfl) (by kernel_rfl) (by kernel_rfl) (fun _ _ _ h => h) (Or.inr ⟨by kernel_rfl, rfl⟩) (by first | exact M.out | exact M.out.take 9) ?_
                            try simp only [Act.put, List.getElem_toArray, List.getElem_cons_succ, List.getElem_cons_zero, List.setIfInBounds_toArray, List.set_cons_succ, List.set_cons_zero]
                            refine wpAnyH_take (i := 37) (v := undef) rfl (by kernel_rfl) (by kernel_rfl) (by kernel_rfl) (fun _ _ _ h => h) (Or.inr ⟨by kernel_rfl, rfl⟩) (by first | exact M.out | exact M.out.take 9) ?_
                            try simp only [Act.put, List.getElem_toArray, List.getElem_cons_succ, List.getElem_cons_zero, List.setIfInBounds_toArray, List.set_cons_succ, List.set_cons_zero]
                            refine wpAnyH_take (i := 38) (v := undef) rfl (by kernel_rfl) (by kernel_rfl) (by kernel_rfl) (fun _ _ _ h => h) (Or.inr ⟨by kernel_rfl, rfl⟩) (by first | exact M.out | exact M.out.take 9) ?_
                            try simp only [Act.put, List.getElem_toArray, List.getElem_cons_succ, List.getElem_cons_zero, List.setIfInBounds_toArray, List.set_cons_succ, List.set_cons_zero]
                            refine wpAnyH_take (i := 39) (v := undef) rfl (by kernel_rfl) (by kernel_rfl) (by kernel_rfl) (fun _ _ _ h => h) (Or.inr ⟨by kernel_rfl, rfl⟩) (by first | exact M.out | exact M.out.take 9) ?_
                            try simp only [Act.put, List.getElem_toArray, List.getElem_cons_succ, List.getElem_cons_zero, List.setIfInBounds_toArray, List.set_cons_succ, List.set_cons_zero]
                            apply takeH (i := 40) 296 rfl (by kernel_rfl) (by kernel_rfl) (by kernel_rfl) (fun _ _ _ h => h) rfl (by first | exact M.out | exact M.out.take 9)
                            case' hy =>
                              refine Or.inl ⟨by first | rfl | (go_simp; done), ?_⟩
                              intro w hS
                              clear hS
                              go_simp
                              try with_reducible rfl
                            try simp only [Act.put, List.getElem_toArray, List.getElem_cons_succ, List.getElem_cons_zero, List.setIfInBounds_toArray, List.set_cons_succ, List.set_cons_zero]
                            apply takeH (i := 41) 297 rfl (by kernel_rfl) (by kernel_rfl) (by kernel_rfl) (fun _ _ _ h => h) rfl (by first | exact M.out | exact M.out.take 9)
                            case' hy =>
                              refine Or.inl ⟨by first | rfl | (go_simp; done), ?_⟩
                              intro w hS
                              clear hS
                              go_simp
                              try with_reducible rfl
                            try simp only [Act.put, List.getElem_toArray, List.getElem_cons_succ, List.getElem_cons_zero, List.setIfInBounds_toArray, List.set_cons_succ, List.set_cons_zero]
                            refine wpAnyH_done (by kernel_rfl) ?_ _
                            all_goals
                              go_wp2
                              exact ⟨⟨i + 1, hlt2, by go_num, M.out.take 9⟩, by simp [intOf]; omega⟩
                        · have f0 : decide (fr < frc) = false := decide_eq_false (by have := b2 ht; omega)
                          have t0 : (x.taste == 0) = false := by rw [ht]; rfl
                          have t1 : (x.taste == 1) = false := by rw [ht]; rfl
                          have t2 : (x.taste == 2) = true := by rw [ht]; rfl
                          clear b0 b1 b2 ht
                          go_wp2_with (first
                            | ((with_reducible refine gate_dst (N := 188) rfl ?_); go_must (refine M.out.ev_ldw 0 _ _ rfl rfl rfl Tryz.underlying29 rfl (by rw [S1.out]; exact sz29) rfl ?_))
                            | (go_at_call 23; go_must (refine (A2Is_any F WF.out.ok i _).mono ?_); rintro e w_ ⟨rfl, N_⟩; have m := M.out.join N_; clear N_; simp only [List.cons_append, List.nil_append, List.append_nil] at m; have M := Lib.hid m; clear m; rw [HH.out])
                            | ((with_reducible refine gate_dst (N := 196) rfl ?_); go_must (refine M.out.ev_ldw 0 _ _ rfl rfl rfl Tryz.underlying29 rfl (by rw [S1.out]; exact sz29) rfl ?_))
                            | ((with_reducible refine gate_dst (N := 199) rfl ?_); go_must (refine M.out.ev_ld 6 _ _ rfl rfl rfl Tryz.underlying26 rfl rfl XT.out ?_))
                            | (go_at_call 25; go_must (refine (SQ.out _).mono ?_); rintro e w_ ⟨rfl, N_⟩; have m := M.out.join N_; clear N_; simp only [List.cons_append, List.nil_append, List.append_nil] at m; have M := Lib.hid m; clear m)
                            )
                          refine region_anyH (fun w' => Mem w w' [.blk g5 29 F.cells, .blk g6 31 (ints .i16 fs), .row (.slice (some ⟨lb, lo, none⟩) xs.length cp) 48 6 xs.length (flat Flock.vals xs), .row (.slice A8 xs.length c8) 48 6 xs.length (flat Flock.vals xs), .blk g10 40 SF_.cells, .blk g12 40 SF_.cells, .blk g15 48 x.vals.toArray, .blk g16 40 CF.cells, .blk g18 40 CF.cells]) (by kernel_rfl) ?_
                          have m := M.out.drew
                          clear M
                          have M := Lib.hid m
                          clear m
                          apply takeH (i := 0) 204 rfl (by kernel_rfl) (by kernel_rfl) (by kernel_rfl) (fun _ _ _ h => h) rfl (by first | exact M.out | exact M.out.take 9)
                          case' hy =>
                            refine Or.inl ⟨by first | rfl | (go_simp; done), ?_⟩
                            intro w hS
                            clear hS
                            go_simp
                            try with_reducible rfl
                          try simp only [Act.put, List.getElem_toArray, List.getElem_cons_succ, List.getElem_cons_zero, List.setIfInBounds_toArray, List.set_cons_succ, List.set_cons_zero]
                          apply takeH (i := 1) 205 rfl (by kernel_rfl) (by kernel_rfl) (by kernel_rfl) (fun _ _ _ h => h) rfl (by first | exact M.out | exact M.out.take 9)
                          case' hy =>
                            refine Or.inl ⟨by first | rfl | (go_simp; done), ?_⟩
                            intro w hS
                            clear hS
                            go_simp
                            try with_reducible rfl
                          try simp only [Act.put, List.getElem_toArray, List.getElem_cons_succ, List.getElem_cons_zero, List.setIfInBounds_toArray, List.set_cons_succ, List.set_cons_zero]
                          apply takeH (i := 2) 206 rfl (by kernel_rfl) (by kernel_rfl) (by kernel_rfl) (fun _ _ _ h => h) rfl (by first | exact M.out | exact M.out.take 9)
                          case' hy =>
                            refine Or.inl ⟨by first | rfl | (go_simp; done), ?_⟩
                            intro w hS
                            clear hS
                            go_simp
                            try with_reducible rfl
                          try simp only [Act.put, List.getElem_toArray, List.getElem_cons_succ, List.getElem_cons_zero, List.setIfInBounds_toArray, List.set_cons_succ, List.set_cons_zero]
                          apply takeH (i := 3) 207 rfl (by kernel_rfl) (by kernel_rfl) (by kernel_rfl) (fun _ _ _ h => h) rfl (by first | exact M.out | exact M.out.take 9)
                          case' hy => exact ylds _ _ rfl rfl Tryz.underlying26 rfl rfl (fun w' hS => hS.cell 0 rfl XS.out)
                          try simp only [Act.put, List.getElem_toArray, List.getElem_cons_succ, List.getElem_cons_zero, List.setIfInBounds_toArray, List.set_cons_succ, List.set_cons_zero]
                          apply takeH (i := 4) 208 rfl (by kernel_rfl) (by kernel_rfl) (by kernel_rfl) (fun _ _ _ h => h) rfl (by first | exact M.out | exact M.out.take 9)
                          case' hy =>
                            refine Or.inl ⟨by first | rfl | (go_simp; done), ?_⟩
                            intro w hS
                            clear hS
                            go_simp
                            try with_reducible rfl
                          try simp only [Act.put, List.getElem_toArray, List.getElem_cons_succ, List.getElem_cons_zero, List.setIfInBounds_toArray, List.set_cons_succ, List.set_cons_zero]
                          apply takeH (i := 5) 209 rfl (by kernel_rfl) (by kernel_rfl) (by kernel_rfl) (fun _ _ _ h => h) rfl (by first | exact M.out | exact M.out.take 9)
                          case' hy =>
                            refine Or.inl ⟨by first | rfl | (go_simp; done), ?_⟩
                            intro w hS
                            clear hS
                            go_simp
                            try with_reducible rfl
                          try simp only [Act.put, List.getElem_toArray, List.getElem_cons_succ, List.getElem_cons_zero, List.setIfInBounds_toArray, List.set_cons_succ, List.set_cons_zero]
                          apply takeH (i := 6) 210 rfl (by kernel_rfl) (by kernel_rfl) (by kernel_rfl) (fun _ _ _ h => h) rfl (by first | exact M.out | exact M.out.take 9)
                          case' hy =>
                            refine Or.inl ⟨by first | rfl | (go_simp; done), ?_⟩
                            intro w hS
                            clear hS
                            go_simp
                            try with_reducible rfl
                          try simp only [Act.put, List.getElem_toArray, List.getElem_cons_succ, List.getElem_cons_zero, List.setIfInBounds_toArray, List.set_cons_succ, List.set_cons_zero]
                          apply takeH (i := 7) 211 rfl (by kernel_rfl) (by kernel_rfl) (by kernel_rfl) (fun _ _ _ h => h) rfl (by first | exact M.out | exact M.out.take 9)
                          case' hy =>
                            refine Or.inl ⟨by first | rfl | (go_simp; done), ?_⟩
                            intro w hS
                            clear hS
                            go_simp
                            try with_reducible rfl
                          try simp only [Act.put, List.getElem_toArray, List.getElem_cons_succ, List.getElem_cons_zero, List.setIfInBounds_toArray, List.set_cons_succ, List.set_cons_zero]
                          apply takeH (i := 8) 212 rfl (by kernel_rfl) (by kernel_rfl) (by kernel_rfl) (fun _ _ _ h => h) rfl (by first | exact M.out | exact M.out.take 9)
                          case' hy => exact yldsW _ _ rfl (by first | rfl | (go_simp; done)) Tryz.underlying26 rfl rfl (fun w' hS => hS.cell 1 rfl XF.out)
                          try simp only [Act.put, List.getElem_toArray, List.getElem_cons_succ, List.getElem_cons_zero, List.setIfInBounds_toArray, List.set_cons_succ, List.set_cons_zero]
                          apply takeH (i := 9) 213 rfl (by kernel_rfl) (by kernel_rfl) (by kernel_rfl) (fun _ _ _ h => h) rfl (by first | exact M.out | exact M.out.take 9)
                          case' hy =>
                            refine Or.inl ⟨by first | rfl | (go_simp; done), ?_⟩
                            intro w hS
                            clear hS
                            go_simp
                            try with_reducible rfl
                          try simp only [Act.put, List.getElem_toArray, List.getElem_cons_succ, List.getElem_cons_zero, List.setIfInBounds_toArray, List.set_cons_succ, List.set_cons_zero]
                          apply takeH (i := 10) 214 rfl (by kernel_rfl) (by kernel_rfl) (by kernel_rfl) (fun _ _ _ h => h) rfl (by first | exact M.out | exact M.out.take 9)
                          case' hy => exact yldsW _ _ rfl (by first | rfl | (go_simp; done)) Tryz.underlying26 rfl rfl (fun w' hS => hS.cell 6 rfl XB.out)
                          try simp only [Act.put, List.getElem_toArray, List.getElem_cons_succ, List.getElem_cons_zero, List.setIfInBounds_toArray, List.set_cons_succ, List.set_cons_zero]
                          apply takeH (i := 11) 215 rfl (by kernel_rfl) (by kernel_rfl) (by kernel_rfl) (fun _ _ _ h => h) rfl (by first | exact M.out | exact M.out.take 9)
                          case' hy =>
                            refine Or.inl ⟨by first | rfl | (go_simp; done), ?_⟩
                            intro w hS
                            clear hS
                            go_simp
                            try with_reducible rfl
                          try simp only [Act.put, List.getElem_toArray, List.getElem_cons_succ, List.getElem_cons_zero, List.setIfInBounds_toArray, List.set_cons_succ, List.set_cons_zero]
                          apply takeH (i := 12) 216 rfl (by kernel_rfl) (by kernel_rfl) (by kernel_rfl) (fun _ _ _ h => h) rfl (by first | exact M.out | exact M.out.take 9)
                          case' hy =>
                            refine Or.inl ⟨by first | rfl | (go_simp; done), ?_⟩
                            intro w hS
                            clear hS
                            go_simp
                            try with_reducible rfl
                          try simp only [Act.put, List.getElem_toArray, List.getElem_cons_succ, List.getElem_cons_zero, List.setIfInBounds_toArray, List.set_cons_succ, List.set_cons_zero]
                          apply takeH (i := 13) 217 rfl (by kernel_rfl) (by kernel_rfl) (by kernel_rfl) (fun _ _ _ h => h) rfl (by first | exact M.out | exact M.out.take 9)
                          case' hy =>
                            refine Or.inl ⟨by first | rfl | (go_simp; done), ?_⟩
                            intro w hS
                            clear hS
                            go_simp
                            try with_reducible rfl
                          try simp only [Act.put, List.getElem_toArray, List.getElem_cons_succ, List.getElem_cons_zero, List.setIfInBounds_toArray, List.set_cons_succ, List.set_cons_zero]
                          apply takeH (i := 14) 218 rfl (by kernel_rfl) (by kernel_rfl) (by kernel_rfl) (fun _ _ _ h => h) rfl (by first | exact M.out | exact M.out.take 9)
                          case' hy =>
                            refine Or.inl ⟨by first | rfl | (go_simp; done), ?_⟩
                            intro w hS
                            clear hS
                            go_simp
                            try with_reducible rfl
                          try simp only [Act.put, List.getElem_toArray, List.getElem_cons_succ, List.getElem_cons_zero, List.setIfInBounds_toArray, List.set_cons_succ, List.set_cons_zero]
                          apply takeH (i := 15) 219 rfl (by kernel_rfl) (by kernel_rfl) (by kernel_rfl) (fun _ _ _ h => h) rfl (by first | exact M.out | exact M.out.take 9)
                          case' hy =>
                            refine Or.inl ⟨by first | rfl | (go_simp; done), ?_⟩
                            intro w hS
                            clear hS
                            go_simp
                            try with_reducible rfl
                          try simp only [Act.put, List.getElem_toArray, List.getElem_cons_succ, List.getElem_cons_zero, List.setIfInBounds_toArray, List.set_cons_succ, List.set_cons_zero]
                          apply takeH (i := 16) 220 rfl (by kernel_rfl) (by kernel_rfl) (by kernel_rfl) (fun _ _ _ h => h) rfl (by first | exact M.out | exact M.out.take 9)
                          case' hy => exact yldsW _ _ rfl (by first | rfl | (go_simp; done)) Tryz.underlying26 rfl rfl (fun w' hS => hS.cell 6 rfl XR.out)
                          try simp only [Act.put, List.getElem_toArray, List.getElem_cons_succ, List.getElem_cons_zero, List.setIfInBounds_toArray, List.set_cons_succ, List.set_cons_zero]
                          apply takeH (i := 17) 221 rfl (by kernel_rfl) (by kernel_rfl) (by kernel_rfl) (fun _ _ _ h => h) rfl (by first | exact M.out | exact M.out.take 9)
                          case' hy =>
                            refine Or.inl ⟨by first | rfl | (go_simp; done), ?_⟩
                            intro w hS
                            clear hS
                            go_simp
                            try with_reducible rfl
                          try simp only [Act.put, List.getElem_toArray, List.getElem_cons_succ, List.getElem_cons_zero, List.setIfInBounds_toArray, List.set_cons_succ, List.set_cons_zero]
                          apply takeH (i := 18) 222 rfl (by kernel_rfl) (by kernel_rfl) (by kernel_rfl) (fun _ _ _ h => h) rfl (by first | exact M.out | exact M.out.take 9)
                          case' hy =>
                            refine Or.inl ⟨by first | rfl | (go_simp; done), ?_⟩
                            intro w hS
                            clear hS
                            go_simp
                            try with_reducible rfl
                          try simp only [Act.put, List.getElem_toArray, List.getElem_cons_succ, List.getElem_cons_zero, List.setIfInBounds_toArray, List.set_cons_succ, List.set_cons_zero]
                          apply takeH (i := 19) 223 rfl (by kernel_rfl) (by kernel_rfl) (by kernel_rfl) (fun _ _ _ h => h) rfl (by first | exact M.out | exact M.out.take 9)
                          case' hy =>
                            refine Or.inl ⟨by first | rfl | (go_simp; done), ?_⟩
                            intro w hS
                            clear hS
                            go_simp
                            try with_reducible rfl
                          try simp only [Act.put, List.getElem_toArray, List.getElem_cons_succ, List.getElem_cons_zero, List.setIfInBounds_toArray, List.set_cons_succ, List.set_cons_zero]
                          apply takeH (i := 20) 27 rfl (by kernel_rfl) (by kernel_rfl) (by kernel_rfl) (fun _ _ _ h => h) rfl (by first | exact M.out | exact M.out.take 9)
                          case' hy =>
                            refine Or.inl ⟨by first | rfl | (go_simp; done), ?_⟩
                            intro w hS
                            clear hS
                            go_simp
                            try with_reducible rfl
                          try simp only [Act.put, List.getElem_toArray, List.getElem_cons_succ, List.getElem_cons_zero, List.setIfInBounds_toArray, List.set_cons_succ, List.set_cons_zero]
                          refine wpAnyH_done (by kernel_rfl) ?_ _
                          all_goals
                            go_wp2_with (first
                              | ((with_reducible refine gate_dst (N := 227) rfl ?_); refine gate_want rfl ?_; go_must (refine M.out.ev_ldw 8 _ _ rfl rfl rfl Tryz.underlying40 rfl (by exact sz40) rfl ?_))
                              | ((with_reducible refine gate_dst (N := 236) rfl ?_); refine gate_want rfl ?_; go_must (refine M.out.ev_ldw 5 _ _ rfl rfl rfl Tryz.underlying40 rfl (by exact sz40) rfl ?_))
                              | (go_at_call 24; go_must (first | (refine Calls.mono (calls_args (by with_reducible rfl) (HasCellS_any CF O.out.CFok i hlt2 _)) ?_; rintro e w_ ⟨rfl, N_⟩; have m := M.out.join N_; clear N_; simp only [List.cons_append, List.nil_append, List.append_nil] at m; have M := Lib.hid m; clear m; rw [CFI.out]) | (refine Calls.mono (calls_args (by with_reducible rfl) (HasCellS_any SF_ C.out.SFok i hlt2 _)) ?_; rintro e w_ ⟨rfl, N_⟩; have m := M.out.join N_; clear N_; simp only [List.cons_append, List.nil_append, List.append_nil] at m; have M := Lib.hid m; clear m; rw [SFI.out])))
                              | ((with_reducible refine gate_dst (N := 248) rfl ?_); go_must (refine M.out.ev_ldw 0 _ _ rfl rfl rfl Tryz.underlying29 rfl (by rw [S1.out]; exact sz29) rfl ?_))
                              | ((with_reducible refine gate_dst (N := 251) rfl ?_); go_must (refine M.out.ev_ld 6 _ _ rfl rfl rfl Tryz.underlying26 rfl rfl XT.out ?_))
                              | (go_at_call 26; go_must (refine (SQ2.out _).mono ?_); rintro e w_ ⟨rfl, N_⟩; have m := M.out.join N_; clear N_; simp only [List.cons_append, List.nil_append, List.append_nil] at m; have M := Lib.hid m; clear m)
                              )
                            refine region_anyH (fun w' => Mem w w' [.blk g5 29 F.cells, .blk g6 31 (ints .i16 fs), .row (.slice (some ⟨lb, lo, none⟩) xs.length cp) 48 6 xs.length (flat Flock.vals xs), .row (.slice A8 xs.length c8) 48 6 xs.length (flat Flock.vals xs), .blk g10 40 SF_.cells, .blk g12 40 SF_.cells, .blk g15 48 x.vals.toArray, .blk g16 40 CF.cells, .blk g18 40 CF.cells]) (by kernel_rfl) ?_
                            have m := M.out.drew
                            clear M
                            have M := Lib.hid m
                            clear m
                            apply takeH (i := 0) 256 rfl (by kernel_rfl) (by kernel_rfl) (by kernel_rfl) (fun _ _ _ h => h) rfl (by first | exact M.out | exact M.out.take 9)
                            case' hy =>
                              refine Or.inl ⟨by first | rfl | (go_simp; done), ?_⟩
                              intro w hS
                              clear hS
                              go_simp
                              try with_reducible rfl
                            try simp only [Act.put, List.getElem_toArray, List.getElem_cons_succ, List.getElem_cons_zero, List.setIfInBounds_toArray, List.set_cons_succ, List.set_cons_zero]
                            apply takeH (i := 1) 257 rfl (by kernel_rfl) (by kernel_rfl) (by kernel_rfl) (fun _ _ _ h => h) rfl (by first | exact M.out | exact M.out.take 9)
                            case' hy =>
                              refine Or.inl ⟨by first | rfl | (go_simp; done), ?_⟩
                              intro w hS
                              clear hS
                              go_simp
                              try with_reducible rfl
                            try simp only [Act.put, List.getElem_toArray, List.getElem_cons_succ, List.getElem_cons_zero, List.setIfInBounds_toArray, List.set_cons_succ, List.set_cons_zero]
                            apply takeH (i := 2) 258 rfl (by kernel_rfl) (by kernel_rfl) (by kernel_rfl) (fun _ _ _ h => h) rfl (by first | exact M.out | exact M.out.take 9)
                            case' hy =>
                              refine Or.inl ⟨by first | rfl | (go_simp; done), ?_⟩
                              intro w hS
                              clear hS
                              go_simp
                              try with_reducible rfl
                            try simp only [Act.put, List.getElem_toArray, List.getElem_cons_succ, List.getElem_cons_zero, List.setIfInBounds_toArray, List.set_cons_succ, List.set_cons_zero]
                            apply takeH (i := 3) 259 rfl (by kernel_rfl) (by kernel_rfl) (by kernel_rfl) (fun _ _ _ h => h) rfl (by first | exact M.out | exact M.out.take 9)
                            case' hy =>
                              refine Or.inl ⟨by first | rfl | (go_simp; done), ?_⟩
                              intro w hS
                              clear hS
                              go_simp
                              try with_reducible rfl
                            try simp only [Act.put, List.getElem_toArray, List.getElem_cons_succ, List.getElem_cons_zero, List.setIfInBounds_toArray, List.set_cons_succ, List.set_cons_zero]
                            apply takeH (i := 4) 260 rfl (by kernel_rfl) (by kernel_rfl) (by kernel_rfl) (fun _ _ _ h => h) rfl (by first | exact M.out | exact M.out.take 9)
                            case' hy => exact yldsW _ _ rfl (by first | rfl | (go_simp; done)) Tryz.underlying24 rfl rfl (fun w' hS => hS.cell 6 rfl XA.out)
                            try simp only [Act.put, List.getElem_toArray, List.getElem_cons_succ, List.getElem_cons_zero, List.setIfInBounds_toArray, List.set_cons_succ, List.set_cons_zero]
                            apply takeH (i := 5) 261 rfl (by kernel_rfl) (by kernel_rfl) (by kernel_rfl) (fun _ _ _ h => h) rfl (by first | exact M.out | exact M.out.take 9)
                            case' hy =>
                              refine Or.inl ⟨by first | rfl | (go_simp; done), ?_⟩
                              intro w hS
                              clear hS
                              go_simp
                              try with_reducible rfl
                            try simp only [Act.put, List.getElem_toArray, List.getElem_cons_succ, List.getElem_cons_zero, List.setIfInBounds_toArray, List.set_cons_succ, List.set_cons_zero]
                            apply takeH (i := 6) 262 rfl (by kernel_rfl) (by kernel_rfl) (by kernel_rfl) (fun _ _ _ h => h) rfl (by first | exact M.out | exact M.out.take 9)
                            case' hy =>
                              refine Or.inl ⟨by first | rfl | (go_simp; done), ?_⟩
                              intro w hS
                              clear hS
                              go_simp
                              try with_reducible rfl
                            try simp only [Act.put, List.getElem_toArray, List.getElem_cons_succ, List.getElem_cons_zero, List.setIfInBounds_toArray, List.set_cons_succ, List.set_cons_zero]
                            refine wpAnyH_take (i := 7) (v := undef) rfl (by kernel_rfl) (by kernel_rfl) (by kernel_rfl) (fun _ _ _ h => h) (Or.inr ⟨by kernel_rfl, rfl⟩) (by first | exact M.out | exact M.out.take 9) ?_
                            try simp only [Act.put, List.getElem_toArray, List.getElem_cons_succ, List.getElem_cons_zero, List.setIfInBounds_toArray, List.set_cons_succ, List.set_cons_zero]
                            refine wpAnyH_take (i := 8) (v := undef) rfl (by kernel_rfl) (by kernel_rfl) (by kernel_rfl) (fun _ _ _ h => h) (Or.inr ⟨by kernel_rfl, rfl⟩) (by first | exact M.out | exact M.out.take 9) ?_
                            try simp only [Act.put, List.getElem_toArray, List.getElem_cons_succ, List.getElem_cons_zero, List.setIfInBounds_toArray, List.set_cons_succ, List.set_cons_zero]
                            refine wpAnyH_take (i := 9) (v := undef) rfl (by kernel_rfl) (by kernel_rfl) (by kernel_rfl) (fun _ _ _ h => h) (Or.inr ⟨by kernel_rfl, rfl⟩) (by first | exact M.out | exact M.out.take 9) ?_
                            try simp only [Act.put, List.getElem_toArray, List.getElem_cons_succ, List.getElem_cons_zero, List.setIfInBounds_toArray, List.set_cons_succ, List.set_cons_zero]
                            refine wpAnyH_take (i := 10) (v := undef) rfl (by kernel_rfl) (by kernel_rfl) (by kernel_rfl) (fun _ _ _ h => h) (Or.inr ⟨by kernel_rfl, rfl⟩) (by first | exact M.out | exact M.out.take 9) ?_
                            try simp only [Act.put, List.getElem_toArray, List.getElem_cons_succ, List.getElem_cons_zero, List.setIfInBounds_toArray, List.set_cons_succ, List.set_cons_zero]
                            refine wpAnyH_take (i := 11) (v := undef) rfl (by kernel_rfl) (by kernel_rfl) (by kernel_rfl) (fun _ _ _ h => h) (Or.inr ⟨by kernel_rfl, rfl⟩) (by first | exact M.out | exact M.out.take 9) ?_
                            try simp only [Act.put, List.getElem_toArray, List.getElem_cons_succ, List.getElem_cons_zero, List.setIfInBounds_toArray, List.set_cons_succ, List.set_cons_zero]
                            refine wpAnyH_take (i := 12) (v := undef) rfl (by kernel_rfl) (by kernel_rfl) (by kernel_rfl) (fun _ _ _ h => h) (Or.inr ⟨by kernel_rfl, rfl⟩) (by first | exact M.out | exact M.out.take 9) ?_
                            try simp only [Act.put, List.getElem_toArray, List.getElem_cons_succ, List.getElem_cons_zero, List.setIfInBounds_toArray, List.set_cons_succ, List.set_cons_zero]
                            refine wpAnyH_take (i := 13) (v := undef) rfl (by kernel_rfl) (by kernel_rfl) (by kernel_rfl) (fun _ _ _ h => h) (Or.inr ⟨by kernel_rfl, rfl⟩) (by first | exact M.out | exact M.out.take 9) ?_
                            try simp only [Act.put, List.getElem_toArray, List.getElem_cons_succ, List.getElem_cons_zero, List.setIfInBounds_toArray, List.set_cons_succ, List.set_cons_zero]
                            refine wpAnyH_take (i := 14) (v := undef) rfl (by kernel_rfl) (by kernel_rfl) (by kernel_rfl) (fun _ _ _ h => h) (Or.inr ⟨by kernel_rfl, rfl⟩) (by first | exact M.out | exact M.out.take 9) ?_
                            try simp only [Act.put, List.getElem_toArray, List.getElem_cons_succ, List.getElem_cons_zero, List.setIfInBounds_toArray, List.set_cons_succ, List.set_cons_zero]
                            refine wpAnyH_take (i := 15) (v := undef) rfl (by kernel_rfl) (by kernel_rfl) (by kernel_rfl) (fun _ _ _ h => h) (Or.inr ⟨by kernel_rfl, rfl⟩) (by first | exact M.out | exact M.out.take 9) ?_
                            try simp only [Act.put, List.getElem_toArray, List.getElem_cons_succ, List.getElem_cons_zero, List.setIfInBounds_toArray, List.set_cons_succ, List.set_cons_zero]
                            apply takeH (i := 16) 272 rfl (by kernel_rfl) (by kernel_rfl) (by kernel_rfl) (fun _ _ _ h => h) rfl (by first | exact M.out | exact M.out.take 9)
                            case' hy =>
                              refine Or.inl ⟨by first | rfl | (go_simp; done), ?_⟩
                              intro w hS
                              clear hS
                              go_simp
                              try with_reducible rfl
                            try simp only [Act.put, List.getElem_toArray, List.getElem_cons_succ, List.getElem_cons_zero, List.setIfInBounds_toArray, List.set_cons_succ, List.set_cons_zero]
                            apply takeH (i := 17) 273 rfl (by kernel_rfl) (by kernel_rfl) (by kernel_rfl) (fun _ _ _ h => h) rfl (by first | exact M.out | exact M.out.take 9)
                            case' hy =>
                              refine Or.inl ⟨by first | rfl | (go_simp; done), ?_⟩
                              intro w hS
                              clear hS
                              go_simp
                              try with_reducible rfl
                            try simp only [Act.put, List.getElem_toArray, List.getElem_cons_succ, List.getElem_cons_zero, List.setIfInBounds_toArray, List.set_cons_succ, List.set_cons_zero]
                            apply takeH (i := 18) 274 rfl (by kernel_rfl) (by kernel_rfl) (by kernel_rfl) (fun _ _ _ h => h) rfl (by first | exact M.out | exact M.out.take 9)
                            case' hy =>
                              refine Or.inl ⟨by first | rfl | (go_simp; done), ?_⟩
                              intro w hS
                              clear hS
                              go_simp
                              try with_reducible rfl
                            try simp only [Act.put, List.getElem_toArray, List.getElem_cons_succ, List.getElem_cons_zero, List.setIfInBounds_toArray, List.set_cons_succ, List.set_cons_zero]
                            apply takeH (i := 19) 275 rfl (by kernel_rfl) (by kernel_rfl) (by kernel_rfl) (fun _ _ _ h => h) rfl (by first | exact M.out | exact M.out.take 9)
                            case' hy =>
                              refine Or.inl ⟨by first | rfl | (go_simp; done), ?_⟩
                              intro w hS
                              clear hS
                              go_simp
                              try with_reducible rfl
                            try simp only [Act.put, List.getElem_toArray, List.getElem_cons_succ, List.getElem_cons_zero, List.setIfInBounds_toArray, List.set_cons_succ, List.set_cons_zero]
                            apply takeH (i := 20) 276 rfl (by kernel_rfl) (by kernel_rfl) (by kernel_rfl) (fun _ _ _ h => h) rfl (by first | exact M.out | exact M.out.take 9)
                            case' hy => exact yldsW _ _ rfl (by first | rfl | (go_simp; done)) Tryz.underlying24 rfl rfl (fun w' hS => hS.cell 6 rfl XA.out)
                            try simp only [Act.put, List.getElem_toArray, List.getElem_cons_succ, List.getElem_cons_zero, List.setIfInBounds_toArray, List.set_cons_succ, List.set_cons_zero]
                            apply takeH (i := 21) 277 rfl (by kernel_rfl) (by kernel_rfl) (by kernel_rfl) (fun _ _ _ h => h) rfl (by first | exact M.out | exact M.out.take 9)
                            case' hy =>
                              refine Or.inl ⟨by first | rfl | (go_simp; done), ?_⟩
                              intro w hS
                              clear hS
                              go_simp
                              try with_reducible rfl
                            try simp only [Act.put, List.getElem_toArray, List.getElem_cons_succ, List.getElem_cons_zero, List.setIfInBounds_toArray, List.set_cons_succ, List.set_cons_zero]
                            apply takeH (i := 22) 278 rfl (by kernel_rfl) (by kernel_rfl) (by kernel_rfl) (fun _ _ _ h => h) rfl (by first | exact M.out | exact M.out.take 9)
                            case' hy =>
                              refine Or.inl ⟨by first | rfl | (go_simp; done), ?_⟩
                              intro w hS
                              clear hS
                              go_simp
                              try with_reducible rfl
                            try simp only [Act.put, List.getElem_toArray, List.getElem_cons_succ, List.getElem_cons_zero, List.setIfInBounds_toArray, List.set_cons_succ, List.set_cons_zero]
                            refine wpAnyH_take (i := 23) (v := undef) rfl (by kernel_rfl) (by kernel_rfl) (by kernel_rfl) (fun _ _ _ h => h) (Or.inr ⟨by kernel_rfl, rfl⟩) (by first | exact M.out | exact M.out.take 9) ?_
                            try simp only [Act.put, List.getElem_toArray, List.getElem_cons_succ, List.getElem_cons_zero, List.setIfInBounds_toArray, List.set_cons_succ, List.set_cons_zero]
                            refine wpAnyH_take (i := 24) (v := undef) rfl (by kernel_rfl) (by kernel_rfl) (by kernel_rfl) (fun _ _ _ h => h) (Or.inr ⟨by kernel_rfl, rfl⟩) (by first | exact M.out | exact M.out.take 9) ?_
                            try simp only [Act.put, List.getElem_toArray, List.getElem_cons_succ, List.getElem_cons_zero, List.setIfInBounds_toArray, List.set_cons_succ, List.set_cons_zero]
                            refine wpAnyH_take (i := 25) (v := undef) rfl (by kernel_rfl) (by kernel_rfl) (by kernel_rfl) (fun _ _ _ h => h) (Or.inr ⟨by kernel_rfl, rfl⟩) (by first | exact M.out | exact M.out.take 9) ?_
                            try simp only [Act.put, List.getElem_toArray, List.getElem_cons_succ, List.getElem_cons_zero, List.setIfInBounds_toArray, List.set_cons_succ, List.set_cons_zero]
                            apply takeH (i := 26) 282 rfl (by kernel_rfl) (by kernel_rfl) (by kernel_rfl) (fun _ _ _ h => h) rfl (by first | exact M.out | exact M.out.take 9)
                            case' hy =>
                              refine Or.inl ⟨by first | rfl | (go_simp; done), ?_⟩
                              intro w hS
                              clear hS
                              go_simp
                              try with_reducible rfl
                            try simp only [Act.put, List.getElem_toArray, List.getElem_cons_succ, List.getElem_cons_zero, List.setIfInBounds_toArray, List.set_cons_succ, List.set_cons_zero]
                            apply takeH (i := 27) 283 rfl (by kernel_rfl) (by kernel_rfl) (by kernel_rfl) (fun _ _ _ h => h) rfl (by first | exact M.out | exact M.out.take 9)
                            case' hy =>
                              refine Or.inl ⟨by first | rfl | (go_simp; done), ?_⟩
                              intro w hS
                              clear hS
                              go_simp
                              try with_reducible rfl
                            try simp only [Act.put, List.getElem_toArray, List.getElem_cons_succ, List.getElem_cons_zero, List.setIfInBounds_toArray, List.set_cons_succ, List.set_cons_zero]
                            apply takeH (i := 28) 284 rfl (by kernel_rfl) (by kernel_rfl) (by kernel_rfl) (fun _ _ _ h => h) rfl (by first | exact M.out | exact M.out.take 9)
                            case' hy =>
                              refine Or.inl ⟨by first | rfl | (go_simp; done), ?_⟩
                              intro w hS
                              clear hS
                              go_simp
                              try with_reducible rfl
                            try simp only [Act.put, List.getElem_toArray, List.getElem_cons_succ, List.getElem_cons_zero, List.setIfInBounds_toArray, List.set_cons_succ, List.set_cons_zero]
                            apply takeH (i := 29) 285 rfl (by kernel_rfl) (by kernel_rfl) (by kernel_rfl) (fun _ _ _ h => h) rfl (by first | exact M.out | exact M.out.take 9)
                            case' hy =>
                              refine Or.inl ⟨by first | rfl | (go_simp; done), ?_⟩
                              intro w hS
                              clear hS
                              go_simp
                              try with_reducible rfl
                            try simp only [Act.put, List.getElem_toArray, List.getElem_cons_succ, List.getElem_cons_zero, List.setIfInBounds_toArray, List.set_cons_succ, List.set_cons_zero]
                            apply takeH (i := 30) 286 rfl (by kernel_rfl) (by kernel_rfl) (by kernel_rfl) (fun _ _ _ h => h) rfl (by first | exact M.out | exact M.out.take 9)
                            case' hy => exact yldsW _ _ rfl (by first | rfl | (go_simp; done)) Tryz.underlying24 rfl rfl (fun w' hS => hS.cell 6 rfl XA.out)
                            try simp only [Act.put, List.getElem_toArray, List.getElem_cons_succ, List.getElem_cons_zero, List.setIfInBounds_toArray, List.set_cons_succ, List.set_cons_zero]
                            apply takeH (i := 31) 287 rfl (by kernel_rfl) (by kernel_rfl) (by kernel_rfl) (fun _ _ _ h => h) rfl (by first | exact M.out | exact M.out.take 9)
                            case' hy =>
                              refine Or.inl ⟨by first | rfl | (go_simp; done), ?_⟩
                              intro w hS
                              clear hS
                              go_simp
                              try with_reducible rfl
                            try simp only [Act.put, List.getElem_toArray, List.getElem_cons_succ, List.getElem_cons_zero, List.setIfInBounds_toArray, List.set_cons_succ, List.set_cons_zero]
                            apply takeH (i := 32) 288 rfl (by kernel_rfl) (by kernel_rfl) (by kernel_rfl) (fun _ _ _ h => h) rfl (by first | exact M.out | exact M.out.take 9)
                            case' hy =>
                              refine Or.inl ⟨by first | rfl | (go_simp; done), ?_⟩
                              intro w hS
                              clear hS
                              go_simp
                              try with_reducible rfl
                            try simp only [Act.put, List.getElem_toArray, List.getElem_cons_succ, List.getElem_cons_zero, List.setIfInBounds_toArray, List.set_cons_succ, List.set_cons_zero]
                            apply takeH (i := 33) 289 rfl (by kernel_rfl) (by kernel_rfl) (by kernel_rfl) (fun _ _ _ h => h) rfl (by first | exact M.out | exact M.out.take 9)
                            case' hy =>
                              refine Or.inl ⟨by first | rfl | (go_simp; done), ?_⟩
                              intro w hS
                              clear hS
                              go_simp
                              try with_reducible rfl
                            try simp only [Act.put, List.getElem_toArray, List.getElem_cons_succ, List.getElem_cons_zero, List.setIfInBounds_toArray, List.set_cons_succ, List.set_cons_zero]
                            apply takeH (i := 34) 290 rfl (by kernel_rfl) (by kernel_rfl) (by kernel_rfl) (fun _ _ _ h => h) rfl (by first | exact M.out | exact M.out.take 9)
                            case' hy =>
                              refine Or.inl ⟨by first | rfl | (go_simp; done), ?_⟩
                              intro w hS
                              clear hS
                              go_simp
                              try with_reducible rfl
                            try simp only [Act.put, List.getElem_toArray, List.getElem_cons_succ, List.getElem_cons_zero, List.setIfInBounds_toArray, List.set_cons_succ, List.set_cons_zero]
                            apply takeH (i := 35) 291 rfl (by kernel_rfl) (by kernel_rfl) (by kernel_rfl) (fun _ _ _ h => h) rfl (by first | exact M.out | exact M.out.take 9)
                            case' hy => exact yldsW _ _ rfl (by first | rfl | (go_simp; done)) Tryz.underlying26 rfl rfl (fun w' hS => hS.cell 1 rfl XF.out)
                            try simp only [Act.put, List.getElem_toArray, List.getElem_cons_succ, List.getElem_cons_zero, List.setIfInBounds_toArray, List.set_cons_succ, List.set_cons_zero]
                            apply takeH (i := 36) 292 rfl (by kernel_rfl) (by kernel_rfl) (by kernel_rfl) (fun _ _ _ h => h) rfl (by first | exact M.out | exact M.out.take 9)
                            case' hy =>
                              refine Or.inl ⟨by first | rfl | (go_simp; done), ?_⟩
                              intro w hS
                              clear hS
                              go_simp
                              try with_reducible rfl
                            try simp only [Act.put, List.getElem_toArray, List.getElem_cons_succ, List.getElem_cons_zero, List.setIfInBounds_toArray, List.set_cons_succ, List.set_cons_zero]
                            apply takeH (i := 37) 293 rfl (by kernel_rfl) (by kernel_rfl) (by kernel_rfl) (fun _ _ _ h => h) rfl (by first | exact M.out | exact M.out.take 9)
                            case' hy =>
                              refine Or.inl ⟨by first | rfl | (go_simp; done), ?_⟩
                              intro w hS
                              clear hS
                              go_simp
                              try with_reducible rfl
                            try simp only [Act.put, List.getElem_toArray, List.getElem_cons_succ, List.getElem_cons_zero, List.setIfInBounds_toArray, List.set_cons_succ, List.set_cons_zero]
                            apply takeH (i := 38) 294 rfl (by kernel_rfl) (by kernel_rfl) (by kernel_rfl) (fun _ _ _ h => h) rfl (by first | exact M.out | exact M.out.take 9)
                            case' hy => exact yldsW _ _ rfl (by first | rfl | (go_simp; done)) Tryz.underlying26 rfl rfl (fun w' hS => hS.cell 1 rfl XG.out)
                            try simp only [Act.put, List.getElem_toArray, List.getElem_cons_succ, List.getElem_cons_zero, List.setIfInBounds_toArray, List.set_cons_succ, List.set_cons_zero]
                            apply takeH (i := 39) 295 rfl (by kernel_rfl) (by kernel_rfl) (by kernel_rfl) (fun _ _ _ h => h) rfl (by first | exact M.out | exact M.out.take 9)
                            case' hy =>
                              refine Or.inl ⟨by first | rfl | (go_simp; done), ?_⟩
                              intro w hS
                              clear hS
                              go_simp
                              try with_reducible rfl
                            try simp only [Act.put, List.getElem_toArray, List.getElem_cons_succ, List.getElem_cons_zero, List.setIfInBounds_toArray, List.set_cons_succ, List.set_cons_zero]
                            apply takeH (i := 40) 296 rfl (by kernel_rfl) (by kernel_rfl) (by kernel_rfl) (fun _ _ _ h => h) rfl (by first | exact M.out | exact M.out.take 9)
                            case' hy =>
                              refine Or.inl ⟨by first | rfl | (go_simp; done), ?_⟩
                              intro w hS
                              clear hS
                              go_simp
                              try with_reducible rfl
                            try simp only [Act.put, List.getElem_toArray, List.getElem_cons_succ, List.getElem_cons_zero, List.setIfInBounds_toArray, List.set_cons_succ, List.set_cons_zero]
                            apply takeH (i := 41) 297 rfl (by kernel_rfl) (by kernel_rfl) (by kernel_rfl) (fun _ _ _ h => h) rfl (by first | exact M.out | exact M.out.take 9)
                            case' hy =>
                              refine Or.inl ⟨by first | rfl | (go_simp; done), ?_⟩
                              intro w hS
                              clear hS
                              go_simp
                              try with_reducible rfl
                            try simp only [Act.put, List.getElem_toArray, List.getElem_cons_succ, List.getElem_cons_zero, List.setIfInBounds_toArray, List.set_cons_succ, List.set_cons_zero]
                            refine wpAnyH_done (by kernel_rfl) ?_ _
                            all_goals
                              go_wp2
                              exact ⟨⟨i + 1, hlt2, by go_num, M.out.take 9⟩, by simp [intOf]; omega⟩
              · as_aux_lemma =>
                obtain rfl : i = 100 := by omega
                go_wp2_with (first
                  | ((with_reducible refine gate_dst (N := 301) rfl ?_); refine gate_want rfl ?_; go_must (refine M.out.ev_ldw 8 _ _ rfl rfl rfl Tryz.underlying40 rfl (by exact sz40) rfl ?_))
                  | ((with_reducible refine gate_dst (N := 307) rfl ?_); go_must (refine M.out.ev_ldw 0 _ _ rfl rfl rfl Tryz.underlying29 rfl (by rw [S1.out]; exact sz29) rfl ?_))
                  | ((with_reducible refine gate_dst (N := 309) rfl ?_); go_must (refine M.out.ev_ld 6 _ _ rfl rfl rfl Tryz.underlying26 rfl rfl XT.out ?_))
                  | (go_at_call 27; go_must (refine (O.out.tree _).mono ?_); rintro e w_ ⟨rfl, N_⟩; have m := M.out.join N_; clear N_; simp only [List.cons_append, List.nil_append, List.append_nil] at m; have M := Lib.hid m; clear m)
                  | ((with_reducible refine gate_dst (N := 319) rfl ?_); refine gate_want rfl ?_; go_must (refine M.out.ev_ld 6 _ _ rfl rfl rfl Tryz.underlying26 rfl rfl XT.out ?_))
                  | (go_at_call 24; go_must (refine (HasCellS_any CF O.out.CFok c hc _).mono ?_); rintro e w_ ⟨rfl, N_⟩; have m := M.out.join N_; clear N_; simp only [List.cons_append, List.nil_append, List.append_nil] at m; have M := Lib.hid m; clear m; rw [hcC.out])
                  )
                exact ⟨⟨k + 1, hlt, by go_num, M.out.take 6⟩, by simp [intOf]; omega⟩
        · as_aux_lemma =>
            have q0 : decide (0 < CF.all.length) = false := decide_eq_false (by omega)
            clear hcl
            go_wp2_with (first
              | ((with_reducible refine gate_dst (N := 125) rfl ?_); go_must (refine ev_ldr _ _ rfl rfl (show World.rangeAt _ lb (lo + k * 6) x.vals from range_at Flock.vl (sl_rangeFlock (M.out.slof 2 rfl) KK.out) HXK.out) Tryz.underlying48 rfl sz48 rfl ?_))
              | ((with_reducible refine gate_dst (N := 15) rfl ?_); go_must (refine M.out.ev_new rfl (by first | (go_simp; done) | (go_simp; rfl)) ?_); intro g15 w15 m; simp only [List.cons_append, List.nil_append] at m; have M := Lib.hid m; clear m)
              | ((with_reducible refine gate_store (x := .tmp 15) rfl ?_); go_must (refine M.out.ev_stw 6 _ _ _ rfl rfl rfl rfl _ rfl (by first | rfl | kernel_rfl) (by exact sz48) (Flock.one _) rfl ?_); intro wn m; simp only [List.set_cons_zero, List.set_cons_succ] at m; have M := Lib.hid m; clear m)
              | ((with_reducible refine gate_dst (N := 127) rfl ?_); go_must (refine M.out.ev_ldw 0 _ _ rfl rfl rfl Tryz.underlying29 rfl (by rw [S1.out]; exact sz29) rfl ?_))
              | ((with_reducible refine gate_dst (N := 128) rfl ?_); go_must (refine M.out.ev_ldw 1 _ _ rfl rfl rfl Tryz.underlying31 rfl (by rw [SF.out]; exact sz31) rfl ?_))
              | ((with_reducible refine gate_dst (N := 129) rfl ?_); go_must (refine M.out.ev_ldw 6 _ _ rfl rfl rfl Tryz.underlying48 rfl (by exact sz48) rfl ?_))
              | (go_at_call 18; go_must (refine (O.out.cfI _).mono ?_); rintro e w_ ⟨rfl, N_⟩; have m := M.out.join N_; clear N_; simp only [List.cons_append, List.nil_append, List.append_nil] at m; have M := Lib.hid m; clear m)
              | ((with_reducible refine gate_dst (N := 16) rfl ?_); go_must (refine M.out.ev_new rfl (by first | (go_simp; done) | (go_simp; rfl)) ?_); intro g16 w16 m; simp only [List.cons_append, List.nil_append] at m; have M := Lib.hid m; clear m)
              | ((with_reducible refine gate_store (x := .tmp 16) rfl ?_); go_must (refine M.out.ev_stw 7 _ _ _ rfl rfl rfl rfl _ rfl (by first | rfl | kernel_rfl) (by exact sz40) (Cs.one _) rfl ?_); intro wn m; simp only [List.set_cons_zero, List.set_cons_succ] at m; have M := Lib.hid m; clear m)
              | ((with_reducible refine gate_dst (N := 134) rfl ?_); go_must (refine M.out.ev_ldw 0 _ _ rfl rfl rfl Tryz.underlying29 rfl (by rw [S1.out]; exact sz29) rfl ?_))
              | ((with_reducible refine gate_dst (N := 135) rfl ?_); go_must (refine M.out.ev_ldw 1 _ _ rfl rfl rfl Tryz.underlying31 rfl (by rw [SF.out]; exact sz31) rfl ?_))
              | ((with_reducible refine gate_dst (N := 136) rfl ?_); go_must (refine M.out.ev_ldw 6 _ _ rfl rfl rfl Tryz.underlying48 rfl (by exact sz48) rfl ?_))
              | (go_at_call 19; go_must (refine (O.out.cfS _).mono ?_); rintro e w_ ⟨rfl, N_⟩; have m := M.out.join N_; clear N_; simp only [List.cons_append, List.nil_append, List.append_nil] at m; have M := Lib.hid m; clear m)
              | ((with_reducible refine gate_dst (N := 18) rfl ?_); go_must (refine M.out.ev_new rfl (by first | (go_simp; done) | (go_simp; rfl)) ?_); intro g18 w18 m; simp only [List.cons_append, List.nil_append] at m; have M := Lib.hid m; clear m)
              | ((with_reducible refine gate_store (x := .tmp 18) rfl ?_); go_must (refine M.out.ev_stw 8 _ _ _ rfl rfl rfl rfl _ rfl (by first | rfl | kernel_rfl) (by exact sz40) (Cs.one _) rfl ?_); intro wn m; simp only [List.set_cons_zero, List.set_cons_succ] at m; have M := Lib.hid m; clear m)
              | ((with_reducible refine gate_dst (N := 141) rfl ?_); go_must (refine M.out.ev_ldw 0 _ _ rfl rfl rfl Tryz.underlying29 rfl (by rw [S1.out]; exact sz29) rfl ?_))
              | ((with_reducible refine gate_dst (N := 142) rfl ?_); go_must (refine M.out.ev_ldw 1 _ _ rfl rfl rfl Tryz.underlying31 rfl (by rw [SF.out]; exact sz31) rfl ?_))
              | ((with_reducible refine gate_dst (N := 143) rfl ?_); go_must (refine M.out.ev_ldw 6 _ _ rfl rfl rfl Tryz.underlying48 rfl (by exact sz48) rfl ?_))
              | (go_at_call 20; go_must (refine (O.out.chI _).mono ?_); rintro e w_ ⟨rfl, N_⟩; have m := M.out.join N_; clear N_; simp only [List.cons_append, List.nil_append, List.append_nil] at m; have M := Lib.hid m; clear m)
              | ((with_reducible refine gate_dst (N := 148) rfl ?_); go_must (refine M.out.ev_ldw 0 _ _ rfl rfl rfl Tryz.underlying29 rfl (by rw [S1.out]; exact sz29) rfl ?_))
              | ((with_reducible refine gate_dst (N := 149) rfl ?_); go_must (refine M.out.ev_ldw 1 _ _ rfl rfl rfl Tryz.underlying31 rfl (by rw [SF.out]; exact sz31) rfl ?_))
              | ((with_reducible refine gate_dst (N := 150) rfl ?_); go_must (refine M.out.ev_ldw 6 _ _ rfl rfl rfl Tryz.underlying48 rfl (by exact sz48) rfl ?_))
              | (go_at_call 21; go_must (refine (O.out.chS _).mono ?_); rintro e w_ ⟨rfl, N_⟩; have m := M.out.join N_; clear N_; simp only [List.cons_append, List.nil_append, List.append_nil] at m; have M := Lib.hid m; clear m)
              | ((with_reducible refine gate_dst (N := 162) rfl ?_); refine gate_want rfl ?_; go_must (refine M.out.ev_ldw 7 _ _ rfl rfl rfl Tryz.underlying40 rfl (by exact sz40) rfl ?_))
              | ((with_reducible refine gate_dst (N := 163) rfl ?_); refine gate_want rfl ?_; go_must (refine M.out.ev_ldw 8 _ _ rfl rfl rfl Tryz.underlying40 rfl (by exact sz40) rfl ?_))
              | ((with_reducible refine gate_dst (N := 179) rfl ?_); refine gate_want rfl ?_; go_must (refine M.out.ev_ldw 8 _ _ rfl rfl rfl Tryz.underlying40 rfl (by exact sz40) rfl ?_))
              | (go_at_call 22; go_must (refine (CountS_any CF O.out.CFok _).mono ?_); rintro e w_ ⟨rfl, N_⟩; have m := M.out.join N_; clear N_; simp only [List.cons_append, List.nil_append, List.append_nil] at m; have M := Lib.hid m; clear m)
              )
            clear q0
            go_loopw [24] (fun v wr => ∃ i : Nat, i ≤ 100 ∧ v = .int .i64 i ∧ Mem w wr [.blk g5 29 F.cells, .blk g6 31 (ints .i16 fs), .row (.slice (some ⟨lb, lo, none⟩) xs.length cp) 48 6 xs.length (flat Flock.vals xs), .row (.slice A8 xs.length c8) 48 6 xs.length (flat Flock.vals xs), .blk g10 40 SF_.cells, .blk g12 40 SF_.cells, .blk g15 48 x.vals.toArray, .blk g16 40 CF.cells, .blk g18 40 CF.cells])
              (fun v _ => 100 - (intOf v).toNat)
            case atStart => exact ⟨0, by omega, rfl, M.out⟩
            case round =>
              clear M
              obtain ⟨i, hi, rfl, m⟩ := hrel
              have M := Lib.hid m
              clear m
              by_cases hlt2 : i < 100
              · as_aux_lemma =>
                have i0 : (0 : Int) ≤ (i : Int) := by omega
                have i1 : (i : Int) < 100 := by omega
                cases hh : F.has (i : Int) with
                | false =>
                  have HH := Lib.hid hh
                  have CFI := Lib.hid (O.out.out i hlt2 hh)
                  clear hh
                  go_wp2_with (first
                    | ((with_reducible refine gate_dst (N := 188) rfl ?_); go_must (refine M.out.ev_ldw 0 _ _ rfl rfl rfl Tryz.underlying29 rfl (by rw [S1.out]; exact sz29) rfl ?_))
                    | (go_at_call 23; go_must (refine (A2Is_any F WF.out.ok i _).mono ?_); rintro e w_ ⟨rfl, N_⟩; have m := M.out.join N_; clear N_; simp only [List.cons_append, List.nil_append, List.append_nil] at m; have M := Lib.hid m; clear m; rw [HH.out])
                    | ((with_reducible refine gate_dst (N := 192) rfl ?_); go_must (refine M.out.ev_ldw 8 _ _ rfl rfl rfl Tryz.underlying40 rfl (by exact sz40) rfl ?_))
                    | (go_at_call 24; go_must (refine (HasCellS_any CF O.out.CFok i hlt2 _).mono ?_); rintro e w_ ⟨rfl, N_⟩; have m := M.out.join N_; clear N_; simp only [List.cons_append, List.nil_append, List.append_nil] at m; have M := Lib.hid m; clear m; rw [CFI.out])
                    )
                  exact ⟨⟨i + 1, hlt2, by go_num, M.out.take 9⟩, by simp [intOf]; omega⟩
                | true =>
                  have HH := Lib.hid hh
                  have SQ := Lib.hid (fun w1 => O.out.sqI i hlt2 hh w1)
                  have hgo := O.out.go i hlt2 hh
                  have hfree := O.out.free i hlt2
                  have XS := Lib.hid (Fld.cellS WF.out.ok.toLen hlt2)
                  have XF := Lib.hid (show (ints .i16 fs)[i]? = some (.int .i16 (gi fs i)) from ints_at (by rw [AF.out.len]; exact hlt2))
                  obtain ⟨sd, hsd⟩ : ∃ z, z = F.seed i := ⟨_, rfl⟩
                  obtain ⟨fr, hfr⟩ : ∃ z, z = gi fs i := ⟨_, rfl⟩
                  obtain ⟨sq_, hsq_⟩ : ∃ z, z = sq (i : Int) x.tree := ⟨_, rfl⟩
                  rw [← hsd] at hgo XS
                  rw [← hfr] at hgo XF
                  rw [← hsq_] at hgo SQ
                  clear hsd hfr hsq_ hh
                  cases q1 : decide (0 < sd) with
                  | false =>
                    have CFI := Lib.hid (show CF.has i = false by rw [hgo, q1]; rfl)
                    clear hgo hfree
                    go_wp2_with (first
                      | ((with_reducible refine gate_dst (N := 188) rfl ?_); go_must (refine M.out.ev_ldw 0 _ _ rfl rfl rfl Tryz.underlying29 rfl (by rw [S1.out]; exact sz29) rfl ?_))
                      | (go_at_call 23; go_must (refine (A2Is_any F WF.out.ok i _).mono ?_); rintro e w_ ⟨rfl, N_⟩; have m := M.out.join N_; clear N_; simp only [List.cons_append, List.nil_append, List.append_nil] at m; have M := Lib.hid m; clear m; rw [HH.out])
                      | ((with_reducible refine gate_dst (N := 196) rfl ?_); go_must (refine M.out.ev_ldw 0 _ _ rfl rfl rfl Tryz.underlying29 rfl (by rw [S1.out]; exact sz29) rfl ?_))
                      | ((with_reducible refine gate_dst (N := 199) rfl ?_); go_must (refine M.out.ev_ld 6 _ _ rfl rfl rfl Tryz.underlying26 rfl rfl XT.out ?_))
                      | (go_at_call 25; go_must (refine (SQ.out _).mono ?_); rintro e w_ ⟨rfl, N_⟩; have m := M.out.join N_; clear N_; simp only [List.cons_append, List.nil_append, List.append_nil] at m; have M := Lib.hid m; clear m)
                      )
                    refine region_anyH (fun w' => Mem w w' [.blk g5 29 F.cells, .blk g6 31 (ints .i16 fs), .row (.slice (some ⟨lb, lo, none⟩) xs.length cp) 48 6 xs.length (flat Flock.vals xs), .row (.slice A8 xs.length c8) 48 6 xs.length (flat Flock.vals xs), .blk g10 40 SF_.cells, .blk g12 40 SF_.cells, .blk g15 48 x.vals.toArray, .blk g16 40 CF.cells, .blk g18 40 CF.cells]) (by kernel_rfl) ?_
                    have m := M.out.drew
                    clear M
                    have M := Lib.hid m
                    clear m
                    apply takeH (i := 0) 204 rfl (by kernel_rfl) (by kernel_rfl) (by kernel_rfl) (fun _ _ _ h => h) rfl (by first | exact M.out | exact M.out.take 9)
                    case' hy =>
                      refine Or.inl ⟨by first | rfl | (go_simp; done), ?_⟩
                      intro w hS
                      clear hS
                      go_simp
                      try with_reducible rfl
                    try simp only [Act.put, List.getElem_toArray, List.getElem_cons_succ, List.getElem_cons_zero, List.setIfInBounds_toArray, List.set_cons_succ, List.set_cons_zero]
                    apply takeH (i := 1) 205 rfl (by kernel_rfl) (by kernel_rfl) (by kernel_rfl) (fun _ _ _ h => h) rfl (by first | exact M.out | exact M.out.take 9)
                    case' hy =>
                      refine Or.inl ⟨by first | rfl | (go_simp; done), ?_⟩
                      intro w hS
                      clear hS
                      go_simp
                      try with_reducible rfl
                    try simp only [Act.put, List.getElem_toArray, List.getElem_cons_succ, List.getElem_cons_zero, List.setIfInBounds_toArray, List.set_cons_succ, List.set_cons_zero]
                    apply takeH (i := 2) 206 rfl (by kernel_rfl) (by kernel_rfl) (by kernel_rfl) (fun _ _ _ h => h) rfl (by first | exact M.out | exact M.out.take 9)
                    case' hy =>
                      refine Or.inl ⟨by first | rfl | (go_simp; done), ?_⟩
                      intro w hS
                      clear hS
                      go_simp
                      try with_reducible rfl
                    try simp only [Act.put, List.getElem_toArray, List.getElem_cons_succ, List.getElem_cons_zero, List.setIfInBounds_toArray, List.set_cons_succ, List.set_cons_zero]
                    apply takeH (i := 3) 207 rfl (by kernel_rfl) (by kernel_rfl) (by kernel_rfl) (fun _ _ _ h => h) rfl (by first | exact M.out | exact M.out.take 9)
                    case' hy => exact ylds _ _ rfl rfl Tryz.underlying26 rfl rfl (fun w' hS => hS.cell 0 rfl XS.out)
                    try simp only [Act.put, List.getElem_toArray, List.getElem_cons_succ, List.getElem_cons_zero, List.setIfInBounds_toArray, List.set_cons_succ, List.set_cons_zero]
                    apply takeH (i := 4) 208 rfl (by kernel_rfl) (by kernel_rfl) (by kernel_rfl) (fun _ _ _ h => h) rfl (by first | exact M.out | exact M.out.take 9)
                    case' hy =>
                      refine Or.inl ⟨by first | rfl | (go_simp; done), ?_⟩
                      intro w hS
                      clear hS
                      go_simp
                      try with_reducible rfl
                    try simp only [Act.put, List.getElem_toArray, List.getElem_cons_succ, List.getElem_cons_zero, List.setIfInBounds_toArray, List.set_cons_succ, List.set_cons_zero]
                    apply takeH (i := 5) 209 rfl (by kernel_rfl) (by kernel_rfl) (by kernel_rfl) (fun _ _ _ h => h) rfl (by first | exact M.out | exact M.out.take 9)
                    case' hy =>
                      refine Or.inl ⟨by first | rfl | (go_simp; done), ?_⟩
                      intro w hS
                      clear hS
                      go_simp
                      try with_reducible rfl
                    try simp only [Act.put, List.getElem_toArray, List.getElem_cons_succ, List.getElem_cons_zero, List.setIfInBounds_toArray, List.set_cons_succ, List.set_cons_zero]
                    refine wpAnyH_take (i := 6) (v := undef) rfl (by kernel_rfl) (by kernel_rfl) (by kernel_rfl) (fun _ _ _ h => h) (Or.inr ⟨by kernel_rfl, rfl⟩) (by first | exact M.out | exact M.out.take 9) ?_
                    try simp only [Act.put, List.getElem_toArray, List.getElem_cons_succ, List.getElem_cons_zero, List.setIfInBounds_toArray, List.set_cons_succ, List.set_cons_zero]
                    refine wpAnyH_take (i := 7) (v := undef) rfl (by kernel_rfl) (by kernel_rfl) (by kernel_rfl) (fun _ _ _ h => h) (Or.inr ⟨by kernel_rfl, rfl⟩) (by first | exact M.out | exact M.out.take 9) ?_
                    try simp only [Act.put, List.getElem_toArray, List.getElem_cons_succ, List.getElem_cons_zero, List.setIfInBounds_toArray, List.set_cons_succ, List.set_cons_zero]
                    refine wpAnyH_take (i := 8) (v := undef) rfl (by kernel_rfl) (by kernel_rfl) (by kernel_rfl) (fun _ _ _ h => h) (Or.inr ⟨by kernel_rfl, rfl⟩) (by first | exact M.out | exact M.out.take 9) ?_
                    try simp only [Act.put, List.getElem_toArray, List.getElem_cons_succ, List.getElem_cons_zero, List.setIfInBounds_toArray, List.set_cons_succ, List.set_cons_zero]
                    refine wpAnyH_take (i := 9) (v := undef) rfl (by kernel_rfl) (by kernel_rfl) (by kernel_rfl) (fun _ _ _ h => h) (Or.inr ⟨by kernel_rfl, rfl⟩) (by first | exact M.out | exact M.out.take 9) ?_
                    try simp only [Act.put, List.getElem_toArray, List.getElem_cons_succ, List.getElem_cons_zero, List.setIfInBounds_toArray, List.set_cons_succ, List.set_cons_zero]
                    refine wpAnyH_take (i := 10) (v := undef) rfl (by kernel_rfl) (by kernel_rfl) (by kernel_rfl) (fun _ _ _ h => h) (Or.inr ⟨by kernel_rfl, rfl⟩) (by first | exact M.out | exact M.out.take 9) ?_
                    try simp only [Act.put, List.getElem_toArray, List.getElem_cons_succ, List.getElem_cons_zero, List.setIfInBounds_toArray, List.set_cons_succ, List.set_cons_zero]
                    refine wpAnyH_take (i := 11) (v := undef) rfl (by kernel_rfl) (by kernel_rfl) (by kernel_rfl) (fun _ _ _ h => h) (Or.inr ⟨by kernel_rfl, rfl⟩) (by first | exact M.out | exact M.out.take 9) ?_
                    try simp only [Act.put, List.getElem_toArray, List.getElem_cons_succ, List.getElem_cons_zero, List.setIfInBounds_toArray, List.set_cons_succ, List.set_cons_zero]
                    apply takeH (i := 12) 216 rfl (by kernel_rfl) (by kernel_rfl) (by kernel_rfl) (fun _ _ _ h => h) rfl (by first | exact M.out | exact M.out.take 9)
                    case' hy =>
                      refine Or.inl ⟨by first | rfl | (go_simp; done), ?_⟩
                      intro w hS
                      clear hS
                      go_simp
                      try with_reducible rfl
                    try simp only [Act.put, List.getElem_toArray, List.getElem_cons_succ, List.getElem_cons_zero, List.setIfInBounds_toArray, List.set_cons_succ, List.set_cons_zero]
                    apply takeH (i := 13) 217 rfl (by kernel_rfl) (by kernel_rfl) (by kernel_rfl) (fun _ _ _ h => h) rfl (by first | exact M.out | exact M.out.take 9)
                    case' hy =>
                      refine Or.inl ⟨by first | rfl | (go_simp; done), ?_⟩
                      intro w hS
                      clear hS
                      go_simp
                      try with_reducible rfl
                    try simp only [Act.put, List.getElem_toArray, List.getElem_cons_succ, List.getElem_cons_zero, List.setIfInBounds_toArray, List.set_cons_succ, List.set_cons_zero]
                    refine wpAnyH_take (i := 14) (v := undef) rfl (by kernel_rfl) (by kernel_rfl) (by kernel_rfl) (fun _ _ _ h => h) (Or.inr ⟨by kernel_rfl, rfl⟩) (by first | exact M.out | exact M.out.take 9) ?_
                    try simp only [Act.put, List.getElem_toArray, List.getElem_cons_succ, List.getElem_cons_zero, List.setIfInBounds_toArray, List.set_cons_succ, List.set_cons_zero]
                    refine wpAnyH_take (i := 15) (v := undef) rfl (by kernel_rfl) (by kernel_rfl) (by kernel_rfl) (fun _ _ _ h => h) (Or.inr ⟨by kernel_rfl, rfl⟩) (by first | exact M.out | exact M.out.take 9) ?_
                    try simp only [Act.put, List.getElem_toArray, List.getElem_cons_succ, List.getElem_cons_zero, List.setIfInBounds_toArray, List.set_cons_succ, List.set_cons_zero]
                    refine wpAnyH_take (i := 16) (v := undef) rfl (by kernel_rfl) (by kernel_rfl) (by kernel_rfl) (fun _ _ _ h => h) (Or.inr ⟨by kernel_rfl, rfl⟩) (by first | exact M.out | exact M.out.take 9) ?_
                    try simp only [Act.put, List.getElem_toArray, List.getElem_cons_succ, List.getElem_cons_zero, List.setIfInBounds_toArray, List.set_cons_succ, List.set_cons_zero]
                    refine wpAnyH_take (i := 17) (v := undef) rfl (by kernel_rfl) (by kernel_rfl) (by kernel_rfl) (fun _ _ _ h => h) (Or.inr ⟨by kernel_rfl, rfl⟩) (by first | exact M.out | exact M.out.take 9) ?_
                    try simp only [Act.put, List.getElem_toArray, List.getElem_cons_succ, List.getElem_cons_zero, List.setIfInBounds_toArray, List.set_cons_succ, List.set_cons_zero]
                    refine wpAnyH_take (i := 18) (v := undef) rfl (by kernel_rfl) (by kernel_rfl) (by kernel_rfl) (fun _ _ _ h => h) (Or.inr ⟨by kernel_rfl, rfl⟩) (by first | exact M.out | exact M.out.take 9) ?_
                    try simp only [Act.put, List.getElem_toArray, List.getElem_cons_succ, List.getElem_cons_zero, List.setIfInBounds_toArray, List.set_cons_succ, List.set_cons_zero]
                    apply takeH (i := 19) 223 rfl (by kernel_rfl) (by kernel_rfl) (by kernel_rfl) (fun _ _ _ h => h) rfl (by first | exact M.out | exact M.out.take 9)
                    case' hy =>
                      refine Or.inl ⟨by first | rfl | (go_simp; done), ?_⟩
                      intro w hS
                      clear hS
                      go_simp
                      try with_reducible rfl
                    try simp only [Act.put, List.getElem_toArray, List.getElem_cons_succ, List.getElem_cons_zero, List.setIfInBounds_toArray, List.set_cons_succ, List.set_cons_zero]
                    apply takeH (i := 20) 27 rfl (by kernel_rfl) (by kernel_rfl) (by kernel_rfl) (fun _ _ _ h => h) rfl (by first | exact M.out | exact M.out.take 9)
                    case' hy =>
                      refine Or.inl ⟨by first | rfl | (go_simp; done), ?_⟩
                      intro w hS
                      clear hS
                      go_simp
                      try with_reducible rfl
                    try simp only [Act.put, List.getElem_toArray, List.getElem_cons_succ, List.getElem_cons_zero, List.setIfInBounds_toArray, List.set_cons_succ, List.set_cons_zero]
                    refine wpAnyH_done (by kernel_rfl) ?_ _
                    all_goals
                      go_wp2_with (first
                        | ((with_reducible refine gate_dst (N := 227) rfl ?_); refine gate_want rfl ?_; go_must (refine M.out.ev_ldw 8 _ _ rfl rfl rfl Tryz.underlying40 rfl (by exact sz40) rfl ?_))
                        | ((with_reducible refine gate_dst (N := 236) rfl ?_); refine gate_want rfl ?_; go_must (refine M.out.ev_ldw 5 _ _ rfl rfl rfl Tryz.underlying40 rfl (by exact sz40) rfl ?_))
                        | (go_at_call 24; go_must (first | (refine Calls.mono (calls_args (by with_reducible rfl) (HasCellS_any CF O.out.CFok i hlt2 _)) ?_; rintro e w_ ⟨rfl, N_⟩; have m := M.out.join N_; clear N_; simp only [List.cons_append, List.nil_append, List.append_nil] at m; have M := Lib.hid m; clear m; rw [CFI.out]) | (refine Calls.mono (calls_args (by with_reducible rfl) (HasCellS_any SF_ C.out.SFok i hlt2 _)) ?_; rintro e w_ ⟨rfl, N_⟩; have m := M.out.join N_; clear N_; simp only [List.cons_append, List.nil_append, List.append_nil] at m; have M := Lib.hid m; clear m; rw [SFI.out])))
                        )
                      exact ⟨⟨i + 1, hlt2, by go_num, M.out.take 9⟩, by simp [intOf]; omega⟩
                  | true =>
                    cases q2 : decide (fr ≤ x.bold) with
                    | false =>
                      have CFI := Lib.hid (show CF.has i = false by rw [hgo, q1, q2]; rfl)
                      clear hgo hfree
                      go_wp2_with (first
                        | ((with_reducible refine gate_dst (N := 188) rfl ?_); go_must (refine M.out.ev_ldw 0 _ _ rfl rfl rfl Tryz.underlying29 rfl (by rw [S1.out]; exact sz29) rfl ?_))
                        | (go_at_call 23; go_must (refine (A2Is_any F WF.out.ok i _).mono ?_); rintro e w_ ⟨rfl, N_⟩; have m := M.out.join N_; clear N_; simp only [List.cons_append, List.nil_append, List.append_nil] at m; have M := Lib.hid m; clear m; rw [HH.out])
                        | ((with_reducible refine gate_dst (N := 196) rfl ?_); go_must (refine M.out.ev_ldw 0 _ _ rfl rfl rfl Tryz.underlying29 rfl (by rw [S1.out]; exact sz29) rfl ?_))
                        | ((with_reducible refine gate_dst (N := 199) rfl ?_); go_must (refine M.out.ev_ld 6 _ _ rfl rfl rfl Tryz.underlying26 rfl rfl XT.out ?_))
                        | (go_at_call 25; go_must (refine (SQ.out _).mono ?_); rintro e w_ ⟨rfl, N_⟩; have m := M.out.join N_; clear N_; simp only [List.cons_append, List.nil_append, List.append_nil] at m; have M := Lib.hid m; clear m)
                        )
                      refine region_anyH (fun w' => Mem w w' [.blk g5 29 F.cells, .blk g6 31 (ints .i16 fs), .row (.slice (some ⟨lb, lo, none⟩) xs.length cp) 48 6 xs.length (flat Flock.vals xs), .row (.slice A8 xs.length c8) 48 6 xs.length (flat Flock.vals xs), .blk g10 40 SF_.cells, .blk g12 40 SF_.cells, .blk g15 48 x.vals.toArray, .blk g16 40 CF.cells, .blk g18 40 CF.cells]) (by kernel_rfl) ?_
                      have m := M.out.drew
                      clear M
                      have M := Lib.hid m
                      clear m
                      apply takeH (i := 0) 204 rfl (by kernel_rfl) (by kernel_rfl) (by kernel_rfl) (fun _ _ _ h => h) rfl (by first | exact M.out | exact M.out.take 9)
                      case' hy =>
                        refine Or.inl ⟨by first | rfl | (go_simp; done), ?_⟩
                        intro w hS
                        clear hS
                        go_simp
                        try with_reducible rfl
                      try simp only [Act.put, List.getElem_toArray, List.getElem_cons_succ, List.getElem_cons_zero, List.setIfInBounds_toArray, List.set_cons_succ, List.set_cons_zero]
                      apply takeH (i := 1) 205 rfl (by kernel_rfl) (by kernel_rfl) (by kernel_rfl) (fun _ _ _ h => h) rfl (by first | exact M.out | exact M.out.take 9)
                      case' hy =>
                        refine Or.inl ⟨by first | rfl | (go_simp; done), ?_⟩
                        intro w hS
                        clear hS
                        go_simp
                        try with_reducible rfl
                      try simp only [Act.put, List.getElem_toArray, List.getElem_cons_succ, List.getElem_cons_zero, List.setIfInBounds_toArray, List.set_cons_succ, List.set_cons_zero]
                      apply takeH (i := 2) 206 rfl (by kernel_rfl) (by kernel_rfl) (by kernel_rfl) (fun _ _ _ h => h) rfl (by first | exact M.out | exact M.out.take 9)
                      case' hy =>
                        refine Or.inl ⟨by first | rfl | (go_simp; done), ?_⟩
                        intro w hS
                        clear hS
                        go_simp
                        try with_reducible rfl
                      try simp only [Act.put, List.getElem_toArray, List.getElem_cons_succ, List.getElem_cons_zero, List.setIfInBounds_toArray, List.set_cons_succ, List.set_cons_zero]
                      apply takeH (i := 3) 207 rfl (by kernel_rfl) (by kernel_rfl) (by kernel_rfl) (fun _ _ _ h => h) rfl (by first | exact M.out | exact M.out.take 9)
                      case' hy => exact ylds _ _ rfl rfl Tryz.underlying26 rfl rfl (fun w' hS => hS.cell 0 rfl XS.out)
                      try simp only [Act.put, List.getElem_toArray, List.getElem_cons_succ, List.getElem_cons_zero, List.setIfInBounds_toArray, List.set_cons_succ, List.set_cons_zero]
                      apply takeH (i := 4) 208 rfl (by kernel_rfl) (by kernel_rfl) (by kernel_rfl) (fun _ _ _ h => h) rfl (by first | exact M.out | exact M.out.take 9)
                      case' hy =>
                        refine Or.inl ⟨by first | rfl | (go_simp; done), ?_⟩
                        intro w hS
                        clear hS
                        go_simp
                        try with_reducible rfl
                      try simp only [Act.put, List.getElem_toArray, List.getElem_cons_succ, List.getElem_cons_zero, List.setIfInBounds_toArray, List.set_cons_succ, List.set_cons_zero]
                      apply takeH (i := 5) 209 rfl (by kernel_rfl) (by kernel_rfl) (by kernel_rfl) (fun _ _ _ h => h) rfl (by first | exact M.out | exact M.out.take 9)
                      case' hy =>
                        refine Or.inl ⟨by first | rfl | (go_simp; done), ?_⟩
                        intro w hS
                        clear hS
                        go_simp
                        try with_reducible rfl
                      try simp only [Act.put, List.getElem_toArray, List.getElem_cons_succ, List.getElem_cons_zero, List.setIfInBounds_toArray, List.set_cons_succ, List.set_cons_zero]
                      apply takeH (i := 6) 210 rfl (by kernel_rfl) (by kernel_rfl) (by kernel_rfl) (fun _ _ _ h => h) rfl (by first | exact M.out | exact M.out.take 9)
                      case' hy =>
                        refine Or.inl ⟨by first | rfl | (go_simp; done), ?_⟩
                        intro w hS
                        clear hS
                        go_simp
                        try with_reducible rfl
                      try simp only [Act.put, List.getElem_toArray, List.getElem_cons_succ, List.getElem_cons_zero, List.setIfInBounds_toArray, List.set_cons_succ, List.set_cons_zero]
                      apply takeH (i := 7) 211 rfl (by kernel_rfl) (by kernel_rfl) (by kernel_rfl) (fun _ _ _ h => h) rfl (by first | exact M.out | exact M.out.take 9)
                      case' hy =>
                        refine Or.inl ⟨by first | rfl | (go_simp; done), ?_⟩
                        intro w hS
                        clear hS
                        go_simp
                        try with_reducible rfl
                      try simp only [Act.put, List.getElem_toArray, List.getElem_cons_succ, List.getElem_cons_zero, List.setIfInBounds_toArray, List.set_cons_succ, List.set_cons_zero]
                      apply takeH (i := 8) 212 rfl (by kernel_rfl) (by kernel_rfl) (by kernel_rfl) (fun _ _ _ h => h) rfl (by first | exact M.out | exact M.out.take 9)
                      case' hy => exact yldsW _ _ rfl (by first | rfl | (go_simp; done)) Tryz.underlying26 rfl rfl (fun w' hS => hS.cell 1 rfl XF.out)
                      try simp only [Act.put, List.getElem_toArray, List.getElem_cons_succ, List.getElem_cons_zero, List.setIfInBounds_toArray, List.set_cons_succ, List.set_cons_zero]
                      apply takeH (i := 9) 213 rfl (by kernel_rfl) (by kernel_rfl) (by kernel_rfl) (fun _ _ _ h => h) rfl (by first | exact M.out | exact M.out.take 9)
                      case' hy =>
                        refine Or.inl ⟨by first | rfl | (go_simp; done), ?_⟩
                        intro w hS
                        clear hS
                        go_simp
                        try with_reducible rfl
                      try simp only [Act.put, List.getElem_toArray, List.getElem_cons_succ, List.getElem_cons_zero, List.setIfInBounds_toArray, List.set_cons_succ, List.set_cons_zero]
                      apply takeH (i := 10) 214 rfl (by kernel_rfl) (by kernel_rfl) (by kernel_rfl) (fun _ _ _ h => h) rfl (by first | exact M.out | exact M.out.take 9)
                      case' hy => exact yldsW _ _ rfl (by first | rfl | (go_simp; done)) Tryz.underlying26 rfl rfl (fun w' hS => hS.cell 6 rfl XB.out)
                      try simp only [Act.put, List.getElem_toArray, List.getElem_cons_succ, List.getElem_cons_zero, List.setIfInBounds_toArray, List.set_cons_succ, List.set_cons_zero]
                      apply takeH (i := 11) 215 rfl (by kernel_rfl) (by kernel_rfl) (by kernel_rfl) (fun _ _ _ h => h) rfl (by first | exact M.out | exact M.out.take 9)
                      case' hy =>
                        refine Or.inl ⟨by first | rfl | (go_simp; done), ?_⟩
                        intro w hS
                        clear hS
                        go_simp
                        try with_reducible rfl
                      try simp only [Act.put, List.getElem_toArray, List.getElem_cons_succ, List.getElem_cons_zero, List.setIfInBounds_toArray, List.set_cons_succ, List.set_cons_zero]
                      apply takeH (i := 12) 216 rfl (by kernel_rfl) (by kernel_rfl) (by kernel_rfl) (fun _ _ _ h => h) rfl (by first | exact M.out | exact M.out.take 9)
                      case' hy =>
                        refine Or.inl ⟨by first | rfl | (go_simp; done), ?_⟩
                        intro w hS
                        clear hS
                        go_simp
                        try with_reducible rfl
                      try simp only [Act.put, List.getElem_toArray, List.getElem_cons_succ, List.getElem_cons_zero, List.setIfInBounds_toArray, List.set_cons_succ, List.set_cons_zero]
                      apply takeH (i := 13) 217 rfl (by kernel_rfl) (by kernel_rfl) (by kernel_rfl) (fun _ _ _ h => h) rfl (by first | exact M.out | exact M.out.take 9)
                      case' hy =>
                        refine Or.inl ⟨by first | rfl | (go_simp; done), ?_⟩
                        intro w hS
                        clear hS
                        go_simp
                        try with_reducible rfl
                      try simp only [Act.put, List.getElem_toArray, List.getElem_cons_succ, List.getElem_cons_zero, List.setIfInBounds_toArray, List.set_cons_succ, List.set_cons_zero]
                      refine wpAnyH_take (i := 14) (v := undef) rfl (by kernel_rfl) (by kernel_rfl) (by kernel_rfl) (fun _ _ _ h => h) (Or.inr ⟨by kernel_rfl, rfl⟩) (by first | exact M.out | exact M.out.take 9) ?_
                      try simp only [Act.put, List.getElem_toArray, List.getElem_cons_succ, List.getElem_cons_zero, List.setIfInBounds_toArray, List.set_cons_succ, List.set_cons_zero]
                      refine wpAnyH_take (i := 15) (v := undef) rfl (by kernel_rfl) (by kernel_rfl) (by kernel_rfl) (fun _ _ _ h => h) (Or.inr ⟨by kernel_rfl, rfl⟩) (by first | exact M.out | exact M.out.take 9) ?_
                      try simp only [Act.put, List.getElem_toArray, List.getElem_cons_succ, List.getElem_cons_zero, List.setIfInBounds_toArray, List.set_cons_succ, List.set_cons_zero]
                      refine wpAnyH_take (i := 16) (v := undef) rfl (by kernel_rfl) (by kernel_rfl) (by kernel_rfl) (fun _ _ _ h => h) (Or.inr ⟨by kernel_rfl, rfl⟩) (by first | exact M.out | exact M.out.take 9) ?_
                      try simp only [Act.put, List.getElem_toArray, List.getElem_cons_succ, List.getElem_cons_zero, List.setIfInBounds_toArray, List.set_cons_succ, List.set_cons_zero]
                      refine wpAnyH_take (i := 17) (v := undef) rfl (by kernel_rfl) (by kernel_rfl) (by kernel_rfl) (fun _ _ _ h => h) (Or.inr ⟨by kernel_rfl, rfl⟩) (by first | exact M.out | exact M.out.take 9) ?_
                      try simp only [Act.put, List.getElem_toArray, List.getElem_cons_succ, List.getElem_cons_zero, List.setIfInBounds_toArray, List.set_cons_succ, List.set_cons_zero]
                      refine wpAnyH_take (i := 18) (v := undef) rfl (by kernel_rfl) (by kernel_rfl) (by kernel_rfl) (fun _ _ _ h => h) (Or.inr ⟨by kernel_rfl, rfl⟩) (by first | exact M.out | exact M.out.take 9) ?_
                      try simp only [Act.put, List.getElem_toArray, List.getElem_cons_succ, List.getElem_cons_zero, List.setIfInBounds_toArray, List.set_cons_succ, List.set_cons_zero]
                      apply takeH (i := 19) 223 rfl (by kernel_rfl) (by kernel_rfl) (by kernel_rfl) (fun _ _ _ h => h) rfl (by first | exact M.out | exact M.out.take 9)
                      case' hy =>
                        refine Or.inl ⟨by first | rfl | (go_simp; done), ?_⟩
                        intro w hS
                        clear hS
                        go_simp
                        try with_reducible rfl
                      try simp only [Act.put, List.getElem_toArray, List.getElem_cons_succ, List.getElem_cons_zero, List.setIfInBounds_toArray, List.set_cons_succ, List.set_cons_zero]
                      apply takeH (i := 20) 27 rfl (by kernel_rfl) (by kernel_rfl) (by kernel_rfl) (fun _ _ _ h => h) rfl (by first | exact M.out | exact M.out.take 9)
                      case' hy =>
                        refine Or.inl ⟨by first | rfl | (go_simp; done), ?_⟩
                        intro w hS
                        clear hS
                        go_simp
                        try with_reducible rfl
                      try simp only [Act.put, List.getElem_toArray, List.getElem_cons_succ, List.getElem_cons_zero, List.setIfInBounds_toArray, List.set_cons_succ, List.set_cons_zero]
                      refine wpAnyH_done (by kernel_rfl) ?_ _
                      all_goals
                        go_wp2_with (first
                          | ((with_reducible refine gate_dst (N := 227) rfl ?_); refine gate_want rfl ?_; go_must (refine M.out.ev_ldw 8 _ _ rfl rfl rfl Tryz.underlying40 rfl (by exact sz40) rfl ?_))
                          | ((with_reducible refine gate_dst (N := 236) rfl ?_); refine gate_want rfl ?_; go_must (refine M.out.ev_ldw 5 _ _ rfl rfl rfl Tryz.underlying40 rfl (by exact sz40) rfl ?_))
                          | (go_at_call 24; go_must (first | (refine Calls.mono (calls_args (by with_reducible rfl) (HasCellS_any CF O.out.CFok i hlt2 _)) ?_; rintro e w_ ⟨rfl, N_⟩; have m := M.out.join N_; clear N_; simp only [List.cons_append, List.nil_append, List.append_nil] at m; have M := Lib.hid m; clear m; rw [CFI.out]) | (refine Calls.mono (calls_args (by with_reducible rfl) (HasCellS_any SF_ C.out.SFok i hlt2 _)) ?_; rintro e w_ ⟨rfl, N_⟩; have m := M.out.join N_; clear N_; simp only [List.cons_append, List.nil_append, List.append_nil] at m; have M := Lib.hid m; clear m; rw [SFI.out])))
                          )
                        exact ⟨⟨i + 1, hlt2, by go_num, M.out.take 9⟩, by simp [intOf]; omega⟩
                    | true =>
                      cases q3 : decide (sq_ ≤ x.reach) with
                      | false =>
                        have CFI := Lib.hid (show CF.has i = false by rw [hgo, q1, q2, q3]; rfl)
                        clear hgo hfree
                        go_wp2_with (first
                          | ((with_reducible refine gate_dst (N := 188) rfl ?_); go_must (refine M.out.ev_ldw 0 _ _ rfl rfl rfl Tryz.underlying29 rfl (by rw [S1.out]; exact sz29) rfl ?_))
                          | (go_at_call 23; go_must (refine (A2Is_any F WF.out.ok i _).mono ?_); rintro e w_ ⟨rfl, N_⟩; have m := M.out.join N_; clear N_; simp only [List.cons_append, List.nil_append, List.append_nil] at m; have M := Lib.hid m; clear m; rw [HH.out])
                          | ((with_reducible refine gate_dst (N := 196) rfl ?_); go_must (refine M.out.ev_ldw 0 _ _ rfl rfl rfl Tryz.underlying29 rfl (by rw [S1.out]; exact sz29) rfl ?_))
                          | ((with_reducible refine gate_dst (N := 199) rfl ?_); go_must (refine M.out.ev_ld 6 _ _ rfl rfl rfl Tryz.underlying26 rfl rfl XT.out ?_))
                          | (go_at_call 25; go_must (refine (SQ.out _).mono ?_); rintro e w_ ⟨rfl, N_⟩; have m := M.out.join N_; clear N_; simp only [List.cons_append, List.nil_append, List.append_nil] at m; have M := Lib.hid m; clear m)
                          )
                        refine region_anyH (fun w' => Mem w w' [.blk g5 29 F.cells, .blk g6 31 (ints .i16 fs), .row (.slice (some ⟨lb, lo, none⟩) xs.length cp) 48 6 xs.length (flat Flock.vals xs), .row (.slice A8 xs.length c8) 48 6 xs.length (flat Flock.vals xs), .blk g10 40 SF_.cells, .blk g12 40 SF_.cells, .blk g15 48 x.vals.toArray, .blk g16 40 CF.cells, .blk g18 40 CF.cells]) (by kernel_rfl) ?_
                        have m := M.out.drew
                        clear M
                        have M := Lib.hid m
                        clear m
                        apply takeH (i := 0) 204 rfl (by kernel_rfl) (by kernel_rfl) (by kernel_rfl) (fun _ _ _ h => h) rfl (by first | exact M.out | exact M.out.take 9)
                        case' hy =>
                          refine Or.inl ⟨by first | rfl | (go_simp; done), ?_⟩
                          intro w hS
                          clear hS
                          go_simp
                          try with_reducible rfl
                        try simp only [Act.put, List.getElem_toArray, List.getElem_cons_succ, List.getElem_cons_zero, List.setIfInBounds_toArray, List.set_cons_succ, List.set_cons_zero]
                        apply takeH (i := 1) 205 rfl (by kernel_rfl) (by kernel_rfl) (by kernel_rfl) (fun _ _ _ h => h) rfl (by first | exact M.out | exact M.out.take 9)
                        case' hy =>
                          refine Or.inl ⟨by first | rfl | (go_simp; done), ?_⟩
                          intro w hS
                          clear hS
                          go_simp
                          try with_reducible rfl
                        try simp only [Act.put, List.getElem_toArray, List.getElem_cons_succ, List.getElem_cons_zero, List.setIfInBounds_toArray, List.set_cons_succ, List.set_cons_zero]
                        apply takeH (i := 2) 206 rfl (by kernel_rfl) (by kernel_rfl) (by kernel_rfl) (fun _ _ _ h => h) rfl (by first | exact M.out | exact M.out.take 9)
                        case' hy =>
                          refine Or.inl ⟨by first | rfl | (go_simp; done), ?_⟩
                          intro w hS
                          clear hS
                          go_simp
                          try with_reducible rfl
                        try simp only [Act.put, List.getElem_toArray, List.getElem_cons_succ, List.getElem_cons_zero, List.setIfInBounds_toArray, List.set_cons_succ, List.set_cons_zero]
                        apply takeH (i := 3) 207 rfl (by kernel_rfl) (by kernel_rfl) (by kernel_rfl) (fun _ _ _ h => h) rfl (by first | exact M.out | exact M.out.take 9)
                        case' hy => exact ylds _ _ rfl rfl Tryz.underlying26 rfl rfl (fun w' hS => hS.cell 0 rfl XS.out)
                        try simp only [Act.put, List.getElem_toArray, List.getElem_cons_succ, List.getElem_cons_zero, List.setIfInBounds_toArray, List.set_cons_succ, List.set_cons_zero]
                        apply takeH (i := 4) 208 rfl (by kernel_rfl) (by kernel_rfl) (by kernel_rfl) (fun _ _ _ h => h) rfl (by first | exact M.out | exact M.out.take 9)
                        case' hy =>
                          refine Or.inl ⟨by first | rfl | (go_simp; done), ?_⟩
                          intro w hS
                          clear hS
                          go_simp
                          try with_reducible rfl
                        try simp only [Act.put, List.getElem_toArray, List.getElem_cons_succ, List.getElem_cons_zero, List.setIfInBounds_toArray, List.set_cons_succ, List.set_cons_zero]
                        apply takeH (i := 5) 209 rfl (by kernel_rfl) (by kernel_rfl) (by kernel_rfl) (fun _ _ _ h => h) rfl (by first | exact M.out | exact M.out.take 9)
                        case' hy =>
                          refine Or.inl ⟨by first | rfl | (go_simp; done), ?_⟩
                          intro w hS
                          clear hS
                          go_simp
                          try with_reducible rfl
                        try simp only [Act.put, List.getElem_toArray, List.getElem_cons_succ, List.getElem_cons_zero, List.setIfInBounds_toArray, List.set_cons_succ, List.set_cons_zero]
                        apply takeH (i := 6) 210 rfl (by kernel_rfl) (by kernel_rfl) (by kernel_rfl) (fun _ _ _ h => h) rfl (by first | exact M.out | exact M.out.take 9)
                        case' hy =>
                          refine Or.inl ⟨by first | rfl | (go_simp; done), ?_⟩
                          intro w hS
                          clear hS
                          go_simp
                          try with_reducible rfl
                        try simp only [Act.put, List.getElem_toArray, List.getElem_cons_succ, List.getElem_cons_zero, List.setIfInBounds_toArray, List.set_cons_succ, List.set_cons_zero]
                        apply takeH (i := 7) 211 rfl (by kernel_rfl) (by kernel_rfl) (by kernel_rfl) (fun _ _ _ h => h) rfl (by first | exact M.out | exact M.out.take 9)
                        case' hy =>
                          refine Or.inl ⟨by first | rfl | (go_simp; done), ?_⟩
                          intro w hS
                          clear hS
                          go_simp
                          try with_reducible rfl
                        try simp only [Act.put, List.getElem_toArray, List.getElem_cons_succ, List.getElem_cons_zero, List.setIfInBounds_toArray, List.set_cons_succ, List.set_cons_zero]
                        apply takeH (i := 8) 212 rfl (by kernel_rfl) (by kernel_rfl) (by kernel_rfl) (fun _ _ _ h => h) rfl (by first | exact M.out | exact M.out.take 9)
                        case' hy => exact yldsW _ _ rfl (by first | rfl | (go_simp; done)) Tryz.underlying26 rfl rfl (fun w' hS => hS.cell 1 rfl XF.out)
                        try simp only [Act.put, List.getElem_toArray, List.getElem_cons_succ, List.getElem_cons_zero, List.setIfInBounds_toArray, List.set_cons_succ, List.set_cons_zero]
                        apply takeH (i := 9) 213 rfl (by kernel_rfl) (by kernel_rfl) (by kernel_rfl) (fun _ _ _ h => h) rfl (by first | exact M.out | exact M.out.take 9)
                        case' hy =>
                          refine Or.inl ⟨by first | rfl | (go_simp; done), ?_⟩
                          intro w hS
                          clear hS
                          go_simp
                          try with_reducible rfl
                        try simp only [Act.put, List.getElem_toArray, List.getElem_cons_succ, List.getElem_cons_zero, List.setIfInBounds_toArray, List.set_cons_succ, List.set_cons_zero]
                        apply takeH (i := 10) 214 rfl (by kernel_rfl) (by kernel_rfl) (by kernel_rfl) (fun _ _ _ h => h) rfl (by first | exact M.out | exact M.out.take 9)
                        case' hy => exact yldsW _ _ rfl (by first | rfl | (go_simp; done)) Tryz.underlying26 rfl rfl (fun w' hS => hS.cell 6 rfl XB.out)
                        try simp only [Act.put, List.getElem_toArray, List.getElem_cons_succ, List.getElem_cons_zero, List.setIfInBounds_toArray, List.set_cons_succ, List.set_cons_zero]
                        apply takeH (i := 11) 215 rfl (by kernel_rfl) (by kernel_rfl) (by kernel_rfl) (fun _ _ _ h => h) rfl (by first | exact M.out | exact M.out.take 9)
                        case' hy =>
                          refine Or.inl ⟨by first | rfl | (go_simp; done), ?_⟩
                          intro w hS
                          clear hS
                          go_simp
                          try with_reducible rfl
                        try simp only [Act.put, List.getElem_toArray, List.getElem_cons_succ, List.getElem_cons_zero, List.setIfInBounds_toArray, List.set_cons_succ, List.set_cons_zero]
                        apply takeH (i := 12) 216 rfl (by kernel_rfl) (by kernel_rfl) (by kernel_rfl) (fun _ _ _ h => h) rfl (by first | exact M.out | exact M.out.take 9)
                        case' hy =>
                          refine Or.inl ⟨by first | rfl | (go_simp; done), ?_⟩
                          intro w hS
                          clear hS
                          go_simp
                          try with_reducible rfl
                        try simp only [Act.put, List.getElem_toArray, List.getElem_cons_succ, List.getElem_cons_zero, List.setIfInBounds_toArray, List.set_cons_succ, List.set_cons_zero]
                        apply takeH (i := 13) 217 rfl (by kernel_rfl) (by kernel_rfl) (by kernel_rfl) (fun _ _ _ h => h) rfl (by first | exact M.out | exact M.out.take 9)
                        case' hy =>
                          refine Or.inl ⟨by first | rfl | (go_simp; done), ?_⟩
                          intro w hS
                          clear hS
                          go_simp
                          try with_reducible rfl
                        try simp only [Act.put, List.getElem_toArray, List.getElem_cons_succ, List.getElem_cons_zero, List.setIfInBounds_toArray, List.set_cons_succ, List.set_cons_zero]
                        apply takeH (i := 14) 218 rfl (by kernel_rfl) (by kernel_rfl) (by kernel_rfl) (fun _ _ _ h => h) rfl (by first | exact M.out | exact M.out.take 9)
                        case' hy =>
                          refine Or.inl ⟨by first | rfl | (go_simp; done), ?_⟩
                          intro w hS
                          clear hS
                          go_simp
                          try with_reducible rfl
                        try simp only [Act.put, List.getElem_toArray, List.getElem_cons_succ, List.getElem_cons_zero, List.setIfInBounds_toArray, List.set_cons_succ, List.set_cons_zero]
                        apply takeH (i := 15) 219 rfl (by kernel_rfl) (by kernel_rfl) (by kernel_rfl) (fun _ _ _ h => h) rfl (by first | exact M.out | exact M.out.take 9)
                        case' hy =>
                          refine Or.inl ⟨by first | rfl | (go_simp; done), ?_⟩
                          intro w hS
                          clear hS
                          go_simp
                          try with_reducible rfl
                        try simp only [Act.put, List.getElem_toArray, List.getElem_cons_succ, List.getElem_cons_zero, List.setIfInBounds_toArray, List.set_cons_succ, List.set_cons_zero]
                        apply takeH (i := 16) 220 rfl (by kernel_rfl) (by kernel_rfl) (by kernel_rfl) (fun _ _ _ h => h) rfl (by first | exact M.out | exact M.out.take 9)
                        case' hy => exact yldsW _ _ rfl (by first | rfl | (go_simp; done)) Tryz.underlying26 rfl rfl (fun w' hS => hS.cell 6 rfl XR.out)
                        try simp only [Act.put, List.getElem_toArray, List.getElem_cons_succ, List.getElem_cons_zero, List.setIfInBounds_toArray, List.set_cons_succ, List.set_cons_zero]
                        apply takeH (i := 17) 221 rfl (by kernel_rfl) (by kernel_rfl) (by kernel_rfl) (fun _ _ _ h => h) rfl (by first | exact M.out | exact M.out.take 9)
                        case' hy =>
                          refine Or.inl ⟨by first | rfl | (go_simp; done), ?_⟩
                          intro w hS
                          clear hS
                          go_simp
                          try with_reducible rfl
                        try simp only [Act.put, List.getElem_toArray, List.getElem_cons_succ, List.getElem_cons_zero, List.setIfInBounds_toArray, List.set_cons_succ, List.set_cons_zero]
                        apply takeH (i := 18) 222 rfl (by kernel_rfl) (by kernel_rfl) (by kernel_rfl) (fun _ _ _ h => h) rfl (by first | exact M.out | exact M.out.take 9)
                        case' hy =>
                          refine Or.inl ⟨by first | rfl | (go_simp; done), ?_⟩
                          intro w hS
                          clear hS
                          go_simp
                          try with_reducible rfl
                        try simp only [Act.put, List.getElem_toArray, List.getElem_cons_succ, List.getElem_cons_zero, List.setIfInBounds_toArray, List.set_cons_succ, List.set_cons_zero]
                        apply takeH (i := 19) 223 rfl (by kernel_rfl) (by kernel_rfl) (by kernel_rfl) (fun _ _ _ h => h) rfl (by first | exact M.out | exact M.out.take 9)
                        case' hy =>
                          refine Or.inl ⟨by first | rfl | (go_simp; done), ?_⟩
                          intro w hS
                          clear hS
                          go_simp
                          try with_reducible rfl
                        try simp only [Act.put, List.getElem_toArray, List.getElem_cons_succ, List.getElem_cons_zero, List.setIfInBounds_toArray, List.set_cons_succ, List.set_cons_zero]
                        apply takeH (i := 20) 27 rfl (by kernel_rfl) (by kernel_rfl) (by kernel_rfl) (fun _ _ _ h => h) rfl (by first | exact M.out | exact M.out.take 9)
                        case' hy =>
                          refine Or.inl ⟨by first | rfl | (go_simp; done), ?_⟩
                          intro w hS
                          clear hS
                          go_simp
                          try with_reducible rfl
                        try simp only [Act.put, List.getElem_toArray, List.getElem_cons_succ, List.getElem_cons_zero, List.setIfInBounds_toArray, List.set_cons_succ, List.set_cons_zero]
                        refine wpAnyH_done (by kernel_rfl) ?_ _
                        all_goals
                          go_wp2_with (first
                            | ((with_reducible refine gate_dst (N := 227) rfl ?_); refine gate_want rfl ?_; go_must (refine M.out.ev_ldw 8 _ _ rfl rfl rfl Tryz.underlying40 rfl (by exact sz40) rfl ?_))
                            | ((with_reducible refine gate_dst (N := 236) rfl ?_); refine gate_want rfl ?_; go_must (refine M.out.ev_ldw 5 _ _ rfl rfl rfl Tryz.underlying40 rfl (by exact sz40) rfl ?_))
                            | (go_at_call 24; go_must (first | (refine Calls.mono (calls_args (by with_reducible rfl) (HasCellS_any CF O.out.CFok i hlt2 _)) ?_; rintro e w_ ⟨rfl, N_⟩; have m := M.out.join N_; clear N_; simp only [List.cons_append, List.nil_append, List.append_nil] at m; have M := Lib.hid m; clear m; rw [CFI.out]) | (refine Calls.mono (calls_args (by with_reducible rfl) (HasCellS_any SF_ C.out.SFok i hlt2 _)) ?_; rintro e w_ ⟨rfl, N_⟩; have m := M.out.join N_; clear N_; simp only [List.cons_append, List.nil_append, List.append_nil] at m; have M := Lib.hid m; clear m; rw [SFI.out])))
                            )
                          exact ⟨⟨i + 1, hlt2, by go_num, M.out.take 9⟩, by simp [intOf]; omega⟩
                      | true =>
                        have hci : CF.has i = true := by rw [hgo, q1, q2, q3]; rfl
                        have CFI := Lib.hid hci
                        have SFI := Lib.hid (hfree hci)
                        clear hgo hfree
                        go_wp2_with (first
                          | ((with_reducible refine gate_dst (N := 188) rfl ?_); go_must (refine M.out.ev_ldw 0 _ _ rfl rfl rfl Tryz.underlying29 rfl (by rw [S1.out]; exact sz29) rfl ?_))
                          | (go_at_call 23; go_must (refine (A2Is_any F WF.out.ok i _).mono ?_); rintro e w_ ⟨rfl, N_⟩; have m := M.out.join N_; clear N_; simp only [List.cons_append, List.nil_append, List.append_nil] at m; have M := Lib.hid m; clear m; rw [HH.out])
                          | ((with_reducible refine gate_dst (N := 196) rfl ?_); go_must (refine M.out.ev_ldw 0 _ _ rfl rfl rfl Tryz.underlying29 rfl (by rw [S1.out]; exact sz29) rfl ?_))
                          | ((with_reducible refine gate_dst (N := 199) rfl ?_); go_must (refine M.out.ev_ld 6 _ _ rfl rfl rfl Tryz.underlying26 rfl rfl XT.out ?_))
                          | (go_at_call 25; go_must (refine (SQ.out _).mono ?_); rintro e w_ ⟨rfl, N_⟩; have m := M.out.join N_; clear N_; simp only [List.cons_append, List.nil_append, List.append_nil] at m; have M := Lib.hid m; clear m)
                          )
                        refine region_anyH (fun w' => Mem w w' [.blk g5 29 F.cells, .blk g6 31 (ints .i16 fs), .row (.slice (some ⟨lb, lo, none⟩) xs.length cp) 48 6 xs.length (flat Flock.vals xs), .row (.slice A8 xs.length c8) 48 6 xs.length (flat Flock.vals xs), .blk g10 40 SF_.cells, .blk g12 40 SF_.cells, .blk g15 48 x.vals.toArray, .blk g16 40 CF.cells, .blk g18 40 CF.cells]) (by kernel_rfl) ?_
                        have m := M.out.drew
                        clear M
                        have M := Lib.hid m
                        clear m
                        apply takeH (i := 0) 204 rfl (by kernel_rfl) (by kernel_rfl) (by kernel_rfl) (fun _ _ _ h => h) rfl (by first | exact M.out | exact M.out.take 9)
                        case' hy =>
                          refine Or.inl ⟨by first | rfl | (go_simp; done), ?_⟩
                          intro w hS
                          clear hS
                          go_simp
                          try with_reducible rfl
                        try simp only [Act.put, List.getElem_toArray, List.getElem_cons_succ, List.getElem_cons_zero, List.setIfInBounds_toArray, List.set_cons_succ, List.set_cons_zero]
                        apply takeH (i := 1) 205 rfl (by kernel_rfl) (by kernel_rfl) (by kernel_rfl) (fun _ _ _ h => h) rfl (by first | exact M.out | exact M.out.take 9)
                        case' hy =>
                          refine Or.inl ⟨by first | rfl | (go_simp; done), ?_⟩
                          intro w hS
                          clear hS
                          go_simp
                          try with_reducible rfl
                        try simp only [Act.put, List.getElem_toArray, List.getElem_cons_succ, List.getElem_cons_zero, List.setIfInBounds_toArray, List.set_cons_succ, List.set_cons_zero]
                        apply takeH (i := 2) 206 rfl (by kernel_rfl) (by kernel_rfl) (by kernel_rfl) (fun _ _ _ h => h) rfl (by first | exact M.out | exact M.out.take 9)
                        case' hy =>
                          refine Or.inl ⟨by first | rfl | (go_simp; done), ?_⟩
                          intro w hS
                          clear hS
                          go_simp
                          try with_reducible rfl
                        try simp only [Act.put, List.getElem_toArray, List.getElem_cons_succ, List.getElem_cons_zero, List.setIfInBounds_toArray, List.set_cons_succ, List.set_cons_zero]
                        apply takeH (i := 3) 207 rfl (by kernel_rfl) (by kernel_rfl) (by kernel_rfl) (fun _ _ _ h => h) rfl (by first | exact M.out | exact M.out.take 9)
                        case' hy => exact ylds _ _ rfl rfl Tryz.underlying26 rfl rfl (fun w' hS => hS.cell 0 rfl XS.out)
                        try simp only [Act.put, List.getElem_toArray, List.getElem_cons_succ, List.getElem_cons_zero, List.setIfInBounds_toArray, List.set_cons_succ, List.set_cons_zero]
                        apply takeH (i := 4) 208 rfl (by kernel_rfl) (by kernel_rfl) (by kernel_rfl) (fun _ _ _ h => h) rfl (by first | exact M.out | exact M.out.take 9)
                        case' hy =>
                          refine Or.inl ⟨by first | rfl | (go_simp; done), ?_⟩
                          intro w hS
                          clear hS
                          go_simp
                          try with_reducible rfl
                        try simp only [Act.put, List.getElem_toArray, List.getElem_cons_succ, List.getElem_cons_zero, List.setIfInBounds_toArray, List.set_cons_succ, List.set_cons_zero]
                        apply takeH (i := 5) 209 rfl (by kernel_rfl) (by kernel_rfl) (by kernel_rfl) (fun _ _ _ h => h) rfl (by first | exact M.out | exact M.out.take 9)
                        case' hy =>
                          refine Or.inl ⟨by first | rfl | (go_simp; done), ?_⟩
                          intro w hS
                          clear hS
                          go_simp
                          try with_reducible rfl
                        try simp only [Act.put, List.getElem_toArray, List.getElem_cons_succ, List.getElem_cons_zero, List.setIfInBounds_toArray, List.set_cons_succ, List.set_cons_zero]
                        apply takeH (i := 6) 210 rfl (by kernel_rfl) (by kernel_rfl) (by kernel_rfl) (fun _ _ _ h => h) rfl (by first | exact M.out | exact M.out.take 9)
                        case' hy =>
                          refine Or.inl ⟨by first | rfl | (go_simp; done), ?_⟩
                          intro w hS
                          clear hS
                          go_simp
                          try with_reducible rfl
                        try simp only [Act.put, List.getElem_toArray, List.getElem_cons_succ, List.getElem_cons_zero, List.setIfInBounds_toArray, List.set_cons_succ, List.set_cons_zero]
                        apply takeH (i := 7) 211 rfl (by kernel_rfl) (by kernel_rfl) (by kernel_rfl) (fun _ _ _ h => h) rfl (by first | exact M.out | exact M.out.take 9)
                        case' hy =>
                          refine Or.inl ⟨by first | rfl | (go_simp; done), ?_⟩
                          intro w hS
                          clear hS
                          go_simp
                          try with_reducible rfl
                        try simp only [Act.put, List.getElem_toArray, List.getElem_cons_succ, List.getElem_cons_zero, List.setIfInBounds_toArray, List.set_cons_succ, List.set_cons_zero]
                        apply takeH (i := 8) 212 rfl (by kernel_rfl) (by kernel_rfl) (by kernel_rfl) (fun _ _ _ h => h) rfl (by first | exact M.out | exact M.out.take 9)
                        case' hy => exact yldsW _ _ rfl (by first | rfl | (go_simp; done)) Tryz.underlying26 rfl rfl (fun w' hS => hS.cell 1 rfl XF.out)
                        try simp only [Act.put, List.getElem_toArray, List.getElem_cons_succ, List.getElem_cons_zero, List.setIfInBounds_toArray, List.set_cons_succ, List.set_cons_zero]
                        apply takeH (i := 9) 213 rfl (by kernel_rfl) (by kernel_rfl) (by kernel_rfl) (fun _ _ _ h => h) rfl (by first | exact M.out | exact M.out.take 9)
                        case' hy =>
                          refine Or.inl ⟨by first | rfl | (go_simp; done), ?_⟩
                          intro w hS
                          clear hS
                          go_simp
                          try with_reducible rfl
                        try simp only [Act.put, List.getElem_toArray, List.getElem_cons_succ, List.getElem_cons_zero, List.setIfInBounds_toArray, List.set_cons_succ, List.set_cons_zero]
                        apply takeH (i := 10) 214 rfl (by kernel_rfl) (by kernel_rfl) (by kernel_rfl) (fun _ _ _ h => h) rfl (by first | exact M.out | exact M.out.take 9)
                        case' hy => exact yldsW _ _ rfl (by first | rfl | (go_simp; done)) Tryz.underlying26 rfl rfl (fun w' hS => hS.cell 6 rfl XB.out)
                        try simp only [Act.put, List.getElem_toArray, List.getElem_cons_succ, List.getElem_cons_zero, List.setIfInBounds_toArray, List.set_cons_succ, List.set_cons_zero]
                        apply takeH (i := 11) 215 rfl (by kernel_rfl) (by kernel_rfl) (by kernel_rfl) (fun _ _ _ h => h) rfl (by first | exact M.out | exact M.out.take 9)
                        case' hy =>
                          refine Or.inl ⟨by first | rfl | (go_simp; done), ?_⟩
                          intro w hS
                          clear hS
                          go_simp
                          try with_reducible rfl
                        try simp only [Act.put, List.getElem_toArray, List.getElem_cons_succ, List.getElem_cons_zero, List.setIfInBounds_toArray, List.set_cons_succ, List.set_cons_zero]
                        apply takeH (i := 12) 216 rfl (by kernel_rfl) (by kernel_rfl) (by kernel_rfl) (fun _ _ _ h => h) rfl (by first | exact M.out | exact M.out.take 9)
                        case' hy =>
                          refine Or.inl ⟨by first | rfl | (go_simp; done), ?_⟩
                          intro w hS
                          clear hS
                          go_simp
                          try with_reducible rfl
                        try simp only [Act.put, List.getElem_toArray, List.getElem_cons_succ, List.getElem_cons_zero, List.setIfInBounds_toArray, List.set_cons_succ, List.set_cons_zero]
                        apply takeH (i := 13) 217 rfl (by kernel_rfl) (by kernel_rfl) (by kernel_rfl) (fun _ _ _ h => h) rfl (by first | exact M.out | exact M.out.take 9)
                        case' hy =>
                          refine Or.inl ⟨by first | rfl | (go_simp; done), ?_⟩
                          intro w hS
                          clear hS
                          go_simp
                          try with_reducible rfl
                        try simp only [Act.put, List.getElem_toArray, List.getElem_cons_succ, List.getElem_cons_zero, List.setIfInBounds_toArray, List.set_cons_succ, List.set_cons_zero]
                        apply takeH (i := 14) 218 rfl (by kernel_rfl) (by kernel_rfl) (by kernel_rfl) (fun _ _ _ h => h) rfl (by first | exact M.out | exact M.out.take 9)
                        case' hy =>
                          refine Or.inl ⟨by first | rfl | (go_simp; done), ?_⟩
                          intro w hS
                          clear hS
                          go_simp
                          try with_reducible rfl
                        try simp only [Act.put, List.getElem_toArray, List.getElem_cons_succ, List.getElem_cons_zero, List.setIfInBounds_toArray, List.set_cons_succ, List.set_cons_zero]
                        apply takeH (i := 15) 219 rfl (by kernel_rfl) (by kernel_rfl) (by kernel_rfl) (fun _ _ _ h => h) rfl (by first | exact M.out | exact M.out.take 9)
                        case' hy =>
                          refine Or.inl ⟨by first | rfl | (go_simp; done), ?_⟩
                          intro w hS
                          clear hS
                          go_simp
                          try with_reducible rfl
                        try simp only [Act.put, List.getElem_toArray, List.getElem_cons_succ, List.getElem_cons_zero, List.setIfInBounds_toArray, List.set_cons_succ, List.set_cons_zero]
                        apply takeH (i := 16) 220 rfl (by kernel_rfl) (by kernel_rfl) (by kernel_rfl) (fun _ _ _ h => h) rfl (by first | exact M.out | exact M.out.take 9)
                        case' hy => exact yldsW _ _ rfl (by first | rfl | (go_simp; done)) Tryz.underlying26 rfl rfl (fun w' hS => hS.cell 6 rfl XR.out)
                        try simp only [Act.put, List.getElem_toArray, List.getElem_cons_succ, List.getElem_cons_zero, List.setIfInBounds_toArray, List.set_cons_succ, List.set_cons_zero]
                        apply takeH (i := 17) 221 rfl (by kernel_rfl) (by kernel_rfl) (by kernel_rfl) (fun _ _ _ h => h) rfl (by first | exact M.out | exact M.out.take 9)
                        case' hy =>
                          refine Or.inl ⟨by first | rfl | (go_simp; done), ?_⟩
                          intro w hS
                          clear hS
                          go_simp
                          try with_reducible rfl
                        try simp only [Act.put, List.getElem_toArray, List.getElem_cons_succ, List.getElem_cons_zero, List.setIfInBounds_toArray, List.set_cons_succ, List.set_cons_zero]
                        apply takeH (i := 18) 222 rfl (by kernel_rfl) (by kernel_rfl) (by kernel_rfl) (fun _ _ _ h => h) rfl (by first | exact M.out | exact M.out.take 9)
                        case' hy =>
                          refine Or.inl ⟨by first | rfl | (go_simp; done), ?_⟩
                          intro w hS
                          clear hS
                          go_simp
                          try with_reducible rfl
                        try simp only [Act.put, List.getElem_toArray, List.getElem_cons_succ, List.getElem_cons_zero, List.setIfInBounds_toArray, List.set_cons_succ, List.set_cons_zero]
                        apply takeH (i := 19) 223 rfl (by kernel_rfl) (by kernel_rfl) (by kernel_rfl) (fun _ _ _ h => h) rfl (by first | exact M.out | exact M.out.take 9)
                        case' hy =>
                          refine Or.inl ⟨by first | rfl | (go_simp; done), ?_⟩
                          intro w hS
                          clear hS
                          go_simp
                          try with_reducible rfl
                        try simp only [Act.put, List.getElem_toArray, List.getElem_cons_succ, List.getElem_cons_zero, List.setIfInBounds_toArray, List.set_cons_succ, List.set_cons_zero]
                        apply takeH (i := 20) 27 rfl (by kernel_rfl) (by kernel_rfl) (by kernel_rfl) (fun _ _ _ h => h) rfl (by first | exact M.out | exact M.out.take 9)
                        case' hy =>
                          refine Or.inl ⟨by first | rfl | (go_simp; done), ?_⟩
                          intro w hS
                          clear hS
                          go_simp
                          try with_reducible rfl
                        try simp only [Act.put, List.getElem_toArray, List.getElem_cons_succ, List.getElem_cons_zero, List.setIfInBounds_toArray, List.set_cons_succ, List.set_cons_zero]
                        refine wpAnyH_done (by kernel_rfl) ?_ _
                        all_goals
                          go_wp2_with (first
                            | ((with_reducible refine gate_dst (N := 227) rfl ?_); refine gate_want rfl ?_; go_must (refine M.out.ev_ldw 8 _ _ rfl rfl rfl Tryz.underlying40 rfl (by exact sz40) rfl ?_))
                            | ((with_reducible refine gate_dst (N := 236) rfl ?_); refine gate_want rfl ?_; go_must (refine M.out.ev_ldw 5 _ _ rfl rfl rfl Tryz.underlying40 rfl (by exact sz40) rfl ?_))
                            | (go_at_call 24; go_must (first | (refine Calls.mono (calls_args (by with_reducible rfl) (HasCellS_any CF O.out.CFok i hlt2 _)) ?_; rintro e w_ ⟨rfl, N_⟩; have m := M.out.join N_; clear N_; simp only [List.cons_append, List.nil_append, List.append_nil] at m; have M := Lib.hid m; clear m; rw [CFI.out]) | (refine Calls.mono (calls_args (by with_reducible rfl) (HasCellS_any SF_ C.out.SFok i hlt2 _)) ?_; rintro e w_ ⟨rfl, N_⟩; have m := M.out.join N_; clear N_; simp only [List.cons_append, List.nil_append, List.append_nil] at m; have M := Lib.hid m; clear m; rw [SFI.out])))
                            )
                          exact ⟨⟨i + 1, hlt2, by go_num, M.out.take 9⟩, by simp [intOf]; omega⟩
              · as_aux_lemma =>
                obtain rfl : i = 100 := by omega
                go_wp2_with (first
                  | ((with_reducible refine gate_dst (N := 301) rfl ?_); refine gate_want rfl ?_; go_must (refine M.out.ev_ldw 8 _ _ rfl rfl rfl Tryz.underlying40 rfl (by exact sz40) rfl ?_))
                  | ((with_reducible refine gate_dst (N := 307) rfl ?_); go_must (refine M.out.ev_ldw 0 _ _ rfl rfl rfl Tryz.underlying29 rfl (by rw [S1.out]; exact sz29) rfl ?_))
                  | ((with_reducible refine gate_dst (N := 309) rfl ?_); go_must (refine M.out.ev_ld 6 _ _ rfl rfl rfl Tryz.underlying26 rfl rfl XT.out ?_))
                  | (go_at_call 27; go_must (refine (O.out.tree _).mono ?_); rintro e w_ ⟨rfl, N_⟩; have m := M.out.join N_; clear N_; simp only [List.cons_append, List.nil_append, List.append_nil] at m; have M := Lib.hid m; clear m)
                  | ((with_reducible refine gate_dst (N := 319) rfl ?_); refine gate_want rfl ?_; go_must (refine M.out.ev_ld 6 _ _ rfl rfl rfl Tryz.underlying26 rfl rfl XT.out ?_))
                  )
                exact ⟨⟨k + 1, hlt, by go_num, M.out.take 6⟩, by simp [intOf]; omega⟩
      · as_aux_lemma =>
        obtain rfl : k = xs.length := by omega
        have k1 : ¬ ((xs.length : Int) < (xs.length : Int)) := by omega
        go_wp2
        go_ret
        exact ⟨rfl, M.out.take 0⟩
end Go.Proofs.YtkomhngokcejbaaGreatDoor
