/- Texts of a proof, laid together: DiaW. -/
import Derived.Test.YtaepgjjmfopiiaaGreatDoorZH19
namespace Go.Proofs.YtaepgjjmfopiiaaGreatDoor
set_option linter.unusedSimpArgs false
set_option linter.unusedVariables false
open Go.RowKit
attribute [local go_sem] cell?_mk frozen?_mk
--ONES exact Fld.one _ | exact Entry.one _ | exact ints_one _ _

theorem eqFld (F : Fld) (hF : F.len) (w : World) : (binOp .eql 29 (.agg F.cells) (.agg F.cells)).run Tryz.prog w = .ok (.bool true) w := by
  have h := neqFld F hF w
  rw [run_neq_struct] at h
  rw [run_eql_struct]
  generalize (Op.equalIn 10000 29 (.agg F.cells) (.agg F.cells)).run Tryz.prog w = r at h ⊢
  cases r with
  | ok b w1 => cases b <;> simp_all [Result.andThen]
  | _ => simp_all [Result.andThen]
theorem neq4 (xs : List Int) (hl : xs.length = 4) (w : World) : (binOp .neq 36 (.agg (ints .i64 xs)) (.agg (ints .i64 xs))).run Tryz.prog w = .ok (.bool false) w := by
  have q1 := run_eqArr 9998 36 2 4 .i64 xs hl Tryz.underlying36 Tryz.underlying2 Tryz.isAgg2 Tryz.sizeOf2 w
  rw [run_neq_struct, show (10000 : Nat) = 9998 + 2 from rfl, q1]
  rfl
theorem ints4 {xs : List Int} (h : xs.length = 4) : (ints .i64 xs).size = 4 := by rw [ints_size, h]
theorem sl_take {w : World} {A : Option Addr} {n k : Nat} {xs : List Entry} (h : Sl w 3 A n (flat Entry.vals xs)) (hl : xs.length = n) (hk : k ≤ n) : Sl w 3 A k (flat Entry.vals (xs.take k)) := by
  have e : flat Entry.vals xs = flat Entry.vals (xs.take k) ++ flat Entry.vals (xs.drop k) := by rw [← flat_append, List.take_append_drop]
  refine ⟨by rw [flat_len Entry.vl, List.length_take, hl, Nat.min_eq_left hk], fun h0 => ?_⟩
  obtain ⟨b, off, hA, hr⟩ := h.2 (by omega)
  refine ⟨b, off, hA, fun j v hv => hr j v ?_⟩
  rw [e, List.getElem?_append_left (List.getElem?_eq_some_iff.1 hv).1]
  exact hv
set_option maxRecDepth 100000 in
set_option maxHeartbeats 20000000 in
theorem FnDiaries_any (A B : Option Addr) (na nb : Nat) (bs cs : List Int) (hb : ∀ x ∈ bs, U8.ok x) (hc : ∀ x ∈ cs, U8.ok x) (hbl : bs.length ≤ 4096) (hcl : cs.length ≤ 4096) (w : World) (htb : Tabs w) (hs : Sl w 1 A bs.length (flat oneB bs)) (ht : Sl w 1 B cs.length (flat oneB cs)) :
    Calls Tryz.prog 3 #[.slice A bs.length na, .slice B cs.length nb] w fun e w' => e = .returned (.bool true) ∧ Mem w w' [] := by
  have M := Lib.hid (Mem.start w)
  have HS := Lib.hid hs
  have HT := Lib.hid ht
  have HTB := Lib.hid htb
  have YB := Lib.hid (U8.bytes hb hbl)
  have YC := Lib.hid (U8.bytes hc hcl)
  have G1 := Lib.hid (show decide (4096 < bs.length) = false from decide_eq_false (by omega))
  have G2 := Lib.hid (show decide (4096 < cs.length) = false from decide_eq_false (by omega))
  clear hs ht htb hb hc hbl hcl
  go_enter Tryz.func3, Tryz.ntmps3
  go_wp2_with (first
    | (go_at_call 4; go_must (first | (refine Calls.mono (calls_args (by with_reducible rfl) (f6big_any A bs.length na _)) ?_) | (refine Calls.mono (calls_args (by with_reducible rfl) (f6big_any B cs.length nb _)) ?_)); rintro e w_ ⟨rfl, rfl⟩; first | rw [G1.out] | rw [G2.out])
    | (go_at_call 5; go_must (refine (P6Field_any A na bs YB.out _ (M.out.sl HS.out)).mono ?_); rintro e w_ ⟨F, rfl, hF, N_⟩; have m := M.out.join N_; clear N_; simp only [List.cons_append, List.nil_append, List.append_nil] at m; have M := Lib.hid m; clear m; have FD := Lib.hid hF; have S1 := Lib.hid (Fld.size hF.ok.toLen); clear hF)
    | ((with_reducible refine gate_dst (N := 5) rfl ?_); go_must (refine M.out.ev_new rfl (by first | (go_simp; done) | (go_simp; rfl)) ?_); intro g5 w5 m; simp only [List.cons_append, List.nil_append] at m; have M := Lib.hid m; clear m)
    | ((with_reducible refine gate_store (x := .tmp 5) rfl ?_); go_must (refine M.out.ev_stw 0 _ _ _ rfl rfl rfl rfl _ rfl (by rw [S1.out]; exact szZ) (by rw [S1.out]; exact sz29) (Fld.one _) rfl ?_); intro wn m; simp only [List.set_cons_zero, List.set_cons_succ] at m; have M := Lib.hid m; clear m)
    | ((with_reducible refine gate_dst (N := 56) rfl ?_); go_must (refine M.out.ev_ldw 0 _ _ rfl rfl rfl Tryz.underlying29 rfl (by rw [S1.out]; exact sz29) rfl ?_))
    | (go_at_call 6; go_must (refine (P6Diary_any B nb cs YC.out F FD.out _ (M.out.sl HT.out)).mono ?_); rintro e w_ ⟨xs, Bx, cp, rfl, hX, hcp, N_⟩; have m := M.out.join N_; clear N_; simp only [List.cons_append, List.nil_append, List.append_nil] at m; have M := Lib.hid m; clear m; obtain ⟨T, E, SS, C, a, b, d, n0, nw, S2, p, q, hC⟩ := dia_calls F FD.out xs hX; have DC := Lib.hid hC; have SE := Lib.hid (Fld.size hC.El); have S4 := Lib.hid (ints4 hC.SSl); have nE := neqFld E hC.El; have nS := neq4 SS hC.SSl; have HN0 := Lib.hid hC.n0le; have hx7 := hX.1; have K := hC.kase; clear hX hC; rcases K with ⟨hC0, hd6, hn0⟩ | ⟨hC1, hd0, hbC, han, hlt0⟩)
    )
  · as_aux_lemma =>
    subst hC0
    subst hd6
    obtain rfl := hn0
    go_wp2_with (first
      | (go_at_call 8; go_must (refine (DC.out.txt _ _ _ (M.out.tabs HTB.out).2.2.2 (M.out.slof 1 rfl)).mono ?_); rintro e w_ ⟨rfl, N_⟩; have m := M.out.join N_; clear N_; simp only [List.cons_append, List.nil_append, List.append_nil] at m; have M := Lib.hid m; clear m)
      | (go_at_call 7; go_must (refine (DC.out.read _ (M.out.tabs HTB.out)).mono ?_); rintro e w_ ⟨A2, c2, rfl, hc2, N_⟩; have m := M.out.join N_; clear N_; simp only [List.cons_append, List.nil_append, List.append_nil] at m; have M := Lib.hid m; clear m)
      | ((with_reducible refine gate_dst (N := 65) rfl ?_); go_must (refine M.out.ev_ldw 0 _ _ rfl rfl rfl Tryz.underlying29 rfl (by rw [S1.out]; exact sz29) rfl ?_))
      | (go_at_call 9; go_must (refine (DC.out.rpI _ _ _ (M.out.slof 1 rfl)).mono ?_); rintro e w_ ⟨rfl, N_⟩; have m := M.out.join N_; clear N_; simp only [List.cons_append, List.nil_append, List.append_nil] at m; have M := Lib.hid m; clear m)
      | ((with_reducible refine gate_dst (N := 9) rfl ?_); go_must (refine M.out.ev_new rfl (by first | (go_simp; done) | (go_simp; rfl)) ?_); intro g9 w9 m; simp only [List.cons_append, List.nil_append] at m; have M := Lib.hid m; clear m)
      | ((with_reducible refine gate_dst (N := 10) rfl ?_); go_must (refine M.out.ev_new rfl (by first | (go_simp; done) | (go_simp; rfl)) ?_); intro g10 w10 m; simp only [List.cons_append, List.nil_append] at m; have M := Lib.hid m; clear m)
      | ((with_reducible refine gate_store (x := .tmp 9) rfl ?_); go_must (refine M.out.ev_stw 3 _ _ _ rfl rfl rfl rfl _ rfl (by rw [SE.out]; exact szZ) (by rw [SE.out]; exact sz29) (Fld.one _) rfl ?_); intro wn m; simp only [List.set_cons_zero, List.set_cons_succ] at m; have M := Lib.hid m; clear m)
      | ((with_reducible refine gate_store (x := .tmp 10) rfl ?_); go_must (refine M.out.ev_stw 4 _ _ _ rfl rfl rfl rfl _ rfl (by rw [S4.out]; first | rfl | kernel_rfl) (by rw [S4.out]; exact sz36) (ints_one _ _) rfl ?_); intro wn m; simp only [List.set_cons_zero, List.set_cons_succ] at m; have M := Lib.hid m; clear m)
      | ((with_reducible refine gate_dst (N := 72) rfl ?_); go_must (refine M.out.ev_ldw 0 _ _ rfl rfl rfl Tryz.underlying29 rfl (by rw [S1.out]; exact sz29) rfl ?_))
      | (go_at_call 10; go_must (refine (DC.out.rpS _ _ _ (M.out.slof 1 rfl)).mono ?_); rintro e w_ ⟨rfl, N_⟩; have m := M.out.join N_; clear N_; simp only [List.cons_append, List.nil_append, List.append_nil] at m; have M := Lib.hid m; clear m)
      | ((with_reducible refine gate_dst (N := 12) rfl ?_); go_must (refine M.out.ev_new rfl (by first | (go_simp; done) | (go_simp; rfl)) ?_); intro g12 w12 m; simp only [List.cons_append, List.nil_append] at m; have M := Lib.hid m; clear m)
      | ((with_reducible refine gate_dst (N := 13) rfl ?_); go_must (refine M.out.ev_new rfl (by first | (go_simp; done) | (go_simp; rfl)) ?_); intro g13 w13 m; simp only [List.cons_append, List.nil_append] at m; have M := Lib.hid m; clear m)
      | ((with_reducible refine gate_store (x := .tmp 12) rfl ?_); go_must (refine M.out.ev_stw 5 _ _ _ rfl rfl rfl rfl _ rfl (by rw [SE.out]; exact szZ) (by rw [SE.out]; exact sz29) (Fld.one _) rfl ?_); intro wn m; simp only [List.set_cons_zero, List.set_cons_succ] at m; have M := Lib.hid m; clear m)
      | ((with_reducible refine gate_store (x := .tmp 13) rfl ?_); go_must (refine M.out.ev_stw 6 _ _ _ rfl rfl rfl rfl _ rfl (by rw [S4.out]; first | rfl | kernel_rfl) (by rw [S4.out]; exact sz36) (ints_one _ _) rfl ?_); intro wn m; simp only [List.set_cons_zero, List.set_cons_succ] at m; have M := Lib.hid m; clear m)
      | ((with_reducible refine gate_dst (N := 79) rfl ?_); go_must (refine M.out.ev_ldw 0 _ _ rfl rfl rfl Tryz.underlying29 rfl (by rw [S1.out]; exact sz29) rfl ?_))
      | (go_at_call 11; go_must (refine (DC.out.fwI _ _ _ (M.out.slof 1 rfl)).mono ?_); rintro e w_ ⟨rfl, N_⟩; have m := M.out.join N_; clear N_; simp only [List.cons_append, List.nil_append, List.append_nil] at m; have M := Lib.hid m; clear m)
      | ((with_reducible refine gate_dst (N := 86) rfl ?_); go_must (refine M.out.ev_ldw 0 _ _ rfl rfl rfl Tryz.underlying29 rfl (by rw [S1.out]; exact sz29) rfl ?_))
      | (go_at_call 12; go_must (refine (DC.out.fwS _ _ _ (M.out.slof 1 rfl)).mono ?_); rintro e w_ ⟨rfl, N_⟩; have m := M.out.join N_; clear N_; simp only [List.cons_append, List.nil_append, List.append_nil] at m; have M := Lib.hid m; clear m)
      | (go_at_call 13; go_must (refine (EntrySame_any _ _ _ _ xs _ (by omega) (M.out.slof 2 rfl) (M.out.slof 1 rfl)).mono ?_); rintro e w_ ⟨rfl, N_⟩; have m := M.out.join N_; clear N_; simp only [List.cons_append, List.nil_append, List.append_nil] at m; have M := Lib.hid m; clear m)
      | ((with_reducible refine gate_dst (N := 106) rfl ?_); refine gate_want rfl ?_; go_must (refine M.out.ev_ldw 3 _ _ rfl rfl rfl Tryz.underlying29 rfl (by rw [SE.out]; exact sz29) rfl ?_))
      | ((with_reducible refine gate_dst (N := 107) rfl ?_); refine gate_want rfl ?_; go_must (refine M.out.ev_ldw 5 _ _ rfl rfl rfl Tryz.underlying29 rfl (by rw [SE.out]; exact sz29) rfl ?_))
      | ((with_reducible refine gate_dst (N := 111) rfl ?_); refine gate_want rfl ?_; go_must (refine M.out.ev_ldw 4 _ _ rfl rfl rfl Tryz.underlying36 rfl (by rw [S4.out]; exact sz36) rfl ?_))
      | ((with_reducible refine gate_dst (N := 112) rfl ?_); refine gate_want rfl ?_; go_must (refine M.out.ev_ldw 6 _ _ rfl rfl rfl Tryz.underlying36 rfl (by rw [S4.out]; exact sz36) rfl ?_))
      | ((with_reducible refine gate_dst (N := 160) rfl ?_); go_must (refine M.out.ev_ldw 0 _ _ rfl rfl rfl Tryz.underlying29 rfl (by rw [S1.out]; exact sz29) rfl ?_))
      | ((with_reducible refine gate_dst (N := 22) rfl ?_); go_must (refine M.out.ev_new rfl (by first | (go_simp; done) | (go_simp; rfl)) ?_); intro g22 w22 m; simp only [List.cons_append, List.nil_append] at m; have M := Lib.hid m; clear m)
      | ((with_reducible refine gate_store (x := .tmp 22) rfl ?_); go_must (refine M.out.ev_stw 7 _ _ _ rfl rfl rfl rfl _ rfl (by rw [S1.out]; exact szZ) (by rw [S1.out]; exact sz29) (Fld.one _) rfl ?_); intro wn m; simp only [List.set_cons_zero, List.set_cons_succ] at m; have M := Lib.hid m; clear m)
      )

    go_loopw [23] (fun v wr => ∃ i : Nat, i ≤ xs.length ∧ v = .int .i64 i ∧ Mem w wr [.blk g5 29 F.cells, .row (.slice Bx xs.length cp) 45 3 xs.length (flat Entry.vals xs), .row (.slice A2 xs.length c2) 45 3 xs.length (flat Entry.vals xs), .blk g9 29 E.cells, .blk g10 36 (ints .i64 SS), .blk g12 29 E.cells, .blk g13 36 (ints .i64 SS), .blk g22 29 (nw i).cells])
      (fun v _ => xs.length - (intOf v).toNat)
    case atStart =>
      refine ⟨0, by omega, rfl, ?_⟩
      rw [DC.out.nw0]
      exact M.out
    case round =>
      clear M
      obtain ⟨i, hi, rfl, m⟩ := hrel
      have M := Lib.hid m
      clear m
      by_cases hlt : i < xs.length
      · as_aux_lemma =>
        obtain ⟨x, hx, hAP⟩ := DC.out.step i hlt
        have HXK := Lib.hid hx
        have AP := Lib.hid hAP
        have VF := Lib.hid (DC.out.vf (i + 1) hlt)
        have S3 := Lib.hid (Fld.size (DC.out.nwl i hi))
        have SJ := Lib.hid (Fld.size (DC.out.nwl (i + 1) hlt))
        obtain ⟨NI, hNI⟩ : ∃ X, X = nw i := ⟨_, rfl⟩
        obtain ⟨NJ, hNJ⟩ : ∃ X, X = nw (i + 1) := ⟨_, rfl⟩
        have HNJ := Lib.hid hNJ
        rw [← hNI] at M S3 AP
        rw [← hNJ] at AP VF SJ
        have hix : i < xs.length := by have := HN0.out; omega
        obtain ⟨b, off, rfl, hr⟩ := (M.out.slof 1 rfl).2 (by omega)
        have i0 : (0 : Int) ≤ (i : Int) := by omega
        have i1 : (i : Int) < ((xs.length : Nat) : Int) := by omega
        clear hx hAP hNI hNJ hr DC
        go_wp2
        refine region_anyH (fun w' => Mem w w' [.blk g5 29 F.cells, .row (.slice (some ⟨b, off, none⟩) xs.length cp) 45 3 xs.length (flat Entry.vals xs), .row (.slice A2 xs.length c2) 45 3 xs.length (flat Entry.vals xs), .blk g9 29 E.cells, .blk g10 36 (ints .i64 SS), .blk g12 29 E.cells, .blk g13 36 (ints .i64 SS), .blk g22 29 NI.cells]) (by kernel_rfl) ?_
        have m := M.out.drew
        clear M
        have M := Lib.hid m
        clear m
        apply takeH (i := 0) 168 rfl (by kernel_rfl) (by kernel_rfl) (by kernel_rfl) (fun _ _ _ h => h) rfl (by first | exact M.out | exact M.out.take 8)
        case' hy => exact yldw _ _ rfl rfl Tryz.underlying29 rfl (by first | exact sz29 | (rw [S1.out]; exact sz29) | (rw [S2.out]; exact sz29) | (rw [S3.out]; exact sz29)) rfl (fun w' hS => hS.blk 7 rfl)
        try simp only [Act.put, List.getElem_toArray, List.getElem_cons_succ, List.getElem_cons_zero, List.setIfInBounds_toArray, List.set_cons_succ, List.set_cons_zero]
        apply takeH (i := 1) 169 rfl (by kernel_rfl) (by kernel_rfl) (by kernel_rfl) (fun _ _ _ h => h) rfl (by first | exact M.out | exact M.out.take 8)
        case' hy =>
          refine Or.inl ⟨by first | rfl | (go_simp; done), ?_⟩
          intro w hS
          clear hS
          go_simp
          try with_reducible rfl
        try simp only [Act.put, List.getElem_toArray, List.getElem_cons_succ, List.getElem_cons_zero, List.setIfInBounds_toArray, List.set_cons_succ, List.set_cons_zero]
        apply takeH (i := 2) 170 rfl (by kernel_rfl) (by kernel_rfl) (by kernel_rfl) (fun _ _ _ h => h) rfl (by first | exact M.out | exact M.out.take 8)
        case' hy =>
          refine Or.inl ⟨by first | rfl | (go_simp; done), ?_⟩
          intro w hS
          clear hS
          go_simp
          try with_reducible rfl
        try simp only [Act.put, List.getElem_toArray, List.getElem_cons_succ, List.getElem_cons_zero, List.setIfInBounds_toArray, List.set_cons_succ, List.set_cons_zero]
        apply takeH (i := 3) 171 rfl (by kernel_rfl) (by kernel_rfl) (by kernel_rfl) (fun _ _ _ h => h) rfl (by first | exact M.out | exact M.out.take 8)
        case' hy =>
          refine Or.inl ⟨by first | rfl | (go_simp; done), ?_⟩
          intro w hS
          clear hS
          go_simp
          try with_reducible rfl
        try simp only [Act.put, List.getElem_toArray, List.getElem_cons_succ, List.getElem_cons_zero, List.setIfInBounds_toArray, List.set_cons_succ, List.set_cons_zero]
        apply takeH (i := 4) 172 rfl (by kernel_rfl) (by kernel_rfl) (by kernel_rfl) (fun _ _ _ h => h) rfl (by first | exact M.out | exact M.out.take 8)
        case' hy => exact yieldsIf_load_mid (by first | rfl | (go_simp; done)) _ _ rfl _ _ rfl _ _ (fun w' hS => range_at Entry.vl (sl_rangeEntry (hS.slof 1 rfl) hix) HXK.out) Tryz.underlying45 rfl sz45
        try simp only [Act.put, List.getElem_toArray, List.getElem_cons_succ, List.getElem_cons_zero, List.setIfInBounds_toArray, List.set_cons_succ, List.set_cons_zero]
        refine any2H 5 9 (by kernel_rfl) rfl rfl (fun K hK => ?_) (fun K hK => ?_)
        rotate_right 1
        case' _ =>
          go_wp2_with (first | ((with_reducible refine gate_dst (N := 24) rfl ?_); go_must (refine M.out.ev_new rfl (by first | (go_simp; done) | (go_simp; rfl)) ?_); intro g24 w24 m; simp only [List.cons_append, List.nil_append] at m; have M := Lib.hid m; clear m) | ((with_reducible refine gate_store (x := .tmp 24) rfl ?_); go_must (refine M.out.ev_stw 8 _ _ _ rfl rfl rfl rfl _ rfl (by rw [SJ.out]; exact szZ) (by rw [SJ.out]; exact sz29) (Fld.one _) rfl ?_); intro wn m; simp only [List.set_cons_zero, List.set_cons_succ] at m; have M := Lib.hid m; clear m) | ((with_reducible refine gate_dst (N := 168) rfl ?_); go_must (refine M.out.ev_ldw 7 _ _ rfl rfl rfl Tryz.underlying29 rfl (by first | exact sz29 | (rw [S1.out]; exact sz29) | (rw [S2.out]; exact sz29) | (rw [S3.out]; exact sz29)) rfl ?_)) | ((with_reducible refine gate_dst (N := 24) rfl ?_); go_must (refine M.out.ev_new rfl (by first | (go_simp; done) | (go_simp; rfl)) ?_); intro g24 w24 m; simp only [List.cons_append, List.nil_append] at m; have M := Lib.hid m; clear m) | ((with_reducible refine gate_store (x := .tmp 24) rfl ?_); go_must (refine M.out.ev_stw 8 _ _ _ rfl rfl rfl rfl _ rfl (by first | rfl | (simp only [S1.out]; rfl) | (simp only [S1.out, S2.out]; rfl) | (simp only [S3.out]; rfl) | (simp only [S1.out, S2.out, S3.out]; rfl)) (by first | exact sz29 | (rw [S1.out]; exact sz29) | (rw [S2.out]; exact sz29) | (rw [S3.out]; exact sz29)) (by first | exact ints_one _ _ | exact Fld.one _ | exact O1.out | exact Fld.one _ | exact Entry.one _ | exact ints_one _ _ | rfl | (simp [Value.oneCell']; done)) rfl ?_); intro wn m; simp only [List.set_cons_succ, List.set_cons_zero, List.setIfInBounds_toArray] at m; have M := Lib.hid m; clear m) | (go_at_call 14; go_must (refine (AP.out _).mono ?_); rintro e w_ ⟨rfl, N_⟩; have m := M.out.join N_; clear N_; simp only [List.cons_append, List.nil_append, List.append_nil] at m; have M := Lib.hid m; clear m))
          refine onward_normal (hK _ _ ⟨(by first | exact M.out | exact M.out.take 8), ?_⟩)
          clear hK K
          try simp only [Act.put, List.getElem_toArray, List.getElem_cons_succ, List.getElem_cons_zero, List.setIfInBounds_toArray, List.set_cons_succ, List.set_cons_zero]
          refine any1H 5 (by kernel_rfl) rfl (fun K hK => ?_)
          go_wp2_with (first | ((with_reducible refine gate_dst (N := 24) rfl ?_); go_must (refine M.out.ev_new rfl (by first | (go_simp; done) | (go_simp; rfl)) ?_); intro g24 w24 m; simp only [List.cons_append, List.nil_append] at m; have M := Lib.hid m; clear m) | ((with_reducible refine gate_store (x := .tmp 24) rfl ?_); go_must (refine M.out.ev_stw 8 _ _ _ rfl rfl rfl rfl _ rfl (by rw [SJ.out]; exact szZ) (by rw [SJ.out]; exact sz29) (Fld.one _) rfl ?_); intro wn m; simp only [List.set_cons_zero, List.set_cons_succ] at m; have M := Lib.hid m; clear m) | ((with_reducible refine gate_dst (N := 168) rfl ?_); go_must (refine M.out.ev_ldw 7 _ _ rfl rfl rfl Tryz.underlying29 rfl (by first | exact sz29 | (rw [S1.out]; exact sz29) | (rw [S2.out]; exact sz29) | (rw [S3.out]; exact sz29)) rfl ?_)) | ((with_reducible refine gate_dst (N := 24) rfl ?_); go_must (refine M.out.ev_new rfl (by first | (go_simp; done) | (go_simp; rfl)) ?_); intro g24 w24 m; simp only [List.cons_append, List.nil_append] at m; have M := Lib.hid m; clear m) | ((with_reducible refine gate_store (x := .tmp 24) rfl ?_); go_must (refine M.out.ev_stw 8 _ _ _ rfl rfl rfl rfl _ rfl (by first | rfl | (simp only [S1.out]; rfl) | (simp only [S1.out, S2.out]; rfl) | (simp only [S3.out]; rfl) | (simp only [S1.out, S2.out, S3.out]; rfl)) (by first | exact sz29 | (rw [S1.out]; exact sz29) | (rw [S2.out]; exact sz29) | (rw [S3.out]; exact sz29)) (by first | exact ints_one _ _ | exact Fld.one _ | exact O1.out | exact Fld.one _ | exact Entry.one _ | exact ints_one _ _ | rfl | (simp [Value.oneCell']; done)) rfl ?_); intro wn m; simp only [List.set_cons_succ, List.set_cons_zero, List.setIfInBounds_toArray] at m; have M := Lib.hid m; clear m) | (go_at_call 14; go_must (refine (AP.out _).mono ?_); rintro e w_ ⟨rfl, N_⟩; have m := M.out.join N_; clear N_; simp only [List.cons_append, List.nil_append, List.append_nil] at m; have M := Lib.hid m; clear m))
          refine onward_normal (hK _ _ ⟨(by first | exact M.out | exact M.out.take 8), ?_⟩)
          clear hK K
          try simp only [Act.put, List.getElem_toArray, List.getElem_cons_succ, List.getElem_cons_zero, List.setIfInBounds_toArray, List.set_cons_succ, List.set_cons_zero]
          apply takeH (i := 6) 167 rfl (by kernel_rfl) (by kernel_rfl) (by kernel_rfl) (fun _ _ _ h => h) rfl (by first | exact M.out | exact M.out.take 8)
          case' hy =>
            refine Or.inl ⟨by first | rfl | (go_simp; done), ?_⟩
            intro w hS
            clear hS
            go_simp
            try with_reducible rfl
          try simp only [Act.put, List.getElem_toArray, List.getElem_cons_succ, List.getElem_cons_zero, List.setIfInBounds_toArray, List.set_cons_succ, List.set_cons_zero]
          apply takeH (i := 7) 174 rfl (by kernel_rfl) (by kernel_rfl) (by kernel_rfl) (fun _ _ _ h => h) rfl (by first | exact M.out | exact M.out.take 8)
          case' hy =>
            refine Or.inl ⟨by first | rfl | (go_simp; done), ?_⟩
            intro w hS
            clear hS
            go_simp
            try with_reducible rfl
          try simp only [Act.put, List.getElem_toArray, List.getElem_cons_succ, List.getElem_cons_zero, List.setIfInBounds_toArray, List.set_cons_succ, List.set_cons_zero]
          apply takeH (i := 8) 175 rfl (by kernel_rfl) (by kernel_rfl) (by kernel_rfl) (fun _ _ _ h => h) rfl (by first | exact M.out | exact M.out.take 8)
          case' hy =>
            refine Or.inl ⟨by first | rfl | (go_simp; done), ?_⟩
            intro w hS
            clear hS
            go_simp
            try with_reducible rfl
          try simp only [Act.put, List.getElem_toArray, List.getElem_cons_succ, List.getElem_cons_zero, List.setIfInBounds_toArray, List.set_cons_succ, List.set_cons_zero]
          refine any1H 10 (by kernel_rfl) rfl (fun K hK => ?_)
          go_wp2_with (first | ((with_reducible refine gate_dst (N := 24) rfl ?_); go_must (refine M.out.ev_new rfl (by first | (go_simp; done) | (go_simp; rfl)) ?_); intro g24 w24 m; simp only [List.cons_append, List.nil_append] at m; have M := Lib.hid m; clear m) | ((with_reducible refine gate_store (x := .tmp 24) rfl ?_); go_must (refine M.out.ev_stw 8 _ _ _ rfl rfl rfl rfl _ rfl (by rw [SJ.out]; exact szZ) (by rw [SJ.out]; exact sz29) (Fld.one _) rfl ?_); intro wn m; simp only [List.set_cons_zero, List.set_cons_succ] at m; have M := Lib.hid m; clear m) | ((with_reducible refine gate_dst (N := 168) rfl ?_); go_must (refine M.out.ev_ldw 7 _ _ rfl rfl rfl Tryz.underlying29 rfl (by first | exact sz29 | (rw [S1.out]; exact sz29) | (rw [S2.out]; exact sz29) | (rw [S3.out]; exact sz29)) rfl ?_)) | ((with_reducible refine gate_dst (N := 24) rfl ?_); go_must (refine M.out.ev_new rfl (by first | (go_simp; done) | (go_simp; rfl)) ?_); intro g24 w24 m; simp only [List.cons_append, List.nil_append] at m; have M := Lib.hid m; clear m) | ((with_reducible refine gate_store (x := .tmp 24) rfl ?_); go_must (refine M.out.ev_stw 8 _ _ _ rfl rfl rfl rfl _ rfl (by first | rfl | (simp only [S1.out]; rfl) | (simp only [S1.out, S2.out]; rfl) | (simp only [S3.out]; rfl) | (simp only [S1.out, S2.out, S3.out]; rfl)) (by first | exact sz29 | (rw [S1.out]; exact sz29) | (rw [S2.out]; exact sz29) | (rw [S3.out]; exact sz29)) (by first | exact ints_one _ _ | exact Fld.one _ | exact O1.out | exact Fld.one _ | exact Entry.one _ | exact ints_one _ _ | rfl | (simp [Value.oneCell']; done)) rfl ?_); intro wn m; simp only [List.set_cons_succ, List.set_cons_zero, List.setIfInBounds_toArray] at m; have M := Lib.hid m; clear m) | (go_at_call 14; go_must (refine (AP.out _).mono ?_); rintro e w_ ⟨rfl, N_⟩; have m := M.out.join N_; clear N_; simp only [List.cons_append, List.nil_append, List.append_nil] at m; have M := Lib.hid m; clear m))
          refine onward_normal (hK _ _ ⟨(by first | exact M.out | exact M.out.take 8), ?_⟩)
          clear hK K
          try simp only [Act.put, List.getElem_toArray, List.getElem_cons_succ, List.getElem_cons_zero, List.setIfInBounds_toArray, List.set_cons_succ, List.set_cons_zero]
          apply takeH (i := 11) 25 rfl (by kernel_rfl) (by kernel_rfl) (by kernel_rfl) (fun _ _ _ h => h) rfl (by first | exact M.out | exact M.out.take 8)
          case' hy =>
            refine Or.inl ⟨by first | rfl | (go_simp; done), ?_⟩
            intro w hS
            clear hS
            go_simp
            try with_reducible rfl
          try simp only [Act.put, List.getElem_toArray, List.getElem_cons_succ, List.getElem_cons_zero, List.setIfInBounds_toArray, List.set_cons_succ, List.set_cons_zero]
          refine wpAnyH_done (by kernel_rfl) ?_ _
        rotate_right 1
        case' _ =>
          go_wp2_with (first | ((with_reducible refine gate_dst (N := 24) rfl ?_); go_must (refine M.out.ev_new rfl (by first | (go_simp; done) | (go_simp; rfl)) ?_); intro g24 w24 m; simp only [List.cons_append, List.nil_append] at m; have M := Lib.hid m; clear m) | ((with_reducible refine gate_store (x := .tmp 24) rfl ?_); go_must (refine M.out.ev_stw 8 _ _ _ rfl rfl rfl rfl _ rfl (by rw [SJ.out]; exact szZ) (by rw [SJ.out]; exact sz29) (Fld.one _) rfl ?_); intro wn m; simp only [List.set_cons_zero, List.set_cons_succ] at m; have M := Lib.hid m; clear m) | ((with_reducible refine gate_dst (N := 168) rfl ?_); go_must (refine M.out.ev_ldw 7 _ _ rfl rfl rfl Tryz.underlying29 rfl (by first | exact sz29 | (rw [S1.out]; exact sz29) | (rw [S2.out]; exact sz29) | (rw [S3.out]; exact sz29)) rfl ?_)) | ((with_reducible refine gate_dst (N := 24) rfl ?_); go_must (refine M.out.ev_new rfl (by first | (go_simp; done) | (go_simp; rfl)) ?_); intro g24 w24 m; simp only [List.cons_append, List.nil_append] at m; have M := Lib.hid m; clear m) | ((with_reducible refine gate_store (x := .tmp 24) rfl ?_); go_must (refine M.out.ev_stw 8 _ _ _ rfl rfl rfl rfl _ rfl (by first | rfl | (simp only [S1.out]; rfl) | (simp only [S1.out, S2.out]; rfl) | (simp only [S3.out]; rfl) | (simp only [S1.out, S2.out, S3.out]; rfl)) (by first | exact sz29 | (rw [S1.out]; exact sz29) | (rw [S2.out]; exact sz29) | (rw [S3.out]; exact sz29)) (by first | exact ints_one _ _ | exact Fld.one _ | exact O1.out | exact Fld.one _ | exact Entry.one _ | exact ints_one _ _ | rfl | (simp [Value.oneCell']; done)) rfl ?_); intro wn m; simp only [List.set_cons_succ, List.set_cons_zero, List.setIfInBounds_toArray] at m; have M := Lib.hid m; clear m) | (go_at_call 14; go_must (refine (AP.out _).mono ?_); rintro e w_ ⟨rfl, N_⟩; have m := M.out.join N_; clear N_; simp only [List.cons_append, List.nil_append, List.append_nil] at m; have M := Lib.hid m; clear m))
          refine onward_normal (hK _ _ ⟨(by first | exact M.out | exact M.out.take 8), ?_⟩)
          clear hK K
          try simp only [Act.put, List.getElem_toArray, List.getElem_cons_succ, List.getElem_cons_zero, List.setIfInBounds_toArray, List.set_cons_succ, List.set_cons_zero]
          apply takeH (i := 6) 167 rfl (by kernel_rfl) (by kernel_rfl) (by kernel_rfl) (fun _ _ _ h => h) rfl (by first | exact M.out | exact M.out.take 8)
          case' hy =>
            refine Or.inl ⟨by first | rfl | (go_simp; done), ?_⟩
            intro w hS
            clear hS
            go_simp
            try with_reducible rfl
          try simp only [Act.put, List.getElem_toArray, List.getElem_cons_succ, List.getElem_cons_zero, List.setIfInBounds_toArray, List.set_cons_succ, List.set_cons_zero]
          apply takeH (i := 7) 174 rfl (by kernel_rfl) (by kernel_rfl) (by kernel_rfl) (fun _ _ _ h => h) rfl (by first | exact M.out | exact M.out.take 8)
          case' hy =>
            refine Or.inl ⟨by first | rfl | (go_simp; done), ?_⟩
            intro w hS
            clear hS
            go_simp
            try with_reducible rfl
          try simp only [Act.put, List.getElem_toArray, List.getElem_cons_succ, List.getElem_cons_zero, List.setIfInBounds_toArray, List.set_cons_succ, List.set_cons_zero]
          apply takeH (i := 8) 175 rfl (by kernel_rfl) (by kernel_rfl) (by kernel_rfl) (fun _ _ _ h => h) rfl (by first | exact M.out | exact M.out.take 8)
          case' hy =>
            refine Or.inl ⟨by first | rfl | (go_simp; done), ?_⟩
            intro w hS
            clear hS
            go_simp
            try with_reducible rfl
          try simp only [Act.put, List.getElem_toArray, List.getElem_cons_succ, List.getElem_cons_zero, List.setIfInBounds_toArray, List.set_cons_succ, List.set_cons_zero]
          refine any1H 9 (by kernel_rfl) rfl (fun K hK => ?_)
          go_wp2_with (first | ((with_reducible refine gate_dst (N := 24) rfl ?_); go_must (refine M.out.ev_new rfl (by first | (go_simp; done) | (go_simp; rfl)) ?_); intro g24 w24 m; simp only [List.cons_append, List.nil_append] at m; have M := Lib.hid m; clear m) | ((with_reducible refine gate_store (x := .tmp 24) rfl ?_); go_must (refine M.out.ev_stw 8 _ _ _ rfl rfl rfl rfl _ rfl (by rw [SJ.out]; exact szZ) (by rw [SJ.out]; exact sz29) (Fld.one _) rfl ?_); intro wn m; simp only [List.set_cons_zero, List.set_cons_succ] at m; have M := Lib.hid m; clear m) | ((with_reducible refine gate_dst (N := 168) rfl ?_); go_must (refine M.out.ev_ldw 7 _ _ rfl rfl rfl Tryz.underlying29 rfl (by first | exact sz29 | (rw [S1.out]; exact sz29) | (rw [S2.out]; exact sz29) | (rw [S3.out]; exact sz29)) rfl ?_)) | ((with_reducible refine gate_dst (N := 24) rfl ?_); go_must (refine M.out.ev_new rfl (by first | (go_simp; done) | (go_simp; rfl)) ?_); intro g24 w24 m; simp only [List.cons_append, List.nil_append] at m; have M := Lib.hid m; clear m) | ((with_reducible refine gate_store (x := .tmp 24) rfl ?_); go_must (refine M.out.ev_stw 8 _ _ _ rfl rfl rfl rfl _ rfl (by first | rfl | (simp only [S1.out]; rfl) | (simp only [S1.out, S2.out]; rfl) | (simp only [S3.out]; rfl) | (simp only [S1.out, S2.out, S3.out]; rfl)) (by first | exact sz29 | (rw [S1.out]; exact sz29) | (rw [S2.out]; exact sz29) | (rw [S3.out]; exact sz29)) (by first | exact ints_one _ _ | exact Fld.one _ | exact O1.out | exact Fld.one _ | exact Entry.one _ | exact ints_one _ _ | rfl | (simp [Value.oneCell']; done)) rfl ?_); intro wn m; simp only [List.set_cons_succ, List.set_cons_zero, List.setIfInBounds_toArray] at m; have M := Lib.hid m; clear m) | (go_at_call 14; go_must (refine (AP.out _).mono ?_); rintro e w_ ⟨rfl, N_⟩; have m := M.out.join N_; clear N_; simp only [List.cons_append, List.nil_append, List.append_nil] at m; have M := Lib.hid m; clear m))
          refine onward_normal (hK _ _ ⟨(by first | exact M.out | exact M.out.take 8), ?_⟩)
          clear hK K
          try simp only [Act.put, List.getElem_toArray, List.getElem_cons_succ, List.getElem_cons_zero, List.setIfInBounds_toArray, List.set_cons_succ, List.set_cons_zero]
          refine any1H 10 (by kernel_rfl) rfl (fun K hK => ?_)
          go_wp2_with (first | ((with_reducible refine gate_dst (N := 24) rfl ?_); go_must (refine M.out.ev_new rfl (by first | (go_simp; done) | (go_simp; rfl)) ?_); intro g24 w24 m; simp only [List.cons_append, List.nil_append] at m; have M := Lib.hid m; clear m) | ((with_reducible refine gate_store (x := .tmp 24) rfl ?_); go_must (refine M.out.ev_stw 8 _ _ _ rfl rfl rfl rfl _ rfl (by rw [SJ.out]; exact szZ) (by rw [SJ.out]; exact sz29) (Fld.one _) rfl ?_); intro wn m; simp only [List.set_cons_zero, List.set_cons_succ] at m; have M := Lib.hid m; clear m) | ((with_reducible refine gate_dst (N := 168) rfl ?_); go_must (refine M.out.ev_ldw 7 _ _ rfl rfl rfl Tryz.underlying29 rfl (by first | exact sz29 | (rw [S1.out]; exact sz29) | (rw [S2.out]; exact sz29) | (rw [S3.out]; exact sz29)) rfl ?_)) | ((with_reducible refine gate_dst (N := 24) rfl ?_); go_must (refine M.out.ev_new rfl (by first | (go_simp; done) | (go_simp; rfl)) ?_); intro g24 w24 m; simp only [List.cons_append, List.nil_append] at m; have M := Lib.hid m; clear m) | ((with_reducible refine gate_store (x := .tmp 24) rfl ?_); go_must (refine M.out.ev_stw 8 _ _ _ rfl rfl rfl rfl _ rfl (by first | rfl | (simp only [S1.out]; rfl) | (simp only [S1.out, S2.out]; rfl) | (simp only [S3.out]; rfl) | (simp only [S1.out, S2.out, S3.out]; rfl)) (by first | exact sz29 | (rw [S1.out]; exact sz29) | (rw [S2.out]; exact sz29) | (rw [S3.out]; exact sz29)) (by first | exact ints_one _ _ | exact Fld.one _ | exact O1.out | exact Fld.one _ | exact Entry.one _ | exact ints_one _ _ | rfl | (simp [Value.oneCell']; done)) rfl ?_); intro wn m; simp only [List.set_cons_succ, List.set_cons_zero, List.setIfInBounds_toArray] at m; have M := Lib.hid m; clear m) | (go_at_call 14; go_must (refine (AP.out _).mono ?_); rintro e w_ ⟨rfl, N_⟩; have m := M.out.join N_; clear N_; simp only [List.cons_append, List.nil_append, List.append_nil] at m; have M := Lib.hid m; clear m))
          refine onward_normal (hK _ _ ⟨(by first | exact M.out | exact M.out.take 8), ?_⟩)
          clear hK K
          try simp only [Act.put, List.getElem_toArray, List.getElem_cons_succ, List.getElem_cons_zero, List.setIfInBounds_toArray, List.set_cons_succ, List.set_cons_zero]
          apply takeH (i := 11) 25 rfl (by kernel_rfl) (by kernel_rfl) (by kernel_rfl) (fun _ _ _ h => h) rfl (by first | exact M.out | exact M.out.take 8)
          case' hy =>
            refine Or.inl ⟨by first | rfl | (go_simp; done), ?_⟩
            intro w hS
            clear hS
            go_simp
            try with_reducible rfl
          try simp only [Act.put, List.getElem_toArray, List.getElem_cons_succ, List.getElem_cons_zero, List.setIfInBounds_toArray, List.set_cons_succ, List.set_cons_zero]
          refine wpAnyH_done (by kernel_rfl) ?_ _
        all_goals
          go_wp2_with (first
            | ((with_reducible refine gate_dst (N := 179) rfl ?_); refine gate_want rfl ?_; go_must (refine M.out.ev_ldw 8 _ _ rfl rfl rfl Tryz.underlying29 rfl (by rw [SJ.out]; exact sz29) rfl ?_))
            | (go_at_call 15; go_must (refine (VF.out _).mono ?_); rintro e w_ ⟨rfl, N_⟩; have m := M.out.join N_; clear N_; simp only [List.cons_append, List.nil_append, List.append_nil] at m; have M := Lib.hid m; clear m)
            | ((with_reducible refine gate_dst (N := 183) rfl ?_); go_must (refine M.out.ev_ldw 8 _ _ rfl rfl rfl Tryz.underlying29 rfl (by rw [SJ.out]; exact sz29) rfl ?_))
            | ((with_reducible refine gate_store (x := .tmp 22) rfl ?_); go_must (refine M.out.ev_stw 7 _ _ _ rfl rfl rfl rfl _ rfl (by rw [SJ.out]; rw [S3.out]) (by rw [SJ.out]; exact sz29) (Fld.one _) rfl ?_); intro wn m; simp only [List.set_cons_zero, List.set_cons_succ] at m; have M := Lib.hid m; clear m)
            )
          refine ⟨⟨i + 1, hlt, by go_num, ?_⟩, by simp [intOf]; omega⟩
          have mm := M.out.take 8
          rw [HNJ.out] at mm
          exact mm
      · as_aux_lemma =>
        obtain rfl : xs.length = i := by omega
        obtain ⟨NN, hNN⟩ : ∃ X, X = nw xs.length := ⟨_, rfl⟩
        have SN := Lib.hid (Fld.size (DC.out.nwl _ (Nat.le_refl _)))
        have nN := neqFld _ (DC.out.nwl _ (Nat.le_refl _))
        have S42 := Lib.hid (ints4 DC.out.S2l)
        have hsum := DC.out.sum
        have hbs := DC.out.bs
        have hbp := DC.out.bp
        have hbq := DC.out.bq
        have b0 := hbs 0
        have b1 := hbs 1
        have b2 := hbs 2
        have b3 := hbs 3
        have X0 := Lib.hid (show (ints .i64 S2)[0]? = some (.int .i64 (gi S2 0)) from ints_at (by rw [DC.out.S2l]; decide))
        have X1 := Lib.hid (show (ints .i64 S2)[1]? = some (.int .i64 (gi S2 1)) from ints_at (by rw [DC.out.S2l]; decide))
        have X2 := Lib.hid (show (ints .i64 S2)[2]? = some (.int .i64 (gi S2 2)) from ints_at (by rw [DC.out.S2l]; decide))
        have X3 := Lib.hid (show (ints .i64 S2)[3]? = some (.int .i64 (gi S2 3)) from ints_at (by rw [DC.out.S2l]; decide))
        generalize gi S2 0 = s0 at *
        generalize gi S2 1 = s1 at *
        generalize gi S2 2 = s2 at *
        generalize gi S2 3 = s3 at *
        have f1 : IntKind.i64.wrap (p + s0) = p + s0 := IntWalk.i64_in _ (by omega)
        have f2 : IntKind.i64.wrap (q + s1) = q + s1 := IntWalk.i64_in _ (by omega)
        have f3 : IntKind.i64.wrap (q + s1 + s2) = q + s1 + s2 := IntWalk.i64_in _ (by omega)
        have f4 : IntKind.i64.wrap (q + s1 + s2 + s3) = q + s1 + s2 + s3 := IntWalk.i64_in _ (by omega)
        have f5 : (p + s0 != q + s1 + s2 + s3) = false := by rw [hsum]; simp
        have i9 : ¬ (((xs.length : Nat) : Int) < ((xs.length : Nat) : Int)) := by omega
        clear hsum hbs hbp hbq b0 b1 b2 b3 hNN hlt hi
        go_wp2_with (first
          | ((with_reducible refine gate_dst (N := 185) rfl ?_); go_must (refine M.out.ev_ldw 0 _ _ rfl rfl rfl Tryz.underlying29 rfl (by rw [S1.out]; exact sz29) rfl ?_))
          | (go_at_call 9; go_must (first | (refine Calls.mono (calls_args (by with_reducible rfl) (DC.out.rpG _ _ _ (sl_take (M.out.slof 1 rfl) rfl HN0.out))) ?_) | (refine Calls.mono (calls_args (by with_reducible rfl) (WC.out.home _ _ _ (M.out.slof 12 rfl))) ?_)); rintro e w_ ⟨rfl, N_⟩; have m := M.out.join N_; clear N_; simp only [List.cons_append, List.nil_append, List.append_nil] at m; have M := Lib.hid m; clear m)
          | ((with_reducible refine gate_dst (N := 26) rfl ?_); go_must (refine M.out.ev_new rfl (by first | (go_simp; done) | (go_simp; rfl)) ?_); intro g26 w26 m; simp only [List.cons_append, List.nil_append] at m; have M := Lib.hid m; clear m)
          | ((with_reducible refine gate_dst (N := 27) rfl ?_); go_must (refine M.out.ev_new rfl (by first | (go_simp; done) | (go_simp; rfl)) ?_); intro g27 w27 m; simp only [List.cons_append, List.nil_append] at m; have M := Lib.hid m; clear m)
          | ((with_reducible refine gate_store (x := .tmp 26) rfl ?_); go_must (refine M.out.ev_stw 8 _ _ _ rfl rfl rfl rfl _ rfl (by rw [SN.out]; exact szZ) (by rw [SN.out]; exact sz29) (Fld.one _) rfl ?_); intro wn m; simp only [List.set_cons_zero, List.set_cons_succ] at m; have M := Lib.hid m; clear m)
          | ((with_reducible refine gate_store (x := .tmp 27) rfl ?_); go_must (refine M.out.ev_stw 9 _ _ _ rfl rfl rfl rfl _ rfl (by rw [S42.out]; first | rfl | kernel_rfl) (by rw [S42.out]; exact sz36) (ints_one _ _) rfl ?_); intro wn m; simp only [List.set_cons_zero, List.set_cons_succ] at m; have M := Lib.hid m; clear m)
          | ((with_reducible refine gate_dst (N := 192) rfl ?_); go_must (refine M.out.ev_ldw 0 _ _ rfl rfl rfl Tryz.underlying29 rfl (by rw [S1.out]; exact sz29) rfl ?_))
          | (go_at_call 16; go_must (refine (DC.out.sdS _).mono ?_); rintro e w_ ⟨rfl, N_⟩; have m := M.out.join N_; clear N_; simp only [List.cons_append, List.nil_append, List.append_nil] at m; have M := Lib.hid m; clear m)
          | ((with_reducible refine gate_dst (N := 197) rfl ?_); go_must (refine M.out.ev_ldw 7 _ _ rfl rfl rfl Tryz.underlying29 rfl (by rw [SN.out]; exact sz29) rfl ?_))
          | (go_at_call 17; go_must (refine (DC.out.sdI _).mono ?_); rintro e w_ ⟨rfl, N_⟩; have m := M.out.join N_; clear N_; simp only [List.cons_append, List.nil_append, List.append_nil] at m; have M := Lib.hid m; clear m)
          | ((with_reducible refine gate_dst (N := 204) rfl ?_); refine gate_want rfl ?_; go_must (refine M.out.ev_ldw 8 _ _ rfl rfl rfl Tryz.underlying29 rfl (by rw [SN.out]; exact sz29) rfl ?_))
          | ((with_reducible refine gate_dst (N := 205) rfl ?_); refine gate_want rfl ?_; go_must (refine M.out.ev_ldw 7 _ _ rfl rfl rfl Tryz.underlying29 rfl (by rw [SN.out]; exact sz29) rfl ?_))
          | ((with_reducible refine gate_dst (N := 219) rfl ?_); refine gate_want rfl ?_; go_must (refine M.out.ev_ld 9 _ _ rfl rfl rfl Tryz.underlying2 rfl rfl X0.out ?_))
          | ((with_reducible refine gate_dst (N := 223) rfl ?_); refine gate_want rfl ?_; go_must (refine M.out.ev_ld 9 _ _ rfl rfl rfl Tryz.underlying2 rfl rfl X1.out ?_))
          | ((with_reducible refine gate_dst (N := 226) rfl ?_); refine gate_want rfl ?_; go_must (refine M.out.ev_ld 9 _ _ rfl rfl rfl Tryz.underlying2 rfl rfl X2.out ?_))
          | ((with_reducible refine gate_dst (N := 229) rfl ?_); refine gate_want rfl ?_; go_must (refine M.out.ev_ld 9 _ _ rfl rfl rfl Tryz.underlying2 rfl rfl X3.out ?_))
          | ((with_reducible refine gate_dst (N := 234) rfl ?_); go_must (refine M.out.ev_ldw 0 _ _ rfl rfl rfl Tryz.underlying29 rfl (by rw [S1.out]; exact sz29) rfl ?_))
          | (go_at_call 18; go_must (refine (P6Sown_any B nb cs YC.out F FD.out _ (M.out.sl HT.out)).mono ?_); rintro e w_ ⟨G, rfl, hG1, hG2, hG3, N_⟩; have m := M.out.join N_; clear N_; simp only [List.cons_append, List.nil_append, List.append_nil] at m; have M := Lib.hid m; clear m; obtain ⟨X, S3, Q, cq, hW⟩ := way_calls F G FD.out.ok FD.out.valid hG1 hG2 hG3; have WC := Lib.hid hW; have SG := Lib.hid (Fld.size hW.Gl); have S43 := Lib.hid (ints4 hW.S3l); have nG := eqFld G hW.Gl; have XL := Lib.hid hW.Xl; have QL := Lib.hid hW.Ql; clear hW hG1 hG2 hG3)
          | ((with_reducible refine gate_dst (N := 33) rfl ?_); go_must (refine M.out.ev_new rfl (by first | (go_simp; done) | (go_simp; rfl)) ?_); intro g33 w33 m; simp only [List.cons_append, List.nil_append] at m; have M := Lib.hid m; clear m)
          | ((with_reducible refine gate_store (x := .tmp 33) rfl ?_); go_must (refine M.out.ev_stw 10 _ _ _ rfl rfl rfl rfl _ rfl (by rw [SG.out]; exact szZ) (by rw [SG.out]; exact sz29) (Fld.one _) rfl ?_); intro wn m; simp only [List.set_cons_zero, List.set_cons_succ] at m; have M := Lib.hid m; clear m)
          | ((with_reducible refine gate_dst (N := 237) rfl ?_); go_must (refine M.out.ev_ldw 0 _ _ rfl rfl rfl Tryz.underlying29 rfl (by rw [S1.out]; exact sz29) rfl ?_))
          | ((with_reducible refine gate_dst (N := 238) rfl ?_); go_must (refine M.out.ev_ldw 10 _ _ rfl rfl rfl Tryz.underlying29 rfl (by rw [SG.out]; exact sz29) rfl ?_))
          | (go_at_call 19; go_must (first | (refine Calls.mono (calls_args (by with_reducible rfl) (WC.out.wI _)) ?_) | (refine Calls.mono (calls_args (by with_reducible rfl) (WC.out.none_ _)) ?_)); rintro e w_ ⟨A_, c_, rfl, hc_, N_⟩; have m := M.out.join N_; clear N_; simp only [List.cons_append, List.nil_append, List.append_nil] at m; have M := Lib.hid m; clear m)
          | ((with_reducible refine gate_dst (N := 243) rfl ?_); go_must (refine M.out.ev_ldw 0 _ _ rfl rfl rfl Tryz.underlying29 rfl (by rw [S1.out]; exact sz29) rfl ?_))
          | ((with_reducible refine gate_dst (N := 244) rfl ?_); go_must (refine M.out.ev_ldw 10 _ _ rfl rfl rfl Tryz.underlying29 rfl (by rw [SG.out]; exact sz29) rfl ?_))
          | (go_at_call 20; go_must (refine (WC.out.wS _).mono ?_); rintro e w_ ⟨A_, c_, rfl, hc_, N_⟩; have m := M.out.join N_; clear N_; simp only [List.cons_append, List.nil_append, List.append_nil] at m; have M := Lib.hid m; clear m)
          | ((with_reducible refine gate_dst (N := 249) rfl ?_); go_must (refine M.out.ev_ldw 0 _ _ rfl rfl rfl Tryz.underlying29 rfl (by rw [S1.out]; exact sz29) rfl ?_))
          | ((with_reducible refine gate_dst (N := 38) rfl ?_); go_must (refine M.out.ev_new rfl (by first | (go_simp; done) | (go_simp; rfl)) ?_); intro g38 w38 m; simp only [List.cons_append, List.nil_append] at m; have M := Lib.hid m; clear m)
          | ((with_reducible refine gate_dst (N := 39) rfl ?_); go_must (refine M.out.ev_new rfl (by first | (go_simp; done) | (go_simp; rfl)) ?_); intro g39 w39 m; simp only [List.cons_append, List.nil_append] at m; have M := Lib.hid m; clear m)
          | ((with_reducible refine gate_store (x := .tmp 38) rfl ?_); go_must (refine M.out.ev_stw 13 _ _ _ rfl rfl rfl rfl _ rfl (by rw [SG.out]; exact szZ) (by rw [SG.out]; exact sz29) (Fld.one _) rfl ?_); intro wn m; simp only [List.set_cons_zero, List.set_cons_succ] at m; have M := Lib.hid m; clear m)
          | ((with_reducible refine gate_store (x := .tmp 39) rfl ?_); go_must (refine M.out.ev_stw 14 _ _ _ rfl rfl rfl rfl _ rfl (by rw [S43.out]; first | rfl | kernel_rfl) (by rw [S43.out]; exact sz36) (ints_one _ _) rfl ?_); intro wn m; simp only [List.set_cons_zero, List.set_cons_succ] at m; have M := Lib.hid m; clear m)
          | ((with_reducible refine gate_dst (N := 256) rfl ?_); go_must (refine M.out.ev_ldw 0 _ _ rfl rfl rfl Tryz.underlying29 rfl (by rw [S1.out]; exact sz29) rfl ?_))
          | ((with_reducible refine gate_dst (N := 257) rfl ?_); go_must (refine M.out.ev_ldw 0 _ _ rfl rfl rfl Tryz.underlying29 rfl (by rw [S1.out]; exact sz29) rfl ?_))
          | ((with_reducible refine gate_dst (N := 262) rfl ?_); go_must (refine M.out.ev_ldw 0 _ _ rfl rfl rfl Tryz.underlying29 rfl (by rw [S1.out]; exact sz29) rfl ?_))
          | ((with_reducible refine gate_dst (N := 267) rfl ?_); go_must (refine M.out.ev_ldw 0 _ _ rfl rfl rfl Tryz.underlying29 rfl (by rw [S1.out]; exact sz29) rfl ?_))
          | (go_at_call 21; go_must (refine (WC.out.plI _).mono ?_); rintro e w_ ⟨A_, c_, rfl, hc_, N_⟩; have m := M.out.join N_; clear N_; simp only [List.cons_append, List.nil_append, List.append_nil] at m; have M := Lib.hid m; clear m)
          | (go_at_call 22; go_must (refine (WC.out.plS _).mono ?_); rintro e w_ ⟨A_, c_, rfl, hc_, N_⟩; have m := M.out.join N_; clear N_; simp only [List.cons_append, List.nil_append, List.append_nil] at m; have M := Lib.hid m; clear m)
          | (go_at_call 13; go_must (refine (EntrySame_any _ _ _ _ X _ (by have := XL.out; omega) (M.out.slof 11 rfl) (M.out.slof 12 rfl)).mono ?_); rintro e w_ ⟨rfl, N_⟩; have m := M.out.join N_; clear N_; simp only [List.cons_append, List.nil_append, List.append_nil] at m; have M := Lib.hid m; clear m)
          | ((with_reducible refine gate_dst (N := 288) rfl ?_); refine gate_want rfl ?_; go_must (refine M.out.ev_ldw 13 _ _ rfl rfl rfl Tryz.underlying29 rfl (by rw [SG.out]; exact sz29) rfl ?_))
          | ((with_reducible refine gate_dst (N := 289) rfl ?_); refine gate_want rfl ?_; go_must (refine M.out.ev_ldw 10 _ _ rfl rfl rfl Tryz.underlying29 rfl (by rw [SG.out]; exact sz29) rfl ?_))
          | (go_at_call 23; go_must (refine (PlotSame_any _ _ _ _ Q _ (by have := QL.out; omega) (M.out.slof 16 rfl) (M.out.slof 17 rfl)).mono ?_); rintro e w_ ⟨rfl, N_⟩; have m := M.out.join N_; clear N_; simp only [List.cons_append, List.nil_append, List.append_nil] at m; have M := Lib.hid m; clear m)
          )
        go_ret
        exact ⟨rfl, M.out.take 0⟩
  · as_aux_lemma =>
    subst hd0
    subst hbC
    subst han
    have q1 : (b != 0) = true := by simpa using hC1
    have q2 : (b == 0) = false := by simpa using hC1
    have q3 : ¬ ((n0 : Int) < 0) := by omega
    have q4 : ¬ ((xs.length : Int) ≤ (n0 : Int)) := by omega
    have q5 : decide ((n0 : Int) < 0) = false := decide_eq_false q3
    have q6 : decide ((xs.length : Int) ≤ (n0 : Int)) = false := decide_eq_false q4
    have q7 : (0 : Int) ≤ (n0 : Int) := by omega
    have q8 : (n0 : Int) ≤ (cp : Int) := by omega
    clear hC1
    go_wp2_with (first
      | (go_at_call 8; go_must (refine (DC.out.txt _ _ _ (M.out.tabs HTB.out).2.2.2 (M.out.slof 1 rfl)).mono ?_); rintro e w_ ⟨rfl, N_⟩; have m := M.out.join N_; clear N_; simp only [List.cons_append, List.nil_append, List.append_nil] at m; have M := Lib.hid m; clear m)
      | (go_at_call 7; go_must (refine (DC.out.read _ (M.out.tabs HTB.out)).mono ?_); rintro e w_ ⟨A2, c2, rfl, hc2, N_⟩; have m := M.out.join N_; clear N_; simp only [List.cons_append, List.nil_append, List.append_nil] at m; have M := Lib.hid m; clear m)
      | ((with_reducible refine gate_dst (N := 65) rfl ?_); go_must (refine M.out.ev_ldw 0 _ _ rfl rfl rfl Tryz.underlying29 rfl (by rw [S1.out]; exact sz29) rfl ?_))
      | (go_at_call 9; go_must (refine (DC.out.rpI _ _ _ (M.out.slof 1 rfl)).mono ?_); rintro e w_ ⟨rfl, N_⟩; have m := M.out.join N_; clear N_; simp only [List.cons_append, List.nil_append, List.append_nil] at m; have M := Lib.hid m; clear m)
      | ((with_reducible refine gate_dst (N := 9) rfl ?_); go_must (refine M.out.ev_new rfl (by first | (go_simp; done) | (go_simp; rfl)) ?_); intro g9 w9 m; simp only [List.cons_append, List.nil_append] at m; have M := Lib.hid m; clear m)
      | ((with_reducible refine gate_dst (N := 10) rfl ?_); go_must (refine M.out.ev_new rfl (by first | (go_simp; done) | (go_simp; rfl)) ?_); intro g10 w10 m; simp only [List.cons_append, List.nil_append] at m; have M := Lib.hid m; clear m)
      | ((with_reducible refine gate_store (x := .tmp 9) rfl ?_); go_must (refine M.out.ev_stw 3 _ _ _ rfl rfl rfl rfl _ rfl (by rw [SE.out]; exact szZ) (by rw [SE.out]; exact sz29) (Fld.one _) rfl ?_); intro wn m; simp only [List.set_cons_zero, List.set_cons_succ] at m; have M := Lib.hid m; clear m)
      | ((with_reducible refine gate_store (x := .tmp 10) rfl ?_); go_must (refine M.out.ev_stw 4 _ _ _ rfl rfl rfl rfl _ rfl (by rw [S4.out]; first | rfl | kernel_rfl) (by rw [S4.out]; exact sz36) (ints_one _ _) rfl ?_); intro wn m; simp only [List.set_cons_zero, List.set_cons_succ] at m; have M := Lib.hid m; clear m)
      | ((with_reducible refine gate_dst (N := 72) rfl ?_); go_must (refine M.out.ev_ldw 0 _ _ rfl rfl rfl Tryz.underlying29 rfl (by rw [S1.out]; exact sz29) rfl ?_))
      | (go_at_call 10; go_must (refine (DC.out.rpS _ _ _ (M.out.slof 1 rfl)).mono ?_); rintro e w_ ⟨rfl, N_⟩; have m := M.out.join N_; clear N_; simp only [List.cons_append, List.nil_append, List.append_nil] at m; have M := Lib.hid m; clear m)
      | ((with_reducible refine gate_dst (N := 12) rfl ?_); go_must (refine M.out.ev_new rfl (by first | (go_simp; done) | (go_simp; rfl)) ?_); intro g12 w12 m; simp only [List.cons_append, List.nil_append] at m; have M := Lib.hid m; clear m)
      | ((with_reducible refine gate_dst (N := 13) rfl ?_); go_must (refine M.out.ev_new rfl (by first | (go_simp; done) | (go_simp; rfl)) ?_); intro g13 w13 m; simp only [List.cons_append, List.nil_append] at m; have M := Lib.hid m; clear m)
      | ((with_reducible refine gate_store (x := .tmp 12) rfl ?_); go_must (refine M.out.ev_stw 5 _ _ _ rfl rfl rfl rfl _ rfl (by rw [SE.out]; exact szZ) (by rw [SE.out]; exact sz29) (Fld.one _) rfl ?_); intro wn m; simp only [List.set_cons_zero, List.set_cons_succ] at m; have M := Lib.hid m; clear m)
      | ((with_reducible refine gate_store (x := .tmp 13) rfl ?_); go_must (refine M.out.ev_stw 6 _ _ _ rfl rfl rfl rfl _ rfl (by rw [S4.out]; first | rfl | kernel_rfl) (by rw [S4.out]; exact sz36) (ints_one _ _) rfl ?_); intro wn m; simp only [List.set_cons_zero, List.set_cons_succ] at m; have M := Lib.hid m; clear m)
      | ((with_reducible refine gate_dst (N := 79) rfl ?_); go_must (refine M.out.ev_ldw 0 _ _ rfl rfl rfl Tryz.underlying29 rfl (by rw [S1.out]; exact sz29) rfl ?_))
      | (go_at_call 11; go_must (refine (DC.out.fwI _ _ _ (M.out.slof 1 rfl)).mono ?_); rintro e w_ ⟨rfl, N_⟩; have m := M.out.join N_; clear N_; simp only [List.cons_append, List.nil_append, List.append_nil] at m; have M := Lib.hid m; clear m)
      | ((with_reducible refine gate_dst (N := 86) rfl ?_); go_must (refine M.out.ev_ldw 0 _ _ rfl rfl rfl Tryz.underlying29 rfl (by rw [S1.out]; exact sz29) rfl ?_))
      | (go_at_call 12; go_must (refine (DC.out.fwS _ _ _ (M.out.slof 1 rfl)).mono ?_); rintro e w_ ⟨rfl, N_⟩; have m := M.out.join N_; clear N_; simp only [List.cons_append, List.nil_append, List.append_nil] at m; have M := Lib.hid m; clear m)
      | (go_at_call 13; go_must (refine (EntrySame_any _ _ _ _ xs _ (by omega) (M.out.slof 2 rfl) (M.out.slof 1 rfl)).mono ?_); rintro e w_ ⟨rfl, N_⟩; have m := M.out.join N_; clear N_; simp only [List.cons_append, List.nil_append, List.append_nil] at m; have M := Lib.hid m; clear m)
      | ((with_reducible refine gate_dst (N := 106) rfl ?_); refine gate_want rfl ?_; go_must (refine M.out.ev_ldw 3 _ _ rfl rfl rfl Tryz.underlying29 rfl (by rw [SE.out]; exact sz29) rfl ?_))
      | ((with_reducible refine gate_dst (N := 107) rfl ?_); refine gate_want rfl ?_; go_must (refine M.out.ev_ldw 5 _ _ rfl rfl rfl Tryz.underlying29 rfl (by rw [SE.out]; exact sz29) rfl ?_))
      | ((with_reducible refine gate_dst (N := 111) rfl ?_); refine gate_want rfl ?_; go_must (refine M.out.ev_ldw 4 _ _ rfl rfl rfl Tryz.underlying36 rfl (by rw [S4.out]; exact sz36) rfl ?_))
      | ((with_reducible refine gate_dst (N := 112) rfl ?_); refine gate_want rfl ?_; go_must (refine M.out.ev_ldw 6 _ _ rfl rfl rfl Tryz.underlying36 rfl (by rw [S4.out]; exact sz36) rfl ?_))
      | ((with_reducible refine gate_dst (N := 160) rfl ?_); go_must (refine M.out.ev_ldw 0 _ _ rfl rfl rfl Tryz.underlying29 rfl (by rw [S1.out]; exact sz29) rfl ?_))
      | ((with_reducible refine gate_dst (N := 22) rfl ?_); go_must (refine M.out.ev_new rfl (by first | (go_simp; done) | (go_simp; rfl)) ?_); intro g22 w22 m; simp only [List.cons_append, List.nil_append] at m; have M := Lib.hid m; clear m)
      | ((with_reducible refine gate_store (x := .tmp 22) rfl ?_); go_must (refine M.out.ev_stw 7 _ _ _ rfl rfl rfl rfl _ rfl (by rw [S1.out]; exact szZ) (by rw [S1.out]; exact sz29) (Fld.one _) rfl ?_); intro wn m; simp only [List.set_cons_zero, List.set_cons_succ] at m; have M := Lib.hid m; clear m)
      )
    clear q1 q2 q3 q4 q5 q6 q7 q8

    go_loopw [23] (fun v wr => ∃ i : Nat, i ≤ n0 ∧ v = .int .i64 i ∧ Mem w wr [.blk g5 29 F.cells, .row (.slice Bx xs.length cp) 45 3 xs.length (flat Entry.vals xs), .row (.slice A2 xs.length c2) 45 3 xs.length (flat Entry.vals xs), .blk g9 29 E.cells, .blk g10 36 (ints .i64 SS), .blk g12 29 E.cells, .blk g13 36 (ints .i64 SS), .blk g22 29 (nw i).cells])
      (fun v _ => n0 - (intOf v).toNat)
    case atStart =>
      refine ⟨0, by omega, rfl, ?_⟩
      rw [DC.out.nw0]
      exact M.out
    case round =>
      clear M
      obtain ⟨i, hi, rfl, m⟩ := hrel
      have M := Lib.hid m
      clear m
      by_cases hlt : i < n0
      · as_aux_lemma =>
        obtain ⟨x, hx, hAP⟩ := DC.out.step i hlt
        have HXK := Lib.hid hx
        have AP := Lib.hid hAP
        have VF := Lib.hid (DC.out.vf (i + 1) hlt)
        have S3 := Lib.hid (Fld.size (DC.out.nwl i hi))
        have SJ := Lib.hid (Fld.size (DC.out.nwl (i + 1) hlt))
        obtain ⟨NI, hNI⟩ : ∃ X, X = nw i := ⟨_, rfl⟩
        obtain ⟨NJ, hNJ⟩ : ∃ X, X = nw (i + 1) := ⟨_, rfl⟩
        have HNJ := Lib.hid hNJ
        rw [← hNI] at M S3 AP
        rw [← hNJ] at AP VF SJ
        have hix : i < xs.length := by have := HN0.out; omega
        obtain ⟨b, off, rfl, hr⟩ := (M.out.slof 1 rfl).2 (by omega)
        have i0 : (0 : Int) ≤ (i : Int) := by omega
        have i1 : (i : Int) < ((n0 : Nat) : Int) := by omega
        clear hx hAP hNI hNJ hr DC
        go_wp2
        refine region_anyH (fun w' => Mem w w' [.blk g5 29 F.cells, .row (.slice (some ⟨b, off, none⟩) xs.length cp) 45 3 xs.length (flat Entry.vals xs), .row (.slice A2 xs.length c2) 45 3 xs.length (flat Entry.vals xs), .blk g9 29 E.cells, .blk g10 36 (ints .i64 SS), .blk g12 29 E.cells, .blk g13 36 (ints .i64 SS), .blk g22 29 NI.cells]) (by kernel_rfl) ?_
        have m := M.out.drew
        clear M
        have M := Lib.hid m
        clear m
        apply takeH (i := 0) 168 rfl (by kernel_rfl) (by kernel_rfl) (by kernel_rfl) (fun _ _ _ h => h) rfl (by first | exact M.out | exact M.out.take 8)
        case' hy => exact yldw _ _ rfl rfl Tryz.underlying29 rfl (by first | exact sz29 | (rw [S1.out]; exact sz29) | (rw [S2.out]; exact sz29) | (rw [S3.out]; exact sz29)) rfl (fun w' hS => hS.blk 7 rfl)
        try simp only [Act.put, List.getElem_toArray, List.getElem_cons_succ, List.getElem_cons_zero, List.setIfInBounds_toArray, List.set_cons_succ, List.set_cons_zero]
        apply takeH (i := 1) 169 rfl (by kernel_rfl) (by kernel_rfl) (by kernel_rfl) (fun _ _ _ h => h) rfl (by first | exact M.out | exact M.out.take 8)
        case' hy =>
          refine Or.inl ⟨by first | rfl | (go_simp; done), ?_⟩
          intro w hS
          clear hS
          go_simp
          try with_reducible rfl
        try simp only [Act.put, List.getElem_toArray, List.getElem_cons_succ, List.getElem_cons_zero, List.setIfInBounds_toArray, List.set_cons_succ, List.set_cons_zero]
        apply takeH (i := 2) 170 rfl (by kernel_rfl) (by kernel_rfl) (by kernel_rfl) (fun _ _ _ h => h) rfl (by first | exact M.out | exact M.out.take 8)
        case' hy =>
          refine Or.inl ⟨by first | rfl | (go_simp; done), ?_⟩
          intro w hS
          clear hS
          go_simp
          try with_reducible rfl
        try simp only [Act.put, List.getElem_toArray, List.getElem_cons_succ, List.getElem_cons_zero, List.setIfInBounds_toArray, List.set_cons_succ, List.set_cons_zero]
        apply takeH (i := 3) 171 rfl (by kernel_rfl) (by kernel_rfl) (by kernel_rfl) (fun _ _ _ h => h) rfl (by first | exact M.out | exact M.out.take 8)
        case' hy =>
          refine Or.inl ⟨by first | rfl | (go_simp; done), ?_⟩
          intro w hS
          clear hS
          go_simp
          try with_reducible rfl
        try simp only [Act.put, List.getElem_toArray, List.getElem_cons_succ, List.getElem_cons_zero, List.setIfInBounds_toArray, List.set_cons_succ, List.set_cons_zero]
        apply takeH (i := 4) 172 rfl (by kernel_rfl) (by kernel_rfl) (by kernel_rfl) (fun _ _ _ h => h) rfl (by first | exact M.out | exact M.out.take 8)
        case' hy => exact yieldsIf_load_mid (by first | rfl | (go_simp; done)) _ _ rfl _ _ rfl _ _ (fun w' hS => range_at Entry.vl (sl_rangeEntry (hS.slof 1 rfl) hix) HXK.out) Tryz.underlying45 rfl sz45
        try simp only [Act.put, List.getElem_toArray, List.getElem_cons_succ, List.getElem_cons_zero, List.setIfInBounds_toArray, List.set_cons_succ, List.set_cons_zero]
        refine any2H 5 9 (by kernel_rfl) rfl rfl (fun K hK => ?_) (fun K hK => ?_)
        rotate_right 1
        case' _ =>
          go_wp2_with (first | ((with_reducible refine gate_dst (N := 24) rfl ?_); go_must (refine M.out.ev_new rfl (by first | (go_simp; done) | (go_simp; rfl)) ?_); intro g24 w24 m; simp only [List.cons_append, List.nil_append] at m; have M := Lib.hid m; clear m) | ((with_reducible refine gate_store (x := .tmp 24) rfl ?_); go_must (refine M.out.ev_stw 8 _ _ _ rfl rfl rfl rfl _ rfl (by rw [SJ.out]; exact szZ) (by rw [SJ.out]; exact sz29) (Fld.one _) rfl ?_); intro wn m; simp only [List.set_cons_zero, List.set_cons_succ] at m; have M := Lib.hid m; clear m) | ((with_reducible refine gate_dst (N := 168) rfl ?_); go_must (refine M.out.ev_ldw 7 _ _ rfl rfl rfl Tryz.underlying29 rfl (by first | exact sz29 | (rw [S1.out]; exact sz29) | (rw [S2.out]; exact sz29) | (rw [S3.out]; exact sz29)) rfl ?_)) | ((with_reducible refine gate_dst (N := 24) rfl ?_); go_must (refine M.out.ev_new rfl (by first | (go_simp; done) | (go_simp; rfl)) ?_); intro g24 w24 m; simp only [List.cons_append, List.nil_append] at m; have M := Lib.hid m; clear m) | ((with_reducible refine gate_store (x := .tmp 24) rfl ?_); go_must (refine M.out.ev_stw 8 _ _ _ rfl rfl rfl rfl _ rfl (by first | rfl | (simp only [S1.out]; rfl) | (simp only [S1.out, S2.out]; rfl) | (simp only [S3.out]; rfl) | (simp only [S1.out, S2.out, S3.out]; rfl)) (by first | exact sz29 | (rw [S1.out]; exact sz29) | (rw [S2.out]; exact sz29) | (rw [S3.out]; exact sz29)) (by first | exact ints_one _ _ | exact Fld.one _ | exact O1.out | exact Fld.one _ | exact Entry.one _ | exact ints_one _ _ | rfl | (simp [Value.oneCell']; done)) rfl ?_); intro wn m; simp only [List.set_cons_succ, List.set_cons_zero, List.setIfInBounds_toArray] at m; have M := Lib.hid m; clear m) | (go_at_call 14; go_must (refine (AP.out _).mono ?_); rintro e w_ ⟨rfl, N_⟩; have m := M.out.join N_; clear N_; simp only [List.cons_append, List.nil_append, List.append_nil] at m; have M := Lib.hid m; clear m))
          refine onward_normal (hK _ _ ⟨(by first | exact M.out | exact M.out.take 8), ?_⟩)
          clear hK K
          try simp only [Act.put, List.getElem_toArray, List.getElem_cons_succ, List.getElem_cons_zero, List.setIfInBounds_toArray, List.set_cons_succ, List.set_cons_zero]
          refine any1H 5 (by kernel_rfl) rfl (fun K hK => ?_)
          go_wp2_with (first | ((with_reducible refine gate_dst (N := 24) rfl ?_); go_must (refine M.out.ev_new rfl (by first | (go_simp; done) | (go_simp; rfl)) ?_); intro g24 w24 m; simp only [List.cons_append, List.nil_append] at m; have M := Lib.hid m; clear m) | ((with_reducible refine gate_store (x := .tmp 24) rfl ?_); go_must (refine M.out.ev_stw 8 _ _ _ rfl rfl rfl rfl _ rfl (by rw [SJ.out]; exact szZ) (by rw [SJ.out]; exact sz29) (Fld.one _) rfl ?_); intro wn m; simp only [List.set_cons_zero, List.set_cons_succ] at m; have M := Lib.hid m; clear m) | ((with_reducible refine gate_dst (N := 168) rfl ?_); go_must (refine M.out.ev_ldw 7 _ _ rfl rfl rfl Tryz.underlying29 rfl (by first | exact sz29 | (rw [S1.out]; exact sz29) | (rw [S2.out]; exact sz29) | (rw [S3.out]; exact sz29)) rfl ?_)) | ((with_reducible refine gate_dst (N := 24) rfl ?_); go_must (refine M.out.ev_new rfl (by first | (go_simp; done) | (go_simp; rfl)) ?_); intro g24 w24 m; simp only [List.cons_append, List.nil_append] at m; have M := Lib.hid m; clear m) | ((with_reducible refine gate_store (x := .tmp 24) rfl ?_); go_must (refine M.out.ev_stw 8 _ _ _ rfl rfl rfl rfl _ rfl (by first | rfl | (simp only [S1.out]; rfl) | (simp only [S1.out, S2.out]; rfl) | (simp only [S3.out]; rfl) | (simp only [S1.out, S2.out, S3.out]; rfl)) (by first | exact sz29 | (rw [S1.out]; exact sz29) | (rw [S2.out]; exact sz29) | (rw [S3.out]; exact sz29)) (by first | exact ints_one _ _ | exact Fld.one _ | exact O1.out | exact Fld.one _ | exact Entry.one _ | exact ints_one _ _ | rfl | (simp [Value.oneCell']; done)) rfl ?_); intro wn m; simp only [List.set_cons_succ, List.set_cons_zero, List.setIfInBounds_toArray] at m; have M := Lib.hid m; clear m) | (go_at_call 14; go_must (refine (AP.out _).mono ?_); rintro e w_ ⟨rfl, N_⟩; have m := M.out.join N_; clear N_; simp only [List.cons_append, List.nil_append, List.append_nil] at m; have M := Lib.hid m; clear m))
          refine onward_normal (hK _ _ ⟨(by first | exact M.out | exact M.out.take 8), ?_⟩)
          clear hK K
          try simp only [Act.put, List.getElem_toArray, List.getElem_cons_succ, List.getElem_cons_zero, List.setIfInBounds_toArray, List.set_cons_succ, List.set_cons_zero]
          apply takeH (i := 6) 167 rfl (by kernel_rfl) (by kernel_rfl) (by kernel_rfl) (fun _ _ _ h => h) rfl (by first | exact M.out | exact M.out.take 8)
          case' hy =>
            refine Or.inl ⟨by first | rfl | (go_simp; done), ?_⟩
            intro w hS
            clear hS
            go_simp
            try with_reducible rfl
          try simp only [Act.put, List.getElem_toArray, List.getElem_cons_succ, List.getElem_cons_zero, List.setIfInBounds_toArray, List.set_cons_succ, List.set_cons_zero]
          apply takeH (i := 7) 174 rfl (by kernel_rfl) (by kernel_rfl) (by kernel_rfl) (fun _ _ _ h => h) rfl (by first | exact M.out | exact M.out.take 8)
          case' hy =>
            refine Or.inl ⟨by first | rfl | (go_simp; done), ?_⟩
            intro w hS
            clear hS
            go_simp
            try with_reducible rfl
          try simp only [Act.put, List.getElem_toArray, List.getElem_cons_succ, List.getElem_cons_zero, List.setIfInBounds_toArray, List.set_cons_succ, List.set_cons_zero]
          apply takeH (i := 8) 175 rfl (by kernel_rfl) (by kernel_rfl) (by kernel_rfl) (fun _ _ _ h => h) rfl (by first | exact M.out | exact M.out.take 8)
          case' hy =>
            refine Or.inl ⟨by first | rfl | (go_simp; done), ?_⟩
            intro w hS
            clear hS
            go_simp
            try with_reducible rfl
          try simp only [Act.put, List.getElem_toArray, List.getElem_cons_succ, List.getElem_cons_zero, List.setIfInBounds_toArray, List.set_cons_succ, List.set_cons_zero]
          refine any1H 10 (by kernel_rfl) rfl (fun K hK => ?_)
          go_wp2_with (first | ((with_reducible refine gate_dst (N := 24) rfl ?_); go_must (refine M.out.ev_new rfl (by first | (go_simp; done) | (go_simp; rfl)) ?_); intro g24 w24 m; simp only [List.cons_append, List.nil_append] at m; have M := Lib.hid m; clear m) | ((with_reducible refine gate_store (x := .tmp 24) rfl ?_); go_must (refine M.out.ev_stw 8 _ _ _ rfl rfl rfl rfl _ rfl (by rw [SJ.out]; exact szZ) (by rw [SJ.out]; exact sz29) (Fld.one _) rfl ?_); intro wn m; simp only [List.set_cons_zero, List.set_cons_succ] at m; have M := Lib.hid m; clear m) | ((with_reducible refine gate_dst (N := 168) rfl ?_); go_must (refine M.out.ev_ldw 7 _ _ rfl rfl rfl Tryz.underlying29 rfl (by first | exact sz29 | (rw [S1.out]; exact sz29) | (rw [S2.out]; exact sz29) | (rw [S3.out]; exact sz29)) rfl ?_)) | ((with_reducible refine gate_dst (N := 24) rfl ?_); go_must (refine M.out.ev_new rfl (by first | (go_simp; done) | (go_simp; rfl)) ?_); intro g24 w24 m; simp only [List.cons_append, List.nil_append] at m; have M := Lib.hid m; clear m) | ((with_reducible refine gate_store (x := .tmp 24) rfl ?_); go_must (refine M.out.ev_stw 8 _ _ _ rfl rfl rfl rfl _ rfl (by first | rfl | (simp only [S1.out]; rfl) | (simp only [S1.out, S2.out]; rfl) | (simp only [S3.out]; rfl) | (simp only [S1.out, S2.out, S3.out]; rfl)) (by first | exact sz29 | (rw [S1.out]; exact sz29) | (rw [S2.out]; exact sz29) | (rw [S3.out]; exact sz29)) (by first | exact ints_one _ _ | exact Fld.one _ | exact O1.out | exact Fld.one _ | exact Entry.one _ | exact ints_one _ _ | rfl | (simp [Value.oneCell']; done)) rfl ?_); intro wn m; simp only [List.set_cons_succ, List.set_cons_zero, List.setIfInBounds_toArray] at m; have M := Lib.hid m; clear m) | (go_at_call 14; go_must (refine (AP.out _).mono ?_); rintro e w_ ⟨rfl, N_⟩; have m := M.out.join N_; clear N_; simp only [List.cons_append, List.nil_append, List.append_nil] at m; have M := Lib.hid m; clear m))
          refine onward_normal (hK _ _ ⟨(by first | exact M.out | exact M.out.take 8), ?_⟩)
          clear hK K
          try simp only [Act.put, List.getElem_toArray, List.getElem_cons_succ, List.getElem_cons_zero, List.setIfInBounds_toArray, List.set_cons_succ, List.set_cons_zero]
          apply takeH (i := 11) 25 rfl (by kernel_rfl) (by kernel_rfl) (by kernel_rfl) (fun _ _ _ h => h) rfl (by first | exact M.out | exact M.out.take 8)
          case' hy =>
            refine Or.inl ⟨by first | rfl | (go_simp; done), ?_⟩
            intro w hS
            clear hS
            go_simp
            try with_reducible rfl
          try simp only [Act.put, List.getElem_toArray, List.getElem_cons_succ, List.getElem_cons_zero, List.setIfInBounds_toArray, List.set_cons_succ, List.set_cons_zero]
          refine wpAnyH_done (by kernel_rfl) ?_ _
        rotate_right 1
        case' _ =>
          go_wp2_with (first | ((with_reducible refine gate_dst (N := 24) rfl ?_); go_must (refine M.out.ev_new rfl (by first | (go_simp; done) | (go_simp; rfl)) ?_); intro g24 w24 m; simp only [List.cons_append, List.nil_append] at m; have M := Lib.hid m; clear m) | ((with_reducible refine gate_store (x := .tmp 24) rfl ?_); go_must (refine M.out.ev_stw 8 _ _ _ rfl rfl rfl rfl _ rfl (by rw [SJ.out]; exact szZ) (by rw [SJ.out]; exact sz29) (Fld.one _) rfl ?_); intro wn m; simp only [List.set_cons_zero, List.set_cons_succ] at m; have M := Lib.hid m; clear m) | ((with_reducible refine gate_dst (N := 168) rfl ?_); go_must (refine M.out.ev_ldw 7 _ _ rfl rfl rfl Tryz.underlying29 rfl (by first | exact sz29 | (rw [S1.out]; exact sz29) | (rw [S2.out]; exact sz29) | (rw [S3.out]; exact sz29)) rfl ?_)) | ((with_reducible refine gate_dst (N := 24) rfl ?_); go_must (refine M.out.ev_new rfl (by first | (go_simp; done) | (go_simp; rfl)) ?_); intro g24 w24 m; simp only [List.cons_append, List.nil_append] at m; have M := Lib.hid m; clear m) | ((with_reducible refine gate_store (x := .tmp 24) rfl ?_); go_must (refine M.out.ev_stw 8 _ _ _ rfl rfl rfl rfl _ rfl (by first | rfl | (simp only [S1.out]; rfl) | (simp only [S1.out, S2.out]; rfl) | (simp only [S3.out]; rfl) | (simp only [S1.out, S2.out, S3.out]; rfl)) (by first | exact sz29 | (rw [S1.out]; exact sz29) | (rw [S2.out]; exact sz29) | (rw [S3.out]; exact sz29)) (by first | exact ints_one _ _ | exact Fld.one _ | exact O1.out | exact Fld.one _ | exact Entry.one _ | exact ints_one _ _ | rfl | (simp [Value.oneCell']; done)) rfl ?_); intro wn m; simp only [List.set_cons_succ, List.set_cons_zero, List.setIfInBounds_toArray] at m; have M := Lib.hid m; clear m) | (go_at_call 14; go_must (refine (AP.out _).mono ?_); rintro e w_ ⟨rfl, N_⟩; have m := M.out.join N_; clear N_; simp only [List.cons_append, List.nil_append, List.append_nil] at m; have M := Lib.hid m; clear m))
          refine onward_normal (hK _ _ ⟨(by first | exact M.out | exact M.out.take 8), ?_⟩)
          clear hK K
          try simp only [Act.put, List.getElem_toArray, List.getElem_cons_succ, List.getElem_cons_zero, List.setIfInBounds_toArray, List.set_cons_succ, List.set_cons_zero]
          apply takeH (i := 6) 167 rfl (by kernel_rfl) (by kernel_rfl) (by kernel_rfl) (fun _ _ _ h => h) rfl (by first | exact M.out | exact M.out.take 8)
          case' hy =>
            refine Or.inl ⟨by first | rfl | (go_simp; done), ?_⟩
            intro w hS
            clear hS
            go_simp
            try with_reducible rfl
          try simp only [Act.put, List.getElem_toArray, List.getElem_cons_succ, List.getElem_cons_zero, List.setIfInBounds_toArray, List.set_cons_succ, List.set_cons_zero]
          apply takeH (i := 7) 174 rfl (by kernel_rfl) (by kernel_rfl) (by kernel_rfl) (fun _ _ _ h => h) rfl (by first | exact M.out | exact M.out.take 8)
          case' hy =>
            refine Or.inl ⟨by first | rfl | (go_simp; done), ?_⟩
            intro w hS
            clear hS
            go_simp
            try with_reducible rfl
          try simp only [Act.put, List.getElem_toArray, List.getElem_cons_succ, List.getElem_cons_zero, List.setIfInBounds_toArray, List.set_cons_succ, List.set_cons_zero]
          apply takeH (i := 8) 175 rfl (by kernel_rfl) (by kernel_rfl) (by kernel_rfl) (fun _ _ _ h => h) rfl (by first | exact M.out | exact M.out.take 8)
          case' hy =>
            refine Or.inl ⟨by first | rfl | (go_simp; done), ?_⟩
            intro w hS
            clear hS
            go_simp
            try with_reducible rfl
          try simp only [Act.put, List.getElem_toArray, List.getElem_cons_succ, List.getElem_cons_zero, List.setIfInBounds_toArray, List.set_cons_succ, List.set_cons_zero]
          refine any1H 9 (by kernel_rfl) rfl (fun K hK => ?_)
          go_wp2_with (first | ((with_reducible refine gate_dst (N := 24) rfl ?_); go_must (refine M.out.ev_new rfl (by first | (go_simp; done) | (go_simp; rfl)) ?_); intro g24 w24 m; simp only [List.cons_append, List.nil_append] at m; have M := Lib.hid m; clear m) | ((with_reducible refine gate_store (x := .tmp 24) rfl ?_); go_must (refine M.out.ev_stw 8 _ _ _ rfl rfl rfl rfl _ rfl (by rw [SJ.out]; exact szZ) (by rw [SJ.out]; exact sz29) (Fld.one _) rfl ?_); intro wn m; simp only [List.set_cons_zero, List.set_cons_succ] at m; have M := Lib.hid m; clear m) | ((with_reducible refine gate_dst (N := 168) rfl ?_); go_must (refine M.out.ev_ldw 7 _ _ rfl rfl rfl Tryz.underlying29 rfl (by first | exact sz29 | (rw [S1.out]; exact sz29) | (rw [S2.out]; exact sz29) | (rw [S3.out]; exact sz29)) rfl ?_)) | ((with_reducible refine gate_dst (N := 24) rfl ?_); go_must (refine M.out.ev_new rfl (by first | (go_simp; done) | (go_simp; rfl)) ?_); intro g24 w24 m; simp only [List.cons_append, List.nil_append] at m; have M := Lib.hid m; clear m) | ((with_reducible refine gate_store (x := .tmp 24) rfl ?_); go_must (refine M.out.ev_stw 8 _ _ _ rfl rfl rfl rfl _ rfl (by first | rfl | (simp only [S1.out]; rfl) | (simp only [S1.out, S2.out]; rfl) | (simp only [S3.out]; rfl) | (simp only [S1.out, S2.out, S3.out]; rfl)) (by first | exact sz29 | (rw [S1.out]; exact sz29) | (rw [S2.out]; exact sz29) | (rw [S3.out]; exact sz29)) (by first | exact ints_one _ _ | exact Fld.one _ | exact O1.out | exact Fld.one _ | exact Entry.one _ | exact ints_one _ _ | rfl | (simp [Value.oneCell']; done)) rfl ?_); intro wn m; simp only [List.set_cons_succ, List.set_cons_zero, List.setIfInBounds_toArray] at m; have M := Lib.hid m; clear m) | (go_at_call 14; go_must (refine (AP.out _).mono ?_); rintro e w_ ⟨rfl, N_⟩; have m := M.out.join N_; clear N_; simp only [List.cons_append, List.nil_append, List.append_nil] at m; have M := Lib.hid m; clear m))
          refine onward_normal (hK _ _ ⟨(by first | exact M.out | exact M.out.take 8), ?_⟩)
          clear hK K
          try simp only [Act.put, List.getElem_toArray, List.getElem_cons_succ, List.getElem_cons_zero, List.setIfInBounds_toArray, List.set_cons_succ, List.set_cons_zero]
          refine any1H 10 (by kernel_rfl) rfl (fun K hK => ?_)
          go_wp2_with (first | ((with_reducible refine gate_dst (N := 24) rfl ?_); go_must (refine M.out.ev_new rfl (by first | (go_simp; done) | (go_simp; rfl)) ?_); intro g24 w24 m; simp only [List.cons_append, List.nil_append] at m; have M := Lib.hid m; clear m) | ((with_reducible refine gate_store (x := .tmp 24) rfl ?_); go_must (refine M.out.ev_stw 8 _ _ _ rfl rfl rfl rfl _ rfl (by rw [SJ.out]; exact szZ) (by rw [SJ.out]; exact sz29) (Fld.one _) rfl ?_); intro wn m; simp only [List.set_cons_zero, List.set_cons_succ] at m; have M := Lib.hid m; clear m) | ((with_reducible refine gate_dst (N := 168) rfl ?_); go_must (refine M.out.ev_ldw 7 _ _ rfl rfl rfl Tryz.underlying29 rfl (by first | exact sz29 | (rw [S1.out]; exact sz29) | (rw [S2.out]; exact sz29) | (rw [S3.out]; exact sz29)) rfl ?_)) | ((with_reducible refine gate_dst (N := 24) rfl ?_); go_must (refine M.out.ev_new rfl (by first | (go_simp; done) | (go_simp; rfl)) ?_); intro g24 w24 m; simp only [List.cons_append, List.nil_append] at m; have M := Lib.hid m; clear m) | ((with_reducible refine gate_store (x := .tmp 24) rfl ?_); go_must (refine M.out.ev_stw 8 _ _ _ rfl rfl rfl rfl _ rfl (by first | rfl | (simp only [S1.out]; rfl) | (simp only [S1.out, S2.out]; rfl) | (simp only [S3.out]; rfl) | (simp only [S1.out, S2.out, S3.out]; rfl)) (by first | exact sz29 | (rw [S1.out]; exact sz29) | (rw [S2.out]; exact sz29) | (rw [S3.out]; exact sz29)) (by first | exact ints_one _ _ | exact Fld.one _ | exact O1.out | exact Fld.one _ | exact Entry.one _ | exact ints_one _ _ | rfl | (simp [Value.oneCell']; done)) rfl ?_); intro wn m; simp only [List.set_cons_succ, List.set_cons_zero, List.setIfInBounds_toArray] at m; have M := Lib.hid m; clear m) | (go_at_call 14; go_must (refine (AP.out _).mono ?_); rintro e w_ ⟨rfl, N_⟩; have m := M.out.join N_; clear N_; simp only [List.cons_append, List.nil_append, List.append_nil] at m; have M := Lib.hid m; clear m))
          refine onward_normal (hK _ _ ⟨(by first | exact M.out | exact M.out.take 8), ?_⟩)
          clear hK K
          try simp only [Act.put, List.getElem_toArray, List.getElem_cons_succ, List.getElem_cons_zero, List.setIfInBounds_toArray, List.set_cons_succ, List.set_cons_zero]
          apply takeH (i := 11) 25 rfl (by kernel_rfl) (by kernel_rfl) (by kernel_rfl) (fun _ _ _ h => h) rfl (by first | exact M.out | exact M.out.take 8)
          case' hy =>
            refine Or.inl ⟨by first | rfl | (go_simp; done), ?_⟩
            intro w hS
            clear hS
            go_simp
            try with_reducible rfl
          try simp only [Act.put, List.getElem_toArray, List.getElem_cons_succ, List.getElem_cons_zero, List.setIfInBounds_toArray, List.set_cons_succ, List.set_cons_zero]
          refine wpAnyH_done (by kernel_rfl) ?_ _
        all_goals
          go_wp2_with (first
            | ((with_reducible refine gate_dst (N := 179) rfl ?_); refine gate_want rfl ?_; go_must (refine M.out.ev_ldw 8 _ _ rfl rfl rfl Tryz.underlying29 rfl (by rw [SJ.out]; exact sz29) rfl ?_))
            | (go_at_call 15; go_must (refine (VF.out _).mono ?_); rintro e w_ ⟨rfl, N_⟩; have m := M.out.join N_; clear N_; simp only [List.cons_append, List.nil_append, List.append_nil] at m; have M := Lib.hid m; clear m)
            | ((with_reducible refine gate_dst (N := 183) rfl ?_); go_must (refine M.out.ev_ldw 8 _ _ rfl rfl rfl Tryz.underlying29 rfl (by rw [SJ.out]; exact sz29) rfl ?_))
            | ((with_reducible refine gate_store (x := .tmp 22) rfl ?_); go_must (refine M.out.ev_stw 7 _ _ _ rfl rfl rfl rfl _ rfl (by rw [SJ.out]; rw [S3.out]) (by rw [SJ.out]; exact sz29) (Fld.one _) rfl ?_); intro wn m; simp only [List.set_cons_zero, List.set_cons_succ] at m; have M := Lib.hid m; clear m)
            )
          refine ⟨⟨i + 1, hlt, by go_num, ?_⟩, by simp [intOf]; omega⟩
          have mm := M.out.take 8
          rw [HNJ.out] at mm
          exact mm
      · as_aux_lemma =>
        obtain rfl : n0 = i := by omega
        obtain ⟨NN, hNN⟩ : ∃ X, X = nw n0 := ⟨_, rfl⟩
        have SN := Lib.hid (Fld.size (DC.out.nwl _ (Nat.le_refl _)))
        have nN := neqFld _ (DC.out.nwl _ (Nat.le_refl _))
        have S42 := Lib.hid (ints4 DC.out.S2l)
        have hsum := DC.out.sum
        have hbs := DC.out.bs
        have hbp := DC.out.bp
        have hbq := DC.out.bq
        have b0 := hbs 0
        have b1 := hbs 1
        have b2 := hbs 2
        have b3 := hbs 3
        have X0 := Lib.hid (show (ints .i64 S2)[0]? = some (.int .i64 (gi S2 0)) from ints_at (by rw [DC.out.S2l]; decide))
        have X1 := Lib.hid (show (ints .i64 S2)[1]? = some (.int .i64 (gi S2 1)) from ints_at (by rw [DC.out.S2l]; decide))
        have X2 := Lib.hid (show (ints .i64 S2)[2]? = some (.int .i64 (gi S2 2)) from ints_at (by rw [DC.out.S2l]; decide))
        have X3 := Lib.hid (show (ints .i64 S2)[3]? = some (.int .i64 (gi S2 3)) from ints_at (by rw [DC.out.S2l]; decide))
        generalize gi S2 0 = s0 at *
        generalize gi S2 1 = s1 at *
        generalize gi S2 2 = s2 at *
        generalize gi S2 3 = s3 at *
        have f1 : IntKind.i64.wrap (p + s0) = p + s0 := IntWalk.i64_in _ (by omega)
        have f2 : IntKind.i64.wrap (q + s1) = q + s1 := IntWalk.i64_in _ (by omega)
        have f3 : IntKind.i64.wrap (q + s1 + s2) = q + s1 + s2 := IntWalk.i64_in _ (by omega)
        have f4 : IntKind.i64.wrap (q + s1 + s2 + s3) = q + s1 + s2 + s3 := IntWalk.i64_in _ (by omega)
        have f5 : (p + s0 != q + s1 + s2 + s3) = false := by rw [hsum]; simp
        have i9 : ¬ (((n0 : Nat) : Int) < ((n0 : Nat) : Int)) := by omega
        clear hsum hbs hbp hbq b0 b1 b2 b3 hNN hlt hi
        go_wp2_with (first
          | ((with_reducible refine gate_dst (N := 185) rfl ?_); go_must (refine M.out.ev_ldw 0 _ _ rfl rfl rfl Tryz.underlying29 rfl (by rw [S1.out]; exact sz29) rfl ?_))
          | (go_at_call 9; go_must (first | (refine Calls.mono (calls_args (by with_reducible rfl) (DC.out.rpG _ _ _ (sl_take (M.out.slof 1 rfl) rfl HN0.out))) ?_) | (refine Calls.mono (calls_args (by with_reducible rfl) (WC.out.home _ _ _ (M.out.slof 12 rfl))) ?_)); rintro e w_ ⟨rfl, N_⟩; have m := M.out.join N_; clear N_; simp only [List.cons_append, List.nil_append, List.append_nil] at m; have M := Lib.hid m; clear m)
          | ((with_reducible refine gate_dst (N := 26) rfl ?_); go_must (refine M.out.ev_new rfl (by first | (go_simp; done) | (go_simp; rfl)) ?_); intro g26 w26 m; simp only [List.cons_append, List.nil_append] at m; have M := Lib.hid m; clear m)
          | ((with_reducible refine gate_dst (N := 27) rfl ?_); go_must (refine M.out.ev_new rfl (by first | (go_simp; done) | (go_simp; rfl)) ?_); intro g27 w27 m; simp only [List.cons_append, List.nil_append] at m; have M := Lib.hid m; clear m)
          | ((with_reducible refine gate_store (x := .tmp 26) rfl ?_); go_must (refine M.out.ev_stw 8 _ _ _ rfl rfl rfl rfl _ rfl (by rw [SN.out]; exact szZ) (by rw [SN.out]; exact sz29) (Fld.one _) rfl ?_); intro wn m; simp only [List.set_cons_zero, List.set_cons_succ] at m; have M := Lib.hid m; clear m)
          | ((with_reducible refine gate_store (x := .tmp 27) rfl ?_); go_must (refine M.out.ev_stw 9 _ _ _ rfl rfl rfl rfl _ rfl (by rw [S42.out]; first | rfl | kernel_rfl) (by rw [S42.out]; exact sz36) (ints_one _ _) rfl ?_); intro wn m; simp only [List.set_cons_zero, List.set_cons_succ] at m; have M := Lib.hid m; clear m)
          | ((with_reducible refine gate_dst (N := 192) rfl ?_); go_must (refine M.out.ev_ldw 0 _ _ rfl rfl rfl Tryz.underlying29 rfl (by rw [S1.out]; exact sz29) rfl ?_))
          | (go_at_call 16; go_must (refine (DC.out.sdS _).mono ?_); rintro e w_ ⟨rfl, N_⟩; have m := M.out.join N_; clear N_; simp only [List.cons_append, List.nil_append, List.append_nil] at m; have M := Lib.hid m; clear m)
          | ((with_reducible refine gate_dst (N := 197) rfl ?_); go_must (refine M.out.ev_ldw 7 _ _ rfl rfl rfl Tryz.underlying29 rfl (by rw [SN.out]; exact sz29) rfl ?_))
          | (go_at_call 17; go_must (refine (DC.out.sdI _).mono ?_); rintro e w_ ⟨rfl, N_⟩; have m := M.out.join N_; clear N_; simp only [List.cons_append, List.nil_append, List.append_nil] at m; have M := Lib.hid m; clear m)
          | ((with_reducible refine gate_dst (N := 204) rfl ?_); refine gate_want rfl ?_; go_must (refine M.out.ev_ldw 8 _ _ rfl rfl rfl Tryz.underlying29 rfl (by rw [SN.out]; exact sz29) rfl ?_))
          | ((with_reducible refine gate_dst (N := 205) rfl ?_); refine gate_want rfl ?_; go_must (refine M.out.ev_ldw 7 _ _ rfl rfl rfl Tryz.underlying29 rfl (by rw [SN.out]; exact sz29) rfl ?_))
          | ((with_reducible refine gate_dst (N := 219) rfl ?_); refine gate_want rfl ?_; go_must (refine M.out.ev_ld 9 _ _ rfl rfl rfl Tryz.underlying2 rfl rfl X0.out ?_))
          | ((with_reducible refine gate_dst (N := 223) rfl ?_); refine gate_want rfl ?_; go_must (refine M.out.ev_ld 9 _ _ rfl rfl rfl Tryz.underlying2 rfl rfl X1.out ?_))
          | ((with_reducible refine gate_dst (N := 226) rfl ?_); refine gate_want rfl ?_; go_must (refine M.out.ev_ld 9 _ _ rfl rfl rfl Tryz.underlying2 rfl rfl X2.out ?_))
          | ((with_reducible refine gate_dst (N := 229) rfl ?_); refine gate_want rfl ?_; go_must (refine M.out.ev_ld 9 _ _ rfl rfl rfl Tryz.underlying2 rfl rfl X3.out ?_))
          | ((with_reducible refine gate_dst (N := 234) rfl ?_); go_must (refine M.out.ev_ldw 0 _ _ rfl rfl rfl Tryz.underlying29 rfl (by rw [S1.out]; exact sz29) rfl ?_))
          | (go_at_call 18; go_must (refine (P6Sown_any B nb cs YC.out F FD.out _ (M.out.sl HT.out)).mono ?_); rintro e w_ ⟨G, rfl, hG1, hG2, hG3, N_⟩; have m := M.out.join N_; clear N_; simp only [List.cons_append, List.nil_append, List.append_nil] at m; have M := Lib.hid m; clear m; obtain ⟨X, S3, Q, cq, hW⟩ := way_calls F G FD.out.ok FD.out.valid hG1 hG2 hG3; have WC := Lib.hid hW; have SG := Lib.hid (Fld.size hW.Gl); have S43 := Lib.hid (ints4 hW.S3l); have nG := eqFld G hW.Gl; have XL := Lib.hid hW.Xl; have QL := Lib.hid hW.Ql; clear hW hG1 hG2 hG3)
          | ((with_reducible refine gate_dst (N := 33) rfl ?_); go_must (refine M.out.ev_new rfl (by first | (go_simp; done) | (go_simp; rfl)) ?_); intro g33 w33 m; simp only [List.cons_append, List.nil_append] at m; have M := Lib.hid m; clear m)
          | ((with_reducible refine gate_store (x := .tmp 33) rfl ?_); go_must (refine M.out.ev_stw 10 _ _ _ rfl rfl rfl rfl _ rfl (by rw [SG.out]; exact szZ) (by rw [SG.out]; exact sz29) (Fld.one _) rfl ?_); intro wn m; simp only [List.set_cons_zero, List.set_cons_succ] at m; have M := Lib.hid m; clear m)
          | ((with_reducible refine gate_dst (N := 237) rfl ?_); go_must (refine M.out.ev_ldw 0 _ _ rfl rfl rfl Tryz.underlying29 rfl (by rw [S1.out]; exact sz29) rfl ?_))
          | ((with_reducible refine gate_dst (N := 238) rfl ?_); go_must (refine M.out.ev_ldw 10 _ _ rfl rfl rfl Tryz.underlying29 rfl (by rw [SG.out]; exact sz29) rfl ?_))
          | (go_at_call 19; go_must (first | (refine Calls.mono (calls_args (by with_reducible rfl) (WC.out.wI _)) ?_) | (refine Calls.mono (calls_args (by with_reducible rfl) (WC.out.none_ _)) ?_)); rintro e w_ ⟨A_, c_, rfl, hc_, N_⟩; have m := M.out.join N_; clear N_; simp only [List.cons_append, List.nil_append, List.append_nil] at m; have M := Lib.hid m; clear m)
          | ((with_reducible refine gate_dst (N := 243) rfl ?_); go_must (refine M.out.ev_ldw 0 _ _ rfl rfl rfl Tryz.underlying29 rfl (by rw [S1.out]; exact sz29) rfl ?_))
          | ((with_reducible refine gate_dst (N := 244) rfl ?_); go_must (refine M.out.ev_ldw 10 _ _ rfl rfl rfl Tryz.underlying29 rfl (by rw [SG.out]; exact sz29) rfl ?_))
          | (go_at_call 20; go_must (refine (WC.out.wS _).mono ?_); rintro e w_ ⟨A_, c_, rfl, hc_, N_⟩; have m := M.out.join N_; clear N_; simp only [List.cons_append, List.nil_append, List.append_nil] at m; have M := Lib.hid m; clear m)
          | ((with_reducible refine gate_dst (N := 249) rfl ?_); go_must (refine M.out.ev_ldw 0 _ _ rfl rfl rfl Tryz.underlying29 rfl (by rw [S1.out]; exact sz29) rfl ?_))
          | ((with_reducible refine gate_dst (N := 38) rfl ?_); go_must (refine M.out.ev_new rfl (by first | (go_simp; done) | (go_simp; rfl)) ?_); intro g38 w38 m; simp only [List.cons_append, List.nil_append] at m; have M := Lib.hid m; clear m)
          | ((with_reducible refine gate_dst (N := 39) rfl ?_); go_must (refine M.out.ev_new rfl (by first | (go_simp; done) | (go_simp; rfl)) ?_); intro g39 w39 m; simp only [List.cons_append, List.nil_append] at m; have M := Lib.hid m; clear m)
          | ((with_reducible refine gate_store (x := .tmp 38) rfl ?_); go_must (refine M.out.ev_stw 13 _ _ _ rfl rfl rfl rfl _ rfl (by rw [SG.out]; exact szZ) (by rw [SG.out]; exact sz29) (Fld.one _) rfl ?_); intro wn m; simp only [List.set_cons_zero, List.set_cons_succ] at m; have M := Lib.hid m; clear m)
          | ((with_reducible refine gate_store (x := .tmp 39) rfl ?_); go_must (refine M.out.ev_stw 14 _ _ _ rfl rfl rfl rfl _ rfl (by rw [S43.out]; first | rfl | kernel_rfl) (by rw [S43.out]; exact sz36) (ints_one _ _) rfl ?_); intro wn m; simp only [List.set_cons_zero, List.set_cons_succ] at m; have M := Lib.hid m; clear m)
          | ((with_reducible refine gate_dst (N := 256) rfl ?_); go_must (refine M.out.ev_ldw 0 _ _ rfl rfl rfl Tryz.underlying29 rfl (by rw [S1.out]; exact sz29) rfl ?_))
          | ((with_reducible refine gate_dst (N := 257) rfl ?_); go_must (refine M.out.ev_ldw 0 _ _ rfl rfl rfl Tryz.underlying29 rfl (by rw [S1.out]; exact sz29) rfl ?_))
          | ((with_reducible refine gate_dst (N := 262) rfl ?_); go_must (refine M.out.ev_ldw 0 _ _ rfl rfl rfl Tryz.underlying29 rfl (by rw [S1.out]; exact sz29) rfl ?_))
          | ((with_reducible refine gate_dst (N := 267) rfl ?_); go_must (refine M.out.ev_ldw 0 _ _ rfl rfl rfl Tryz.underlying29 rfl (by rw [S1.out]; exact sz29) rfl ?_))
          | (go_at_call 21; go_must (refine (WC.out.plI _).mono ?_); rintro e w_ ⟨A_, c_, rfl, hc_, N_⟩; have m := M.out.join N_; clear N_; simp only [List.cons_append, List.nil_append, List.append_nil] at m; have M := Lib.hid m; clear m)
          | (go_at_call 22; go_must (refine (WC.out.plS _).mono ?_); rintro e w_ ⟨A_, c_, rfl, hc_, N_⟩; have m := M.out.join N_; clear N_; simp only [List.cons_append, List.nil_append, List.append_nil] at m; have M := Lib.hid m; clear m)
          | (go_at_call 13; go_must (refine (EntrySame_any _ _ _ _ X _ (by have := XL.out; omega) (M.out.slof 11 rfl) (M.out.slof 12 rfl)).mono ?_); rintro e w_ ⟨rfl, N_⟩; have m := M.out.join N_; clear N_; simp only [List.cons_append, List.nil_append, List.append_nil] at m; have M := Lib.hid m; clear m)
          | ((with_reducible refine gate_dst (N := 288) rfl ?_); refine gate_want rfl ?_; go_must (refine M.out.ev_ldw 13 _ _ rfl rfl rfl Tryz.underlying29 rfl (by rw [SG.out]; exact sz29) rfl ?_))
          | ((with_reducible refine gate_dst (N := 289) rfl ?_); refine gate_want rfl ?_; go_must (refine M.out.ev_ldw 10 _ _ rfl rfl rfl Tryz.underlying29 rfl (by rw [SG.out]; exact sz29) rfl ?_))
          | (go_at_call 23; go_must (refine (PlotSame_any _ _ _ _ Q _ (by have := QL.out; omega) (M.out.slof 16 rfl) (M.out.slof 17 rfl)).mono ?_); rintro e w_ ⟨rfl, N_⟩; have m := M.out.join N_; clear N_; simp only [List.cons_append, List.nil_append, List.append_nil] at m; have M := Lib.hid m; clear m)
          )
        go_ret
        exact ⟨rfl, M.out.take 0⟩
end Go.Proofs.YtaepgjjmfopiiaaGreatDoor
