/- The law of AllNets: its walk. -/
import Derived.Test.YtnddoiapilookaaAll
import Derived.Test.YtnddoiapilookaaNetM
import Derived.Test.YtnddoiapilookaaRets
namespace Go.Proofs.Ytnddoiapilookaa
set_option linter.unusedSimpArgs false
set_option linter.unusedVariables false
open Go.RowKit
attribute [local go_sem] cell?_mk frozen?_mk

def okCode (a b : Bool) : Int := if a = true then if b = true then 0 else 2 else 1
set_option maxRecDepth 100000 in
set_option maxHeartbeats 2000000 in
theorem fieldCode_any (g : Nat) {t : TypeId} (F : Fld) (hF : F.ok) (f : FuncId) (caps : Array Value) (p : Bool) (w : World) (hb : Blk w g t F.cells)
    (HF : ∀ (vs : Array Value) (w : World), Sem.run Try.prog (callFunc f vs) w = Result.ok (Next.enter f vs) w)
    (H : ∀ w1, Mem w w1 [] → Calls Try.prog f caps w1 fun e w' => e = .returned (.bool p) ∧ Mem w1 w' []) :
    Calls Try.prog 56 #[.pointer (some ⟨g, 0, none⟩), .func (.func f) #[] caps] w fun e w' => e = .returned (.int .i64 (okCode F.valid p)) ∧ Mem w w' [] := by
  have M := Lib.hid (Mem.start w)
  have HB := Lib.hid hb
  have HH := Lib.hid H
  have S1 := Lib.hid (Fld.size hF.toLen)
  clear hb H
  cases hv : F.valid
  · have HV := Lib.hid hv
    clear hv
    go_enter Try.func56, Try.ntmps56
    go_wp2_with (first
      | ((with_reducible refine gate_dst (N := 8) rfl ?_); go_must (refine M.out.ev_lda _ _ rfl rfl HB.out Try.underlying31 rfl (by rw [S1.out]; exact sz31) rfl ?_))
      | (go_at_call 97; go_must (refine (ValidField_any F hF _).mono ?_); rintro e w_ ⟨rfl, N_⟩; have m := M.out.join N_; clear N_; simp only [List.cons_append, List.nil_append, List.append_nil] at m; have M := Lib.hid m; clear m; rw [HV.out])
      )
    go_ret
    exact ⟨rfl, M.out⟩
  · have HV := Lib.hid hv
    clear hv
    cases p <;>
    · go_enter Try.func56, Try.ntmps56
      go_wp2_with (first
        | ((with_reducible refine gate_dst (N := 8) rfl ?_); go_must (refine M.out.ev_lda _ _ rfl rfl HB.out Try.underlying31 rfl (by rw [S1.out]; exact sz31) rfl ?_))
        | (go_at_call 97; go_must (refine (ValidField_any F hF _).mono ?_); rintro e w_ ⟨rfl, N_⟩; have m := M.out.join N_; clear N_; simp only [List.cons_append, List.nil_append, List.append_nil] at m; have M := Lib.hid m; clear m; rw [HV.out])
        | (refine (HH.out _ M.out).mono ?_; rintro e w_ ⟨rfl, N_⟩; have m := M.out.join N_; clear N_; simp only [List.cons_append, List.nil_append, List.append_nil] at m; have M := Lib.hid m; clear m)
        )
      go_ret
      exact ⟨rfl, M.out⟩
set_option maxRecDepth 100000 in
set_option maxHeartbeats 2000000 in
theorem l01Asked_any (g : Nat) {t : TypeId} (F : Fld) (hF : F.ok) (c : Int) (b : Bool) (w : World) (hb : Blk w g t F.cells) :
    Calls Try.prog 52 #[.pointer (some ⟨g, 0, none⟩), .int .i64 c, .bool b] w fun e w' => e = .returned (.int .i64 (okCode F.valid (F.has c && b))) ∧ Mem w w' [] := by
  have M := Lib.hid (Mem.start w)
  have HB := Lib.hid hb
  clear hb
  cases hv : F.valid
  · have HV := Lib.hid hv
    clear hv
    go_enter Try.func52, Try.ntmps52
    go_wp2_with (first
      | (go_at_call 94; go_must (refine (l01Ok_any g F hF _ (M.out.arg HB.out)).mono ?_); rintro e w_ ⟨rfl, rfl⟩; rw [HV.out])
      )
    go_ret
    exact ⟨rfl, M.out⟩
  · have HV := Lib.hid hv
    clear hv
    cases hc : F.has c <;> cases b <;>
    · have HC := Lib.hid hc
      clear hc
      go_enter Try.func52, Try.ntmps52
      go_wp2_with (first
        | (go_at_call 94; go_must (refine (l01Ok_any g F hF _ (M.out.arg HB.out)).mono ?_); rintro e w_ ⟨rfl, rfl⟩; rw [HV.out])
        | (go_at_call 95; go_must (refine (l01Is_any g F hF _ _ (M.out.arg HB.out)).mono ?_); rintro e w_ ⟨rfl, rfl⟩; rw [HC.out])
        )
      go_ret
      exact ⟨rfl, M.out⟩
def allRes (F : Fld) (c : Int) : List Net := if (F.valid && F.has c) = true then netsAt F c.toNat else []
theorem allRes_len (F : Fld) (c : Int) : (allRes F c).length ≤ 10000 := by
  unfold allRes
  split
  · rename_i h
    rw [Bool.and_eq_true] at h
    have h2 := h.2
    simp only [Fld.has, Bool.and_eq_true, decide_eq_true_eq, inB_iff] at h2
    exact netsAt_len h.1 (by omega)
  · simp
set_option maxRecDepth 100000 in
set_option maxHeartbeats 1000000 in
theorem allHas_any (g h : Nat) {t t' : TypeId} (F : Fld) (hF : F.ok) (c : Int) (w : World) (hb : Blk w g t F.cells) (hc : Blk w h t' #[.int .i64 c]) :
    Calls Try.prog 57 #[.pointer (some ⟨g, 0, none⟩), .pointer (some ⟨h, 0, none⟩)] w fun e w' => e = .returned (.bool (F.has c)) ∧ Mem w w' [] := by
  have M := Lib.hid (Mem.start w)
  have HB := Lib.hid hb
  have c0 := hc.cellv (i := 0) rfl
  clear hb hc
  go_enter Try.func57, Try.ntmps57
  go_wp2_with (first
    | (go_at_call 58; go_must (refine (has_any g F hF _ _ HB.out).mono ?_); rintro e w_ ⟨rfl, rfl⟩)
    )
  go_ret
  exact ⟨rfl, M.out⟩
set_option maxRecDepth 100000 in
set_option maxHeartbeats 4000000 in
theorem impl_AllNets_any (F : Fld) (hF : F.ok) (c : Int) (w : World) :
    Calls Try.prog 17 #[.agg F.cells, .int .i64 c] w (RetRowC w 44 4 (allRes F c).length (flat Net.vals (allRes F c)) (okCode F.valid (F.has c))) := by
  have M := Lib.hid (Mem.start w)
  have HF := Lib.hid hF
  have S1 := Lib.hid (Fld.size hF.toLen)
  have O1 := Lib.hid (Fld.one F)
  clear hF
  cases hv : F.valid <;> cases hc : F.has c
  · have HV := Lib.hid hv
    have HC := Lib.hid hc
    have HR := Lib.hid (show allRes F c = [] by rw [allRes, hv, hc]; rfl)
    clear hv hc
    go_enter Try.func17, Try.ntmps17
    go_wp2_with (first
      | ((with_reducible refine gate_dst (N := 2) rfl ?_); go_must (refine M.out.ev_new rfl (by first | (go_simp; done) | (go_simp; rfl)) ?_); intro g2 w2 m; simp only [List.cons_append, List.nil_append] at m; have M := Lib.hid m; clear m)
      | ((with_reducible refine gate_dst (N := 3) rfl ?_); go_must (refine M.out.ev_new rfl (by first | (go_simp; done) | (go_simp; rfl)) ?_); intro g3 w3 m; simp only [List.cons_append, List.nil_append] at m; have M := Lib.hid m; clear m)
      | ((with_reducible refine gate_dst (N := 12) rfl ?_); go_must (refine M.out.ev_ld 1 _ _ rfl rfl rfl Try.underlying2 rfl rfl (by first | assumption | rfl) ?_))
      | (go_at_call 56; go_must (refine (fieldCode_any g2 F HF.out 57 #[.pointer (some ⟨g2, 0, none⟩), .pointer (some ⟨g3, 0, none⟩)] (F.has c) _ (M.out.blk 0 rfl) (fun _ _ => by go_simp) (fun w1 m1 => allHas_any g2 g3 F HF.out c w1 ((M.out.join m1).blk 0 rfl) ((M.out.join m1).blk 1 rfl))).mono ?_); rintro e w_ ⟨rfl, N_⟩; have m := M.out.join N_; clear N_; simp only [List.cons_append, List.nil_append, List.append_nil] at m; have M := Lib.hid m; clear m; rw [HV.out, HC.out, okCode])
      )
    go_ret2
    rw [HR.out]
    exact ⟨none, 0, rfl, by simp, (M.out.take 0).nilrow _ _⟩
  · have HV := Lib.hid hv
    have HC := Lib.hid hc
    have HR := Lib.hid (show allRes F c = [] by rw [allRes, hv, hc]; rfl)
    clear hv hc
    go_enter Try.func17, Try.ntmps17
    go_wp2_with (first
      | ((with_reducible refine gate_dst (N := 2) rfl ?_); go_must (refine M.out.ev_new rfl (by first | (go_simp; done) | (go_simp; rfl)) ?_); intro g2 w2 m; simp only [List.cons_append, List.nil_append] at m; have M := Lib.hid m; clear m)
      | ((with_reducible refine gate_dst (N := 3) rfl ?_); go_must (refine M.out.ev_new rfl (by first | (go_simp; done) | (go_simp; rfl)) ?_); intro g3 w3 m; simp only [List.cons_append, List.nil_append] at m; have M := Lib.hid m; clear m)
      | ((with_reducible refine gate_dst (N := 12) rfl ?_); go_must (refine M.out.ev_ld 1 _ _ rfl rfl rfl Try.underlying2 rfl rfl (by first | assumption | rfl) ?_))
      | (go_at_call 56; go_must (refine (fieldCode_any g2 F HF.out 57 #[.pointer (some ⟨g2, 0, none⟩), .pointer (some ⟨g3, 0, none⟩)] (F.has c) _ (M.out.blk 0 rfl) (fun _ _ => by go_simp) (fun w1 m1 => allHas_any g2 g3 F HF.out c w1 ((M.out.join m1).blk 0 rfl) ((M.out.join m1).blk 1 rfl))).mono ?_); rintro e w_ ⟨rfl, N_⟩; have m := M.out.join N_; clear N_; simp only [List.cons_append, List.nil_append, List.append_nil] at m; have M := Lib.hid m; clear m; rw [HV.out, HC.out, okCode])
      )
    go_ret2
    rw [HR.out]
    exact ⟨none, 0, rfl, by simp, (M.out.take 0).nilrow _ _⟩
  · have HV := Lib.hid hv
    have HC := Lib.hid hc
    have HR := Lib.hid (show allRes F c = [] by rw [allRes, hv, hc]; rfl)
    clear hv hc
    go_enter Try.func17, Try.ntmps17
    go_wp2_with (first
      | ((with_reducible refine gate_dst (N := 2) rfl ?_); go_must (refine M.out.ev_new rfl (by first | (go_simp; done) | (go_simp; rfl)) ?_); intro g2 w2 m; simp only [List.cons_append, List.nil_append] at m; have M := Lib.hid m; clear m)
      | ((with_reducible refine gate_dst (N := 3) rfl ?_); go_must (refine M.out.ev_new rfl (by first | (go_simp; done) | (go_simp; rfl)) ?_); intro g3 w3 m; simp only [List.cons_append, List.nil_append] at m; have M := Lib.hid m; clear m)
      | ((with_reducible refine gate_dst (N := 12) rfl ?_); go_must (refine M.out.ev_ld 1 _ _ rfl rfl rfl Try.underlying2 rfl rfl (by first | assumption | rfl) ?_))
      | (go_at_call 56; go_must (refine (fieldCode_any g2 F HF.out 57 #[.pointer (some ⟨g2, 0, none⟩), .pointer (some ⟨g3, 0, none⟩)] (F.has c) _ (M.out.blk 0 rfl) (fun _ _ => by go_simp) (fun w1 m1 => allHas_any g2 g3 F HF.out c w1 ((M.out.join m1).blk 0 rfl) ((M.out.join m1).blk 1 rfl))).mono ?_); rintro e w_ ⟨rfl, N_⟩; have m := M.out.join N_; clear N_; simp only [List.cons_append, List.nil_append, List.append_nil] at m; have M := Lib.hid m; clear m; rw [HV.out, HC.out, okCode])
      )
    go_ret2
    rw [HR.out]
    exact ⟨none, 0, rfl, by simp, (M.out.take 0).nilrow _ _⟩
  · have HV := Lib.hid hv
    have HC := Lib.hid hc
    have hcc := hc
    simp only [Fld.has, Bool.and_eq_true, decide_eq_true_eq, inB_iff] at hcc
    obtain ⟨k, rfl⟩ : ∃ k : Nat, c = k := ⟨c.toNat, by omega⟩
    have hk : k < 100 := by omega
    have HR := Lib.hid (show allRes F k = netsAt F k by rw [allRes, hv, hc]; rfl)
    clear hcc
    clear hv hc
    go_enter Try.func17, Try.ntmps17
    go_wp2_with (first
      | ((with_reducible refine gate_dst (N := 2) rfl ?_); go_must (refine M.out.ev_new rfl (by first | (go_simp; done) | (go_simp; rfl)) ?_); intro g2 w2 m; simp only [List.cons_append, List.nil_append] at m; have M := Lib.hid m; clear m)
      | ((with_reducible refine gate_dst (N := 3) rfl ?_); go_must (refine M.out.ev_new rfl (by first | (go_simp; done) | (go_simp; rfl)) ?_); intro g3 w3 m; simp only [List.cons_append, List.nil_append] at m; have M := Lib.hid m; clear m)
      | ((with_reducible refine gate_dst (N := 12) rfl ?_); go_must (refine M.out.ev_ld 1 _ _ rfl rfl rfl Try.underlying2 rfl rfl (by first | assumption | rfl) ?_))
      | (go_at_call 56; go_must (refine (fieldCode_any g2 F HF.out 57 #[.pointer (some ⟨g2, 0, none⟩), .pointer (some ⟨g3, 0, none⟩)] (F.has k) _ (M.out.blk 0 rfl) (fun _ _ => by go_simp) (fun w1 m1 => allHas_any g2 g3 F HF.out k w1 ((M.out.join m1).blk 0 rfl) ((M.out.join m1).blk 1 rfl))).mono ?_); rintro e w_ ⟨rfl, N_⟩; have m := M.out.join N_; clear N_; simp only [List.cons_append, List.nil_append, List.append_nil] at m; have M := Lib.hid m; clear m; rw [HV.out, HC.out, okCode])
      | (go_at_call 59; go_must (refine (allNets_any g2 F HF.out HV.out k hk HC.out _ (M.out.blk 0 rfl)).mono ?_); rintro e w_ ⟨A_, c_, rfl, hc_, N_⟩; have m := M.out.join N_; clear N_; simp only [List.cons_append, List.nil_append, List.append_nil] at m; have M := Lib.hid m; clear m)
      )
    go_ret2
    rw [HR.out]
    exact ⟨A_, c_, rfl, hc_, M.out.only [2] (K := [_]) rfl (by decide)⟩
set_option maxRecDepth 100000 in
set_option maxHeartbeats 4000000 in
theorem spec_AllNets_any (F : Fld) (hF : F.ok) (c : Int) (w : World) :
    Calls Try.prog 15 #[.agg F.cells, .int .i64 c] w (RetRowC w 44 4 (allRes F c).length (flat Net.vals (allRes F c)) (okCode F.valid (F.has c))) := by
  have M := Lib.hid (Mem.start w)
  have HF := Lib.hid hF
  have S1 := Lib.hid (Fld.size hF.toLen)
  have O1 := Lib.hid (Fld.one F)
  clear hF
  cases hv : F.valid <;> cases hc : F.has c
  · have HV := Lib.hid hv
    have HC := Lib.hid hc
    have HR := Lib.hid (show allRes F c = [] by rw [allRes, hv, hc]; rfl)
    clear hv hc
    go_enter Try.func15, Try.ntmps15
    go_wp2_with (first
      | ((with_reducible refine gate_dst (N := 2) rfl ?_); go_must (refine M.out.ev_new rfl (by first | (go_simp; done) | (go_simp; rfl)) ?_); intro g2 w2 m; simp only [List.cons_append, List.nil_append] at m; have M := Lib.hid m; clear m)
      | (go_at_call 52; go_must (refine (l01Asked_any g2 F HF.out _ _ _ (M.out.blk 0 rfl)).mono ?_); rintro e w_ ⟨rfl, N_⟩; have m := M.out.join N_; clear N_; simp only [List.cons_append, List.nil_append, List.append_nil] at m; have M := Lib.hid m; clear m; rw [HV.out, HC.out, okCode])
      | ((with_reducible refine gate_dst (N := 11) rfl ?_); go_must (refine M.out.ev_bs0 elem_Net rfl rfl ?_); intro gv wv m; simp only [List.cons_append, List.nil_append] at m; have M := Lib.hid m; clear m)
      )
    go_ret2
    rw [HR.out]
    exact ⟨_, _, rfl, by simp, M.out.only [1] (K := [_]) rfl (by decide)⟩
  · have HV := Lib.hid hv
    have HC := Lib.hid hc
    have HR := Lib.hid (show allRes F c = [] by rw [allRes, hv, hc]; rfl)
    clear hv hc
    go_enter Try.func15, Try.ntmps15
    go_wp2_with (first
      | ((with_reducible refine gate_dst (N := 2) rfl ?_); go_must (refine M.out.ev_new rfl (by first | (go_simp; done) | (go_simp; rfl)) ?_); intro g2 w2 m; simp only [List.cons_append, List.nil_append] at m; have M := Lib.hid m; clear m)
      | (go_at_call 52; go_must (refine (l01Asked_any g2 F HF.out _ _ _ (M.out.blk 0 rfl)).mono ?_); rintro e w_ ⟨rfl, N_⟩; have m := M.out.join N_; clear N_; simp only [List.cons_append, List.nil_append, List.append_nil] at m; have M := Lib.hid m; clear m; rw [HV.out, HC.out, okCode])
      | ((with_reducible refine gate_dst (N := 11) rfl ?_); go_must (refine M.out.ev_bs0 elem_Net rfl rfl ?_); intro gv wv m; simp only [List.cons_append, List.nil_append] at m; have M := Lib.hid m; clear m)
      )
    go_ret2
    rw [HR.out]
    exact ⟨_, _, rfl, by simp, M.out.only [1] (K := [_]) rfl (by decide)⟩
  · have HV := Lib.hid hv
    have HC := Lib.hid hc
    have HR := Lib.hid (show allRes F c = [] by rw [allRes, hv, hc]; rfl)
    clear hv hc
    go_enter Try.func15, Try.ntmps15
    go_wp2_with (first
      | ((with_reducible refine gate_dst (N := 2) rfl ?_); go_must (refine M.out.ev_new rfl (by first | (go_simp; done) | (go_simp; rfl)) ?_); intro g2 w2 m; simp only [List.cons_append, List.nil_append] at m; have M := Lib.hid m; clear m)
      | (go_at_call 52; go_must (refine (l01Asked_any g2 F HF.out _ _ _ (M.out.blk 0 rfl)).mono ?_); rintro e w_ ⟨rfl, N_⟩; have m := M.out.join N_; clear N_; simp only [List.cons_append, List.nil_append, List.append_nil] at m; have M := Lib.hid m; clear m; rw [HV.out, HC.out, okCode])
      | ((with_reducible refine gate_dst (N := 11) rfl ?_); go_must (refine M.out.ev_bs0 elem_Net rfl rfl ?_); intro gv wv m; simp only [List.cons_append, List.nil_append] at m; have M := Lib.hid m; clear m)
      )
    go_ret2
    rw [HR.out]
    exact ⟨_, _, rfl, by simp, M.out.only [1] (K := [_]) rfl (by decide)⟩
  · have HV := Lib.hid hv
    have HC := Lib.hid hc
    have hcc := hc
    simp only [Fld.has, Bool.and_eq_true, decide_eq_true_eq, inB_iff] at hcc
    obtain ⟨k, rfl⟩ : ∃ k : Nat, c = k := ⟨c.toNat, by omega⟩
    have hk : k < 100 := by omega
    have HR := Lib.hid (show allRes F k = netsAt F k by rw [allRes, hv, hc]; rfl)
    clear hcc
    clear hv hc
    go_enter Try.func15, Try.ntmps15
    go_wp2_with (first
      | ((with_reducible refine gate_dst (N := 2) rfl ?_); go_must (refine M.out.ev_new rfl (by first | (go_simp; done) | (go_simp; rfl)) ?_); intro g2 w2 m; simp only [List.cons_append, List.nil_append] at m; have M := Lib.hid m; clear m)
      | (go_at_call 52; go_must (refine (l01Asked_any g2 F HF.out _ _ _ (M.out.blk 0 rfl)).mono ?_); rintro e w_ ⟨rfl, N_⟩; have m := M.out.join N_; clear N_; simp only [List.cons_append, List.nil_append, List.append_nil] at m; have M := Lib.hid m; clear m; rw [HV.out, HC.out, okCode])
      | (go_at_call 53; go_must (refine (l04All_any g2 F HF.out HV.out k hk HC.out _ (M.out.blk 0 rfl)).mono ?_); rintro e w_ ⟨A_, c_, rfl, hc_, N_⟩; have m := M.out.join N_; clear N_; simp only [List.cons_append, List.nil_append, List.append_nil] at m; have M := Lib.hid m; clear m)
      )
    go_ret2
    rw [HR.out]
    exact ⟨A_, c_, rfl, hc_, M.out.only [1] (K := [_]) rfl (by decide)⟩
set_option maxRecDepth 100000 in
set_option maxHeartbeats 4000000 in
theorem lawAllNets_any (F : Fld) (hF : F.ok) (c : Int) (w : World) :
    Calls Try.prog 3 #[.agg F.cells, .int .i64 c] w fun e w' => e = .returned (.bool true) ∧ Mem w w' [] := by
  have M := Lib.hid (Mem.start w)
  have S1 := Lib.hid (Fld.size hF.toLen)
  have O1 := Lib.hid (Fld.one F)
  have hrl := allRes_len F c
  have IM := Lib.hid (fun w => impl_AllNets_any F hF c w)
  have SP := Lib.hid (fun w => spec_AllNets_any F hF c w)
  obtain ⟨R, hR⟩ : ∃ R, R = allRes F c := ⟨_, rfl⟩
  obtain ⟨d, hd⟩ : ∃ d, d = okCode F.valid (F.has c) := ⟨_, rfl⟩
  rw [← hR] at hrl
  rw [← hR, ← hd] at IM SP
  clear hR hd
  have hr : R.length ≤ 1048576 := by omega
  have hk2 : ¬ (1 + 4 * (R.length : Int) < 0) := by omega
  go_enter Try.func3, Try.ntmps3
  go_wp2_with (first
    | ((with_reducible refine gate_dst (N := 2) rfl ?_); go_must (refine M.out.ev_new rfl (by first | (go_simp; done) | (go_simp; rfl)) ?_); intro g2 w2 m; simp only [List.cons_append, List.nil_append] at m; have M := Lib.hid m; clear m)
    | ((with_reducible refine gate_dst (N := 14) rfl ?_); go_must (refine M.out.ev_ldw 0 _ _ rfl rfl rfl Try.underlying27 rfl (by first | exact sz27 | (rw [S1.out]; exact sz27) | (rw [S2.out]; exact sz27) | (rw [S3.out]; exact sz27)) rfl ?_))
    | ((with_reducible refine gate_dst (N := 21) rfl ?_); go_must (refine M.out.ev_ldw 0 _ _ rfl rfl rfl Try.underlying27 rfl (by first | exact sz27 | (rw [S1.out]; exact sz27) | (rw [S2.out]; exact sz27) | (rw [S3.out]; exact sz27)) rfl ?_))
    | ((with_reducible refine gate_dst (N := 48) rfl ?_); go_must (refine M.out.ev_ldw 0 _ _ rfl rfl rfl Try.underlying27 rfl (by first | exact sz27 | (rw [S1.out]; exact sz27) | (rw [S2.out]; exact sz27) | (rw [S3.out]; exact sz27)) rfl ?_))
    | (go_at_call 16; go_must (refine (toField_any F hF.toLen _).mono ?_); rintro e w_ ⟨rfl, hB_⟩; have M := Lib.hid (M.out.kept hB_); clear hB_)
    | (go_at_call 15; go_must (refine (SP.out _).mono ?_); rintro e w_ ⟨A_, c_, rfl, hc_, N_⟩; have m := M.out.join N_; clear N_; simp only [List.cons_append, List.nil_append, List.append_nil] at m; have M := Lib.hid m; clear m)
    | (go_at_call 17; go_must (refine (IM.out _).mono ?_); rintro e w_ ⟨A_, c_, rfl, hc_, N_⟩; have m := M.out.join N_; clear N_; simp only [List.cons_append, List.nil_append, List.append_nil] at m; have M := Lib.hid m; clear m)
    | (go_at_call 18; go_must (first | (refine Calls.mono (calls_args (by with_reducible rfl) (eqNetS_any _ _ _ _ R R _ hr (M.out.slof 2 rfl) (M.out.slof 1 rfl))) ?_) | (refine Calls.mono (calls_args (by with_reducible rfl) (eqNetS_any _ _ _ _ R R _ hr (M.out.slof 3 rfl) (M.out.slof 1 rfl))) ?_)); rintro e w_ ⟨rfl, N_⟩; have m := M.out.join N_; clear N_; simp only [List.cons_append, List.nil_append, List.append_nil] at m; have M := Lib.hid m; clear m; rw [decide_eq_true rfl])
    | (go_at_call 19; go_must (refine (markNet_any 2 M.out _ _ R rfl hr).mono ?_); rintro e w_ ⟨rfl, m⟩; simp only [List.set_cons_succ, List.set_cons_zero] at m; have M := Lib.hid m; clear m)
    | (go_at_call 20; go_must (refine (heldNet_any _ _ R.length hr _ (M.out.slof 2 rfl)).mono ?_); rintro e w_ ⟨rfl, rfl⟩)
    )
  go_ret
  exact ⟨ret_bool rfl, M.out.take 0⟩
end Go.Proofs.Ytnddoiapilookaa
