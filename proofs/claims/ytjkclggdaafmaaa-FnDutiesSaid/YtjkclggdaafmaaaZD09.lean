/- Texts of a proof, laid together: AllLaw, Ones, Count. -/
import Derived.Test.YtjkclggdaafmaaaZD08
import Derived.Test.YtjkclggdaafmaaaZD03
import Derived.Test.YtjkclggdaafmaaaZD02
import Derived.Laws.Bits128
namespace Go.Proofs.Ytjkclggdaafmaaa
set_option linter.unusedSimpArgs false
set_option linter.unusedVariables false
open Go.RowKit
attribute [local go_sem] cell?_mk frozen?_mk

def okCode (a b : Bool) : Int := if a = true then if b = true then 0 else 2 else 1
set_option maxRecDepth 100000 in
set_option maxHeartbeats 2000000 in
theorem fieldCode_any (g : Nat) {t : TypeId} (F : Fld) (hF : F.ok) (f : FuncId) (caps : Array Value) (p : Bool) (w : World) (hb : Blk w g t F.cells)
    (HF : ∀ (vs : Array Value) (w : World), Sem.run Try.prog (callFunc f vs) w = Result.ok (Next.enter f vs) w)
    (H : ∀ w1, Mem w w1 [] → Calls Try.prog f caps w1 fun e w' => e = .returned (.bool p) ∧ Mem w1 w' []) :
    Calls Try.prog 65 #[.pointer (some ⟨g, 0, none⟩), .func (.func f) #[] caps] w fun e w' => e = .returned (.int .i64 (okCode F.valid p)) ∧ Mem w w' [] := by
  have M := Lib.hid (Mem.start w)
  have HB := Lib.hid hb
  have HH := Lib.hid H
  have S1 := Lib.hid (Fld.size hF.toLen)
  clear hb H
  cases hv : F.valid
  · have HV := Lib.hid hv
    clear hv
    go_enter Try.func65, Try.ntmps65
    go_wp2_with (first
      | ((with_reducible refine gate_dst (N := 8) rfl ?_); go_must (refine M.out.ev_lda _ _ rfl rfl HB.out Try.underlying35 rfl (by rw [S1.out]; exact sz35) rfl ?_))
      | (go_at_call 90; go_must (refine (ValidField_any F hF _).mono ?_); rintro e w_ ⟨rfl, N_⟩; have m := M.out.join N_; clear N_; simp only [List.cons_append, List.nil_append, List.append_nil] at m; have M := Lib.hid m; clear m; rw [HV.out])
      )
    go_ret
    exact ⟨rfl, M.out⟩
  · have HV := Lib.hid hv
    clear hv
    cases p <;>
    · go_enter Try.func65, Try.ntmps65
      go_wp2_with (first
        | ((with_reducible refine gate_dst (N := 8) rfl ?_); go_must (refine M.out.ev_lda _ _ rfl rfl HB.out Try.underlying35 rfl (by rw [S1.out]; exact sz35) rfl ?_))
        | (go_at_call 90; go_must (refine (ValidField_any F hF _).mono ?_); rintro e w_ ⟨rfl, N_⟩; have m := M.out.join N_; clear N_; simp only [List.cons_append, List.nil_append, List.append_nil] at m; have M := Lib.hid m; clear m; rw [HV.out])
        | (refine (HH.out _ M.out).mono ?_; rintro e w_ ⟨rfl, N_⟩; have m := M.out.join N_; clear N_; simp only [List.cons_append, List.nil_append, List.append_nil] at m; have M := Lib.hid m; clear m)
        )
      go_ret
      exact ⟨rfl, M.out⟩
set_option maxRecDepth 100000 in
set_option maxHeartbeats 2000000 in
theorem l01Asked_any (g : Nat) {t : TypeId} (F : Fld) (hF : F.ok) (c : Int) (b : Bool) (w : World) (hb : Blk w g t F.cells) :
    Calls Try.prog 68 #[.pointer (some ⟨g, 0, none⟩), .int .i64 c, .bool b] w fun e w' => e = .returned (.int .i64 (okCode F.valid (F.has c && b))) ∧ Mem w w' [] := by
  have M := Lib.hid (Mem.start w)
  have HB := Lib.hid hb
  clear hb
  cases hv : F.valid
  · have HV := Lib.hid hv
    clear hv
    go_enter Try.func68, Try.ntmps68
    go_wp2_with (first
      | (go_at_call 91; go_must (refine (l01Ok_any g F hF _ (M.out.arg HB.out)).mono ?_); rintro e w_ ⟨rfl, rfl⟩; rw [HV.out])
      )
    go_ret
    exact ⟨rfl, M.out⟩
  · have HV := Lib.hid hv
    clear hv
    cases hc : F.has c <;> cases b <;>
    · have HC := Lib.hid hc
      clear hc
      go_enter Try.func68, Try.ntmps68
      go_wp2_with (first
        | (go_at_call 91; go_must (refine (l01Ok_any g F hF _ (M.out.arg HB.out)).mono ?_); rintro e w_ ⟨rfl, rfl⟩; rw [HV.out])
        | (go_at_call 92; go_must (refine (l01Is_any g F hF _ _ (M.out.arg HB.out)).mono ?_); rintro e w_ ⟨rfl, rfl⟩; rw [HC.out])
        )
      go_ret
      exact ⟨rfl, M.out⟩
def allRes (F : Fld) (c : Int) : List Net := if (F.valid && F.has c) = true then netsAt F c.toNat else []
set_option maxRecDepth 100000 in
set_option maxHeartbeats 1000000 in
theorem allHas_any (g h : Nat) {t t' : TypeId} (F : Fld) (hF : F.ok) (c : Int) (w : World) (hb : Blk w g t F.cells) (hc : Blk w h t' #[.int .i64 c]) :
    Calls Try.prog 66 #[.pointer (some ⟨g, 0, none⟩), .pointer (some ⟨h, 0, none⟩)] w fun e w' => e = .returned (.bool (F.has c)) ∧ Mem w w' [] := by
  have M := Lib.hid (Mem.start w)
  have HB := Lib.hid hb
  have c0 := hc.cellv (i := 0) rfl
  clear hb hc
  go_enter Try.func66, Try.ntmps66
  go_wp2_with (first
    | (go_at_call 67; go_must (refine (has_any g F hF _ _ HB.out).mono ?_); rintro e w_ ⟨rfl, rfl⟩)
    )
  go_ret
  exact ⟨rfl, M.out⟩
set_option maxRecDepth 100000 in
set_option maxHeartbeats 4000000 in
theorem impl_AllNets_any (F : Fld) (hF : F.ok) (c : Int) (w : World) :
    Calls Try.prog 25 #[.agg F.cells, .int .i64 c] w (RetRowC w 65 4 (allRes F c).length (flat Net.vals (allRes F c)) (okCode F.valid (F.has c))) := by
  have M := Lib.hid (Mem.start w)
  have HF := Lib.hid hF
  have S1 := Lib.hid (Fld.size hF.toLen)
  have O1 := Lib.hid (Fld.one F)
  clear hF
  cases hv : F.valid <;> cases hc : F.has c
  · have HV := Lib.hid hv
    have HC := Lib.hid hc
    have HR := Lib.hid (show allRes F c = [] by rw [allRes, hv, hc]; rfl)
    clear hv hc
    go_enter Try.func25, Try.ntmps25
    go_wp2_with (first
      | ((with_reducible refine gate_dst (N := 2) rfl ?_); go_must (refine M.out.ev_new rfl (by first | (go_simp; done) | (go_simp; rfl)) ?_); intro g2 w2 m; simp only [List.cons_append, List.nil_append] at m; have M := Lib.hid m; clear m)
      | ((with_reducible refine gate_dst (N := 3) rfl ?_); go_must (refine M.out.ev_new rfl (by first | (go_simp; done) | (go_simp; rfl)) ?_); intro g3 w3 m; simp only [List.cons_append, List.nil_append] at m; have M := Lib.hid m; clear m)
      | ((with_reducible refine gate_dst (N := 12) rfl ?_); go_must (refine M.out.ev_ld 1 _ _ rfl rfl rfl Try.underlying2 rfl rfl (by first | assumption | rfl) ?_))
      | (go_at_call 65; go_must (refine (fieldCode_any g2 F HF.out 66 #[.pointer (some ⟨g2, 0, none⟩), .pointer (some ⟨g3, 0, none⟩)] (F.has c) _ (M.out.blk 0 rfl) (fun _ _ => by go_simp) (fun w1 m1 => allHas_any g2 g3 F HF.out c w1 ((M.out.join m1).blk 0 rfl) ((M.out.join m1).blk 1 rfl))).mono ?_); rintro e w_ ⟨rfl, N_⟩; have m := M.out.join N_; clear N_; simp only [List.cons_append, List.nil_append, List.append_nil] at m; have M := Lib.hid m; clear m; rw [HV.out, HC.out, okCode])
      )
    go_ret2
    rw [HR.out]
    exact ⟨none, 0, rfl, by simp, (M.out.take 0).nilrow _ _⟩
  · have HV := Lib.hid hv
    have HC := Lib.hid hc
    have HR := Lib.hid (show allRes F c = [] by rw [allRes, hv, hc]; rfl)
    clear hv hc
    go_enter Try.func25, Try.ntmps25
    go_wp2_with (first
      | ((with_reducible refine gate_dst (N := 2) rfl ?_); go_must (refine M.out.ev_new rfl (by first | (go_simp; done) | (go_simp; rfl)) ?_); intro g2 w2 m; simp only [List.cons_append, List.nil_append] at m; have M := Lib.hid m; clear m)
      | ((with_reducible refine gate_dst (N := 3) rfl ?_); go_must (refine M.out.ev_new rfl (by first | (go_simp; done) | (go_simp; rfl)) ?_); intro g3 w3 m; simp only [List.cons_append, List.nil_append] at m; have M := Lib.hid m; clear m)
      | ((with_reducible refine gate_dst (N := 12) rfl ?_); go_must (refine M.out.ev_ld 1 _ _ rfl rfl rfl Try.underlying2 rfl rfl (by first | assumption | rfl) ?_))
      | (go_at_call 65; go_must (refine (fieldCode_any g2 F HF.out 66 #[.pointer (some ⟨g2, 0, none⟩), .pointer (some ⟨g3, 0, none⟩)] (F.has c) _ (M.out.blk 0 rfl) (fun _ _ => by go_simp) (fun w1 m1 => allHas_any g2 g3 F HF.out c w1 ((M.out.join m1).blk 0 rfl) ((M.out.join m1).blk 1 rfl))).mono ?_); rintro e w_ ⟨rfl, N_⟩; have m := M.out.join N_; clear N_; simp only [List.cons_append, List.nil_append, List.append_nil] at m; have M := Lib.hid m; clear m; rw [HV.out, HC.out, okCode])
      )
    go_ret2
    rw [HR.out]
    exact ⟨none, 0, rfl, by simp, (M.out.take 0).nilrow _ _⟩
  · have HV := Lib.hid hv
    have HC := Lib.hid hc
    have HR := Lib.hid (show allRes F c = [] by rw [allRes, hv, hc]; rfl)
    clear hv hc
    go_enter Try.func25, Try.ntmps25
    go_wp2_with (first
      | ((with_reducible refine gate_dst (N := 2) rfl ?_); go_must (refine M.out.ev_new rfl (by first | (go_simp; done) | (go_simp; rfl)) ?_); intro g2 w2 m; simp only [List.cons_append, List.nil_append] at m; have M := Lib.hid m; clear m)
      | ((with_reducible refine gate_dst (N := 3) rfl ?_); go_must (refine M.out.ev_new rfl (by first | (go_simp; done) | (go_simp; rfl)) ?_); intro g3 w3 m; simp only [List.cons_append, List.nil_append] at m; have M := Lib.hid m; clear m)
      | ((with_reducible refine gate_dst (N := 12) rfl ?_); go_must (refine M.out.ev_ld 1 _ _ rfl rfl rfl Try.underlying2 rfl rfl (by first | assumption | rfl) ?_))
      | (go_at_call 65; go_must (refine (fieldCode_any g2 F HF.out 66 #[.pointer (some ⟨g2, 0, none⟩), .pointer (some ⟨g3, 0, none⟩)] (F.has c) _ (M.out.blk 0 rfl) (fun _ _ => by go_simp) (fun w1 m1 => allHas_any g2 g3 F HF.out c w1 ((M.out.join m1).blk 0 rfl) ((M.out.join m1).blk 1 rfl))).mono ?_); rintro e w_ ⟨rfl, N_⟩; have m := M.out.join N_; clear N_; simp only [List.cons_append, List.nil_append, List.append_nil] at m; have M := Lib.hid m; clear m; rw [HV.out, HC.out, okCode])
      )
    go_ret2
    rw [HR.out]
    exact ⟨none, 0, rfl, by simp, (M.out.take 0).nilrow _ _⟩
  · have HV := Lib.hid hv
    have HC := Lib.hid hc
    have hcc := hc
    simp only [Fld.has, Bool.and_eq_true, decide_eq_true_eq, inB_iff] at hcc
    obtain ⟨k, rfl⟩ : ∃ k : Nat, c = k := ⟨c.toNat, by omega⟩
    have hk : k < 100 := by omega
    have HR := Lib.hid (show allRes F k = netsAt F k by rw [allRes, hv, hc]; rfl)
    clear hcc
    clear hv hc
    go_enter Try.func25, Try.ntmps25
    go_wp2_with (first
      | ((with_reducible refine gate_dst (N := 2) rfl ?_); go_must (refine M.out.ev_new rfl (by first | (go_simp; done) | (go_simp; rfl)) ?_); intro g2 w2 m; simp only [List.cons_append, List.nil_append] at m; have M := Lib.hid m; clear m)
      | ((with_reducible refine gate_dst (N := 3) rfl ?_); go_must (refine M.out.ev_new rfl (by first | (go_simp; done) | (go_simp; rfl)) ?_); intro g3 w3 m; simp only [List.cons_append, List.nil_append] at m; have M := Lib.hid m; clear m)
      | ((with_reducible refine gate_dst (N := 12) rfl ?_); go_must (refine M.out.ev_ld 1 _ _ rfl rfl rfl Try.underlying2 rfl rfl (by first | assumption | rfl) ?_))
      | (go_at_call 65; go_must (refine (fieldCode_any g2 F HF.out 66 #[.pointer (some ⟨g2, 0, none⟩), .pointer (some ⟨g3, 0, none⟩)] (F.has k) _ (M.out.blk 0 rfl) (fun _ _ => by go_simp) (fun w1 m1 => allHas_any g2 g3 F HF.out k w1 ((M.out.join m1).blk 0 rfl) ((M.out.join m1).blk 1 rfl))).mono ?_); rintro e w_ ⟨rfl, N_⟩; have m := M.out.join N_; clear N_; simp only [List.cons_append, List.nil_append, List.append_nil] at m; have M := Lib.hid m; clear m; rw [HV.out, HC.out, okCode])
      | (go_at_call 45; go_must (refine (allNets_any g2 F HF.out HV.out k hk HC.out _ (M.out.blk 0 rfl)).mono ?_); rintro e w_ ⟨A_, c_, rfl, hc_, N_⟩; have m := M.out.join N_; clear N_; simp only [List.cons_append, List.nil_append, List.append_nil] at m; have M := Lib.hid m; clear m)
      )
    go_ret2
    rw [HR.out]
    exact ⟨A_, c_, rfl, hc_, M.out.only [2] (K := [_]) rfl (by decide)⟩
set_option maxRecDepth 100000 in
set_option maxHeartbeats 4000000 in
theorem spec_AllNets_any (F : Fld) (hF : F.ok) (c : Int) (w : World) :
    Calls Try.prog 26 #[.agg F.cells, .int .i64 c] w (RetRowC w 65 4 (allRes F c).length (flat Net.vals (allRes F c)) (okCode F.valid (F.has c))) := by
  have M := Lib.hid (Mem.start w)
  have HF := Lib.hid hF
  have S1 := Lib.hid (Fld.size hF.toLen)
  have O1 := Lib.hid (Fld.one F)
  clear hF
  cases hv : F.valid <;> cases hc : F.has c
  · have HV := Lib.hid hv
    have HC := Lib.hid hc
    have HR := Lib.hid (show allRes F c = [] by rw [allRes, hv, hc]; rfl)
    clear hv hc
    go_enter Try.func26, Try.ntmps26
    go_wp2_with (first
      | ((with_reducible refine gate_dst (N := 2) rfl ?_); go_must (refine M.out.ev_new rfl (by first | (go_simp; done) | (go_simp; rfl)) ?_); intro g2 w2 m; simp only [List.cons_append, List.nil_append] at m; have M := Lib.hid m; clear m)
      | (go_at_call 68; go_must (refine (l01Asked_any g2 F HF.out _ _ _ (M.out.blk 0 rfl)).mono ?_); rintro e w_ ⟨rfl, N_⟩; have m := M.out.join N_; clear N_; simp only [List.cons_append, List.nil_append, List.append_nil] at m; have M := Lib.hid m; clear m; rw [HV.out, HC.out, okCode])
      | ((with_reducible refine gate_dst (N := 11) rfl ?_); go_must (refine M.out.ev_bs0 elem_Net rfl rfl ?_); intro gv wv m; simp only [List.cons_append, List.nil_append] at m; have M := Lib.hid m; clear m)
      )
    go_ret2
    rw [HR.out]
    exact ⟨_, _, rfl, by simp, M.out.only [1] (K := [_]) rfl (by decide)⟩
  · have HV := Lib.hid hv
    have HC := Lib.hid hc
    have HR := Lib.hid (show allRes F c = [] by rw [allRes, hv, hc]; rfl)
    clear hv hc
    go_enter Try.func26, Try.ntmps26
    go_wp2_with (first
      | ((with_reducible refine gate_dst (N := 2) rfl ?_); go_must (refine M.out.ev_new rfl (by first | (go_simp; done) | (go_simp; rfl)) ?_); intro g2 w2 m; simp only [List.cons_append, List.nil_append] at m; have M := Lib.hid m; clear m)
      | (go_at_call 68; go_must (refine (l01Asked_any g2 F HF.out _ _ _ (M.out.blk 0 rfl)).mono ?_); rintro e w_ ⟨rfl, N_⟩; have m := M.out.join N_; clear N_; simp only [List.cons_append, List.nil_append, List.append_nil] at m; have M := Lib.hid m; clear m; rw [HV.out, HC.out, okCode])
      | ((with_reducible refine gate_dst (N := 11) rfl ?_); go_must (refine M.out.ev_bs0 elem_Net rfl rfl ?_); intro gv wv m; simp only [List.cons_append, List.nil_append] at m; have M := Lib.hid m; clear m)
      )
    go_ret2
    rw [HR.out]
    exact ⟨_, _, rfl, by simp, M.out.only [1] (K := [_]) rfl (by decide)⟩
  · have HV := Lib.hid hv
    have HC := Lib.hid hc
    have HR := Lib.hid (show allRes F c = [] by rw [allRes, hv, hc]; rfl)
    clear hv hc
    go_enter Try.func26, Try.ntmps26
    go_wp2_with (first
      | ((with_reducible refine gate_dst (N := 2) rfl ?_); go_must (refine M.out.ev_new rfl (by first | (go_simp; done) | (go_simp; rfl)) ?_); intro g2 w2 m; simp only [List.cons_append, List.nil_append] at m; have M := Lib.hid m; clear m)
      | (go_at_call 68; go_must (refine (l01Asked_any g2 F HF.out _ _ _ (M.out.blk 0 rfl)).mono ?_); rintro e w_ ⟨rfl, N_⟩; have m := M.out.join N_; clear N_; simp only [List.cons_append, List.nil_append, List.append_nil] at m; have M := Lib.hid m; clear m; rw [HV.out, HC.out, okCode])
      | ((with_reducible refine gate_dst (N := 11) rfl ?_); go_must (refine M.out.ev_bs0 elem_Net rfl rfl ?_); intro gv wv m; simp only [List.cons_append, List.nil_append] at m; have M := Lib.hid m; clear m)
      )
    go_ret2
    rw [HR.out]
    exact ⟨_, _, rfl, by simp, M.out.only [1] (K := [_]) rfl (by decide)⟩
  · have HV := Lib.hid hv
    have HC := Lib.hid hc
    have hcc := hc
    simp only [Fld.has, Bool.and_eq_true, decide_eq_true_eq, inB_iff] at hcc
    obtain ⟨k, rfl⟩ : ∃ k : Nat, c = k := ⟨c.toNat, by omega⟩
    have hk : k < 100 := by omega
    have HR := Lib.hid (show allRes F k = netsAt F k by rw [allRes, hv, hc]; rfl)
    clear hcc
    clear hv hc
    go_enter Try.func26, Try.ntmps26
    go_wp2_with (first
      | ((with_reducible refine gate_dst (N := 2) rfl ?_); go_must (refine M.out.ev_new rfl (by first | (go_simp; done) | (go_simp; rfl)) ?_); intro g2 w2 m; simp only [List.cons_append, List.nil_append] at m; have M := Lib.hid m; clear m)
      | (go_at_call 68; go_must (refine (l01Asked_any g2 F HF.out _ _ _ (M.out.blk 0 rfl)).mono ?_); rintro e w_ ⟨rfl, N_⟩; have m := M.out.join N_; clear N_; simp only [List.cons_append, List.nil_append, List.append_nil] at m; have M := Lib.hid m; clear m; rw [HV.out, HC.out, okCode])
      | (go_at_call 35; go_must (refine (l04All_any g2 F HF.out HV.out k hk HC.out _ (M.out.blk 0 rfl)).mono ?_); rintro e w_ ⟨A_, c_, rfl, hc_, N_⟩; have m := M.out.join N_; clear N_; simp only [List.cons_append, List.nil_append, List.append_nil] at m; have M := Lib.hid m; clear m)
      )
    go_ret2
    rw [HR.out]
    exact ⟨A_, c_, rfl, hc_, M.out.only [1] (K := [_]) rfl (by decide)⟩
end Go.Proofs.Ytjkclggdaafmaaa
namespace Go.Proofs.Ytjkclggdaafmaaa
set_option linter.unusedSimpArgs false
set_option linter.unusedVariables false
open Go.RowKit

/-- The bits of a number below a place. -/
def popN (x n : Nat) : Nat := (List.range n).countP x.testBit
def ofB : List Nat → Nat
  | [] => 0
  | b :: r => b + 256 * ofB r
theorem tb_split (b h j : Nat) (hb : b < 256) : (b + 256 * h).testBit j = if j < 8 then b.testBit j else h.testBit (j - 8) := by
  rw [show b + 256 * h = 2 ^ 8 * h + b by omega]
  exact Nat.testBit_two_pow_mul_add h (by omega) j
theorem and_split (a c h m : Nat) (ha : a < 256) (hc : c < 256) : (a + 256 * h) &&& (c + 256 * m) = (a &&& c) + 256 * (h &&& m) := by
  have hac : a &&& c < 256 := Nat.lt_of_le_of_lt Nat.and_le_left ha
  refine Nat.eq_of_testBit_eq fun j => ?_
  rw [Nat.testBit_and, tb_split a h j ha, tb_split c m j hc, tb_split _ _ j hac]
  split
  · rw [Nat.testBit_and]
  · rw [Nat.testBit_and]
theorem shr_split (b c h m s : Nat) (hs : s ≤ 8) (hb : b < 256) (hc : c < 2 ^ (8 - s)) : ((b + 256 * h) >>> s) &&& (c + 256 * m) = ((b >>> s) &&& c) + 256 * ((h >>> s) &&& m) := by
  have hc8 : c < 256 := Nat.lt_of_lt_of_le hc (by
    have := Nat.pow_le_pow_right (n := 2) (by omega) (by omega : 8 - s ≤ 8)
    simpa using this)
  have hac : (b >>> s) &&& c < 256 := Nat.lt_of_le_of_lt Nat.and_le_right hc8
  refine Nat.eq_of_testBit_eq fun j => ?_
  rw [Nat.testBit_and, Nat.testBit_shiftRight, tb_split b h (s + j) hb, tb_split c m j hc8, tb_split _ _ j hac]
  by_cases h1 : j < 8
  · rw [if_pos h1, if_pos h1, Nat.testBit_and, Nat.testBit_shiftRight]
    by_cases h2 : s + j < 8
    · rw [if_pos h2]
    · have hz : c.testBit j = false := Nat.testBit_lt_two_pow (Nat.lt_of_lt_of_le hc (Nat.pow_le_pow_right (by omega) (by omega)))
      rw [if_neg h2, hz, Bool.and_false, Bool.and_false]
  · rw [if_neg h1, if_neg h1, if_neg (by omega), Nat.testBit_and, Nat.testBit_shiftRight, show s + (j - 8) = s + j - 8 by omega]
def rep (c : Nat) : Nat → Nat
  | 0 => 0
  | n + 1 => c + 256 * rep c n
def s1 (m x : Nat) : Nat := ((x >>> 1) &&& m) + (x &&& m)
def s2 (m x : Nat) : Nat := ((x >>> 2) &&& m) + (x &&& m)
def s3 (m x : Nat) : Nat := ((x >>> 4) + x) &&& m
theorem s1_of : ∀ bs : List Nat, (∀ b ∈ bs, b < 256) → s1 (rep 85 bs.length) (ofB bs) = ofB (bs.map (s1 85))
  | [], _ => by simp [s1, rep, ofB]
  | b :: r, h => by
    have hb := h b (by simp)
    have ih := s1_of r fun x hx => h x (by simp [hx])
    unfold s1 at ih ⊢
    simp only [List.length_cons, rep, ofB, List.map_cons]
    rw [shr_split b 85 _ _ 1 (by omega) hb (by decide), and_split b 85 _ _ hb (by omega)]
    rw [← ih]
    omega
theorem s2_of : ∀ bs : List Nat, (∀ b ∈ bs, b < 256) → s2 (rep 51 bs.length) (ofB bs) = ofB (bs.map (s2 51))
  | [], _ => by simp [s2, rep, ofB]
  | b :: r, h => by
    have hb := h b (by simp)
    have ih := s2_of r fun x hx => h x (by simp [hx])
    unfold s2 at ih ⊢
    simp only [List.length_cons, rep, ofB, List.map_cons]
    rw [shr_split b 51 _ _ 2 (by omega) hb (by decide), and_split b 51 _ _ hb (by omega)]
    rw [← ih]
    omega
/-- A byte both of whose halves are at most 4. -/
def low (b : Nat) : Prop := b % 16 ≤ 4 ∧ b / 16 ≤ 4
theorem ofB_low : ∀ bs : List Nat, (∀ b ∈ bs, low b) → ofB bs % 16 ≤ 4
  | [], _ => by simp [ofB]
  | b :: r, h => by
    have := (h b (by simp)).1
    rw [ofB]
    omega
theorem s3_of : ∀ bs : List Nat, (∀ b ∈ bs, low b) → s3 (rep 15 bs.length) (ofB bs) = ofB (bs.map fun b => b / 16 + b % 16)
  | [], _ => by simp [s3, rep, ofB]
  | b :: r, h => by
    obtain ⟨l1, l2⟩ := h b (by simp)
    have hr := ofB_low r fun x hx => h x (by simp [hx])
    have ih := s3_of r fun x hx => h x (by simp [hx])
    unfold s3 at ih ⊢
    simp only [List.length_cons, rep, ofB, List.map_cons]
    rw [Nat.shiftRight_eq_div_pow] at ih ⊢
    rw [show (b + 256 * ofB r) / 2 ^ 4 + (b + 256 * ofB r) = (b / 16 + 16 * (ofB r % 16) + b) + 256 * (ofB r / 2 ^ 4 + ofB r) by omega]
    rw [and_split _ 15 _ _ (by omega) (by omega), ih, show (15 : Nat) = 2 ^ 4 - 1 by decide, Nat.and_two_pow_sub_one_eq_mod]
    omega
theorem byte1 : ∀ b : Fin 256, s1 85 b.val < 256 := by decide +kernel
theorem byte2 : ∀ b : Fin 256, s2 51 (s1 85 b.val) % 16 ≤ 4 ∧ s2 51 (s1 85 b.val) / 16 ≤ 4 := by decide +kernel
theorem byte3 : ∀ b : Fin 256, s2 51 (s1 85 b.val) / 16 + s2 51 (s1 85 b.val) % 16 = popN b.val 8 := by decide +kernel
theorem popN_split (b h n : Nat) (hb : b < 256) : popN (b + 256 * h) (8 + n) = popN b 8 + popN h n := by
  unfold popN
  rw [List.range_add, List.countP_append, List.countP_map]
  congr 1
  · refine List.countP_congr fun j hj => ?_
    rw [tb_split b h j hb, if_pos (List.mem_range.1 hj)]
  · refine List.countP_congr fun j _ => ?_
    show (b + 256 * h).testBit (8 + j) = true ↔ _
    rw [tb_split b h _ hb, if_neg (by omega), Nat.add_sub_cancel_left]
/-- A word, counted as Go's library does. -/
def onesGo (x : Nat) : Nat :=
  let y := s3 (rep 15 8) (s2 (rep 51 8) (s1 (rep 85 8) x))
  let y := y + y >>> 8
  let y := y + y >>> 16
  let y := y + y >>> 32
  y &&& 127
theorem bytes_of (x : Nat) (hx : x < 18446744073709551616) : ∃ b0 b1 b2 b3 b4 b5 b6 b7, (b0 < 256 ∧ b1 < 256 ∧ b2 < 256 ∧ b3 < 256 ∧ b4 < 256 ∧ b5 < 256 ∧ b6 < 256 ∧ b7 < 256) ∧ x = ofB [b0, b1, b2, b3, b4, b5, b6, b7] := by
  refine ⟨x % 256, x / 256 % 256, x / 65536 % 256, x / 16777216 % 256, x / 4294967296 % 256, x / 1099511627776 % 256, x / 281474976710656 % 256, x / 72057594037927936, by omega, ?_⟩
  simp only [ofB]
  omega
theorem pop_le (x n : Nat) : popN x n ≤ n := by
  have := List.countP_le_length (p := x.testBit) (l := List.range n)
  rwa [List.length_range] at this
theorem fold_bytes (p0 p1 p2 p3 p4 p5 p6 p7 : Nat) (q0 : p0 ≤ 8) (q1 : p1 ≤ 8) (q2 : p2 ≤ 8) (q3 : p3 ≤ 8) (q4 : p4 ≤ 8) (q5 : p5 ≤ 8) (q6 : p6 ≤ 8) (q7 : p7 ≤ 8) :
    (let y := ofB [p0, p1, p2, p3, p4, p5, p6, p7]
     let y := y + y >>> 8
     let y := y + y >>> 16
     let y := y + y >>> 32
     y &&& 127) = p0 + (p1 + (p2 + (p3 + (p4 + (p5 + (p6 + p7)))))) := by
  have d1 : ofB [p0, p1, p2, p3, p4, p5, p6, p7] >>> 8 = ofB [p1, p2, p3, p4, p5, p6, p7] := by
    rw [Nat.shiftRight_eq_div_pow]
    simp only [ofB]
    omega
  have e1 : ofB [p0, p1, p2, p3, p4, p5, p6, p7] + ofB [p1, p2, p3, p4, p5, p6, p7] = ofB [p0 + p1, p1 + p2, p2 + p3, p3 + p4, p4 + p5, p5 + p6, p6 + p7, p7] := by
    simp only [ofB]
    omega
  have d2 : ofB [p0 + p1, p1 + p2, p2 + p3, p3 + p4, p4 + p5, p5 + p6, p6 + p7, p7] >>> 16 = ofB [p2 + p3, p3 + p4, p4 + p5, p5 + p6, p6 + p7, p7] := by
    rw [Nat.shiftRight_eq_div_pow]
    simp only [ofB]
    omega
  have e2 : ofB [p0 + p1, p1 + p2, p2 + p3, p3 + p4, p4 + p5, p5 + p6, p6 + p7, p7] + ofB [p2 + p3, p3 + p4, p4 + p5, p5 + p6, p6 + p7, p7] = ofB [p0 + p1 + (p2 + p3), p1 + p2 + (p3 + p4), p2 + p3 + (p4 + p5), p3 + p4 + (p5 + p6), p4 + p5 + (p6 + p7), p5 + p6 + p7, p6 + p7, p7] := by
    simp only [ofB]
    omega
  have d3 : ofB [p0 + p1 + (p2 + p3), p1 + p2 + (p3 + p4), p2 + p3 + (p4 + p5), p3 + p4 + (p5 + p6), p4 + p5 + (p6 + p7), p5 + p6 + p7, p6 + p7, p7] >>> 32 = ofB [p4 + p5 + (p6 + p7), p5 + p6 + p7, p6 + p7, p7] := by
    rw [Nat.shiftRight_eq_div_pow]
    simp only [ofB]
    omega
  show (_ + _) &&& 127 = _
  rw [d1, e1, d2, e2, d3, show (127 : Nat) = 2 ^ 7 - 1 by decide, Nat.and_two_pow_sub_one_eq_mod]
  simp only [ofB]
  omega
theorem onesGo_eq (x : Nat) (hx : x < 18446744073709551616) : onesGo x = popN x 64 := by
  obtain ⟨b0, b1, b2, b3, b4, b5, b6, b7, ⟨h0, h1, h2, h3, h4, h5, h6, h7⟩, rfl⟩ := bytes_of x hx
  have hall : ∀ b ∈ [b0, b1, b2, b3, b4, b5, b6, b7], b < 256 := by
    intro b hb
    simp only [List.mem_cons, List.not_mem_nil, or_false] at hb
    rcases hb with rfl | rfl | rfl | rfl | rfl | rfl | rfl | rfl <;> assumption
  have e1 := s1_of _ hall
  have e2 := s2_of ([b0, b1, b2, b3, b4, b5, b6, b7].map (s1 85)) (fun c hc => by
    obtain ⟨b, hb, rfl⟩ := List.mem_map.1 hc
    exact byte1 ⟨b, hall b hb⟩)
  have e3 := s3_of (([b0, b1, b2, b3, b4, b5, b6, b7].map (s1 85)).map (s2 51)) (fun c hc => by
    obtain ⟨d, hd, rfl⟩ := List.mem_map.1 hc
    obtain ⟨b, hb, rfl⟩ := List.mem_map.1 hd
    exact byte2 ⟨b, hall b hb⟩)
  rw [List.length_map] at e2
  rw [List.length_map, List.length_map] at e3
  have hy : s3 (rep 15 8) (s2 (rep 51 8) (s1 (rep 85 8) (ofB [b0, b1, b2, b3, b4, b5, b6, b7]))) = ofB [popN b0 8, popN b1 8, popN b2 8, popN b3 8, popN b4 8, popN b5 8, popN b6 8, popN b7 8] := by
    rw [show (8 : Nat) = [b0, b1, b2, b3, b4, b5, b6, b7].length from rfl, e1, e2, e3]
    simp only [List.map_cons, List.map_nil]
    rw [byte3 ⟨b0, h0⟩, byte3 ⟨b1, h1⟩, byte3 ⟨b2, h2⟩, byte3 ⟨b3, h3⟩, byte3 ⟨b4, h4⟩, byte3 ⟨b5, h5⟩, byte3 ⟨b6, h6⟩, byte3 ⟨b7, h7⟩]
    rfl
  have hp : popN (ofB [b0, b1, b2, b3, b4, b5, b6, b7]) 64 = popN b0 8 + (popN b1 8 + (popN b2 8 + (popN b3 8 + (popN b4 8 + (popN b5 8 + (popN b6 8 + popN b7 8)))))) := by
    simp only [ofB]
    rw [show (64 : Nat) = 8 + (8 + (8 + (8 + (8 + (8 + (8 + 8)))))) by rfl, popN_split _ _ _ h0, popN_split _ _ _ h1, popN_split _ _ _ h2, popN_split _ _ _ h3, popN_split _ _ _ h4, popN_split _ _ _ h5, popN_split _ _ _ h6, show b7 + 256 * 0 = b7 by omega]
  have q0 := pop_le b0 8
  have q1 := pop_le b1 8
  have q2 := pop_le b2 8
  have q3 := pop_le b3 8
  have q4 := pop_le b4 8
  have q5 := pop_le b5 8
  have q6 := pop_le b6 8
  have q7 := pop_le b7 8
  rw [hp]
  unfold onesGo
  rw [hy]
  generalize popN b0 8 = p0 at *
  generalize popN b1 8 = p1 at *
  generalize popN b2 8 = p2 at *
  generalize popN b3 8 = p3 at *
  generalize popN b4 8 = p4 at *
  generalize popN b5 8 = p5 at *
  generalize popN b6 8 = p6 at *
  generalize popN b7 8 = p7 at *
  exact fold_bytes p0 p1 p2 p3 p4 p5 p6 p7 q0 q1 q2 q3 q4 q5 q6 q7
/-- The cells of a set, counted. -/
theorem all_count (c : Cs) : c.all.length = popN c.lo 64 + popN c.hi 36 := by
  unfold Cs.all Cs.below popN
  rw [← List.countP_eq_length_filter, show (100 : Nat) = 64 + 36 by rfl, List.range_add, List.countP_append, List.countP_map]
  have h1 : (List.range 64).countP c.has = (List.range 64).countP c.lo.testBit := List.countP_congr fun j hj => by
    rw [Cs.has, if_pos (List.mem_range.1 hj)]
  have h2 : (List.range 36).countP (c.has ∘ fun j => 64 + j) = (List.range 36).countP c.hi.testBit := List.countP_congr fun j _ => by
    show c.has (64 + j) = true ↔ _
    rw [Cs.has, if_neg (by omega), Nat.add_sub_cancel_left]
  rw [h1, h2]
theorem popN_cut (x : Nat) : popN (x &&& 68719476735) 64 = popN x 36 := by
  unfold popN
  rw [show (64 : Nat) = 36 + 28 by rfl, List.range_add, List.countP_append, List.countP_map]
  have h1 : (List.range 36).countP (x &&& 68719476735).testBit = (List.range 36).countP x.testBit := by
    refine List.countP_congr fun j hj => ?_
    rw [Nat.testBit_and, show (68719476735 : Nat) = 2 ^ 36 - 1 by decide, Nat.testBit_two_pow_sub_one, decide_eq_true (List.mem_range.1 hj), Bool.and_true]
  have h2 : (List.range 28).countP ((x &&& 68719476735).testBit ∘ fun j => 36 + j) = 0 := by
    rw [List.countP_eq_zero]
    intro j _
    show ¬ ((x &&& 68719476735).testBit (36 + j) = true)
    rw [Nat.testBit_and, show (68719476735 : Nat) = 2 ^ 36 - 1 by decide, Nat.testBit_two_pow_sub_one, decide_eq_false (by omega), Bool.and_false]
    simp
  rw [h1, h2, Nat.add_zero]
end Go.Proofs.Ytjkclggdaafmaaa
namespace Go.Proofs.Ytjkclggdaafmaaa
set_option linter.unusedSimpArgs false
set_option linter.unusedVariables false
open Go.RowKit
attribute [local go_sem] cell?_mk frozen?_mk

theorem reps : rep 85 8 = 6148914691236517205 ∧ rep 51 8 = 3689348814741910323 ∧ rep 15 8 = 1085102592571150095 := by decide
theorem and_u64_lit (a m : Nat) (ha : a < 18446744073709551616) (hm : m < 18446744073709551616) : bits .and .u64 (a : Int) (m : Int) = ((a &&& m : Nat) : Int) := bits_and_u64_nat a m ha hm
set_option maxRecDepth 100000 in
set_option maxHeartbeats 1000000 in
theorem ones_any (x : Nat) (hx : x < 18446744073709551616) (w : World) :
    Calls Try.prog 106 #[.int .u64 x] w fun e w' => e = .returned (.int .i64 (popN x 64)) ∧ w = w' := by
  obtain ⟨r1, r2, r3⟩ := reps
  obtain ⟨p1, hp1⟩ : ∃ p : Nat, p = (x >>> 1) &&& 6148914691236517205 := ⟨_, rfl⟩
  obtain ⟨p2, hp2⟩ : ∃ p : Nat, p = x &&& 6148914691236517205 := ⟨_, rfl⟩
  obtain ⟨y1, hy1⟩ : ∃ p : Nat, p = p1 + p2 := ⟨_, rfl⟩
  have b1 : p1 ≤ 6148914691236517205 := by rw [hp1]; exact Nat.and_le_right
  have b2 : p2 ≤ 6148914691236517205 := by rw [hp2]; exact Nat.and_le_right
  obtain ⟨p3, hp3⟩ : ∃ p : Nat, p = (y1 >>> 2) &&& 3689348814741910323 := ⟨_, rfl⟩
  obtain ⟨p4, hp4⟩ : ∃ p : Nat, p = y1 &&& 3689348814741910323 := ⟨_, rfl⟩
  obtain ⟨y2, hy2⟩ : ∃ p : Nat, p = p3 + p4 := ⟨_, rfl⟩
  have b3 : p3 ≤ 3689348814741910323 := by rw [hp3]; exact Nat.and_le_right
  have b4 : p4 ≤ 3689348814741910323 := by rw [hp4]; exact Nat.and_le_right
  obtain ⟨z3, hz3⟩ : ∃ p : Nat, p = y2 >>> 4 + y2 := ⟨_, rfl⟩
  obtain ⟨y3, hy3⟩ : ∃ p : Nat, p = z3 &&& 1085102592571150095 := ⟨_, rfl⟩
  have b5 : y3 ≤ 1085102592571150095 := by rw [hy3]; exact Nat.and_le_right
  obtain ⟨y4, hy4⟩ : ∃ p : Nat, p = y3 + y3 >>> 8 := ⟨_, rfl⟩
  obtain ⟨y5, hy5⟩ : ∃ p : Nat, p = y4 + y4 >>> 16 := ⟨_, rfl⟩
  obtain ⟨y6, hy6⟩ : ∃ p : Nat, p = y5 + y5 >>> 32 := ⟨_, rfl⟩
  have hgo : y6 &&& 127 = popN x 64 := by
    rw [← onesGo_eq x hx]
    unfold onesGo s1 s2 s3
    rw [r1, r2, r3, ← hp1, ← hp2, ← hy1, ← hp3, ← hp4, ← hy2, ← hz3, ← hy3]
    show _ = (y3 + y3 >>> 8 + (y3 + y3 >>> 8) >>> 16 + (y3 + y3 >>> 8 + (y3 + y3 >>> 8) >>> 16) >>> 32) &&& 127
    rw [← hy4, ← hy5, ← hy6]
  have hgo2 : y6 % 128 = popN x 64 := by
    rw [← hgo, show (127 : Nat) = 2 ^ 7 - 1 by decide, Nat.and_two_pow_sub_one_eq_mod]
  have k1 : x >>> 1 = x / 2 := by rw [Nat.shiftRight_eq_div_pow]
  have k2 : y1 >>> 2 = y1 / 4 := by rw [Nat.shiftRight_eq_div_pow]
  have k3 : y2 >>> 4 = y2 / 16 := by rw [Nat.shiftRight_eq_div_pow]
  have k4 : y3 >>> 8 = y3 / 256 := by rw [Nat.shiftRight_eq_div_pow]
  have k5 : y4 >>> 16 = y4 / 65536 := by rw [Nat.shiftRight_eq_div_pow]
  have k6 : y5 >>> 32 = y5 / 4294967296 := by rw [Nat.shiftRight_eq_div_pow]
  rw [k1] at hp1
  rw [k2] at hp3
  rw [k3] at hz3
  rw [k4] at hy4
  rw [k5] at hy5
  rw [k6] at hy6
  have f1 : bits .and .u64 ((x : Int) / 2) 6148914691236517205 = (p1 : Int) := by
    rw [hp1]; exact and_u64_lit (x / 2) 6148914691236517205 (by omega) (by decide)
  have f2 : bits .and .u64 (x : Int) 6148914691236517205 = (p2 : Int) := by
    rw [hp2]; exact and_u64_lit x 6148914691236517205 hx (by decide)
  have f3 : IntKind.u64.wrap ((p1 : Int) + (p2 : Int)) = (y1 : Int) := by
    rw [IntWalk.u64_in _ (by omega)]; omega
  have f4 : bits .and .u64 ((y1 : Int) / 4) 3689348814741910323 = (p3 : Int) := by
    rw [hp3]; exact and_u64_lit (y1 / 4) 3689348814741910323 (by omega) (by decide)
  have f5 : bits .and .u64 (y1 : Int) 3689348814741910323 = (p4 : Int) := by
    rw [hp4]; exact and_u64_lit y1 3689348814741910323 (by omega) (by decide)
  have f6 : IntKind.u64.wrap ((p3 : Int) + (p4 : Int)) = (y2 : Int) := by
    rw [IntWalk.u64_in _ (by omega)]; omega
  have f7 : IntKind.u64.wrap ((y2 : Int) / 16 + (y2 : Int)) = (z3 : Int) := by
    rw [IntWalk.u64_in _ (by omega)]; omega
  have f8 : bits .and .u64 (z3 : Int) 1085102592571150095 = (y3 : Int) := by
    rw [hy3]; exact and_u64_lit z3 1085102592571150095 (by omega) (by decide)
  have f9 : IntKind.u64.wrap ((y3 : Int) + (y3 : Int) / 256) = (y4 : Int) := by
    rw [IntWalk.u64_in _ (by omega)]; omega
  have f10 : IntKind.u64.wrap ((y4 : Int) + (y4 : Int) / 65536) = (y5 : Int) := by
    rw [IntWalk.u64_in _ (by omega)]; omega
  have f11 : IntKind.u64.wrap ((y5 : Int) + (y5 : Int) / 4294967296) = (y6 : Int) := by
    rw [IntWalk.u64_in _ (by omega)]; omega
  have f12 : IntKind.i64.wrap (y6 : Int) = (y6 : Int) := IntWalk.i64_in _ (by omega)
  have f13 : bits .and .i64 (y6 : Int) 127 = (popN x 64 : Int) := by
    rw [i64_and127]; omega
  clear hp1 hp2 hp3 hp4 hy1 hy2 hz3 hy3 hy4 hy5 hy6 hgo hgo2 k1 k2 k3 k4 k5 k6 r1 r2 r3
  go_enter Try.func106, Try.ntmps106
  go_wp2
  go_ret
  exact ⟨rfl, rfl⟩
set_option maxRecDepth 100000 in
set_option maxHeartbeats 1000000 in
theorem CountCells_any (c : Cs) (hc : c.ok) (w : World) :
    Calls Try.prog 96 #[.agg c.cells] w fun e w' => e = .returned (.int .i64 c.all.length) ∧ Mem w w' [] := by
  have M := Lib.hid (Mem.start w)
  have O1 := Lib.hid (Cs.one c.cut)
  have hcut : c.cut.lo = c.lo := rfl
  have hcut2 : c.cut.hi = c.hi &&& 68719476735 := rfl
  have hl := hc.l
  have hh : c.cut.hi < 18446744073709551616 := and64 hc.h
  have q1 := pop_le c.cut.lo 64
  have q2 := pop_le c.cut.hi 64
  have e1 : IntKind.i64.wrap ((popN c.cut.lo 64 : Int) + (popN c.cut.hi 64 : Int)) = (c.all.length : Int) := by
    have hall : c.all.length = popN c.cut.lo 64 + popN c.cut.hi 64 := by rw [all_count, hcut2, popN_cut, hcut]
    rw [IntWalk.i64_in _ (by omega), hall]
    omega
  clear hcut hcut2
  go_enter Try.func96, Try.ntmps96
  go_wp2_with (first
    | ((with_reducible refine gate_dst (N := 1) rfl ?_); go_must (refine M.out.ev_new rfl (by first | (go_simp; done) | (go_simp; rfl)) ?_); intro g1 w1 m; simp only [List.cons_append, List.nil_append] at m; have M := Lib.hid m; clear m)
    | ((with_reducible refine gate_dst (N := 3) rfl ?_); go_must (refine M.out.ev_ldw 0 _ _ rfl rfl rfl Try.underlying39 rfl (by first | exact sz39 | (rw [S1.out]; exact sz39) | (rw [S2.out]; exact sz39) | (rw [S3.out]; exact sz39)) rfl ?_))
    | ((with_reducible refine gate_store (x := .tmp 1) rfl ?_); go_must (refine M.out.ev_stw 0 _ _ _ rfl rfl rfl rfl _ rfl (by first | rfl | (simp only [S1.out]; rfl) | (simp only [S1.out, S2.out]; rfl) | (simp only [S3.out]; rfl) | (simp only [S1.out, S2.out, S3.out]; rfl)) (by first | exact sz39 | (rw [S1.out]; exact sz39) | (rw [S2.out]; exact sz39) | (rw [S3.out]; exact sz39)) (by first | exact ints_one _ _ | exact Fld.one _ | exact O1.out | rfl | (simp [Value.oneCell']; done)) rfl ?_); intro wn m; simp only [List.set_cons_succ, List.set_cons_zero, List.setIfInBounds_toArray] at m; have M := Lib.hid m; clear m)
    | ((with_reducible refine gate_dst (N := 6) rfl ?_); go_must (refine M.out.ev_ld 0 _ _ rfl rfl rfl Try.underlying30 rfl rfl (by first | assumption | rfl) ?_))
    | ((with_reducible refine gate_dst (N := 9) rfl ?_); go_must (refine M.out.ev_ld 0 _ _ rfl rfl rfl Try.underlying30 rfl rfl (by first | assumption | rfl) ?_))
    | (go_at_call 49; go_must (refine (cut_any c hc _).mono ?_); rintro e w_ ⟨rfl, N_⟩; have m := M.out.join N_; clear N_; simp only [List.cons_append, List.nil_append, List.append_nil] at m; have M := Lib.hid m; clear m)
    )
  refine region_anyH (fun w' => Mem w w' [.blk g1 39 c.cut.cells]) (by kernel_rfl) ?_
  have m := M.out.drew
  clear M
  have M := Lib.hid m
  clear m
  apply takeH (i := 0) 5 rfl (by kernel_rfl) (by kernel_rfl) (by kernel_rfl) (fun _ _ _ h => h) rfl (by first | exact M.out | exact M.out.take 1)
  case' hy =>
    refine Or.inl ⟨by first | rfl | (go_simp; done), ?_⟩
    intro w hS
    clear hS
    go_simp
    try with_reducible rfl
  try simp only [Act.put, List.getElem_toArray, List.getElem_cons_succ, List.getElem_cons_zero, List.setIfInBounds_toArray, List.set_cons_succ, List.set_cons_zero]
  apply takeH (i := 1) 6 rfl (by kernel_rfl) (by kernel_rfl) (by kernel_rfl) (fun _ _ _ h => h) rfl (by first | exact M.out | exact M.out.take 1)
  case' hy => exact ylds _ _ rfl rfl Try.underlying30 rfl rfl (fun w' hS => hS.cell (j := 0) (v := .int .u64 c.cut.lo) 0 rfl rfl)
  try simp only [Act.put, List.getElem_toArray, List.getElem_cons_succ, List.getElem_cons_zero, List.setIfInBounds_toArray, List.set_cons_succ, List.set_cons_zero]
  apply takeH (i := 3) 8 rfl (by kernel_rfl) (by kernel_rfl) (by kernel_rfl) (fun _ _ _ h => h) rfl (by first | exact M.out | exact M.out.take 1)
  case' hy =>
    refine Or.inl ⟨by first | rfl | (go_simp; done), ?_⟩
    intro w hS
    clear hS
    go_simp
    try with_reducible rfl
  try simp only [Act.put, List.getElem_toArray, List.getElem_cons_succ, List.getElem_cons_zero, List.setIfInBounds_toArray, List.set_cons_succ, List.set_cons_zero]
  apply takeH (i := 4) 9 rfl (by kernel_rfl) (by kernel_rfl) (by kernel_rfl) (fun _ _ _ h => h) rfl (by first | exact M.out | exact M.out.take 1)
  case' hy => exact ylds _ _ rfl rfl Try.underlying30 rfl rfl (fun w' hS => hS.cell (j := 1) (v := .int .u64 c.cut.hi) 0 rfl rfl)
  try simp only [Act.put, List.getElem_toArray, List.getElem_cons_succ, List.getElem_cons_zero, List.setIfInBounds_toArray, List.set_cons_succ, List.set_cons_zero]
  refine any1H 2 (by kernel_rfl) rfl (fun K hK => ?_)
  go_wp2_with (first | ((with_reducible refine gate_dst (N := 6) rfl ?_); go_must (refine M.out.ev_ld 0 _ _ rfl rfl rfl Try.underlying30 rfl rfl (by first | assumption | rfl) ?_)) | ((with_reducible refine gate_dst (N := 9) rfl ?_); go_must (refine M.out.ev_ld 0 _ _ rfl rfl rfl Try.underlying30 rfl rfl (by first | assumption | rfl) ?_)) | (go_at_call 106; go_must (first | (refine Calls.mono (calls_args (by with_reducible rfl) (ones_any c.cut.lo hl _)) ?_) | (refine Calls.mono (calls_args (by with_reducible rfl) (ones_any c.cut.hi hh _)) ?_)); rintro e w_ ⟨rfl, rfl⟩))
  refine onward_normal (hK _ _ ⟨(by first | exact M.out | exact M.out.take 1), ?_⟩)
  clear hK K
  try simp only [Act.put, List.getElem_toArray, List.getElem_cons_succ, List.getElem_cons_zero, List.setIfInBounds_toArray, List.set_cons_succ, List.set_cons_zero]
  refine any1H 5 (by kernel_rfl) rfl (fun K hK => ?_)
  go_wp2_with (first | ((with_reducible refine gate_dst (N := 6) rfl ?_); go_must (refine M.out.ev_ld 0 _ _ rfl rfl rfl Try.underlying30 rfl rfl (by first | assumption | rfl) ?_)) | ((with_reducible refine gate_dst (N := 9) rfl ?_); go_must (refine M.out.ev_ld 0 _ _ rfl rfl rfl Try.underlying30 rfl rfl (by first | assumption | rfl) ?_)) | (go_at_call 106; go_must (first | (refine Calls.mono (calls_args (by with_reducible rfl) (ones_any c.cut.lo hl _)) ?_) | (refine Calls.mono (calls_args (by with_reducible rfl) (ones_any c.cut.hi hh _)) ?_)); rintro e w_ ⟨rfl, rfl⟩))
  refine onward_normal (hK _ _ ⟨(by first | exact M.out | exact M.out.take 1), ?_⟩)
  clear hK K
  try simp only [Act.put, List.getElem_toArray, List.getElem_cons_succ, List.getElem_cons_zero, List.setIfInBounds_toArray, List.set_cons_succ, List.set_cons_zero]
  apply takeH (i := 6) 11 rfl (by kernel_rfl) (by kernel_rfl) (by kernel_rfl) (fun _ _ _ h => h) rfl (by first | exact M.out | exact M.out.take 1)
  case' hy =>
    refine Or.inl ⟨by first | rfl | (go_simp; done), ?_⟩
    intro w hS
    clear hS
    go_simp
    try with_reducible rfl
  try simp only [Act.put, List.getElem_toArray, List.getElem_cons_succ, List.getElem_cons_zero, List.setIfInBounds_toArray, List.set_cons_succ, List.set_cons_zero]
  apply takeH (i := 7) 2 rfl (by kernel_rfl) (by kernel_rfl) (by kernel_rfl) (fun _ _ _ h => h) rfl (by first | exact M.out | exact M.out.take 1)
  case' hy =>
    refine Or.inl ⟨by first | rfl | (go_simp; done), ?_⟩
    intro w hS
    clear hS
    go_simp
    try with_reducible rfl
  try simp only [Act.put, List.getElem_toArray, List.getElem_cons_succ, List.getElem_cons_zero, List.setIfInBounds_toArray, List.set_cons_succ, List.set_cons_zero]
  refine wpAnyH_done (by kernel_rfl) ?_ _
  all_goals
    go_wp2
    go_ret
    exact ⟨rfl, M.out.take 0⟩
end Go.Proofs.Ytjkclggdaafmaaa
