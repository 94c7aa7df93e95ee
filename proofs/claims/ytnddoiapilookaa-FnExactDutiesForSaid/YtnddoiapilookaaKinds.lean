/- The cells of a kind: the walks. -/
import Derived.Test.YtnddoiapilookaaThose
import Derived.Test.YtnddoiapilookaaSets2
namespace Go.Proofs.Ytnddoiapilookaa
set_option linter.unusedSimpArgs false
set_option linter.unusedVariables false
open Go.RowKit
attribute [local go_sem] cell?_mk frozen?_mk

def ofKd (F : Fld) (q : Int) : Cs := setOf (F.all.filter fun k => F.kind k == q)
theorem ofKd_ok (F : Fld) (q : Int) : (ofKd F q).ok := setOf_ok _ fun k hk => by
  have := (Fld.all_has (List.mem_filter.1 hk).1).1
  omega
theorem ofKd_has (F : Fld) (q : Int) {k : Nat} (hk : k < 100) : (ofKd F q).has k = (F.has k && (F.kind k == q)) := by
  rw [ofKd, setOf_has, Bool.eq_iff_iff, List.contains_iff_mem, List.mem_filter, Fld.all, Fld.below, List.mem_filter, List.mem_range, Bool.and_eq_true]
  exact ⟨fun h => ⟨h.1.2, h.2⟩, fun h => ⟨⟨hk, h.1⟩, h.2⟩⟩
set_option maxRecDepth 100000 in
set_option maxHeartbeats 2000000 in
theorem kindIs_any (g a b : Nat) {t ta tb : TypeId} (F : Fld) (hF : F.ok) (q : Int) (k : Nat) (hk : k < 100) (w : World) (hb : Blk w g t F.cells)
    (h1 : Blk w a ta #[.pointer (some ⟨g, 0, none⟩)]) (h2 : Blk w b tb #[.int .i64 q]) :
    Calls Try.prog 121 #[.int .i64 k, .pointer (some ⟨a, 0, none⟩), .pointer (some ⟨b, 0, none⟩)] w fun e w' => e = .returned (.bool (F.kind k == q)) ∧ Mem w w' [] := by
  have M := Lib.hid (Mem.start w)
  have y1 := h1.cellv (i := 0) rfl
  have y2 := h2.cellv (i := 0) rfl
  have y4 := hb.cellv (Fld.cellK hF.toLen (k := k) hk)
  have kb := hF.kb k
  have i0 : (0 : Int) ≤ (k : Int) := by omega
  have i1 : (k : Int) < 100 := by omega
  have e1 : IntKind.i64.wrap (F.kind k) = F.kind k := IntWalk.i64_in _ (by omega)
  clear hb h1 h2
  go_enter Try.func121, Try.ntmps121
  go_wp2_with fail
  go_quiet (fail)
  have M := Lib.hid (M.out.drewN nq)
  go_wp2
  go_ret
  exact ⟨rfl, M.out⟩
set_option maxRecDepth 100000 in
set_option maxHeartbeats 2000000 in
theorem ofKind_any (g : Nat) {t : TypeId} (F : Fld) (hF : F.ok) (q : Int) (w : World) (hb : Blk w g t F.cells) :
    Calls Try.prog 112 #[.pointer (some ⟨g, 0, none⟩), .int .i64 q] w fun e w' => e = .returned (.agg (ofKd F q).cells) ∧ Mem w w' [] := by
  have M := Lib.hid (Mem.start w)
  have HB := Lib.hid hb
  have O1 := Lib.hid (Cs.one (ofKd F q))
  clear hb
  go_enter Try.func112, Try.ntmps112
  go_wp2_with (first
    | ((with_reducible refine gate_dst (N := 2) rfl ?_); go_must (refine M.out.ev_new rfl (by first | (go_simp; done) | (go_simp; rfl)) ?_); intro g2 w2 m; simp only [List.cons_append, List.nil_append] at m; have M := Lib.hid m; clear m)
    | ((with_reducible refine gate_dst (N := 3) rfl ?_); go_must (refine M.out.ev_new rfl (by first | (go_simp; done) | (go_simp; rfl)) ?_); intro g3 w3 m; simp only [List.cons_append, List.nil_append] at m; have M := Lib.hid m; clear m)
    | ((with_reducible refine gate_dst (N := 4) rfl ?_); go_must (refine M.out.ev_new rfl (by first | (go_simp; done) | (go_simp; rfl)) ?_); intro g4 w4 m; simp only [List.cons_append, List.nil_append] at m; have M := Lib.hid m; clear m)
    | ((with_reducible refine gate_dst (N := 5) rfl ?_); go_must (refine M.out.ev_ld 0 _ _ rfl rfl rfl Try.underlying77 rfl rfl (by first | assumption | rfl) ?_))
    | ((with_reducible refine gate_store (x := .tmp 4) rfl ?_); go_must (refine M.out.ev_stw 2 _ _ _ rfl rfl rfl rfl _ rfl (by first | rfl | (simp only [S1.out]; rfl) | (simp only [S1.out, S2.out]; rfl) | (simp only [S3.out]; rfl) | (simp only [S1.out, S2.out, S3.out]; rfl)) (by first | exact sz51 | (rw [S1.out]; exact sz51) | (rw [S2.out]; exact sz51) | (rw [S3.out]; exact sz51)) (by first | exact ints_one _ _ | exact Fld.one _ | exact O1.out | rfl | (simp [Value.oneCell']; done)) rfl ?_); intro wn m; simp only [List.set_cons_succ, List.set_cons_zero, List.setIfInBounds_toArray] at m; have M := Lib.hid m; clear m)
    | (go_at_call 120; go_must (refine (those_any g F hF 121 #[.pointer (some ⟨g2, 0, none⟩), .pointer (some ⟨g3, 0, none⟩)] (fun k => F.kind k == q) _ (M.out.arg HB.out) (fun _ _ => by go_simp) (fun k hk _ w1 m1 => calls_caps (kindIs_any g _ _ F hF q k hk w1 ((M.out.join m1).arg HB.out) ((M.out.join m1).blk 0 rfl) ((M.out.join m1).blk 1 rfl)))).mono ?_); rintro e w_ ⟨rfl, N_⟩; have m := M.out.join N_; clear N_; simp only [List.cons_append, List.nil_append, List.append_nil] at m; have M := Lib.hid m; clear m)
    )
  exact ret_cell rfl (M.out.blk 2 rfl) Try.underlying51 rfl sz51 rfl ⟨rfl, M.out.take 0⟩
end Go.Proofs.Ytnddoiapilookaa
