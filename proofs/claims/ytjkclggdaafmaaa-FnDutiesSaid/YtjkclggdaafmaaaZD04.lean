/- Texts of a proof, laid together: Those, Kinds. -/
import Derived.Test.YtjkclggdaafmaaaZD02
import Derived.Test.YtjkclggdaafmaaaZD03
namespace Go.Proofs.Ytjkclggdaafmaaa
set_option linter.unusedSimpArgs false
set_option linter.unusedVariables false
open Go.RowKit
attribute [local go_sem] cell?_mk frozen?_mk

theorem filter_lt {F : Fld} {p : Nat → Bool} {k : Nat} : ∀ j ∈ (F.all.take k).filter p, j < 128 := fun j hj => by
  have := (Fld.all_has (List.mem_of_mem_take (List.mem_filter.1 hj).1)).1
  omega
set_option maxRecDepth 100000 in
set_option maxHeartbeats 2000000 in
theorem those_any (g : Nat) {t : TypeId} (F : Fld) (hF : F.ok) (f : FuncId) (caps : Array Value) (p : Nat → Bool) (w : World) (hb : Blk w g t F.cells)
    (HF : ∀ (vs : Array Value) (w : World), Sem.run Try.prog (callFunc f vs) w = Result.ok (Next.enter f vs) w)
    (H : ∀ k : Nat, k < 100 → F.has k = true → ∀ w1, Mem w w1 [] → Calls Try.prog f (#[.int .i64 k] ++ caps) w1 fun e w' => e = .returned (.bool (p k)) ∧ Mem w1 w' []) :
    Calls Try.prog 98 #[.pointer (some ⟨g, 0, none⟩), .func (.func f) #[] caps] w fun e w' => e = .returned (.agg (setOf (F.all.filter p)).cells) ∧ Mem w w' [] := by
  have M := Lib.hid (Mem.start w)
  have HB := Lib.hid hb
  have HH := Lib.hid H
  have HFF := Lib.hid hF
  have O1 := Lib.hid (Cs.one (setOf (F.all.filter p)))
  clear hb H hF
  go_enter Try.func98, Try.ntmps98
  go_wp2_with (first
    | ((with_reducible refine gate_dst (N := 4) rfl ?_); go_must (refine M.out.ev_new rfl (by first | (go_simp; done) | (go_simp; rfl)) ?_); intro g4 w4 m; simp only [List.cons_append, List.nil_append] at m; have M := Lib.hid m; clear m)
    | ((with_reducible refine gate_dst (N := 5) rfl ?_); go_must (refine M.out.ev_new rfl (by first | (go_simp; done) | (go_simp; rfl)) ?_); intro g5 w5 m; simp only [List.cons_append, List.nil_append] at m; have M := Lib.hid m; clear m)
    | ((with_reducible refine gate_store (x := .tmp 5) rfl ?_); go_must (refine M.out.ev_stw 1 _ _ _ rfl rfl rfl rfl _ rfl (by first | rfl | (simp only [S1.out]; rfl) | (simp only [S1.out, S2.out]; rfl) | (simp only [S3.out]; rfl) | (simp only [S1.out, S2.out, S3.out]; rfl)) (by first | exact sz39 | (rw [S1.out]; exact sz39) | (rw [S2.out]; exact sz39) | (rw [S3.out]; exact sz39)) (by first | exact ints_one _ _ | exact Fld.one _ | exact O1.out | rfl | (simp [Value.oneCell']; done)) rfl ?_); intro wn m; simp only [List.set_cons_succ, List.set_cons_zero, List.setIfInBounds_toArray] at m; have M := Lib.hid m; clear m)
    | ((with_reducible refine gate_dst (N := 22) rfl ?_); go_must (refine M.out.ev_ldw 1 _ _ rfl rfl rfl Try.underlying39 rfl (by first | exact sz39 | (rw [S1.out]; exact sz39) | (rw [S2.out]; exact sz39) | (rw [S3.out]; exact sz39)) rfl ?_))
    | ((with_reducible refine gate_store (x := .tmp 4) rfl ?_); go_must (refine M.out.ev_stw 0 _ _ _ rfl rfl rfl rfl _ rfl (by first | rfl | (simp only [S1.out]; rfl) | (simp only [S1.out, S2.out]; rfl) | (simp only [S3.out]; rfl) | (simp only [S1.out, S2.out, S3.out]; rfl)) (by first | exact sz39 | (rw [S1.out]; exact sz39) | (rw [S2.out]; exact sz39) | (rw [S3.out]; exact sz39)) (by first | exact ints_one _ _ | exact Fld.one _ | exact O1.out | rfl | (simp [Value.oneCell']; done)) rfl ?_); intro wn m; simp only [List.set_cons_succ, List.set_cons_zero, List.setIfInBounds_toArray] at m; have M := Lib.hid m; clear m)
    | (go_at_call 107; go_must (refine (cells_any g F HFF.out _ (M.out.arg HB.out)).mono ?_); rintro e w_ ⟨A_, c_, rfl, hc_, N_⟩; have m := M.out.join N_; clear N_; simp only [List.cons_append, List.nil_append, List.append_nil] at m; have M := Lib.hid m; clear m)
    )
  go_loopw [12] (fun v wr => ∃ k : Nat, k ≤ F.all.length ∧ v = .int .i64 k ∧ Mem w wr [.blk g4 39 Cs.z.cells, .blk g5 39 (setOf ((F.all.take k).filter p)).cells, .row (.slice A_ F.all.length c_) 2 1 F.all.length (flat one64 F.all)])
    (fun v _ => F.all.length - (intOf v).toNat)
  case atStart => exact ⟨0, by omega, rfl, M.out⟩
  case round =>
    clear M
    obtain ⟨k, hk, rfl, m⟩ := hrel
    have M := Lib.hid m
    clear m
    have hal : F.all.length ≤ 100 := F.below_len 100
    have CO := Lib.hid (setOf_ok _ (filter_lt (F := F) (p := p) (k := k)))
    by_cases hlt : k < F.all.length
    · obtain ⟨b, off, rfl, hr⟩ := (M.out.slof 2 rfl).2 (by omega)
      have hxk : F.all[k]? = some F.all[k] := List.getElem?_eq_getElem hlt
      have hmem := Fld.all_has (List.getElem_mem hlt)
      obtain ⟨j, hj⟩ : ∃ j, j = F.all[k] := ⟨_, rfl⟩
      have R := range_at one64_len hr hxk
      have HT := Lib.hid (show F.all.take (k + 1) = F.all.take k ++ [j] by rw [List.take_succ_eq_append_getElem hlt, hj])
      rw [← hj] at R hmem
      have x0 : wr.cell? ⟨b, off + k, none⟩ = some (.int .i64 j) := by
        have := R 0 _ rfl
        simpa [nat64] using this
      obtain ⟨j0, j1⟩ := hmem
      have i0 : (0 : Int) ≤ (j : Int) := by omega
      have J1 := Lib.hid j1
      clear hr hxk R hj j1
      cases hp : p j
      · have HP := Lib.hid hp
        clear hp
        go_wp2_with (first
          | (refine (HH.out j j0 J1.out _ (M.out.take 0)).mono ?_; rintro e w_ ⟨rfl, N_⟩; have m := M.out.join N_; clear N_; simp only [List.cons_append, List.nil_append, List.append_nil] at m; have M := Lib.hid m; clear m; rw [HP.out])
          )
        refine ⟨⟨k + 1, by omega, by go_num, ?_⟩, by simp [intOf]; omega⟩
        rw [HT.out, List.filter_append]
        simpa [HP.out] using M.out
      · have HP := Lib.hid hp
        clear hp
        go_wp2_with (first
          | (refine (HH.out j j0 J1.out _ (M.out.take 0)).mono ?_; rintro e w_ ⟨rfl, N_⟩; have m := M.out.join N_; clear N_; simp only [List.cons_append, List.nil_append, List.append_nil] at m; have M := Lib.hid m; clear m; rw [HP.out])
          | (go_at_call 81; go_must (refine (put_any 1 M.out _ _ CO.out rfl j j0).mono ?_); rintro e w_ ⟨rfl, m⟩; simp only [List.set_cons_succ, List.set_cons_zero] at m; have M := Lib.hid m; clear m)
          )
        refine ⟨⟨k + 1, by omega, by go_num, ?_⟩, by simp [intOf]; omega⟩
        rw [HT.out, List.filter_append, show [j].filter p = [j] by simp [HP.out], setOf_snoc]
        exact M.out
    · obtain rfl : k = F.all.length := by omega
      rw [List.take_length] at M
      go_wp2_with (first
        | ((with_reducible refine gate_dst (N := 4) rfl ?_); go_must (refine M.out.ev_new rfl (by first | (go_simp; done) | (go_simp; rfl)) ?_); intro g4 w4 m; simp only [List.cons_append, List.nil_append] at m; have M := Lib.hid m; clear m)
        | ((with_reducible refine gate_dst (N := 5) rfl ?_); go_must (refine M.out.ev_new rfl (by first | (go_simp; done) | (go_simp; rfl)) ?_); intro g5 w5 m; simp only [List.cons_append, List.nil_append] at m; have M := Lib.hid m; clear m)
        | ((with_reducible refine gate_store (x := .tmp 5) rfl ?_); go_must (refine M.out.ev_stw 1 _ _ _ rfl rfl rfl rfl _ rfl (by first | rfl | (simp only [S1.out]; rfl) | (simp only [S1.out, S2.out]; rfl) | (simp only [S3.out]; rfl) | (simp only [S1.out, S2.out, S3.out]; rfl)) (by first | exact sz39 | (rw [S1.out]; exact sz39) | (rw [S2.out]; exact sz39) | (rw [S3.out]; exact sz39)) (by first | exact ints_one _ _ | exact Fld.one _ | exact O1.out | rfl | (simp [Value.oneCell']; done)) rfl ?_); intro wn m; simp only [List.set_cons_succ, List.set_cons_zero, List.setIfInBounds_toArray] at m; have M := Lib.hid m; clear m)
        | ((with_reducible refine gate_dst (N := 22) rfl ?_); go_must (refine M.out.ev_ldw 1 _ _ rfl rfl rfl Try.underlying39 rfl (by first | exact sz39 | (rw [S1.out]; exact sz39) | (rw [S2.out]; exact sz39) | (rw [S3.out]; exact sz39)) rfl ?_))
        | ((with_reducible refine gate_store (x := .tmp 4) rfl ?_); go_must (refine M.out.ev_stw 0 _ _ _ rfl rfl rfl rfl _ rfl (by first | rfl | (simp only [S1.out]; rfl) | (simp only [S1.out, S2.out]; rfl) | (simp only [S3.out]; rfl) | (simp only [S1.out, S2.out, S3.out]; rfl)) (by first | exact sz39 | (rw [S1.out]; exact sz39) | (rw [S2.out]; exact sz39) | (rw [S3.out]; exact sz39)) (by first | exact ints_one _ _ | exact Fld.one _ | exact O1.out | rfl | (simp [Value.oneCell']; done)) rfl ?_); intro wn m; simp only [List.set_cons_succ, List.set_cons_zero, List.setIfInBounds_toArray] at m; have M := Lib.hid m; clear m)
        )
      exact ret_cell rfl (M.out.blk 0 rfl) Try.underlying39 rfl sz39 rfl ⟨rfl, M.out.take 0⟩
end Go.Proofs.Ytjkclggdaafmaaa
namespace Go.Proofs.Ytjkclggdaafmaaa
set_option linter.unusedSimpArgs false
set_option linter.unusedVariables false
open Go.RowKit
attribute [local go_sem] cell?_mk frozen?_mk

def ofKd (F : Fld) (q : Int) : Cs := setOf (F.all.filter fun k => F.kind k == q)
theorem ofKd_ok (F : Fld) (q : Int) : (ofKd F q).ok := setOf_ok _ fun k hk => by
  have := (Fld.all_has (List.mem_filter.1 hk).1).1
  omega
theorem ofKd_has (F : Fld) (q : Int) {k : Nat} (hk : k < 100) : (ofKd F q).has k = (F.has k && (F.kind k == q)) := by
  rw [ofKd, setOf_has, Bool.eq_iff_iff, List.contains_iff_mem, List.mem_filter, Fld.all, Fld.below, List.mem_filter, List.mem_range, Bool.and_eq_true]
  exact ⟨fun h => ⟨h.1.2, h.2⟩, fun h => ⟨⟨hk, h.1⟩, h.2⟩⟩
set_option maxRecDepth 100000 in
set_option maxHeartbeats 2000000 in
theorem kindIs_any (g a b : Nat) {t ta tb : TypeId} (F : Fld) (hF : F.ok) (q : Int) (k : Nat) (hk : k < 100) (w : World) (hb : Blk w g t F.cells)
    (h1 : Blk w a ta #[.pointer (some ⟨g, 0, none⟩)]) (h2 : Blk w b tb #[.int .i64 q]) :
    Calls Try.prog 99 #[.int .i64 k, .pointer (some ⟨a, 0, none⟩), .pointer (some ⟨b, 0, none⟩)] w fun e w' => e = .returned (.bool (F.kind k == q)) ∧ Mem w w' [] := by
  have M := Lib.hid (Mem.start w)
  have y1 := h1.cellv (i := 0) rfl
  have y2 := h2.cellv (i := 0) rfl
  have y4 := hb.cellv (Fld.cellK hF.toLen (k := k) hk)
  have kb := hF.kb k
  have i0 : (0 : Int) ≤ (k : Int) := by omega
  have i1 : (k : Int) < 100 := by omega
  have e1 : IntKind.i64.wrap (F.kind k) = F.kind k := IntWalk.i64_in _ (by omega)
  clear hb h1 h2
  go_enter Try.func99, Try.ntmps99
  go_wp2_with fail
  go_quiet (fail)
  have M := Lib.hid (M.out.drewN nq)
  go_wp2
  go_ret
  exact ⟨rfl, M.out⟩
set_option maxRecDepth 100000 in
set_option maxHeartbeats 2000000 in
theorem ofKind_any (g : Nat) {t : TypeId} (F : Fld) (hF : F.ok) (q : Int) (w : World) (hb : Blk w g t F.cells) :
    Calls Try.prog 79 #[.pointer (some ⟨g, 0, none⟩), .int .i64 q] w fun e w' => e = .returned (.agg (ofKd F q).cells) ∧ Mem w w' [] := by
  have M := Lib.hid (Mem.start w)
  have HB := Lib.hid hb
  have O1 := Lib.hid (Cs.one (ofKd F q))
  clear hb
  go_enter Try.func79, Try.ntmps79
  go_wp2_with (first
    | ((with_reducible refine gate_dst (N := 2) rfl ?_); go_must (refine M.out.ev_new rfl (by first | (go_simp; done) | (go_simp; rfl)) ?_); intro g2 w2 m; simp only [List.cons_append, List.nil_append] at m; have M := Lib.hid m; clear m)
    | ((with_reducible refine gate_dst (N := 3) rfl ?_); go_must (refine M.out.ev_new rfl (by first | (go_simp; done) | (go_simp; rfl)) ?_); intro g3 w3 m; simp only [List.cons_append, List.nil_append] at m; have M := Lib.hid m; clear m)
    | ((with_reducible refine gate_dst (N := 4) rfl ?_); go_must (refine M.out.ev_new rfl (by first | (go_simp; done) | (go_simp; rfl)) ?_); intro g4 w4 m; simp only [List.cons_append, List.nil_append] at m; have M := Lib.hid m; clear m)
    | ((with_reducible refine gate_dst (N := 5) rfl ?_); go_must (refine M.out.ev_ld 0 _ _ rfl rfl rfl Try.underlying69 rfl rfl (by first | assumption | rfl) ?_))
    | ((with_reducible refine gate_store (x := .tmp 4) rfl ?_); go_must (refine M.out.ev_stw 2 _ _ _ rfl rfl rfl rfl _ rfl (by first | rfl | (simp only [S1.out]; rfl) | (simp only [S1.out, S2.out]; rfl) | (simp only [S3.out]; rfl) | (simp only [S1.out, S2.out, S3.out]; rfl)) (by first | exact sz39 | (rw [S1.out]; exact sz39) | (rw [S2.out]; exact sz39) | (rw [S3.out]; exact sz39)) (by first | exact ints_one _ _ | exact Fld.one _ | exact O1.out | rfl | (simp [Value.oneCell']; done)) rfl ?_); intro wn m; simp only [List.set_cons_succ, List.set_cons_zero, List.setIfInBounds_toArray] at m; have M := Lib.hid m; clear m)
    | (go_at_call 98; go_must (refine (those_any g F hF 99 #[.pointer (some ⟨g2, 0, none⟩), .pointer (some ⟨g3, 0, none⟩)] (fun k => F.kind k == q) _ (M.out.arg HB.out) (fun _ _ => by go_simp) (fun k hk _ w1 m1 => calls_caps (kindIs_any g _ _ F hF q k hk w1 ((M.out.join m1).arg HB.out) ((M.out.join m1).blk 0 rfl) ((M.out.join m1).blk 1 rfl)))).mono ?_); rintro e w_ ⟨rfl, N_⟩; have m := M.out.join N_; clear N_; simp only [List.cons_append, List.nil_append, List.append_nil] at m; have M := Lib.hid m; clear m)
    )
  exact ret_cell rfl (M.out.blk 2 rfl) Try.underlying39 rfl sz39 rfl ⟨rfl, M.out.take 0⟩
end Go.Proofs.Ytjkclggdaafmaaa
