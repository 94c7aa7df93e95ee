/- Texts of a proof, laid together: Nets, EqC. -/
import Derived.Test.YtjkclggdaafmaaaZD03
import Derived.Test.YtjkclggdaafmaaaZD04
import Derived.Test.YtjkclggdaafmaaaZD02
import Derived.Laws.StructEq
namespace Go.Proofs.Ytjkclggdaafmaaa
set_option linter.unusedSimpArgs false
set_option linter.unusedVariables false
open Go.RowKit
attribute [local go_sem] cell?_mk frozen?_mk

set_option maxRecDepth 100000 in
set_option maxHeartbeats 1000000 in
theorem isPlainN_any (n : Net) (hx : n.ok) (w : World) :
    Calls Try.prog 100 #[.agg n.vals.toArray] w fun e w' => e = .returned (.bool n.plain) ∧ Mem w w' [] := by
  have M := Lib.hid (Mem.start w)
  obtain ⟨l0, u0⟩ := hx.x
  have e0 : IntKind.i64.wrap n.x = n.x := IntWalk.i64_in _ (by omega)
  obtain ⟨l1, u1⟩ := hx.y
  have e1 : IntKind.i64.wrap n.y = n.y := IntWalk.i64_in _ (by omega)
  obtain ⟨l2, u2⟩ := hx.wide
  have e2 : IntKind.i64.wrap n.wide = n.wide := IntWalk.i64_in _ (by omega)
  obtain ⟨l3, u3⟩ := hx.high
  have e3 : IntKind.i64.wrap n.high = n.high := IntWalk.i64_in _ (by omega)
  cases q0 : inB n.x 0 9 <;> cases q1 : inB n.y 0 9 <;> cases q2 : inB n.wide 1 10 <;> cases q3 : inB n.high 1 10 <;>
  · have H0 := Lib.hid q0
    have H1 := Lib.hid q1
    have H2 := Lib.hid q2
    have H3 := Lib.hid q3
    have HFN := Lib.hid (show n.plain = (inB n.x 0 9 && (inB n.y 0 9 && (inB n.wide 1 10 && inB n.high 1 10))) from rfl)
    clear q0 q1 q2 q3
    go_enter Try.func100, Try.ntmps100
    go_wp2_with (first
      | ((with_reducible refine gate_dst (N := 1) rfl ?_); go_must (refine M.out.ev_new rfl (by first | (go_simp; done) | (go_simp; rfl)) ?_); intro g1 w1 m; simp only [List.cons_append, List.nil_append] at m; have M := Lib.hid m; clear m; have c0 := M.out.cell (j := 0) (v := .int .i8 n.x) 0 rfl rfl; have c1 := M.out.cell (j := 1) (v := .int .i8 n.y) 0 rfl rfl; have c2 := M.out.cell (j := 2) (v := .int .i8 n.wide) 0 rfl rfl; have c3 := M.out.cell (j := 3) (v := .int .i8 n.high) 0 rfl rfl)
      | (go_at_call 42; go_must (refine (within_any _ _ _ _).mono ?_); rintro e w_ ⟨rfl, rfl⟩; first | rw [H0.out] | rw [H1.out] | rw [H2.out] | rw [H3.out])
      )
    go_ret
    exact ⟨ret_bool (by rw [HFN.out, H0.out, H1.out, H2.out, H3.out]; rfl), M.out.take 0⟩
set_option maxRecDepth 100000 in
set_option maxHeartbeats 1000000 in
theorem l04Inside_any (n : Net) (hx : n.ok) (k : Nat) (hk : k < 100) (w : World) :
    Calls Try.prog 36 #[.agg n.vals.toArray, .int .i64 k] w fun e w' => e = .returned (.bool (n.inside k)) ∧ Mem w w' [] := by
  have M := Lib.hid (Mem.start w)
  obtain ⟨l0, u0⟩ := hx.x
  have e0 : IntKind.i64.wrap n.x = n.x := IntWalk.i64_in _ (by omega)
  obtain ⟨l1, u1⟩ := hx.y
  have e1 : IntKind.i64.wrap n.y = n.y := IntWalk.i64_in _ (by omega)
  obtain ⟨l2, u2⟩ := hx.wide
  have e2 : IntKind.i64.wrap n.wide = n.wide := IntWalk.i64_in _ (by omega)
  obtain ⟨l3, u3⟩ := hx.high
  have e3 : IntKind.i64.wrap n.high = n.high := IntWalk.i64_in _ (by omega)
  have i0 : (0 : Int) ≤ (k : Int) := by omega
  have hr : (k : Int).tmod 10 = (k : Int) % 10 := by rw [Int.tmod_eq_emod_of_nonneg i0]
  have hd : (k : Int).tdiv 10 = (k : Int) / 10 := by rw [Int.tdiv_eq_ediv_of_nonneg i0]
  have f0 : IntKind.i64.wrap ((k : Int) / 10) = (k : Int) / 10 := IntWalk.i64_in _ (by omega)
  have f1 : IntKind.i64.wrap (n.x + n.wide) = n.x + n.wide := IntWalk.i64_in _ (by omega)
  have f2 : IntKind.i64.wrap (n.x + n.wide - 1) = n.x + n.wide - 1 := IntWalk.i64_in _ (by omega)
  have f3 : IntKind.i64.wrap (n.y + n.high) = n.y + n.high := IntWalk.i64_in _ (by omega)
  have f4 : IntKind.i64.wrap (n.y + n.high - 1) = n.y + n.high - 1 := IntWalk.i64_in _ (by omega)
  have HI := Lib.hid (show n.inside k = (inB ((k : Int) % 10) n.x (n.x + n.wide - 1) && inB ((k : Int) / 10) n.y (n.y + n.high - 1)) from rfl)
  cases q0 : inB ((k : Int) % 10) n.x (n.x + n.wide - 1) <;> cases q1 : inB ((k : Int) / 10) n.y (n.y + n.high - 1) <;>
  · have H0 := Lib.hid q0
    have H1 := Lib.hid q1
    clear q0 q1
    go_enter Try.func36, Try.ntmps36
    go_wp2_with (first
      | ((with_reducible refine gate_dst (N := 2) rfl ?_); go_must (refine M.out.ev_new rfl (by first | (go_simp; done) | (go_simp; rfl)) ?_); intro g2 w2 m; simp only [List.cons_append, List.nil_append] at m; have M := Lib.hid m; clear m; have c0 := M.out.cell (j := 0) (v := .int .i8 n.x) 0 rfl rfl; have c1 := M.out.cell (j := 1) (v := .int .i8 n.y) 0 rfl rfl; have c2 := M.out.cell (j := 2) (v := .int .i8 n.wide) 0 rfl rfl; have c3 := M.out.cell (j := 3) (v := .int .i8 n.high) 0 rfl rfl)
      | (go_at_call 32; go_must (refine (l00In_any _ _ _ _).mono ?_); rintro e w_ ⟨rfl, rfl⟩; first | rw [H0.out] | rw [H1.out])
      )
    go_ret
    exact ⟨ret_bool (by rw [HI.out, H0.out, H1.out]; rfl), M.out.take 0⟩
def netTo (n : Net) (k : Nat) : Cs := setOf ((List.range k).filter n.inside)
theorem netTo_ok (n : Net) {k : Nat} (hk : k ≤ 100) : (netTo n k).ok := setOf_ok _ fun j hj => by
  have := List.mem_range.1 (List.mem_filter.1 hj).1
  omega
theorem netTo_succ (n : Net) (k : Nat) : netTo n (k + 1) = if n.inside k = true then (netTo n k).put k else netTo n k := by
  unfold netTo
  rw [List.range_succ, List.filter_append]
  cases h : n.inside k
  · simp [h]
  · simp only [List.filter_cons, h, List.filter_nil, if_true]
    rw [setOf_snoc]
set_option maxRecDepth 100000 in
set_option maxHeartbeats 1000000 in
theorem l04Under_any (n : Net) (hx : n.ok) (w : World) :
    Calls Try.prog 61 #[.agg n.vals.toArray] w fun e w' => e = .returned (.agg (netSet n).cells) ∧ Mem w w' [] := by
  have M := Lib.hid (Mem.start w)
  have HX := Lib.hid hx
  have O1 := Lib.hid (Cs.one (netSet n))
  clear hx
  go_enter Try.func61, Try.ntmps61
  go_wp2_with (first
    | ((with_reducible refine gate_dst (N := 1) rfl ?_); go_must (refine M.out.ev_new rfl (by first | (go_simp; done) | (go_simp; rfl)) ?_); intro g1 w1 m; simp only [List.cons_append, List.nil_append] at m; have M := Lib.hid m; clear m)
    | ((with_reducible refine gate_dst (N := 2) rfl ?_); go_must (refine M.out.ev_new rfl (by first | (go_simp; done) | (go_simp; rfl)) ?_); intro g2 w2 m; simp only [List.cons_append, List.nil_append] at m; have M := Lib.hid m; clear m)
    | ((with_reducible refine gate_dst (N := 3) rfl ?_); go_must (refine M.out.ev_new rfl (by first | (go_simp; done) | (go_simp; rfl)) ?_); intro g3 w3 m; simp only [List.cons_append, List.nil_append] at m; have M := Lib.hid m; clear m)
    | ((with_reducible refine gate_store (x := .tmp 3) rfl ?_); go_must (refine M.out.ev_stw 2 _ _ _ rfl rfl rfl rfl _ rfl (by first | rfl | (simp only [S1.out]; rfl) | (simp only [S1.out, S2.out]; rfl) | (simp only [S3.out]; rfl) | (simp only [S1.out, S2.out, S3.out]; rfl)) (by first | exact sz39 | (rw [S1.out]; exact sz39) | (rw [S2.out]; exact sz39) | (rw [S3.out]; exact sz39)) (by first | exact ints_one _ _ | exact Fld.one _ | exact O1.out | rfl | (simp [Value.oneCell']; done)) rfl ?_); intro wn m; simp only [List.set_cons_succ, List.set_cons_zero, List.setIfInBounds_toArray] at m; have M := Lib.hid m; clear m)
    | ((with_reducible refine gate_dst (N := 10) rfl ?_); go_must (refine M.out.ev_ldw 0 _ _ rfl rfl rfl Try.underlying65 rfl (by first | exact sz65 | (rw [S1.out]; exact sz65) | (rw [S2.out]; exact sz65) | (rw [S3.out]; exact sz65)) rfl ?_))
    | ((with_reducible refine gate_dst (N := 15) rfl ?_); go_must (refine M.out.ev_ldw 2 _ _ rfl rfl rfl Try.underlying39 rfl (by first | exact sz39 | (rw [S1.out]; exact sz39) | (rw [S2.out]; exact sz39) | (rw [S3.out]; exact sz39)) rfl ?_))
    | ((with_reducible refine gate_store (x := .tmp 2) rfl ?_); go_must (refine M.out.ev_stw 1 _ _ _ rfl rfl rfl rfl _ rfl (by first | rfl | (simp only [S1.out]; rfl) | (simp only [S1.out, S2.out]; rfl) | (simp only [S3.out]; rfl) | (simp only [S1.out, S2.out, S3.out]; rfl)) (by first | exact sz39 | (rw [S1.out]; exact sz39) | (rw [S2.out]; exact sz39) | (rw [S3.out]; exact sz39)) (by first | exact ints_one _ _ | exact Fld.one _ | exact O1.out | rfl | (simp [Value.oneCell']; done)) rfl ?_); intro wn m; simp only [List.set_cons_succ, List.set_cons_zero, List.setIfInBounds_toArray] at m; have M := Lib.hid m; clear m)
    )
  go_loopw [4] (fun v wr => ∃ k : Nat, k ≤ 100 ∧ v = .int .i64 k ∧ Mem w wr [.blk g1 65 n.vals.toArray, .blk g2 39 Cs.z.cells, .blk g3 39 (netTo n k).cells])
    (fun v _ => 100 - (intOf v).toNat)
  case atStart => exact ⟨0, by omega, rfl, M.out⟩
  case round =>
    clear M
    obtain ⟨k, hk, rfl, mm⟩ := hrel
    have M := Lib.hid mm
    clear mm
    have CO := Lib.hid (netTo_ok n hk)
    by_cases hlt : k < 100
    · have HSU := Lib.hid (netTo_succ n k)
      cases hq : n.inside k
      · have HQ := Lib.hid hq
        clear hq
        go_wp2_with (first
          | ((with_reducible refine gate_dst (N := 1) rfl ?_); go_must (refine M.out.ev_new rfl (by first | (go_simp; done) | (go_simp; rfl)) ?_); intro g1 w1 m; simp only [List.cons_append, List.nil_append] at m; have M := Lib.hid m; clear m)
          | ((with_reducible refine gate_dst (N := 2) rfl ?_); go_must (refine M.out.ev_new rfl (by first | (go_simp; done) | (go_simp; rfl)) ?_); intro g2 w2 m; simp only [List.cons_append, List.nil_append] at m; have M := Lib.hid m; clear m)
          | ((with_reducible refine gate_dst (N := 3) rfl ?_); go_must (refine M.out.ev_new rfl (by first | (go_simp; done) | (go_simp; rfl)) ?_); intro g3 w3 m; simp only [List.cons_append, List.nil_append] at m; have M := Lib.hid m; clear m)
          | ((with_reducible refine gate_store (x := .tmp 3) rfl ?_); go_must (refine M.out.ev_stw 2 _ _ _ rfl rfl rfl rfl _ rfl (by first | rfl | (simp only [S1.out]; rfl) | (simp only [S1.out, S2.out]; rfl) | (simp only [S3.out]; rfl) | (simp only [S1.out, S2.out, S3.out]; rfl)) (by first | exact sz39 | (rw [S1.out]; exact sz39) | (rw [S2.out]; exact sz39) | (rw [S3.out]; exact sz39)) (by first | exact ints_one _ _ | exact Fld.one _ | exact O1.out | rfl | (simp [Value.oneCell']; done)) rfl ?_); intro wn m; simp only [List.set_cons_succ, List.set_cons_zero, List.setIfInBounds_toArray] at m; have M := Lib.hid m; clear m)
          | ((with_reducible refine gate_dst (N := 10) rfl ?_); go_must (refine M.out.ev_ldw 0 _ _ rfl rfl rfl Try.underlying65 rfl (by first | exact sz65 | (rw [S1.out]; exact sz65) | (rw [S2.out]; exact sz65) | (rw [S3.out]; exact sz65)) rfl ?_))
          | ((with_reducible refine gate_dst (N := 15) rfl ?_); go_must (refine M.out.ev_ldw 2 _ _ rfl rfl rfl Try.underlying39 rfl (by first | exact sz39 | (rw [S1.out]; exact sz39) | (rw [S2.out]; exact sz39) | (rw [S3.out]; exact sz39)) rfl ?_))
          | ((with_reducible refine gate_store (x := .tmp 2) rfl ?_); go_must (refine M.out.ev_stw 1 _ _ _ rfl rfl rfl rfl _ rfl (by first | rfl | (simp only [S1.out]; rfl) | (simp only [S1.out, S2.out]; rfl) | (simp only [S3.out]; rfl) | (simp only [S1.out, S2.out, S3.out]; rfl)) (by first | exact sz39 | (rw [S1.out]; exact sz39) | (rw [S2.out]; exact sz39) | (rw [S3.out]; exact sz39)) (by first | exact ints_one _ _ | exact Fld.one _ | exact O1.out | rfl | (simp [Value.oneCell']; done)) rfl ?_); intro wn m; simp only [List.set_cons_succ, List.set_cons_zero, List.setIfInBounds_toArray] at m; have M := Lib.hid m; clear m)
          | (go_at_call 36; go_must (refine (l04Inside_any n HX.out k hlt _).mono ?_); rintro e w_ ⟨rfl, N_⟩; have m := M.out.join N_; clear N_; simp only [List.cons_append, List.nil_append, List.append_nil] at m; have M := Lib.hid m; clear m; rw [HQ.out])
          )
        refine ⟨⟨k + 1, by omega, by go_num, ?_⟩, by simp [intOf]; omega⟩
        rw [HSU.out, HQ.out]
        exact M.out
      · have HQ := Lib.hid hq
        clear hq
        go_wp2_with (first
          | ((with_reducible refine gate_dst (N := 1) rfl ?_); go_must (refine M.out.ev_new rfl (by first | (go_simp; done) | (go_simp; rfl)) ?_); intro g1 w1 m; simp only [List.cons_append, List.nil_append] at m; have M := Lib.hid m; clear m)
          | ((with_reducible refine gate_dst (N := 2) rfl ?_); go_must (refine M.out.ev_new rfl (by first | (go_simp; done) | (go_simp; rfl)) ?_); intro g2 w2 m; simp only [List.cons_append, List.nil_append] at m; have M := Lib.hid m; clear m)
          | ((with_reducible refine gate_dst (N := 3) rfl ?_); go_must (refine M.out.ev_new rfl (by first | (go_simp; done) | (go_simp; rfl)) ?_); intro g3 w3 m; simp only [List.cons_append, List.nil_append] at m; have M := Lib.hid m; clear m)
          | ((with_reducible refine gate_store (x := .tmp 3) rfl ?_); go_must (refine M.out.ev_stw 2 _ _ _ rfl rfl rfl rfl _ rfl (by first | rfl | (simp only [S1.out]; rfl) | (simp only [S1.out, S2.out]; rfl) | (simp only [S3.out]; rfl) | (simp only [S1.out, S2.out, S3.out]; rfl)) (by first | exact sz39 | (rw [S1.out]; exact sz39) | (rw [S2.out]; exact sz39) | (rw [S3.out]; exact sz39)) (by first | exact ints_one _ _ | exact Fld.one _ | exact O1.out | rfl | (simp [Value.oneCell']; done)) rfl ?_); intro wn m; simp only [List.set_cons_succ, List.set_cons_zero, List.setIfInBounds_toArray] at m; have M := Lib.hid m; clear m)
          | ((with_reducible refine gate_dst (N := 10) rfl ?_); go_must (refine M.out.ev_ldw 0 _ _ rfl rfl rfl Try.underlying65 rfl (by first | exact sz65 | (rw [S1.out]; exact sz65) | (rw [S2.out]; exact sz65) | (rw [S3.out]; exact sz65)) rfl ?_))
          | ((with_reducible refine gate_dst (N := 15) rfl ?_); go_must (refine M.out.ev_ldw 2 _ _ rfl rfl rfl Try.underlying39 rfl (by first | exact sz39 | (rw [S1.out]; exact sz39) | (rw [S2.out]; exact sz39) | (rw [S3.out]; exact sz39)) rfl ?_))
          | ((with_reducible refine gate_store (x := .tmp 2) rfl ?_); go_must (refine M.out.ev_stw 1 _ _ _ rfl rfl rfl rfl _ rfl (by first | rfl | (simp only [S1.out]; rfl) | (simp only [S1.out, S2.out]; rfl) | (simp only [S3.out]; rfl) | (simp only [S1.out, S2.out, S3.out]; rfl)) (by first | exact sz39 | (rw [S1.out]; exact sz39) | (rw [S2.out]; exact sz39) | (rw [S3.out]; exact sz39)) (by first | exact ints_one _ _ | exact Fld.one _ | exact O1.out | rfl | (simp [Value.oneCell']; done)) rfl ?_); intro wn m; simp only [List.set_cons_succ, List.set_cons_zero, List.setIfInBounds_toArray] at m; have M := Lib.hid m; clear m)
          | (go_at_call 36; go_must (refine (l04Inside_any n HX.out k hlt _).mono ?_); rintro e w_ ⟨rfl, N_⟩; have m := M.out.join N_; clear N_; simp only [List.cons_append, List.nil_append, List.append_nil] at m; have M := Lib.hid m; clear m; rw [HQ.out])
          | (go_at_call 55; go_must (refine (l01Put_any 2 M.out _ _ CO.out rfl k hlt).mono ?_); rintro e w_ ⟨rfl, m⟩; simp only [List.set_cons_succ, List.set_cons_zero] at m; have M := Lib.hid m; clear m)
          )
        refine ⟨⟨k + 1, by omega, by go_num, ?_⟩, by simp [intOf]; omega⟩
        rw [HSU.out, HQ.out]
        exact M.out
    · obtain rfl : k = 100 := by omega
      rw [show netTo n 100 = netSet n from rfl] at M
      go_wp2_with (first
        | ((with_reducible refine gate_dst (N := 1) rfl ?_); go_must (refine M.out.ev_new rfl (by first | (go_simp; done) | (go_simp; rfl)) ?_); intro g1 w1 m; simp only [List.cons_append, List.nil_append] at m; have M := Lib.hid m; clear m)
        | ((with_reducible refine gate_dst (N := 2) rfl ?_); go_must (refine M.out.ev_new rfl (by first | (go_simp; done) | (go_simp; rfl)) ?_); intro g2 w2 m; simp only [List.cons_append, List.nil_append] at m; have M := Lib.hid m; clear m)
        | ((with_reducible refine gate_dst (N := 3) rfl ?_); go_must (refine M.out.ev_new rfl (by first | (go_simp; done) | (go_simp; rfl)) ?_); intro g3 w3 m; simp only [List.cons_append, List.nil_append] at m; have M := Lib.hid m; clear m)
        | ((with_reducible refine gate_store (x := .tmp 3) rfl ?_); go_must (refine M.out.ev_stw 2 _ _ _ rfl rfl rfl rfl _ rfl (by first | rfl | (simp only [S1.out]; rfl) | (simp only [S1.out, S2.out]; rfl) | (simp only [S3.out]; rfl) | (simp only [S1.out, S2.out, S3.out]; rfl)) (by first | exact sz39 | (rw [S1.out]; exact sz39) | (rw [S2.out]; exact sz39) | (rw [S3.out]; exact sz39)) (by first | exact ints_one _ _ | exact Fld.one _ | exact O1.out | rfl | (simp [Value.oneCell']; done)) rfl ?_); intro wn m; simp only [List.set_cons_succ, List.set_cons_zero, List.setIfInBounds_toArray] at m; have M := Lib.hid m; clear m)
        | ((with_reducible refine gate_dst (N := 10) rfl ?_); go_must (refine M.out.ev_ldw 0 _ _ rfl rfl rfl Try.underlying65 rfl (by first | exact sz65 | (rw [S1.out]; exact sz65) | (rw [S2.out]; exact sz65) | (rw [S3.out]; exact sz65)) rfl ?_))
        | ((with_reducible refine gate_dst (N := 15) rfl ?_); go_must (refine M.out.ev_ldw 2 _ _ rfl rfl rfl Try.underlying39 rfl (by first | exact sz39 | (rw [S1.out]; exact sz39) | (rw [S2.out]; exact sz39) | (rw [S3.out]; exact sz39)) rfl ?_))
        | ((with_reducible refine gate_store (x := .tmp 2) rfl ?_); go_must (refine M.out.ev_stw 1 _ _ _ rfl rfl rfl rfl _ rfl (by first | rfl | (simp only [S1.out]; rfl) | (simp only [S1.out, S2.out]; rfl) | (simp only [S3.out]; rfl) | (simp only [S1.out, S2.out, S3.out]; rfl)) (by first | exact sz39 | (rw [S1.out]; exact sz39) | (rw [S2.out]; exact sz39) | (rw [S3.out]; exact sz39)) (by first | exact ints_one _ _ | exact Fld.one _ | exact O1.out | rfl | (simp [Value.oneCell']; done)) rfl ?_); intro wn m; simp only [List.set_cons_succ, List.set_cons_zero, List.setIfInBounds_toArray] at m; have M := Lib.hid m; clear m)
        )
      exact ret_cell rfl (M.out.blk 1 rfl) Try.underlying39 rfl sz39 rfl ⟨rfl, M.out.take 0⟩
set_option maxRecDepth 100000 in
set_option maxHeartbeats 1000000 in
theorem l04Meet_any (a b : Cs) (ha : a.ok) (hb : b.ok) (w : World) :
    Calls Try.prog 89 #[.agg a.cells, .agg b.cells] w fun e w' => e = .returned (.agg (a.and b).cells) ∧ Mem w w' [] := by
  have M := Lib.hid (Mem.start w)
  have hb1 := bits_and_u64_nat a.lo b.lo ha.l hb.l
  have hb2 := bits_and_u64_nat a.hi b.hi ha.h hb.h
  have O1 := Lib.hid (Cs.one (a.and b))
  have q0 : a.cells[0]? = some (.int .u64 a.lo) := rfl
  have q1 : a.cells[1]? = some (.int .u64 a.hi) := rfl
  have q2 : b.cells[0]? = some (.int .u64 b.lo) := rfl
  have q3 : b.cells[1]? = some (.int .u64 b.hi) := rfl
  go_enter Try.func89, Try.ntmps89
  go_wp2_with (first
    | ((with_reducible refine gate_dst (N := 2) rfl ?_); go_must (refine M.out.ev_new rfl (by first | (go_simp; done) | (go_simp; rfl)) ?_); intro g2 w2 m; simp only [List.cons_append, List.nil_append] at m; have M := Lib.hid m; clear m)
    | ((with_reducible refine gate_dst (N := 3) rfl ?_); go_must (refine M.out.ev_new rfl (by first | (go_simp; done) | (go_simp; rfl)) ?_); intro g3 w3 m; simp only [List.cons_append, List.nil_append] at m; have M := Lib.hid m; clear m)
    | ((with_reducible refine gate_dst (N := 4) rfl ?_); go_must (refine M.out.ev_new rfl (by first | (go_simp; done) | (go_simp; rfl)) ?_); intro g4 w4 m; simp only [List.cons_append, List.nil_append] at m; have M := Lib.hid m; clear m)
    | ((with_reducible refine gate_dst (N := 6) rfl ?_); go_must (refine M.out.ev_ld 0 _ _ rfl rfl rfl Try.underlying30 rfl rfl (by first | assumption | rfl) ?_))
    | ((with_reducible refine gate_dst (N := 8) rfl ?_); go_must (refine M.out.ev_ld 1 _ _ rfl rfl rfl Try.underlying30 rfl rfl (by first | assumption | rfl) ?_))
    | ((with_reducible refine gate_dst (N := 11) rfl ?_); go_must (refine M.out.ev_ld 0 _ _ rfl rfl rfl Try.underlying30 rfl rfl (by first | assumption | rfl) ?_))
    | ((with_reducible refine gate_dst (N := 13) rfl ?_); go_must (refine M.out.ev_ld 1 _ _ rfl rfl rfl Try.underlying30 rfl rfl (by first | assumption | rfl) ?_))
    | ((with_reducible refine gate_store (x := .tmp 4) rfl ?_); go_must (refine M.out.ev_stw 2 _ _ _ rfl rfl rfl rfl _ rfl (by first | rfl | (simp only [S1.out]; rfl) | (simp only [S1.out, S2.out]; rfl) | (simp only [S3.out]; rfl) | (simp only [S1.out, S2.out, S3.out]; rfl)) (by first | exact sz39 | (rw [S1.out]; exact sz39) | (rw [S2.out]; exact sz39) | (rw [S3.out]; exact sz39)) (by first | exact ints_one _ _ | exact Fld.one _ | exact O1.out | rfl | (simp [Value.oneCell']; done)) rfl ?_); intro wn m; simp only [List.set_cons_succ, List.set_cons_zero, List.setIfInBounds_toArray] at m; have M := Lib.hid m; clear m)
    )
  exact ret_cell rfl (M.out.blk 2 rfl) Try.underlying39 rfl sz39 rfl ⟨rfl, M.out.take 0⟩
set_option maxRecDepth 100000 in
set_option maxHeartbeats 1000000 in
theorem l04Less_any (a b : Cs) (ha : a.ok) (hb : b.ok) (w : World) :
    Calls Try.prog 62 #[.agg a.cells, .agg b.cells] w fun e w' => e = .returned (.agg (a.less b).cells) ∧ Mem w w' [] := by
  have M := Lib.hid (Mem.start w)
  have hb1 := bits_andn a.lo b.lo
  have hb2 := bits_andn a.hi b.hi
  have O1 := Lib.hid (Cs.one (a.less b))
  have q0 : a.cells[0]? = some (.int .u64 a.lo) := rfl
  have q1 : a.cells[1]? = some (.int .u64 a.hi) := rfl
  have q2 : b.cells[0]? = some (.int .u64 b.lo) := rfl
  have q3 : b.cells[1]? = some (.int .u64 b.hi) := rfl
  go_enter Try.func62, Try.ntmps62
  go_wp2_with (first
    | ((with_reducible refine gate_dst (N := 2) rfl ?_); go_must (refine M.out.ev_new rfl (by first | (go_simp; done) | (go_simp; rfl)) ?_); intro g2 w2 m; simp only [List.cons_append, List.nil_append] at m; have M := Lib.hid m; clear m)
    | ((with_reducible refine gate_dst (N := 3) rfl ?_); go_must (refine M.out.ev_new rfl (by first | (go_simp; done) | (go_simp; rfl)) ?_); intro g3 w3 m; simp only [List.cons_append, List.nil_append] at m; have M := Lib.hid m; clear m)
    | ((with_reducible refine gate_dst (N := 4) rfl ?_); go_must (refine M.out.ev_new rfl (by first | (go_simp; done) | (go_simp; rfl)) ?_); intro g4 w4 m; simp only [List.cons_append, List.nil_append] at m; have M := Lib.hid m; clear m)
    | ((with_reducible refine gate_dst (N := 6) rfl ?_); go_must (refine M.out.ev_ld 0 _ _ rfl rfl rfl Try.underlying30 rfl rfl (by first | assumption | rfl) ?_))
    | ((with_reducible refine gate_dst (N := 8) rfl ?_); go_must (refine M.out.ev_ld 1 _ _ rfl rfl rfl Try.underlying30 rfl rfl (by first | assumption | rfl) ?_))
    | ((with_reducible refine gate_dst (N := 11) rfl ?_); go_must (refine M.out.ev_ld 0 _ _ rfl rfl rfl Try.underlying30 rfl rfl (by first | assumption | rfl) ?_))
    | ((with_reducible refine gate_dst (N := 13) rfl ?_); go_must (refine M.out.ev_ld 1 _ _ rfl rfl rfl Try.underlying30 rfl rfl (by first | assumption | rfl) ?_))
    | ((with_reducible refine gate_store (x := .tmp 4) rfl ?_); go_must (refine M.out.ev_stw 2 _ _ _ rfl rfl rfl rfl _ rfl (by first | rfl | (simp only [S1.out]; rfl) | (simp only [S1.out, S2.out]; rfl) | (simp only [S3.out]; rfl) | (simp only [S1.out, S2.out, S3.out]; rfl)) (by first | exact sz39 | (rw [S1.out]; exact sz39) | (rw [S2.out]; exact sz39) | (rw [S3.out]; exact sz39)) (by first | exact ints_one _ _ | exact Fld.one _ | exact O1.out | rfl | (simp [Value.oneCell']; done)) rfl ?_); intro wn m; simp only [List.set_cons_succ, List.set_cons_zero, List.setIfInBounds_toArray] at m; have M := Lib.hid m; clear m)
    )
  exact ret_cell rfl (M.out.blk 2 rfl) Try.underlying39 rfl sz39 rfl ⟨rfl, M.out.take 0⟩
/-- The rows of a net before one, and of that the columns before one. -/
def rowsTo (n : Net) (j i : Nat) : Nat → Bool := fun k => n.inside k && (decide ((k : Int) / 10 < n.y + j) || (decide ((k : Int) / 10 = n.y + j) && decide ((k : Int) % 10 < n.x + i)))
theorem rows_put {n : Net} (h : n.plain = true) {j i : Nat} (hj : (j : Int) < n.high) (hi : (i : Int) < n.wide) (hy : n.y + n.high ≤ 10) (hw : n.x + n.wide ≤ 10) {c : Nat} (hc : (c : Int) = n.x + i + 10 * (n.y + j)) :
    (pset (rowsTo n j i)).put c = pset (rowsTo n j (i + 1)) := by
  obtain ⟨⟨a0, a1⟩, ⟨b0, b1⟩, _, _⟩ := Net.plain_iff.1 h
  refine pset_of (Cs.put_ok (pset_ok _) (by omega)) (fun k h1 _ => ?_) fun k hk => ?_
  · rw [Cs.put_has, pset_small _ h1, Bool.false_or, decide_eq_false (by omega)]
  · rw [Cs.put_has, pset_has _ hk, Bool.eq_iff_iff]
    simp only [rowsTo, Net.inside, Bool.or_eq_true, Bool.and_eq_true, decide_eq_true_eq, inB_iff]
    omega
theorem rows_next {n : Net} (h : n.plain = true) {j : Nat} : pset (rowsTo n j n.wide.toNat) = pset (rowsTo n (j + 1) 0) := by
  obtain ⟨⟨a0, a1⟩, ⟨b0, b1⟩, _, _⟩ := Net.plain_iff.1 h
  refine pset_congr fun k hk => ?_
  rw [Bool.eq_iff_iff]
  simp only [rowsTo, Net.inside, Bool.or_eq_true, Bool.and_eq_true, decide_eq_true_eq, inB_iff]
  omega
theorem rows_start (n : Net) : pset (rowsTo n 0 0) = Cs.z := by
  refine pset_z.2 fun k _ => ?_
  rw [← Bool.not_eq_true]
  simp only [rowsTo, Net.inside, Bool.or_eq_true, Bool.and_eq_true, decide_eq_true_eq, inB_iff]
  omega
theorem rows_end {n : Net} (h : n.plain = true) : pset (rowsTo n n.high.toNat 0) = netSet n := by
  obtain ⟨⟨a0, a1⟩, ⟨b0, b1⟩, _, _⟩ := Net.plain_iff.1 h
  refine pset_congr fun k hk => ?_
  rw [Bool.eq_iff_iff]
  simp only [rowsTo, Net.inside, Bool.or_eq_true, Bool.and_eq_true, decide_eq_true_eq, inB_iff]
  omega
set_option maxRecDepth 100000 in
set_option maxHeartbeats 2000000 in
theorem cellsN_any (n : Net) (hp : n.plain = true) (hw : n.x + n.wide ≤ 10) (hy : n.y + n.high ≤ 10) (w : World) :
    Calls Try.prog 46 #[.agg n.vals.toArray] w fun e w' => e = .returned (.agg (netSet n).cells) ∧ Mem w w' [] := by
  have M := Lib.hid (Mem.start w)
  have HP := Lib.hid hp
  obtain ⟨⟨a0, a1⟩, ⟨b0, b1⟩, ⟨c0, c1⟩, ⟨d0, d1⟩⟩ := Net.plain_iff.1 hp
  have O1 := Lib.hid (Cs.one (netSet n))
  have f1 : IntKind.i8.wrap (n.x + n.wide) = n.x + n.wide := IntWalk.i8_in _ (by omega)
  have f2 : IntKind.i8.wrap (n.y + n.high) = n.y + n.high := IntWalk.i8_in _ (by omega)
  obtain ⟨H, hH⟩ : ∃ H : Nat, n.high = H := ⟨n.high.toNat, by omega⟩
  obtain ⟨W, hW⟩ : ∃ W : Nat, n.wide = W := ⟨n.wide.toNat, by omega⟩
  have HH := Lib.hid hH
  have HW := Lib.hid hW
  have RS := Lib.hid (rows_start n)
  have RE := Lib.hid (show pset (rowsTo n H 0) = netSet n by rw [← rows_end hp, hH, Int.toNat_natCast])
  have RN := Lib.hid (show ∀ j, pset (rowsTo n j W) = pset (rowsTo n (j + 1) 0) from fun j => by rw [← rows_next hp, hW, Int.toNat_natCast])
  clear hp hH hW
  go_enter Try.func46, Try.ntmps46
  go_wp2_with (first
    | ((with_reducible refine gate_dst (N := 1) rfl ?_); go_must (refine M.out.ev_new rfl (by first | (go_simp; done) | (go_simp; rfl)) ?_); intro g1 w1 m; simp only [List.cons_append, List.nil_append] at m; have M := Lib.hid m; clear m; have c0 := M.out.cell (j := 0) (v := .int .i8 n.x) 0 rfl rfl; have c1 := M.out.cell (j := 1) (v := .int .i8 n.y) 0 rfl rfl; have c2 := M.out.cell (j := 2) (v := .int .i8 n.wide) 0 rfl rfl; have c3 := M.out.cell (j := 3) (v := .int .i8 n.high) 0 rfl rfl)
    | ((with_reducible refine gate_dst (N := 2) rfl ?_); go_must (refine M.out.ev_new rfl (by first | (go_simp; done) | (go_simp; rfl)) ?_); intro g2 w2 m; simp only [List.cons_append, List.nil_append] at m; have M := Lib.hid m; clear m)
    | ((with_reducible refine gate_dst (N := 3) rfl ?_); go_must (refine M.out.ev_new rfl (by first | (go_simp; done) | (go_simp; rfl)) ?_); intro g3 w3 m; simp only [List.cons_append, List.nil_append] at m; have M := Lib.hid m; clear m)
    | ((with_reducible refine gate_store (x := .tmp 3) rfl ?_); go_must (refine M.out.ev_stw 2 _ _ _ rfl rfl rfl rfl Cs.z.cells rfl rfl sz39 (Cs.one _) rfl ?_); intro wn m; simp only [List.set_cons_succ, List.set_cons_zero] at m; have M := Lib.hid m; clear m; have c0 := M.out.cell (j := 0) (v := .int .i8 n.x) 0 rfl rfl; have c1 := M.out.cell (j := 1) (v := .int .i8 n.y) 0 rfl rfl; have c2 := M.out.cell (j := 2) (v := .int .i8 n.wide) 0 rfl rfl; have c3 := M.out.cell (j := 3) (v := .int .i8 n.high) 0 rfl rfl)
    )
  go_loopw [4] (fun v wr => ∃ j : Nat, j ≤ H ∧ v = .int .i8 (n.y + j) ∧ Mem w wr [.blk g1 65 n.vals.toArray, .blk g2 39 Cs.z.cells, .blk g3 39 (pset (rowsTo n j 0)).cells])
    (fun v _ => (n.y + n.high - intOf v).toNat)
  case atStart => exact ⟨0, by omega, by simp, by rw [RS.out]; exact M.out⟩
  case round =>
    clear M
    obtain ⟨j, hj, rfl, mm⟩ := hrel
    have M := Lib.hid mm
    clear mm
    have c0 := M.out.cell (j := 0) (v := .int .i8 n.x) 0 rfl rfl
    have c1 := M.out.cell (j := 1) (v := .int .i8 n.y) 0 rfl rfl
    have c2 := M.out.cell (j := 2) (v := .int .i8 n.wide) 0 rfl rfl
    have c3 := M.out.cell (j := 3) (v := .int .i8 n.high) 0 rfl rfl
    have hHH := HH.out
    have hWW := HW.out
    by_cases hlt : j < H
    · have k1 : n.y + (j : Int) < n.y + n.high := by omega
      have k2 : IntKind.i8.wrap (n.y + (j : Int) + 1) = n.y + (j : Int) + 1 := IntWalk.i8_in _ (by omega)
      have k3 : IntKind.i64.wrap (n.y + (j : Int)) = n.y + (j : Int) := IntWalk.i64_in _ (by omega)
      have k4 : IntKind.i64.wrap (10 * (n.y + (j : Int))) = 10 * (n.y + (j : Int)) := IntWalk.i64_in _ (by omega)
      have k5 : (j : Int) < n.high := by omega
      clear hHH hWW
      go_wp2
      go_loopw [5] (fun v wr => ∃ i : Nat, i ≤ W ∧ v = .int .i8 (n.x + i) ∧ Mem w wr [.blk g1 65 n.vals.toArray, .blk g2 39 Cs.z.cells, .blk g3 39 (pset (rowsTo n j i)).cells])
        (fun v _ => (n.x + n.wide - intOf v).toNat)
      case atStart => exact ⟨0, by omega, by simp, M.out⟩
      case round =>
        clear M c0 c1 c2 c3
        obtain ⟨i, hi, rfl, mm⟩ := hrel
        have M := Lib.hid mm
        clear mm
        have c0 := M.out.cell (j := 0) (v := .int .i8 n.x) 0 rfl rfl
        have c1 := M.out.cell (j := 1) (v := .int .i8 n.y) 0 rfl rfl
        have c2 := M.out.cell (j := 2) (v := .int .i8 n.wide) 0 rfl rfl
        have c3 := M.out.cell (j := 3) (v := .int .i8 n.high) 0 rfl rfl
        have hWW := HW.out
        by_cases hil : i < W
        · have m1 : n.x + (i : Int) < n.x + n.wide := by omega
          have m2 : IntKind.i8.wrap (n.x + (i : Int) + 1) = n.x + (i : Int) + 1 := IntWalk.i8_in _ (by omega)
          have m3 : IntKind.i64.wrap (n.x + (i : Int)) = n.x + (i : Int) := IntWalk.i64_in _ (by omega)
          obtain ⟨cc, hcc⟩ : ∃ cc : Nat, (cc : Int) = n.x + i + 10 * (n.y + j) := ⟨(n.x + i + 10 * (n.y + j)).toNat, by omega⟩
          have m4 : n.x + (i : Int) + 10 * (n.y + (j : Int)) = (cc : Int) := hcc.symm
          have m5 : IntKind.i64.wrap (cc : Int) = cc := IntWalk.i64_in _ (by omega)
          have hc100 : cc < 100 := by omega
          have RP := Lib.hid (rows_put HP.out k5 (by omega : (i : Int) < n.wide) hy hw hcc)
          have CO := Lib.hid (pset_ok (rowsTo n j i))
          clear hWW hcc
          go_wp2_with (first
            | (go_at_call 81; go_must (refine (put_any 2 M.out _ _ CO.out rfl cc hc100).mono ?_); rintro e w_ ⟨rfl, m⟩; simp only [List.set_cons_succ, List.set_cons_zero, RP.out] at m; have M := Lib.hid m; clear m)
            )
          exact ⟨⟨i + 1, by omega, by congr 1; push_cast; omega, M.out⟩, by simp [intOf]; omega⟩
        · obtain rfl : i = W := by omega
          have m1 : ¬ (n.x + (i : Int) < n.x + n.wide) := by omega
          clear hWW
          go_wp2
          refine ⟨⟨j + 1, by omega, by congr 1; push_cast; omega, ?_⟩, by simp [intOf]; omega⟩
          rw [← RN.out]
          exact M.out
    · obtain rfl : j = H := by omega
      have k1 : ¬ (n.y + (j : Int) < n.y + n.high) := by omega
      rw [RE.out] at M
      clear hHH hWW
      go_wp2_with (first
        | ((with_reducible refine gate_dst (N := 36) rfl ?_); go_must (refine M.out.ev_ldw 2 _ _ rfl rfl rfl Try.underlying39 rfl sz39 rfl ?_))
        | ((with_reducible refine gate_store (x := .tmp 2) rfl ?_); go_must (refine M.out.ev_stw 1 _ _ _ rfl rfl rfl rfl _ rfl rfl sz39 O1.out rfl ?_); intro wn m; simp only [List.set_cons_succ, List.set_cons_zero, List.setIfInBounds_toArray] at m; have M := Lib.hid m; clear m)
        )
      exact ret_cell rfl (M.out.blk 1 rfl) Try.underlying39 rfl sz39 rfl ⟨rfl, M.out.take 0⟩
end Go.Proofs.Ytjkclggdaafmaaa
namespace Go.Proofs.Ytjkclggdaafmaaa
set_option linter.unusedSimpArgs false
set_option linter.unusedVariables false
open Go.RowKit
attribute [local go_sem] cell?_mk frozen?_mk

def Cs.same (a b : Cs) : Bool := decide (a.lo = b.lo) && decide (a.hi = b.hi)
theorem eqCsInt (a b c d : Int) (w : World) : (Op.equalIn 10000 39 (.agg #[.int .u64 a, .int .u64 b]) (.agg #[.int .u64 c, .int .u64 d])).run Try.prog w = .ok (a == c && b == d) w := by
  have u3 := Try.underlying30
  have a3 := Try.isAgg30
  have z3 := Try.sizeOf30
  rw [show (10000 : Nat) = 9999 + 1 from rfl, Op.equalIn]
  simp only [Sem.run_bind, run_underlying Try.underlying39, Result.andThen_ok]
  simp only [Std.Legacy.Range.forIn_eq_forIn_range', Std.Legacy.Range.size, Nat.sub_zero, Nat.add_sub_cancel, Nat.div_one, List.range'_succ, List.range'_zero, List.forIn_cons, List.forIn_nil]
  go_simp
  by_cases h1 : a = c <;> by_cases h2 : b = d <;> simp [h1, h2]
theorem eqCs (a b : Cs) (w : World) : (binOp .eql 39 (.agg a.cells) (.agg b.cells)).run Try.prog w = .ok (.bool (a.same b)) w := by
  rw [run_eql_struct]
  show ((Op.equalIn 10000 39 (.agg #[.int .u64 a.lo, .int .u64 a.hi]) (.agg #[.int .u64 b.lo, .int .u64 b.hi])).run Try.prog w).andThen _ = _
  rw [eqCsInt]
  show Result.ok (Value.bool _) w = _
  congr 2
  rw [Cs.same, Bool.eq_iff_iff]
  simp
  omega
theorem Cs.same_iff {a b : Cs} : a.same b = true ↔ a = b := by
  obtain ⟨a1, a2⟩ := a
  obtain ⟨b1, b2⟩ := b
  simp only [Cs.same, Bool.and_eq_true, decide_eq_true_eq, Cs.mk.injEq]
end Go.Proofs.Ytjkclggdaafmaaa
