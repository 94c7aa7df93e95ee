/- Texts of a proof, laid together: CheapS. -/
import Derived.Test.YtjkclggdaafmaaaZD14
import Derived.Test.YtjkclggdaafmaaaZD21
namespace Go.Proofs.Ytjkclggdaafmaaa
set_option linter.unusedSimpArgs false
set_option linter.unusedVariables false
open Go.RowKit
attribute [local go_sem] cell?_mk frozen?_mk
--ONES exact Cs.one _ | exact Net.one _ | exact Prices.one _
theorem elem_uint16 : ElemOk Try.prog 83 75 (.int .u16 0) 1 2 := ⟨by kernel_rfl, by kernel_rfl, by kernel_rfl, by decide⟩
theorem elem_NetS : ElemOk Try.prog 77 32 (.slice none 0 0) 1 24 := ⟨by kernel_rfl, by kernel_rfl, by kernel_rfl, by decide⟩
theorem elem_u16S : ElemOk Try.prog 78 83 (.slice none 0 0) 1 24 := ⟨by kernel_rfl, by kernel_rfl, by kernel_rfl, by decide⟩
theorem elem_i64S : ElemOk Try.prog 79 49 (.slice none 0 0) 1 24 := ⟨by kernel_rfl, by kernel_rfl, by kernel_rfl, by decide⟩
/-- What has been made for the first j targets. -/
def Lots (F : Fld) (p : Prices) (ts : List Nat) (j : Nat) (an am ac : List Value) (rs : List Rw) : Prop :=
  ∀ t, t < j → ∃ A1 c1 A2 c2 A3 c3, an[t]? = some (.slice A1 (netsAt F (ts.getD t 0)).length c1) ∧ am[t]? = some (.slice A2 (netsAt F (ts.getD t 0)).length c2) ∧ ac[t]? = some (.slice A3 (netsAt F (ts.getD t 0)).length c3) ∧
    (⟨.slice A1 (netsAt F (ts.getD t 0)).length c1, 65, 4, (netsAt F (ts.getD t 0)).length, flat Net.vals (netsAt F (ts.getD t 0))⟩ : Rw) ∈ rs ∧
    (⟨.slice A2 (netsAt F (ts.getD t 0)).length c2, 75, 1, (netsAt F (ts.getD t 0)).length, flat (fun x => one16 (maskN ts x)) (netsAt F (ts.getD t 0))⟩ : Rw) ∈ rs ∧
    (⟨.slice A3 (netsAt F (ts.getD t 0)).length c3, 2, 1, (netsAt F (ts.getD t 0)).length, flat (oneC p) (netsAt F (ts.getD t 0))⟩ : Rw) ∈ rs
theorem Lots.next {F : Fld} {p : Prices} {ts : List Nat} {j k : Nat} {an am ac : List Value} {rs : List Rw} (h : Lots F p ts j an am ac rs) (hk : ts[j]? = some k) (h1 : an.length = j) (h2 : am.length = j) (h3 : ac.length = j)
    {A1 A2 A3 : Option Addr} {c1 c2 c3 : Nat} :
    Lots F p ts (j + 1) (an ++ [.slice A1 (netsAt F k).length c1]) (am ++ [.slice A2 (netsAt F k).length c2]) (ac ++ [.slice A3 (netsAt F k).length c3])
      (rs ++ [⟨.slice A1 (netsAt F k).length c1, 65, 4, (netsAt F k).length, flat Net.vals (netsAt F k)⟩] ++ [⟨.slice A2 (netsAt F k).length c2, 75, 1, (netsAt F k).length, flat (fun x => one16 (maskN ts x)) (netsAt F k)⟩] ++
        [⟨.slice A3 (netsAt F k).length c3, 2, 1, (netsAt F k).length, flat (oneC p) (netsAt F k)⟩]) := by
  intro t ht
  by_cases e : t = j
  · subst e
    have hd : ts.getD t 0 = k := by rw [List.getD_eq_getElem?_getD, hk]; rfl
    rw [hd]
    refine ⟨A1, c1, A2, c2, A3, c3, by rw [List.getElem?_append_right (by omega), h1, Nat.sub_self]; rfl, by rw [List.getElem?_append_right (by omega), h2, Nat.sub_self]; rfl, by rw [List.getElem?_append_right (by omega), h3, Nat.sub_self]; rfl, by simp, by simp, by simp⟩
  · obtain ⟨A1', c1', A2', c2', A3', c3', e1, e2, e3, m1, m2, m3⟩ := h t (by omega)
    have k1 := (List.getElem?_eq_some_iff.1 e1).1
    have k2 := (List.getElem?_eq_some_iff.1 e2).1
    have k3 := (List.getElem?_eq_some_iff.1 e3).1
    exact ⟨A1', c1', A2', c2', A3', c3', by rw [List.getElem?_append_left k1]; exact e1, by rw [List.getElem?_append_left k2]; exact e2, by rw [List.getElem?_append_left k3]; exact e3,
      List.mem_append_left _ (List.mem_append_left _ (List.mem_append_left _ m1)), List.mem_append_left _ (List.mem_append_left _ (List.mem_append_left _ m2)), List.mem_append_left _ (List.mem_append_left _ (List.mem_append_left _ m3))⟩
theorem Lots.shop {F : Fld} {p : Prices} {ts : List Nat} {an am ac : List Value} {rs : List Rw} {w wr : World} {x0 x1 x2 x3 : Ent} {g : Nat} {ty : TypeId} {cs : Array Value} {vn vm vc : Value}
    (M : Mem w wr [x0, x1, x2, x3, .blk g ty cs, .row vn 32 1 ts.length an, .row vm 83 1 ts.length am, .row vc 49 1 ts.length ac, .lot rs]) (h : Lots F p ts ts.length an am ac rs) : Shop2 F p ts g wr vn vm vc := fun h0 => by
  obtain ⟨gn, cn, rfl, _⟩ := M.row_form 5 rfl h0
  obtain ⟨gk, ck, rfl, _⟩ := M.row_form 6 rfl h0
  obtain ⟨gc, cc, rfl, _⟩ := M.row_form 7 rfl h0
  refine ⟨gn, 0, cn, gk, 0, ck, gc, 0, cc, rfl, rfl, rfl, fun t ht => ?_⟩
  have htl : t < ts.length := by
    rcases Nat.lt_or_ge t ts.length with h1 | h1
    · exact h1
    · rw [List.getElem?_eq_none h1] at ht
      cases ht
  obtain ⟨A1, c1, A2, c2, A3, c3, e1, e2, e3, m1, m2, m3⟩ := h t htl
  have s5 := fun e => M.sep 4 5 _ _ (by decide) rfl rfl g rfl e
  have s6 := fun e => M.sep 4 6 _ _ (by decide) rfl rfl g rfl e
  have s7 := fun e => M.sep 4 7 _ _ (by decide) rfl rfl g rfl e
  have s8 := fun (r : Rw) (hr : r ∈ rs) e => M.sep 4 8 _ _ (by decide) rfl rfl g rfl ⟨r, hr, e⟩
  refine ⟨A1, c1, A2, c2, A3, c3, fun w' hw' => ⟨?_, ?_, ?_, row_sl (hw'.row (M.lots 8 rfl m1) (s8 _ m1)), row_sl (hw'.row (M.lots 8 rfl m2) (s8 _ m2)), row_sl (hw'.row (M.lots 8 rfl m3) (s8 _ m3))⟩⟩
  · rw [Nat.zero_add, (hw'.row (M.row 5 rfl) s5).cellAt t (by omega), e1]
  · rw [Nat.zero_add, (hw'.row (M.row 6 rfl) s6).cellAt t (by omega), e2]
  · rw [Nat.zero_add, (hw'.row (M.row 7 rfl) s7).cellAt t (by omega), e3]
set_option maxRecDepth 100000 in
set_option maxHeartbeats 8000000 in
theorem spec_CheapestNets_any (F : Fld) (hF : F.ok) (p : Prices) (hp : p.ok) (c : Cs) (hc : c.ok) (b : Int) (w : World) :
    Calls Try.prog 5 #[.agg F.cells, .agg p.vals.toArray, .agg c.cells, .int .i64 b] w (RetNI w (chRes F p c b) (chLeast F p c b) (chCode F p c b)) := by
  have M := Lib.hid (Mem.start w)
  have HF := Lib.hid hF
  have S1 := Lib.hid (Fld.size hF.toLen)
  clear hF
  by_cases hk : prCode F p [] c = 0
  · have h1 := (prCode_0 hk).2
    have HG := Lib.hid (prCode_0 hk).1
    have HTG := Lib.hid (ntCode_0 h1).2.2.2
    have H12 := Lib.hid (ntCode_0 h1).2.2.1
    have HK := Lib.hid hk
    have HV := Lib.hid (netsOk_iff.1 (ntCode_0 h1).1).1
    cases hb : inB b 0 20000
    · have HIN := Lib.hid hb
      have HX := Lib.hid (ch_range hk hb)
      clear hk h1 hb
      go_enter Try.func5, Try.ntmps5
      go_wp2_with (first
        | ((with_reducible refine gate_dst (N := 4) rfl ?_); go_must (refine M.out.ev_new rfl (by first | (go_simp; done) | (go_simp; rfl)) ?_); intro g4 w4 m; simp only [List.cons_append, List.nil_append] at m; have M := Lib.hid m; clear m; try have q4_6 := M.out.cell (j := 6) 4 rfl (by first | assumption | rfl); try have q4_7 := M.out.cell (j := 7) 4 rfl (by first | assumption | rfl))
        | ((with_reducible refine gate_dst (N := 5) rfl ?_); go_must (refine M.out.ev_new rfl (by first | (go_simp; done) | (go_simp; rfl)) ?_); intro g5 w5 m; simp only [List.cons_append, List.nil_append] at m; have M := Lib.hid m; clear m; try have q4_6 := M.out.cell (j := 6) 4 rfl (by first | assumption | rfl); try have q4_7 := M.out.cell (j := 7) 4 rfl (by first | assumption | rfl))
        | ((with_reducible refine gate_dst (N := 6) rfl ?_); go_must (refine M.out.ev_new rfl (by first | (go_simp; done) | (go_simp; rfl)) ?_); intro g6 w6 m; simp only [List.cons_append, List.nil_append] at m; have M := Lib.hid m; clear m; try have q4_6 := M.out.cell (j := 6) 4 rfl (by first | assumption | rfl); try have q4_7 := M.out.cell (j := 7) 4 rfl (by first | assumption | rfl))
        | ((with_reducible refine gate_dst (N := 21) rfl ?_); go_must (refine M.out.ev_ldw 1 _ _ rfl rfl rfl Try.underlying37 rfl (by first | exact sz37 | (rw [S1.out]; exact sz37) | (rw [S2.out]; exact sz37) | (rw [S3.out]; exact sz37)) rfl ?_))
        | ((with_reducible refine gate_dst (N := 47) rfl ?_); go_must (refine M.out.ev_new rfl (by first | (go_simp; done) | (go_simp; rfl)) ?_); intro g47 w47 m; simp only [List.cons_append, List.nil_append] at m; have M := Lib.hid m; clear m; try have q4_6 := M.out.cell (j := 6) 4 rfl (by first | assumption | rfl); try have q4_7 := M.out.cell (j := 7) 4 rfl (by first | assumption | rfl))
        | ((with_reducible refine gate_dst (N := 92) rfl ?_); go_must (refine M.out.ev_ldw 1 _ _ rfl rfl rfl Try.underlying37 rfl (by first | exact sz37 | (rw [S1.out]; exact sz37) | (rw [S2.out]; exact sz37) | (rw [S3.out]; exact sz37)) rfl ?_))
        | ((with_reducible refine gate_dst (N := 104) rfl ?_); go_must (refine M.out.ev_ld 4 _ _ rfl rfl rfl Try.underlying77 rfl rfl (by first | assumption | rfl) ?_))
        | ((with_reducible refine gate_store (x := .tmp 109) rfl ?_); go_must (refine M.out.ev_put 4 _ _ _ rfl rfl rfl rfl (.slice _ _ _) rfl (by first | assumption | exact Fld.lt0 _ | exact Fld.lt1 _ | (simp; done) | (simp only [ints_size]; omega)) sz77 rfl rfl ?_); intro wn m; simp only [List.set_cons_succ, List.set_cons_zero, List.setIfInBounds_toArray] at m; have M := Lib.hid m; clear m; try have q4_6 := M.out.cell (j := 6) 4 rfl (by first | assumption | rfl); try have q4_7 := M.out.cell (j := 7) 4 rfl (by first | assumption | rfl))
        | ((with_reducible refine gate_dst (N := 114) rfl ?_); go_must (refine M.out.ev_ld 4 _ _ rfl rfl rfl Try.underlying78 rfl rfl (by first | assumption | rfl) ?_))
        | ((with_reducible refine gate_store (x := .tmp 119) rfl ?_); go_must (refine M.out.ev_put 4 _ _ _ rfl rfl rfl rfl (.slice _ _ _) rfl (by first | assumption | exact Fld.lt0 _ | exact Fld.lt1 _ | (simp; done) | (simp only [ints_size]; omega)) sz78 rfl rfl ?_); intro wn m; simp only [List.set_cons_succ, List.set_cons_zero, List.setIfInBounds_toArray] at m; have M := Lib.hid m; clear m; try have q4_6 := M.out.cell (j := 6) 4 rfl (by first | assumption | rfl); try have q4_7 := M.out.cell (j := 7) 4 rfl (by first | assumption | rfl))
        | ((with_reducible refine gate_dst (N := 124) rfl ?_); go_must (refine M.out.ev_ld 4 _ _ rfl rfl rfl Try.underlying79 rfl rfl (by first | assumption | rfl) ?_))
        | ((with_reducible refine gate_store (x := .tmp 129) rfl ?_); go_must (refine M.out.ev_put 4 _ _ _ rfl rfl rfl rfl (.slice _ _ _) rfl (by first | assumption | exact Fld.lt0 _ | exact Fld.lt1 _ | (simp; done) | (simp only [ints_size]; omega)) sz79 rfl rfl ?_); intro wn m; simp only [List.set_cons_succ, List.set_cons_zero, List.setIfInBounds_toArray] at m; have M := Lib.hid m; clear m; try have q4_6 := M.out.cell (j := 6) 4 rfl (by first | assumption | rfl); try have q4_7 := M.out.cell (j := 7) 4 rfl (by first | assumption | rfl))
        | ((with_reducible refine gate_dst (N := 138) rfl ?_); go_must (refine M.out.ev_ld 4 _ _ rfl rfl rfl Try.underlying32 rfl rfl (by first | assumption | rfl) ?_))
        | ((with_reducible refine gate_dst (N := 142) rfl ?_); go_must (refine M.out.ev_ld 4 _ _ rfl rfl rfl Try.underlying2 rfl rfl (by first | assumption | rfl) ?_))
        | (go_at_call 31; go_must (refine (l04Priced_any g4 g6 F HF.out p hp c hc _ (M.out.blk 0 rfl) (M.out.blk 2 rfl)).mono ?_); rintro e w_ ⟨rfl, N_⟩; have m := M.out.join N_; clear N_; simp only [List.cons_append, List.nil_append, List.append_nil] at m; have M := Lib.hid m; clear m; rw [HK.out])
        | (go_at_call 32; go_must (refine (l00In_any _ _ _ _).mono ?_); rintro e w_ ⟨rfl, rfl⟩; rw [HIN.out])
        | (go_at_call 33; go_must (refine (l04Wood_any g4 g6 F HF.out c hc _ (M.out.blk 0 rfl) (M.out.blk 2 rfl)).mono ?_); rintro e w_ ⟨rfl, N_⟩; have m := M.out.join N_; clear N_; simp only [List.cons_append, List.nil_append, List.append_nil] at m; have M := Lib.hid m; clear m; rw [HW.out])
        | ((with_reducible refine gate_dst (N := 37) rfl ?_); go_must (refine M.out.ev_bs0 elem_Net rfl rfl ?_); intro gv37 wv37 m; simp only [List.cons_append, List.nil_append] at m; have M := Lib.hid m; clear m)
        )
      go_ret3
      rw [HX.out.1, HX.out.2.1, HX.out.2.2]
      exact ⟨_, _, rfl, by simp, M.out.only [3] (K := [_]) rfl (by decide)⟩
    · cases hw : wood F c
      · obtain ⟨B, rfl⟩ : ∃ B : Nat, b = B := ⟨b.toNat, by have := (inB_iff.1 hb).1; omega⟩
        have hB : B ≤ 20000 := by have := (inB_iff.1 hb).2; omega
        have HX := Lib.hid (ch_end hk hb hw)
        have HIN := Lib.hid hb
        have HW := Lib.hid hw
        clear hk h1 hb hw
        have hlen := H12.out
        have tu : IntKind.u64.wrap (c.all.length : Int) = (c.all.length : Int) := IntWalk.u64_in _ (by omega)
        have tm : min c.all.length 16 = c.all.length := by omega
        have tw : IntKind.u16.wrap (IntKind.u16.wrap (2 ^ c.all.length) - 1) = ((2 ^ c.all.length - 1 : Nat) : Int) := by
          have h1 : 1 ≤ 2 ^ c.all.length := Nat.one_le_two_pow
          have h2 : 2 ^ c.all.length ≤ 2 ^ 12 := Nat.pow_le_pow_right (by omega) hlen
          rw [show ((2 : Int) ^ c.all.length) = ((2 ^ c.all.length : Nat) : Int) by simp]
          generalize 2 ^ c.all.length = z at h1 h2
          rw [IntKind.wrap_u16, IntKind.wrap_u16]
          omega
        go_enter Try.func5, Try.ntmps5
        go_wp2_with (first
          | ((with_reducible refine gate_dst (N := 4) rfl ?_); go_must (refine M.out.ev_new rfl (by first | (go_simp; done) | (go_simp; rfl)) ?_); intro g4 w4 m; simp only [List.cons_append, List.nil_append] at m; have M := Lib.hid m; clear m; try have q4_6 := M.out.cell (j := 6) 4 rfl (by first | assumption | rfl); try have q4_7 := M.out.cell (j := 7) 4 rfl (by first | assumption | rfl))
          | ((with_reducible refine gate_dst (N := 5) rfl ?_); go_must (refine M.out.ev_new rfl (by first | (go_simp; done) | (go_simp; rfl)) ?_); intro g5 w5 m; simp only [List.cons_append, List.nil_append] at m; have M := Lib.hid m; clear m; try have q4_6 := M.out.cell (j := 6) 4 rfl (by first | assumption | rfl); try have q4_7 := M.out.cell (j := 7) 4 rfl (by first | assumption | rfl))
          | ((with_reducible refine gate_dst (N := 6) rfl ?_); go_must (refine M.out.ev_new rfl (by first | (go_simp; done) | (go_simp; rfl)) ?_); intro g6 w6 m; simp only [List.cons_append, List.nil_append] at m; have M := Lib.hid m; clear m; try have q4_6 := M.out.cell (j := 6) 4 rfl (by first | assumption | rfl); try have q4_7 := M.out.cell (j := 7) 4 rfl (by first | assumption | rfl))
          | ((with_reducible refine gate_dst (N := 21) rfl ?_); go_must (refine M.out.ev_ldw 1 _ _ rfl rfl rfl Try.underlying37 rfl (by first | exact sz37 | (rw [S1.out]; exact sz37) | (rw [S2.out]; exact sz37) | (rw [S3.out]; exact sz37)) rfl ?_))
          | ((with_reducible refine gate_dst (N := 47) rfl ?_); go_must (refine M.out.ev_new rfl (by first | (go_simp; done) | (go_simp; rfl)) ?_); intro g47 w47 m; simp only [List.cons_append, List.nil_append] at m; have M := Lib.hid m; clear m; try have q4_6 := M.out.cell (j := 6) 4 rfl (by first | assumption | rfl); try have q4_7 := M.out.cell (j := 7) 4 rfl (by first | assumption | rfl))
          | ((with_reducible refine gate_dst (N := 92) rfl ?_); go_must (refine M.out.ev_ldw 1 _ _ rfl rfl rfl Try.underlying37 rfl (by first | exact sz37 | (rw [S1.out]; exact sz37) | (rw [S2.out]; exact sz37) | (rw [S3.out]; exact sz37)) rfl ?_))
          | ((with_reducible refine gate_dst (N := 104) rfl ?_); go_must (refine M.out.ev_ld 4 _ _ rfl rfl rfl Try.underlying77 rfl rfl (by first | assumption | rfl) ?_))
          | ((with_reducible refine gate_store (x := .tmp 109) rfl ?_); go_must (refine M.out.ev_put 4 _ _ _ rfl rfl rfl rfl (.slice _ _ _) rfl (by first | assumption | exact Fld.lt0 _ | exact Fld.lt1 _ | (simp; done) | (simp only [ints_size]; omega)) sz77 rfl rfl ?_); intro wn m; simp only [List.set_cons_succ, List.set_cons_zero, List.setIfInBounds_toArray] at m; have M := Lib.hid m; clear m; try have q4_6 := M.out.cell (j := 6) 4 rfl (by first | assumption | rfl); try have q4_7 := M.out.cell (j := 7) 4 rfl (by first | assumption | rfl))
          | ((with_reducible refine gate_dst (N := 114) rfl ?_); go_must (refine M.out.ev_ld 4 _ _ rfl rfl rfl Try.underlying78 rfl rfl (by first | assumption | rfl) ?_))
          | ((with_reducible refine gate_store (x := .tmp 119) rfl ?_); go_must (refine M.out.ev_put 4 _ _ _ rfl rfl rfl rfl (.slice _ _ _) rfl (by first | assumption | exact Fld.lt0 _ | exact Fld.lt1 _ | (simp; done) | (simp only [ints_size]; omega)) sz78 rfl rfl ?_); intro wn m; simp only [List.set_cons_succ, List.set_cons_zero, List.setIfInBounds_toArray] at m; have M := Lib.hid m; clear m; try have q4_6 := M.out.cell (j := 6) 4 rfl (by first | assumption | rfl); try have q4_7 := M.out.cell (j := 7) 4 rfl (by first | assumption | rfl))
          | ((with_reducible refine gate_dst (N := 124) rfl ?_); go_must (refine M.out.ev_ld 4 _ _ rfl rfl rfl Try.underlying79 rfl rfl (by first | assumption | rfl) ?_))
          | ((with_reducible refine gate_store (x := .tmp 129) rfl ?_); go_must (refine M.out.ev_put 4 _ _ _ rfl rfl rfl rfl (.slice _ _ _) rfl (by first | assumption | exact Fld.lt0 _ | exact Fld.lt1 _ | (simp; done) | (simp only [ints_size]; omega)) sz79 rfl rfl ?_); intro wn m; simp only [List.set_cons_succ, List.set_cons_zero, List.setIfInBounds_toArray] at m; have M := Lib.hid m; clear m; try have q4_6 := M.out.cell (j := 6) 4 rfl (by first | assumption | rfl); try have q4_7 := M.out.cell (j := 7) 4 rfl (by first | assumption | rfl))
          | ((with_reducible refine gate_dst (N := 138) rfl ?_); go_must (refine M.out.ev_ld 4 _ _ rfl rfl rfl Try.underlying32 rfl rfl (by first | assumption | rfl) ?_))
          | ((with_reducible refine gate_dst (N := 142) rfl ?_); go_must (refine M.out.ev_ld 4 _ _ rfl rfl rfl Try.underlying2 rfl rfl (by first | assumption | rfl) ?_))
          | (go_at_call 31; go_must (refine (l04Priced_any g4 g6 F HF.out p hp c hc _ (M.out.blk 0 rfl) (M.out.blk 2 rfl)).mono ?_); rintro e w_ ⟨rfl, N_⟩; have m := M.out.join N_; clear N_; simp only [List.cons_append, List.nil_append, List.append_nil] at m; have M := Lib.hid m; clear m; rw [HK.out])
          | (go_at_call 32; go_must (refine (l00In_any _ _ _ _).mono ?_); rintro e w_ ⟨rfl, rfl⟩; rw [HIN.out])
          | (go_at_call 33; go_must (refine (l04Wood_any g4 g6 F HF.out c hc _ (M.out.blk 0 rfl) (M.out.blk 2 rfl)).mono ?_); rintro e w_ ⟨rfl, N_⟩; have m := M.out.join N_; clear N_; simp only [List.cons_append, List.nil_append, List.append_nil] at m; have M := Lib.hid m; clear m; rw [HW.out])
          | (go_at_call 34; go_must (refine (l01List_any g6 c hc _ (M.out.blk 2 rfl)).mono ?_); rintro e w_ ⟨LA, lc, rfl, hc_, N_⟩; have m := M.out.join N_; clear N_; simp only [List.cons_append, List.nil_append, List.append_nil] at m; have M := Lib.hid m; clear m)
          )
        obtain ⟨ts, hts⟩ : ∃ ts, ts = c.all := ⟨_, rfl⟩
        have HTS := Lib.hid hts
        have HND := Lib.hid (all_nodup c)
        have h100 : ∀ k ∈ c.all, k < 100 := fun k hk => (mem_all.1 hk).1
        obtain ⟨al, hal⟩ : ∃ al, al = 2 ^ c.all.length - 1 := ⟨_, rfl⟩
        have HAL := Lib.hid hal
        rw [← hal] at M
        rw [← hts] at hlen h100 HND M
        try rw [← hts]
        clear hal hts tw tm tu
        have H100 := Lib.hid h100
        clear h100
        have m := (((((M.out).nilrow 32 1).nilrow 83 1).nilrow 49 1).lot0)
        simp only [List.cons_append, List.nil_append, List.append_nil] at m
        have M := Lib.hid m
        clear m
        go_loopw [14] (fun x wr => ∃ (j : Nat) (vn vm vc : Value) (an am ac : List Value) (rs : List Rw), j ≤ ts.length ∧ x = .int .i64 j ∧ an.length = j ∧ am.length = j ∧ ac.length = j ∧ Mem w wr [.blk g4 35 F.cells, .blk g5 37 p.vals.toArray, .blk g6 39 c.cells, .row (.slice LA ts.length lc) 2 1 ts.length (flat one64 ts), .blk g47 81 (s4c vn vm vc al B (.slice none 0 0) sk0), .row vn 32 1 j an, .row vm 83 1 j am, .row vc 49 1 j ac, .lot rs] ∧ Lots F p ts j an am ac rs)
          (fun x _ => ts.length - (intOf x).toNat)
        case atStart => exact ⟨0, _, _, _, [], [], [], [], by omega, rfl, rfl, rfl, rfl, M.out, fun t ht => absurd ht (Nat.not_lt_zero _)⟩
        case round =>
          clear M
          obtain ⟨j, vn, vm, vc, an, am, ac, rs, hj, rfl, ha1, ha2, ha3, m, hlots⟩ := hrel
          have M := Lib.hid m
          have HLo := Lib.hid hlots
          clear m hlots
          by_cases hlt : j < ts.length
          · obtain ⟨lb, lo, rfl, hr⟩ := (M.out.slof 3 rfl).2 (by omega)
            obtain ⟨k, hk⟩ : ∃ k, ts[j]? = some k := ⟨_, List.getElem?_eq_getElem hlt⟩
            have hkm : k ∈ ts := List.mem_of_getElem? hk
            have x0 : wr.cell? ⟨lb, lo + j, none⟩ = some (.int .i64 (k : Int)) := by
              have R := range_at one64_len hr hk
              simpa [nat64] using R 0 _ rfl
            have hk100 := H100.out k hkm
            have hhas := HTG.out k (by rw [← HTS.out]; exact hkm)
            have j0 : (0 : Int) ≤ (j : Int) := by omega
            have j1 : (j : Int) < (ts.length : Int) := by omega
            have hnl := netsAt_len HV.out hk100
            have ALLN := Lib.hid (fun (w : World) hb => l04All_any g4 (t := 35) F HF.out HV.out k hk100 hhas w hb)
            obtain ⟨L, hL⟩ : ∃ L, L = netsAt F k := ⟨_, rfl⟩
            rw [← hL] at ALLN hnl
            have HL := Lib.hid hL
            have HK := Lib.hid hk
            have htp : 0 < ts.length := by omega
            have HTP := Lib.hid htp
            clear hr hk hkm hL htp
            go_wp2_with (first
              | ((with_reducible refine gate_dst (N := 4) rfl ?_); go_must (refine M.out.ev_new rfl (by first | (go_simp; done) | (go_simp; rfl)) ?_); intro g4 w4 m; simp only [List.cons_append, List.nil_append] at m; have M := Lib.hid m; clear m; try have q4_6 := M.out.cell (j := 6) 4 rfl (by first | assumption | rfl); try have q4_7 := M.out.cell (j := 7) 4 rfl (by first | assumption | rfl))
              | ((with_reducible refine gate_dst (N := 5) rfl ?_); go_must (refine M.out.ev_new rfl (by first | (go_simp; done) | (go_simp; rfl)) ?_); intro g5 w5 m; simp only [List.cons_append, List.nil_append] at m; have M := Lib.hid m; clear m; try have q4_6 := M.out.cell (j := 6) 4 rfl (by first | assumption | rfl); try have q4_7 := M.out.cell (j := 7) 4 rfl (by first | assumption | rfl))
              | ((with_reducible refine gate_dst (N := 6) rfl ?_); go_must (refine M.out.ev_new rfl (by first | (go_simp; done) | (go_simp; rfl)) ?_); intro g6 w6 m; simp only [List.cons_append, List.nil_append] at m; have M := Lib.hid m; clear m; try have q4_6 := M.out.cell (j := 6) 4 rfl (by first | assumption | rfl); try have q4_7 := M.out.cell (j := 7) 4 rfl (by first | assumption | rfl))
              | ((with_reducible refine gate_dst (N := 21) rfl ?_); go_must (refine M.out.ev_ldw 1 _ _ rfl rfl rfl Try.underlying37 rfl (by first | exact sz37 | (rw [S1.out]; exact sz37) | (rw [S2.out]; exact sz37) | (rw [S3.out]; exact sz37)) rfl ?_))
              | ((with_reducible refine gate_dst (N := 47) rfl ?_); go_must (refine M.out.ev_new rfl (by first | (go_simp; done) | (go_simp; rfl)) ?_); intro g47 w47 m; simp only [List.cons_append, List.nil_append] at m; have M := Lib.hid m; clear m; try have q4_6 := M.out.cell (j := 6) 4 rfl (by first | assumption | rfl); try have q4_7 := M.out.cell (j := 7) 4 rfl (by first | assumption | rfl))
              | ((with_reducible refine gate_dst (N := 92) rfl ?_); go_must (refine M.out.ev_ldw 1 _ _ rfl rfl rfl Try.underlying37 rfl (by first | exact sz37 | (rw [S1.out]; exact sz37) | (rw [S2.out]; exact sz37) | (rw [S3.out]; exact sz37)) rfl ?_))
              | ((with_reducible refine gate_dst (N := 104) rfl ?_); go_must (refine M.out.ev_ld 4 _ _ rfl rfl rfl Try.underlying77 rfl rfl (by first | assumption | rfl) ?_))
              | ((with_reducible refine gate_store (x := .tmp 109) rfl ?_); go_must (refine M.out.ev_put 4 _ _ _ rfl rfl rfl rfl (.slice _ _ _) rfl (by first | assumption | exact Fld.lt0 _ | exact Fld.lt1 _ | (simp; done) | (simp only [ints_size]; omega)) sz77 rfl rfl ?_); intro wn m; simp only [List.set_cons_succ, List.set_cons_zero, List.setIfInBounds_toArray] at m; have M := Lib.hid m; clear m; try have q4_6 := M.out.cell (j := 6) 4 rfl (by first | assumption | rfl); try have q4_7 := M.out.cell (j := 7) 4 rfl (by first | assumption | rfl))
              | ((with_reducible refine gate_dst (N := 114) rfl ?_); go_must (refine M.out.ev_ld 4 _ _ rfl rfl rfl Try.underlying78 rfl rfl (by first | assumption | rfl) ?_))
              | ((with_reducible refine gate_store (x := .tmp 119) rfl ?_); go_must (refine M.out.ev_put 4 _ _ _ rfl rfl rfl rfl (.slice _ _ _) rfl (by first | assumption | exact Fld.lt0 _ | exact Fld.lt1 _ | (simp; done) | (simp only [ints_size]; omega)) sz78 rfl rfl ?_); intro wn m; simp only [List.set_cons_succ, List.set_cons_zero, List.setIfInBounds_toArray] at m; have M := Lib.hid m; clear m; try have q4_6 := M.out.cell (j := 6) 4 rfl (by first | assumption | rfl); try have q4_7 := M.out.cell (j := 7) 4 rfl (by first | assumption | rfl))
              | ((with_reducible refine gate_dst (N := 124) rfl ?_); go_must (refine M.out.ev_ld 4 _ _ rfl rfl rfl Try.underlying79 rfl rfl (by first | assumption | rfl) ?_))
              | ((with_reducible refine gate_store (x := .tmp 129) rfl ?_); go_must (refine M.out.ev_put 4 _ _ _ rfl rfl rfl rfl (.slice _ _ _) rfl (by first | assumption | exact Fld.lt0 _ | exact Fld.lt1 _ | (simp; done) | (simp only [ints_size]; omega)) sz79 rfl rfl ?_); intro wn m; simp only [List.set_cons_succ, List.set_cons_zero, List.setIfInBounds_toArray] at m; have M := Lib.hid m; clear m; try have q4_6 := M.out.cell (j := 6) 4 rfl (by first | assumption | rfl); try have q4_7 := M.out.cell (j := 7) 4 rfl (by first | assumption | rfl))
              | ((with_reducible refine gate_dst (N := 138) rfl ?_); go_must (refine M.out.ev_ld 4 _ _ rfl rfl rfl Try.underlying32 rfl rfl (by first | assumption | rfl) ?_))
              | ((with_reducible refine gate_dst (N := 142) rfl ?_); go_must (refine M.out.ev_ld 4 _ _ rfl rfl rfl Try.underlying2 rfl rfl (by first | assumption | rfl) ?_))
              | (go_at_call 35; go_must (refine (ALLN.out _ (M.out.blk 0 rfl)).mono ?_); rintro e w_ ⟨A9, c9, rfl, hc9, N_⟩; have m := M.out.join N_; clear N_; simp only [List.cons_append, List.nil_append, List.append_nil] at m; have M := Lib.hid m; clear m)
              | ((with_reducible refine gate_dst (N := 59) rfl ?_); go_must (refine M.out.ev_bs0 elem_uint16 rfl rfl ?_); intro gv59 wv59 m; simp only [List.cons_append, List.nil_append] at m; have M := Lib.hid m; clear m)
              | ((with_reducible refine gate_dst (N := 60) rfl ?_); go_must (refine M.out.ev_bs0 elem_int64 rfl rfl ?_); intro gv60 wv60 m; simp only [List.cons_append, List.nil_append] at m; have M := Lib.hid m; clear m)
              )
            clear x0
            go_loopw [16, 17, 18] (fun q16 q17 x wr => ∃ (i : Nat) (v16 v17 : Value), i ≤ L.length ∧ x = .int .i64 i ∧ v16 = q16 ∧ v17 = q17 ∧ Mem w wr [.blk g4 35 F.cells, .blk g5 37 p.vals.toArray, .blk g6 39 c.cells, .row (.slice (some ⟨lb, lo, none⟩) ts.length lc) 2 1 ts.length (flat one64 ts), .blk g47 81 (s4c vn vm vc al B (.slice none 0 0) sk0), .row vn 32 1 j an, .row vm 83 1 j am, .row vc 49 1 j ac, .lot rs, .row (.slice A9 L.length c9) 65 4 L.length (flat Net.vals L), .row v16 75 1 i (flat (fun x => one16 (maskN ts x)) (L.take i)), .row v17 2 1 i (flat (oneC p) (L.take i))])
              (fun _ _ x _ => L.length - (intOf x).toNat)
            case atStart => exact ⟨0, _, _, by omega, rfl, rfl, rfl, M.out⟩
            case round =>
              clear M
              obtain ⟨i, v16, v17, hi, rfl, rfl, rfl, m⟩ := hrel
              have M := Lib.hid m
              clear m
              by_cases hlt2 : i < L.length
              · obtain ⟨nb, no, rfl, _⟩ := (M.out.slof 9 rfl).2 (by omega)
                have hxk : L[i]? = some L[i] := List.getElem?_eq_getElem hlt2
                have HTK := Lib.hid (show L.take (i + 1) = L.take i ++ [L[i]] by rw [List.take_add_one, hxk]; rfl)
                have hmem : L[i] ∈ netsAt F k := by rw [← HL.out]; exact List.getElem_mem hlt2
                obtain ⟨x, hx⟩ : ∃ x, x = L[i] := ⟨_, rfl⟩
                rw [← hx] at hxk HTK hmem
                have HXK := Lib.hid hxk
                obtain ⟨hpl, hx10, hy10⟩ := Net.snug_of HV.out (netsAt_fits hmem)
                have OKX := Lib.hid (show x.ok by
                  obtain ⟨⟨a0, a1⟩, ⟨b0, b1⟩, ⟨c0, c1⟩, ⟨d0, d1⟩⟩ := Net.plain_iff.1 hpl
                  exact ⟨by omega, by omega, by omega, by omega⟩)
                have HLP := Lib.hid (show 0 < L.length by omega)
                have i0 : (0 : Int) ≤ (i : Int) := by omega
                have i1 : (i : Int) < (L.length : Int) := by omega
                clear hxk hx hmem
                go_wp2
                go_loopw [19, 20] (fun y z wr => ∃ b : Nat, b ≤ ts.length ∧ z = .int .i64 b ∧ y = .int .u16 (bitsOf (fun j => x.inside (ts.getD j 0)) b : Nat) ∧ Mem w wr [.blk g4 35 F.cells, .blk g5 37 p.vals.toArray, .blk g6 39 c.cells, .row (.slice (some ⟨lb, lo, none⟩) ts.length lc) 2 1 ts.length (flat one64 ts), .blk g47 81 (s4c vn vm vc al B (.slice none 0 0) sk0), .row vn 32 1 j an, .row vm 83 1 j am, .row vc 49 1 j ac, .lot rs, .row (.slice (some ⟨nb, no, none⟩) L.length c9) 65 4 L.length (flat Net.vals L), .row v16 75 1 i (flat (fun x => one16 (maskN ts x)) (L.take i)), .row v17 2 1 i (flat (oneC p) (L.take i))])
                  (fun _ z _ => ts.length - (intOf z).toNat)
                case atStart => exact ⟨0, by omega, rfl, rfl, M.out⟩
                case round =>
                  clear M
                  obtain ⟨b, hb, rfl, rfl, m⟩ := hrel
                  have M := Lib.hid m
                  clear m
                  by_cases hbt : b < ts.length
                  · obtain ⟨kb, hkb⟩ : ∃ kb, ts[b]? = some kb := ⟨_, List.getElem?_eq_getElem hbt⟩
                    have hkb' : ts.getD b 0 = kb := by rw [List.getD_eq_getElem?_getD, hkb]; rfl
                    have kb100 := H100.out kb (List.mem_of_getElem? hkb)
                    have HKB := Lib.hid hkb
                    have hbl := bitsOf_u16 (fun j => x.inside (ts.getD j 0)) (m := b) (by omega)
                    have h2b : 2 ^ b ≤ 2 ^ 12 := Nat.pow_le_pow_right (by omega) (by omega)
                    have HBS := Lib.hid (show bitsOf (fun j => x.inside (ts.getD j 0)) (b + 1) = if x.inside kb = true then bitsOf (fun j => x.inside (ts.getD j 0)) b ||| 2 ^ b else bitsOf (fun j => x.inside (ts.getD j 0)) b by rw [bitsOf, hkb'])
                    have ow : IntKind.u16.wrap (2 ^ b) = ((2 ^ b : Nat) : Int) := by
                      rw [show ((2 : Int) ^ b) = ((2 ^ b : Nat) : Int) by simp, IntKind.wrap_u16]
                      generalize 2 ^ b = z at h2b
                      omega
                    have orw := u16_or_nat (bitsOf (fun j => x.inside (ts.getD j 0)) b) (2 ^ b) (by omega) (by omega)
                    rw [← ow] at orw
                    obtain ⟨y, hy⟩ : ∃ y, y = bitsOf (fun j => x.inside (ts.getD j 0)) b := ⟨_, rfl⟩
                    obtain ⟨y', hy'⟩ : ∃ y', y' = bitsOf (fun j => x.inside (ts.getD j 0)) (b + 1) := ⟨_, rfl⟩
                    rw [← hy] at HBS orw
                    rw [← hy'] at HBS
                    rw [← hy]
                    have HY' := Lib.hid hy'
                    have b0 : (0 : Int) ≤ (b : Int) := by omega
                    have b1 : (b : Int) < (ts.length : Int) := by omega
                    have bu : IntKind.u64.wrap (b : Int) = b := IntWalk.u64_in _ (by omega)
                    have bm : min b 16 = b := by omega
                    have X80 := Lib.hid (fun w' (hS : Mem w w' [.blk g4 35 F.cells, .blk g5 37 p.vals.toArray, .blk g6 39 c.cells, .row (.slice (some ⟨lb, lo, none⟩) ts.length lc) 2 1 ts.length (flat one64 ts), .blk g47 81 (s4c vn vm vc al B (.slice none 0 0) sk0), .row vn 32 1 j an, .row vm 83 1 j am, .row vc 49 1 j ac, .lot rs, .row (.slice (some ⟨nb, no, none⟩) L.length c9) 65 4 L.length (flat Net.vals L), .row v16 75 1 i (flat (fun x => one16 (maskN ts x)) (L.take i)), .row v17 2 1 i (flat (oneC p) (L.take i))]) => (show w'.cell? ⟨lb, lo + b, none⟩ = some (.int .i64 (kb : Int)) by
                      have R := range_at one64_len ((hS.slof 3 rfl).range HTP.out) HKB.out
                      simpa [nat64] using R 0 _ rfl))
                    clear hkb hkb' hbl h2b ow hy hy'
                    cases hin : x.inside kb
                    all_goals
                      have INS := Lib.hid hin
                      have HB2 := HBS.out
                      rw [hin] at HB2
                      have HB2 := Lib.hid HB2
                      clear hin HBS
                      go_wp2
                      refine region_anyH (fun w' => Mem w w' [.blk g4 35 F.cells, .blk g5 37 p.vals.toArray, .blk g6 39 c.cells, .row (.slice (some ⟨lb, lo, none⟩) ts.length lc) 2 1 ts.length (flat one64 ts), .blk g47 81 (s4c vn vm vc al B (.slice none 0 0) sk0), .row vn 32 1 j an, .row vm 83 1 j am, .row vc 49 1 j ac, .lot rs, .row (.slice (some ⟨nb, no, none⟩) L.length c9) 65 4 L.length (flat Net.vals L), .row v16 75 1 i (flat (fun x => one16 (maskN ts x)) (L.take i)), .row v17 2 1 i (flat (oneC p) (L.take i))]) (by kernel_rfl) ?_
                      have m := M.out.drew
                      clear M
                      have M := Lib.hid m
                      clear m
                      apply takeH (i := 0) 73 rfl (by kernel_rfl) (by kernel_rfl) (by kernel_rfl) (fun _ _ _ h => h) rfl (by first | exact M.out | exact M.out.take 12)
                      case' hy =>
                        refine Or.inl ⟨by first | rfl | (go_simp; done), ?_⟩
                        intro w hS
                        clear hS
                        go_simp
                        try with_reducible rfl
                      try simp only [Act.put, List.getElem_toArray, List.getElem_cons_succ, List.getElem_cons_zero, List.setIfInBounds_toArray, List.set_cons_succ, List.set_cons_zero]
                      apply takeH (i := 1) 74 rfl (by kernel_rfl) (by kernel_rfl) (by kernel_rfl) (fun _ _ _ h => h) rfl (by first | exact M.out | exact M.out.take 12)
                      case' hy =>
                        refine Or.inl ⟨by first | rfl | (go_simp; done), ?_⟩
                        intro w hS
                        clear hS
                        go_simp
                        try with_reducible rfl
                      try simp only [Act.put, List.getElem_toArray, List.getElem_cons_succ, List.getElem_cons_zero, List.setIfInBounds_toArray, List.set_cons_succ, List.set_cons_zero]
                      apply takeH (i := 2) 75 rfl (by kernel_rfl) (by kernel_rfl) (by kernel_rfl) (fun _ _ _ h => h) rfl (by first | exact M.out | exact M.out.take 12)
                      case' hy =>
                        refine Or.inl ⟨by first | rfl | (go_simp; done), ?_⟩
                        intro w hS
                        clear hS
                        go_simp
                        try with_reducible rfl
                      try simp only [Act.put, List.getElem_toArray, List.getElem_cons_succ, List.getElem_cons_zero, List.setIfInBounds_toArray, List.set_cons_succ, List.set_cons_zero]
                      apply takeH (i := 3) 76 rfl (by kernel_rfl) (by kernel_rfl) (by kernel_rfl) (fun _ _ _ h => h) rfl (by first | exact M.out | exact M.out.take 12)
                      case' hy => exact yieldsIf_load_mid (by first | rfl | (go_simp; done)) _ _ rfl _ _ rfl _ _ (fun w' hS => range_at Net.vl ((hS.slof 9 rfl).range HLP.out) HXK.out) Try.underlying65 rfl sz65
                      try simp only [Act.put, List.getElem_toArray, List.getElem_cons_succ, List.getElem_cons_zero, List.setIfInBounds_toArray, List.set_cons_succ, List.set_cons_zero]
                      apply takeH (i := 4) 77 rfl (by kernel_rfl) (by kernel_rfl) (by kernel_rfl) (fun _ _ _ h => h) rfl (by first | exact M.out | exact M.out.take 12)
                      case' hy =>
                        refine Or.inl ⟨by first | rfl | (go_simp; done), ?_⟩
                        intro w hS
                        clear hS
                        go_simp
                        try with_reducible rfl
                      try simp only [Act.put, List.getElem_toArray, List.getElem_cons_succ, List.getElem_cons_zero, List.setIfInBounds_toArray, List.set_cons_succ, List.set_cons_zero]
                      apply takeH (i := 5) 78 rfl (by kernel_rfl) (by kernel_rfl) (by kernel_rfl) (fun _ _ _ h => h) rfl (by first | exact M.out | exact M.out.take 12)
                      case' hy =>
                        refine Or.inl ⟨by first | rfl | (go_simp; done), ?_⟩
                        intro w hS
                        clear hS
                        go_simp
                        try with_reducible rfl
                      try simp only [Act.put, List.getElem_toArray, List.getElem_cons_succ, List.getElem_cons_zero, List.setIfInBounds_toArray, List.set_cons_succ, List.set_cons_zero]
                      apply takeH (i := 6) 79 rfl (by kernel_rfl) (by kernel_rfl) (by kernel_rfl) (fun _ _ _ h => h) rfl (by first | exact M.out | exact M.out.take 12)
                      case' hy =>
                        refine Or.inl ⟨by first | rfl | (go_simp; done), ?_⟩
                        intro w hS
                        clear hS
                        go_simp
                        try with_reducible rfl
                      try simp only [Act.put, List.getElem_toArray, List.getElem_cons_succ, List.getElem_cons_zero, List.setIfInBounds_toArray, List.set_cons_succ, List.set_cons_zero]
                      apply takeH (i := 7) 80 rfl (by kernel_rfl) (by kernel_rfl) (by kernel_rfl) (fun _ _ _ h => h) rfl (by first | exact M.out | exact M.out.take 12)
                      case' hy => exact ylds _ _ rfl rfl Try.underlying2 rfl rfl (fun w' hS => X80.out w' hS)
                      try simp only [Act.put, List.getElem_toArray, List.getElem_cons_succ, List.getElem_cons_zero, List.setIfInBounds_toArray, List.set_cons_succ, List.set_cons_zero]
                      refine any1H 8 (by kernel_rfl) rfl (fun K hK => ?_)
                      go_wp2_with (first | (go_at_call 36; go_must (refine (l04Inside_any x OKX.out kb kb100 _).mono ?_); rintro e w_ ⟨rfl, N_⟩; have m := M.out.join N_; clear N_; simp only [List.cons_append, List.nil_append, List.append_nil] at m; have M := Lib.hid m; clear m; rw [INS.out]))
                      refine onward_normal (hK _ _ ⟨(by first | exact M.out | exact M.out.take 12), ?_⟩)
                      clear hK K
                      try simp only [Act.put, List.getElem_toArray, List.getElem_cons_succ, List.getElem_cons_zero, List.setIfInBounds_toArray, List.set_cons_succ, List.set_cons_zero]
                      refine wpAnyH_done (by kernel_rfl) ?_ _
                      go_wp2
                      exact ⟨⟨b + 1, by omega, by go_num, by rw [← HY'.out, HB2.out]; rfl, M.out.take 12⟩, by simp [intOf]; omega⟩
                  · obtain rfl : b = ts.length := by omega
                    have b1 : ¬ ((ts.length : Int) < (ts.length : Int)) := by omega
                    obtain ⟨y, hy⟩ : ∃ y, y = maskN ts x := ⟨_, rfl⟩
                    rw [show bitsOf (fun j => x.inside (ts.getD j 0)) ts.length = y from hy.symm]
                    have HY := Lib.hid hy
                    clear hy
                    go_wp2_with (first
                      | ((with_reducible refine gate_dst (N := 89) rfl ?_); go_must (refine M.out.ev_bs1 elem_uint16 rfl _ rfl #[.int .u16 (y : Int)] rfl rfl (by decide) ?_); intro g89 w89 m; simp only [List.cons_append, List.nil_append] at m; have M := Lib.hid m; clear m)
                      | ((with_reducible refine gate_dst (N := 90) rfl ?_); go_must (refine M.out.ev_append1 10 12 elem_uint16 rfl _ _ rfl rfl rfl rfl rfl rfl ((by simp [Value.oneCell'])) (by omega) (by decide) ?_); intro v90 w90 m; simp only [List.set_cons_succ, List.set_cons_zero] at m; have M := Lib.hid m; clear m)
                      )
                    refine region_anyH (fun w' => Mem w w' [.blk g4 35 F.cells, .blk g5 37 p.vals.toArray, .blk g6 39 c.cells, .row (.slice (some ⟨lb, lo, none⟩) ts.length lc) 2 1 ts.length (flat one64 ts), .blk g47 81 (s4c vn vm vc al B (.slice none 0 0) sk0), .row vn 32 1 j an, .row vm 83 1 j am, .row vc 49 1 j ac, .lot rs, .row (.slice (some ⟨nb, no, none⟩) L.length c9) 65 4 L.length (flat Net.vals L)]) (by kernel_rfl) ?_
                    have m := M.out.drew
                    clear M
                    have M := Lib.hid m
                    clear m
                    apply takeH (i := 0) 91 rfl (by kernel_rfl) (by kernel_rfl) (by kernel_rfl) (fun _ _ _ h => h) rfl (by first | exact M.out | exact M.out.take 10)
                    case' hy =>
                      refine Or.inl ⟨by first | rfl | (go_simp; done), ?_⟩
                      intro w hS
                      clear hS
                      go_simp
                      try with_reducible rfl
                    try simp only [Act.put, List.getElem_toArray, List.getElem_cons_succ, List.getElem_cons_zero, List.setIfInBounds_toArray, List.set_cons_succ, List.set_cons_zero]
                    apply takeH (i := 1) 92 rfl (by kernel_rfl) (by kernel_rfl) (by kernel_rfl) (fun _ _ _ h => h) rfl (by first | exact M.out | exact M.out.take 10)
                    case' hy => exact yldw _ _ rfl rfl Try.underlying37 rfl (by first | exact sz37 | (rw [S1.out]; exact sz37) | (rw [S2.out]; exact sz37) | (rw [S3.out]; exact sz37)) rfl (fun w' hS => hS.blk 1 rfl)
                    try simp only [Act.put, List.getElem_toArray, List.getElem_cons_succ, List.getElem_cons_zero, List.setIfInBounds_toArray, List.set_cons_succ, List.set_cons_zero]
                    apply takeH (i := 2) 93 rfl (by kernel_rfl) (by kernel_rfl) (by kernel_rfl) (fun _ _ _ h => h) rfl (by first | exact M.out | exact M.out.take 10)
                    case' hy =>
                      refine Or.inl ⟨by first | rfl | (go_simp; done), ?_⟩
                      intro w hS
                      clear hS
                      go_simp
                      try with_reducible rfl
                    try simp only [Act.put, List.getElem_toArray, List.getElem_cons_succ, List.getElem_cons_zero, List.setIfInBounds_toArray, List.set_cons_succ, List.set_cons_zero]
                    apply takeH (i := 3) 94 rfl (by kernel_rfl) (by kernel_rfl) (by kernel_rfl) (fun _ _ _ h => h) rfl (by first | exact M.out | exact M.out.take 10)
                    case' hy =>
                      refine Or.inl ⟨by first | rfl | (go_simp; done), ?_⟩
                      intro w hS
                      clear hS
                      go_simp
                      try with_reducible rfl
                    try simp only [Act.put, List.getElem_toArray, List.getElem_cons_succ, List.getElem_cons_zero, List.setIfInBounds_toArray, List.set_cons_succ, List.set_cons_zero]
                    apply takeH (i := 4) 95 rfl (by kernel_rfl) (by kernel_rfl) (by kernel_rfl) (fun _ _ _ h => h) rfl (by first | exact M.out | exact M.out.take 10)
                    case' hy =>
                      refine Or.inl ⟨by first | rfl | (go_simp; done), ?_⟩
                      intro w hS
                      clear hS
                      go_simp
                      try with_reducible rfl
                    try simp only [Act.put, List.getElem_toArray, List.getElem_cons_succ, List.getElem_cons_zero, List.setIfInBounds_toArray, List.set_cons_succ, List.set_cons_zero]
                    apply takeH (i := 5) 96 rfl (by kernel_rfl) (by kernel_rfl) (by kernel_rfl) (fun _ _ _ h => h) rfl (by first | exact M.out | exact M.out.take 10)
                    case' hy => exact yieldsIf_load_mid (by first | rfl | (go_simp; done)) _ _ rfl _ _ rfl _ _ (fun w' hS => range_at Net.vl ((hS.slof 9 rfl).range HLP.out) HXK.out) Try.underlying65 rfl sz65
                    try simp only [Act.put, List.getElem_toArray, List.getElem_cons_succ, List.getElem_cons_zero, List.setIfInBounds_toArray, List.set_cons_succ, List.set_cons_zero]
                    refine any1H 6 (by kernel_rfl) rfl (fun K hK => ?_)
                    go_wp2_with (first | ((with_reducible refine gate_dst (N := 92) rfl ?_); go_must (refine M.out.ev_ldw 1 _ _ rfl rfl rfl Try.underlying37 rfl (by first | exact sz37 | (rw [S1.out]; exact sz37) | (rw [S2.out]; exact sz37) | (rw [S3.out]; exact sz37)) rfl ?_)) | (go_at_call 37; go_must (refine (l04Cost_any p HG.out x hpl _).mono ?_); rintro e w_ ⟨rfl, N_⟩; have m := M.out.join N_; clear N_; simp only [List.cons_append, List.nil_append, List.append_nil] at m; have M := Lib.hid m; clear m) | ((with_reducible refine gate_dst (N := 98) rfl ?_); go_must (refine M.out.ev_bs1 elem_int64 rfl _ rfl #[.int .i64 (netCost p x)] rfl rfl (by decide) ?_); intro g98 w98 m; simp only [List.cons_append, List.nil_append] at m; have M := Lib.hid m; clear m) | ((with_reducible refine gate_dst (N := 99) rfl ?_); go_must (refine M.out.ev_append1 11 13 elem_int64 rfl _ _ rfl rfl rfl rfl rfl rfl ((by simp [Value.oneCell'])) (by omega) (by decide) ?_); intro v99 w99 m; simp only [List.set_cons_succ, List.set_cons_zero] at m; have M := Lib.hid m; clear m))
                    refine onward_normal (hK _ _ ⟨(by first | exact M.out | exact M.out.take 10), ?_⟩)
                    clear hK K
                    try simp only [Act.put, List.getElem_toArray, List.getElem_cons_succ, List.getElem_cons_zero, List.setIfInBounds_toArray, List.set_cons_succ, List.set_cons_zero]
                    refine any1H 7 (by kernel_rfl) rfl (fun K hK => ?_)
                    go_wp2_with (first | ((with_reducible refine gate_dst (N := 92) rfl ?_); go_must (refine M.out.ev_ldw 1 _ _ rfl rfl rfl Try.underlying37 rfl (by first | exact sz37 | (rw [S1.out]; exact sz37) | (rw [S2.out]; exact sz37) | (rw [S3.out]; exact sz37)) rfl ?_)) | (go_at_call 37; go_must (refine (l04Cost_any p HG.out x hpl _).mono ?_); rintro e w_ ⟨rfl, N_⟩; have m := M.out.join N_; clear N_; simp only [List.cons_append, List.nil_append, List.append_nil] at m; have M := Lib.hid m; clear m) | ((with_reducible refine gate_dst (N := 98) rfl ?_); go_must (refine M.out.ev_bs1 elem_int64 rfl _ rfl #[.int .i64 (netCost p x)] rfl rfl (by decide) ?_); intro g98 w98 m; simp only [List.cons_append, List.nil_append] at m; have M := Lib.hid m; clear m) | ((with_reducible refine gate_dst (N := 99) rfl ?_); go_must (refine M.out.ev_append1 11 13 elem_int64 rfl _ _ rfl rfl rfl rfl rfl rfl ((by simp [Value.oneCell'])) (by omega) (by decide) ?_); intro v99 w99 m; simp only [List.set_cons_succ, List.set_cons_zero] at m; have M := Lib.hid m; clear m))
                    refine onward_normal (hK _ _ ⟨(by first | exact M.out | exact M.out.take 10), ?_⟩)
                    clear hK K
                    try simp only [Act.put, List.getElem_toArray, List.getElem_cons_succ, List.getElem_cons_zero, List.setIfInBounds_toArray, List.set_cons_succ, List.set_cons_zero]
                    refine any1H 8 (by kernel_rfl) rfl (fun K hK => ?_)
                    go_wp2_with (first | ((with_reducible refine gate_dst (N := 92) rfl ?_); go_must (refine M.out.ev_ldw 1 _ _ rfl rfl rfl Try.underlying37 rfl (by first | exact sz37 | (rw [S1.out]; exact sz37) | (rw [S2.out]; exact sz37) | (rw [S3.out]; exact sz37)) rfl ?_)) | (go_at_call 37; go_must (refine (l04Cost_any p HG.out x hpl _).mono ?_); rintro e w_ ⟨rfl, N_⟩; have m := M.out.join N_; clear N_; simp only [List.cons_append, List.nil_append, List.append_nil] at m; have M := Lib.hid m; clear m) | ((with_reducible refine gate_dst (N := 98) rfl ?_); go_must (refine M.out.ev_bs1 elem_int64 rfl _ rfl #[.int .i64 (netCost p x)] rfl rfl (by decide) ?_); intro g98 w98 m; simp only [List.cons_append, List.nil_append] at m; have M := Lib.hid m; clear m) | ((with_reducible refine gate_dst (N := 99) rfl ?_); go_must (refine M.out.ev_append1 11 13 elem_int64 rfl _ _ rfl rfl rfl rfl rfl rfl ((by simp [Value.oneCell'])) (by omega) (by decide) ?_); intro v99 w99 m; simp only [List.set_cons_succ, List.set_cons_zero] at m; have M := Lib.hid m; clear m))
                    refine onward_normal (hK _ _ ⟨(by first | exact M.out | exact M.out.take 10), ?_⟩)
                    clear hK K
                    try simp only [Act.put, List.getElem_toArray, List.getElem_cons_succ, List.getElem_cons_zero, List.setIfInBounds_toArray, List.set_cons_succ, List.set_cons_zero]
                    apply takeH (i := 9) 17 rfl (by kernel_rfl) (by kernel_rfl) (by kernel_rfl) (fun _ _ _ h => h) rfl (by first | exact M.out | exact M.out.take 10)
                    case' hy =>
                      refine Or.inl ⟨by first | rfl | (go_simp; done), ?_⟩
                      intro w hS
                      clear hS
                      go_simp
                      try with_reducible rfl
                    try simp only [Act.put, List.getElem_toArray, List.getElem_cons_succ, List.getElem_cons_zero, List.setIfInBounds_toArray, List.set_cons_succ, List.set_cons_zero]
                    refine wpAnyH_done (by kernel_rfl) ?_ _
                    go_wp2
                    have mm := M.out.take 12
                    refine ⟨⟨i + 1, _, _, by omega, by go_num, rfl, rfl, ?_⟩, by simp [intOf]; omega⟩
                    rw [HTK.out, flat_snoc, flat_snoc]
                    rw [HY.out] at mm
                    exact mm
              · obtain rfl : i = L.length := by omega
                have i1 : ¬ ((L.length : Int) < (L.length : Int)) := by omega
                obtain ⟨B16, c16, rfl, _, _⟩ := M.out.row_slice 10 rfl
                obtain ⟨B17, c17, rfl, _, _⟩ := M.out.row_slice 11 rfl
                go_wp2_with (first
                  | ((with_reducible refine gate_store (x := .tmp 109) rfl ?_); go_must (refine M.out.ev_put (j := 0) 4 _ _ _ rfl rfl rfl rfl (.slice _ _ _) rfl (by simp [s4c]) sz77 rfl rfl ?_); intro wn m; simp only [List.set_cons_succ, List.set_cons_zero] at m; have M := Lib.hid m; clear m)
                  | ((with_reducible refine gate_store (x := .tmp 119) rfl ?_); go_must (refine M.out.ev_put (j := 1) 4 _ _ _ rfl rfl rfl rfl (.slice _ _ _) rfl (by simp [s4c]) sz78 rfl rfl ?_); intro wn m; simp only [List.set_cons_succ, List.set_cons_zero] at m; have M := Lib.hid m; clear m)
                  | ((with_reducible refine gate_store (x := .tmp 129) rfl ?_); go_must (refine M.out.ev_put (j := 2) 4 _ _ _ rfl rfl rfl rfl (.slice _ _ _) rfl (by simp [s4c]) sz79 rfl rfl ?_); intro wn m; simp only [List.set_cons_succ, List.set_cons_zero] at m; have M := Lib.hid m; clear m)
                  | ((with_reducible refine gate_dst (N := 106) rfl ?_); go_must (refine M.out.ev_bs1 elem_NetS rfl _ rfl #[.slice A9 L.length c9] rfl rfl (by decide) ?_); intro g106 w106 m; simp only [List.cons_append, List.nil_append] at m; have M := Lib.hid m; clear m)
                  | ((with_reducible refine gate_dst (N := 107) rfl ?_); go_must (refine M.out.ev_append1 5 12 elem_NetS rfl _ _ rfl rfl rfl rfl rfl rfl ((by simp [Value.oneCell'])) (by omega) (by decide) ?_); intro v107 w107 m; simp only [List.set_cons_succ, List.set_cons_zero] at m; have M := Lib.hid m; clear m; obtain ⟨B107, d107, rfl, _, _⟩ := M.out.row_slice 5 rfl)
                  | ((with_reducible refine gate_dst (N := 116) rfl ?_); go_must (refine M.out.ev_bs1 elem_u16S rfl _ rfl #[.slice B16 L.length c16] rfl rfl (by decide) ?_); intro g116 w116 m; simp only [List.cons_append, List.nil_append] at m; have M := Lib.hid m; clear m)
                  | ((with_reducible refine gate_dst (N := 117) rfl ?_); go_must (refine M.out.ev_append1 6 13 elem_u16S rfl _ _ rfl rfl rfl rfl rfl rfl ((by simp [Value.oneCell'])) (by omega) (by decide) ?_); intro v117 w117 m; simp only [List.set_cons_succ, List.set_cons_zero] at m; have M := Lib.hid m; clear m; obtain ⟨B117, d117, rfl, _, _⟩ := M.out.row_slice 6 rfl)
                  | ((with_reducible refine gate_dst (N := 126) rfl ?_); go_must (refine M.out.ev_bs1 elem_i64S rfl _ rfl #[.slice B17 L.length c17] rfl rfl (by decide) ?_); intro g126 w126 m; simp only [List.cons_append, List.nil_append] at m; have M := Lib.hid m; clear m)
                  | ((with_reducible refine gate_dst (N := 127) rfl ?_); go_must (refine M.out.ev_append1 7 14 elem_i64S rfl _ _ rfl rfl rfl rfl rfl rfl ((by simp [Value.oneCell'])) (by omega) (by decide) ?_); intro v127 w127 m; simp only [List.set_cons_succ, List.set_cons_zero] at m; have M := Lib.hid m; clear m; obtain ⟨B127, d127, rfl, _, _⟩ := M.out.row_slice 7 rfl)
                  | ((with_reducible refine gate_dst (N := 4) rfl ?_); go_must (refine M.out.ev_new rfl (by first | (go_simp; done) | (go_simp; rfl)) ?_); intro g4 w4 m; simp only [List.cons_append, List.nil_append] at m; have M := Lib.hid m; clear m; try have q4_6 := M.out.cell (j := 6) 4 rfl (by first | assumption | rfl); try have q4_7 := M.out.cell (j := 7) 4 rfl (by first | assumption | rfl))
                  | ((with_reducible refine gate_dst (N := 5) rfl ?_); go_must (refine M.out.ev_new rfl (by first | (go_simp; done) | (go_simp; rfl)) ?_); intro g5 w5 m; simp only [List.cons_append, List.nil_append] at m; have M := Lib.hid m; clear m; try have q4_6 := M.out.cell (j := 6) 4 rfl (by first | assumption | rfl); try have q4_7 := M.out.cell (j := 7) 4 rfl (by first | assumption | rfl))
                  | ((with_reducible refine gate_dst (N := 6) rfl ?_); go_must (refine M.out.ev_new rfl (by first | (go_simp; done) | (go_simp; rfl)) ?_); intro g6 w6 m; simp only [List.cons_append, List.nil_append] at m; have M := Lib.hid m; clear m; try have q4_6 := M.out.cell (j := 6) 4 rfl (by first | assumption | rfl); try have q4_7 := M.out.cell (j := 7) 4 rfl (by first | assumption | rfl))
                  | ((with_reducible refine gate_dst (N := 21) rfl ?_); go_must (refine M.out.ev_ldw 1 _ _ rfl rfl rfl Try.underlying37 rfl (by first | exact sz37 | (rw [S1.out]; exact sz37) | (rw [S2.out]; exact sz37) | (rw [S3.out]; exact sz37)) rfl ?_))
                  | ((with_reducible refine gate_dst (N := 47) rfl ?_); go_must (refine M.out.ev_new rfl (by first | (go_simp; done) | (go_simp; rfl)) ?_); intro g47 w47 m; simp only [List.cons_append, List.nil_append] at m; have M := Lib.hid m; clear m; try have q4_6 := M.out.cell (j := 6) 4 rfl (by first | assumption | rfl); try have q4_7 := M.out.cell (j := 7) 4 rfl (by first | assumption | rfl))
                  | ((with_reducible refine gate_dst (N := 92) rfl ?_); go_must (refine M.out.ev_ldw 1 _ _ rfl rfl rfl Try.underlying37 rfl (by first | exact sz37 | (rw [S1.out]; exact sz37) | (rw [S2.out]; exact sz37) | (rw [S3.out]; exact sz37)) rfl ?_))
                  | ((with_reducible refine gate_dst (N := 104) rfl ?_); go_must (refine M.out.ev_ld 4 _ _ rfl rfl rfl Try.underlying77 rfl rfl (by first | assumption | rfl) ?_))
                  | ((with_reducible refine gate_store (x := .tmp 109) rfl ?_); go_must (refine M.out.ev_put 4 _ _ _ rfl rfl rfl rfl (.slice _ _ _) rfl (by first | assumption | exact Fld.lt0 _ | exact Fld.lt1 _ | (simp; done) | (simp only [ints_size]; omega)) sz77 rfl rfl ?_); intro wn m; simp only [List.set_cons_succ, List.set_cons_zero, List.setIfInBounds_toArray] at m; have M := Lib.hid m; clear m; try have q4_6 := M.out.cell (j := 6) 4 rfl (by first | assumption | rfl); try have q4_7 := M.out.cell (j := 7) 4 rfl (by first | assumption | rfl))
                  | ((with_reducible refine gate_dst (N := 114) rfl ?_); go_must (refine M.out.ev_ld 4 _ _ rfl rfl rfl Try.underlying78 rfl rfl (by first | assumption | rfl) ?_))
                  | ((with_reducible refine gate_store (x := .tmp 119) rfl ?_); go_must (refine M.out.ev_put 4 _ _ _ rfl rfl rfl rfl (.slice _ _ _) rfl (by first | assumption | exact Fld.lt0 _ | exact Fld.lt1 _ | (simp; done) | (simp only [ints_size]; omega)) sz78 rfl rfl ?_); intro wn m; simp only [List.set_cons_succ, List.set_cons_zero, List.setIfInBounds_toArray] at m; have M := Lib.hid m; clear m; try have q4_6 := M.out.cell (j := 6) 4 rfl (by first | assumption | rfl); try have q4_7 := M.out.cell (j := 7) 4 rfl (by first | assumption | rfl))
                  | ((with_reducible refine gate_dst (N := 124) rfl ?_); go_must (refine M.out.ev_ld 4 _ _ rfl rfl rfl Try.underlying79 rfl rfl (by first | assumption | rfl) ?_))
                  | ((with_reducible refine gate_store (x := .tmp 129) rfl ?_); go_must (refine M.out.ev_put 4 _ _ _ rfl rfl rfl rfl (.slice _ _ _) rfl (by first | assumption | exact Fld.lt0 _ | exact Fld.lt1 _ | (simp; done) | (simp only [ints_size]; omega)) sz79 rfl rfl ?_); intro wn m; simp only [List.set_cons_succ, List.set_cons_zero, List.setIfInBounds_toArray] at m; have M := Lib.hid m; clear m; try have q4_6 := M.out.cell (j := 6) 4 rfl (by first | assumption | rfl); try have q4_7 := M.out.cell (j := 7) 4 rfl (by first | assumption | rfl))
                  | ((with_reducible refine gate_dst (N := 138) rfl ?_); go_must (refine M.out.ev_ld 4 _ _ rfl rfl rfl Try.underlying32 rfl rfl (by first | assumption | rfl) ?_))
                  | ((with_reducible refine gate_dst (N := 142) rfl ?_); go_must (refine M.out.ev_ld 4 _ _ rfl rfl rfl Try.underlying2 rfl rfl (by first | assumption | rfl) ?_))
                  )
                have m := M.out
                have e9 := HL.out
                have hk9 := HK.out
                have hlo9 := HLo.out
                clear ALLN
                subst e9
                rw [List.take_length] at m
                have m1 := m.absorb 8 9 (by decide) rfl rfl
                simp only [List.set_cons_succ, List.set_cons_zero] at m1
                have m2 := m1.absorb 8 10 (by decide) rfl rfl
                simp only [List.set_cons_succ, List.set_cons_zero] at m2
                have m3 := m2.absorb 8 11 (by decide) rfl rfl
                simp only [List.set_cons_succ, List.set_cons_zero] at m3
                have m4 := m3.only [0, 1, 2, 3, 4, 5, 6, 7, 8] (K := [_, _, _, _, _, _, _, _, _]) rfl (by decide)
                exact ⟨⟨j + 1, _, _, _, _, _, _, _, by omega, by go_num, by simp [ha1], by simp [ha2], by simp [ha3], m4, hlo9.next hk9 ha1 ha2 ha3⟩, by simp [intOf]; omega⟩
          · obtain rfl : j = ts.length := by omega
            have j1 : ¬ ((ts.length : Int) < (ts.length : Int)) := by omega
            have hbase : w.heap.size ≤ g47 := M.out.base 4 rfl
            have HBASE := Lib.hid hbase
            have hne : ∀ k ∈ c.all, netsAt F k ≠ [] := fun k hk => by
              have hw := HW.out
              rw [wood, List.any_eq_false] at hw
              exact netsAt_ne HV.out (mem_all.1 hk).1 (HTG.out k hk) (by rw [← Bool.not_eq_true]; exact hw k hk)
            have HLE := Lib.hid (fun hq => (seekAll_end (B := B) HG.out H12.out hne hq).2.2.2.1)
            have LKC := Lib.hid (fun (w' : World) (gv : Nat) (m : Mem w w' [.blk g4 35 F.cells, .blk g5 37 p.vals.toArray, .blk g6 39 c.cells, .row (.slice LA ts.length lc) 2 1 ts.length (flat one64 ts), .blk g47 81 (s4c vn vm vc al B (.slice none 0 0) sk0), .row vn 32 1 ts.length an, .row vm 83 1 ts.length am, .row vc 49 1 ts.length ac, .lot rs]) => (show Calls Try.prog 38 #[.pointer (some ⟨g47, 0, none⟩), .slice (some ⟨gv, 0, none⟩) 0 0, .int .u16 0, .int .i64 0] w' (RetGo w' w.heap.size g47 al B vn vm vc (seekAll F p c B)) from by
              have hgo := l04Go_any F HV.out p HG.out c H12.out g47 B w.heap.size vn vm vc hB hbase 13 c.cut [] 0 0 sk0 (.slice none 0 0) (some ⟨gv, 0, none⟩) 0 w' (GoIn.mk (Cs.cut_ok hc) (fun k h1 h2 => Cs.cut_small _ h1 h2) (fun k hk => by rwa [cut_all] at hk) (by rw [cut_all]; have := H12.out; omega) (Int.le_refl _) (by decide) rfl (by decide) (Nat.le_refl _) (fun h => by cases h) (Nat.zero_le _) (by rw [← HAL.out]; exact m.blk 4 rfl) ⟨(fun e => by cases e), ⟨by simp [sk0, flat], .inl ⟨rfl, rfl⟩⟩⟩ (by rw [← HTS.out]; exact Lots.shop m HLo.out) (fun _ _ => Sl.nil_))
              rw [covN_start, ← HAL.out] at hgo
              exact hgo))
            obtain ⟨q, hq⟩ : ∃ q, q = seekAll F p c B := ⟨_, rfl⟩
            rw [← hq] at LKC HX HLE
            clear hq hbase hne
            cases hq1 : q.1
            · have HX7 := Lib.hid (HX.out.2 hq1)
              go_wp2_with (first
                | ((with_reducible refine gate_dst (N := 131) rfl ?_); go_must (refine M.out.ev_bs0 elem_Net rfl rfl ?_); intro gv131 wv131 m; simp only [List.cons_append, List.nil_append] at m; have M := Lib.hid m; clear m)
                | ((with_reducible refine gate_dst (N := 134) rfl ?_); go_must (refine M.out.ev_bs0 elem_Net rfl rfl ?_); intro gv134 wv134 m; simp only [List.cons_append, List.nil_append] at m; have M := Lib.hid m; clear m)
                | (go_at_call 38; go_must (refine (LKC.out _ gv131 (M.out.take 9)).mono ?_); rintro e wl ⟨bv2, rfl, ho2, hb2, hbest2⟩; have HWE := Lib.hid (below_oth M.out.below ho2 HBASE.out (Nat.le_refl _)); have M := Lib.hid (Mem.start wl); have HB2 := Lib.hid hb2; have HBest2 := Lib.hid hbest2; clear ho2 hb2 hbest2)
                )
              go_ret3
              rw [HX7.out.1, HX7.out.2.1, HX7.out.2.2]
              exact ⟨_, _, rfl, by simp, Mem.single (below_then HWE.out M.out.below) (row_lower (M.out.row 0 rfl) HWE.out.size)⟩
            · have HX0 := Lib.hid (HX.out.1 hq1)
              have hle := HLE.out hq1
              have C7 := Lib.hid (fun bv => show (s4c vn vm vc al B bv q.2)[7]? = some (.int .i64 q.2.least) by simp [s4c, hle])
              clear hle
              go_wp2_with (first
                | ((with_reducible refine gate_dst (N := 131) rfl ?_); go_must (refine M.out.ev_bs0 elem_Net rfl rfl ?_); intro gv131 wv131 m; simp only [List.cons_append, List.nil_append] at m; have M := Lib.hid m; clear m)
                | ((with_reducible refine gate_dst (N := 134) rfl ?_); go_must (refine M.out.ev_bs0 elem_Net rfl rfl ?_); intro gv134 wv134 m; simp only [List.cons_append, List.nil_append] at m; have M := Lib.hid m; clear m)
                | (go_at_call 38; go_must (refine (LKC.out _ gv131 (M.out.take 9)).mono ?_); rintro e wl ⟨bv2, rfl, ho2, hb2, hbest2⟩; have HWE := Lib.hid (below_oth M.out.below ho2 HBASE.out (Nat.le_refl _)); have M := Lib.hid (Mem.start wl); have HB2 := Lib.hid hb2; have HBest2 := Lib.hid hbest2; clear ho2 hb2 hbest2)
                )
              refine region_anyH (fun w' => Mem wl w' []) (by kernel_rfl) ?_
              have m := M.out.drew
              clear M
              have M := Lib.hid m
              clear m
              apply takeH (i := 0) 135 rfl (by kernel_rfl) (by kernel_rfl) (by kernel_rfl) (fun _ _ _ h => h) rfl (by exact M.out)
              case' hy =>
                refine Or.inl ⟨by first | rfl | (go_simp; done), ?_⟩
                intro w hS
                clear hS
                go_simp
                try with_reducible rfl
              try simp only [Act.put, List.getElem_toArray, List.getElem_cons_succ, List.getElem_cons_zero, List.setIfInBounds_toArray, List.set_cons_succ, List.set_cons_zero]
              apply takeH (i := 1) 136 rfl (by kernel_rfl) (by kernel_rfl) (by kernel_rfl) (fun _ _ _ h => h) rfl (by exact M.out)
              case' hy =>
                refine Or.inl ⟨by first | rfl | (go_simp; done), ?_⟩
                intro w hS
                clear hS
                go_simp
                try with_reducible rfl
              try simp only [Act.put, List.getElem_toArray, List.getElem_cons_succ, List.getElem_cons_zero, List.setIfInBounds_toArray, List.set_cons_succ, List.set_cons_zero]
              apply takeH (i := 2) 137 rfl (by kernel_rfl) (by kernel_rfl) (by kernel_rfl) (fun _ _ _ h => h) rfl (by exact M.out)
              case' hy =>
                refine Or.inl ⟨by first | rfl | (go_simp; done), ?_⟩
                intro w hS
                clear hS
                go_simp
                try with_reducible rfl
              try simp only [Act.put, List.getElem_toArray, List.getElem_cons_succ, List.getElem_cons_zero, List.setIfInBounds_toArray, List.set_cons_succ, List.set_cons_zero]
              apply takeH (i := 3) 138 rfl (by kernel_rfl) (by kernel_rfl) (by kernel_rfl) (fun _ _ _ h => h) rfl (by exact M.out)
              case' hy => exact ylds _ _ rfl rfl Try.underlying32 rfl rfl (fun w' hS => (hS.arg HB2.out).cellv (i := 6) (v := bv2) rfl)
              try simp only [Act.put, List.getElem_toArray, List.getElem_cons_succ, List.getElem_cons_zero, List.setIfInBounds_toArray, List.set_cons_succ, List.set_cons_zero]
              apply takeH (i := 4) 139 rfl (by kernel_rfl) (by kernel_rfl) (by kernel_rfl) (fun _ _ _ h => h) rfl (by exact M.out)
              case' hy =>
                refine Or.inl ⟨by first | rfl | (go_simp; done), ?_⟩
                intro w hS
                clear hS
                go_simp
                try with_reducible rfl
              try simp only [Act.put, List.getElem_toArray, List.getElem_cons_succ, List.getElem_cons_zero, List.setIfInBounds_toArray, List.set_cons_succ, List.set_cons_zero]
              apply takeH (i := 5) 140 rfl (by kernel_rfl) (by kernel_rfl) (by kernel_rfl) (fun _ _ _ h => h) rfl (by exact M.out)
              case' hy =>
                refine Or.inl ⟨by first | rfl | (go_simp; done), ?_⟩
                intro w hS
                clear hS
                go_simp
                try with_reducible rfl
              try simp only [Act.put, List.getElem_toArray, List.getElem_cons_succ, List.getElem_cons_zero, List.setIfInBounds_toArray, List.set_cons_succ, List.set_cons_zero]
              apply takeH (i := 6) 141 rfl (by kernel_rfl) (by kernel_rfl) (by kernel_rfl) (fun _ _ _ h => h) rfl (by exact M.out)
              case' hy =>
                refine Or.inl ⟨by first | rfl | (go_simp; done), ?_⟩
                intro w hS
                clear hS
                go_simp
                try with_reducible rfl
              try simp only [Act.put, List.getElem_toArray, List.getElem_cons_succ, List.getElem_cons_zero, List.setIfInBounds_toArray, List.set_cons_succ, List.set_cons_zero]
              apply takeH (i := 7) 142 rfl (by kernel_rfl) (by kernel_rfl) (by kernel_rfl) (fun _ _ _ h => h) rfl (by exact M.out)
              case' hy => exact ylds _ _ rfl rfl Try.underlying2 rfl rfl (fun w' hS => (hS.arg HB2.out).cellv (i := 7) (C7.out _))
              try simp only [Act.put, List.getElem_toArray, List.getElem_cons_succ, List.getElem_cons_zero, List.setIfInBounds_toArray, List.set_cons_succ, List.set_cons_zero]
              apply takeH (i := 8) 8 rfl (by kernel_rfl) (by kernel_rfl) (by kernel_rfl) (fun _ _ _ h => h) rfl (by exact M.out)
              case' hy =>
                refine Or.inl ⟨by first | rfl | (go_simp; done), ?_⟩
                intro w hS
                clear hS
                go_simp
                try with_reducible rfl
              try simp only [Act.put, List.getElem_toArray, List.getElem_cons_succ, List.getElem_cons_zero, List.setIfInBounds_toArray, List.set_cons_succ, List.set_cons_zero]
              apply takeH (i := 9) 9 rfl (by kernel_rfl) (by kernel_rfl) (by kernel_rfl) (fun _ _ _ h => h) rfl (by exact M.out)
              case' hy =>
                refine Or.inl ⟨by first | rfl | (go_simp; done), ?_⟩
                intro w hS
                clear hS
                go_simp
                try with_reducible rfl
              try simp only [Act.put, List.getElem_toArray, List.getElem_cons_succ, List.getElem_cons_zero, List.setIfInBounds_toArray, List.set_cons_succ, List.set_cons_zero]
              apply takeH (i := 10) 10 rfl (by kernel_rfl) (by kernel_rfl) (by kernel_rfl) (fun _ _ _ h => h) rfl (by exact M.out)
              case' hy =>
                refine Or.inl ⟨by first | rfl | (go_simp; done), ?_⟩
                intro w hS
                clear hS
                go_simp
                try with_reducible rfl
              try simp only [Act.put, List.getElem_toArray, List.getElem_cons_succ, List.getElem_cons_zero, List.setIfInBounds_toArray, List.set_cons_succ, List.set_cons_zero]
              refine wpAnyH_done (by kernel_rfl) ?_ _
              all_goals
                go_wp2
                go_ret3
                rw [HX0.out.1, HX0.out.2.1, HX0.out.2.2]
                have hrow := HBest2.out.2
                have hM := Mem.single HWE.out hrow
                obtain ⟨A, c0, e1, e2, _⟩ := hM.row_slice 0 rfl
                rw [e1] at hM ⊢
                exact ⟨A, c0, rfl, e2, by simpa using hM.drew⟩
      · have HX := Lib.hid (ch_wood hk hb hw)
        have HIN := Lib.hid hb
        have HW := Lib.hid hw
        clear hk h1 hb hw
        go_enter Try.func5, Try.ntmps5
        go_wp2_with (first
          | ((with_reducible refine gate_dst (N := 4) rfl ?_); go_must (refine M.out.ev_new rfl (by first | (go_simp; done) | (go_simp; rfl)) ?_); intro g4 w4 m; simp only [List.cons_append, List.nil_append] at m; have M := Lib.hid m; clear m; try have q4_6 := M.out.cell (j := 6) 4 rfl (by first | assumption | rfl); try have q4_7 := M.out.cell (j := 7) 4 rfl (by first | assumption | rfl))
          | ((with_reducible refine gate_dst (N := 5) rfl ?_); go_must (refine M.out.ev_new rfl (by first | (go_simp; done) | (go_simp; rfl)) ?_); intro g5 w5 m; simp only [List.cons_append, List.nil_append] at m; have M := Lib.hid m; clear m; try have q4_6 := M.out.cell (j := 6) 4 rfl (by first | assumption | rfl); try have q4_7 := M.out.cell (j := 7) 4 rfl (by first | assumption | rfl))
          | ((with_reducible refine gate_dst (N := 6) rfl ?_); go_must (refine M.out.ev_new rfl (by first | (go_simp; done) | (go_simp; rfl)) ?_); intro g6 w6 m; simp only [List.cons_append, List.nil_append] at m; have M := Lib.hid m; clear m; try have q4_6 := M.out.cell (j := 6) 4 rfl (by first | assumption | rfl); try have q4_7 := M.out.cell (j := 7) 4 rfl (by first | assumption | rfl))
          | ((with_reducible refine gate_dst (N := 21) rfl ?_); go_must (refine M.out.ev_ldw 1 _ _ rfl rfl rfl Try.underlying37 rfl (by first | exact sz37 | (rw [S1.out]; exact sz37) | (rw [S2.out]; exact sz37) | (rw [S3.out]; exact sz37)) rfl ?_))
          | ((with_reducible refine gate_dst (N := 47) rfl ?_); go_must (refine M.out.ev_new rfl (by first | (go_simp; done) | (go_simp; rfl)) ?_); intro g47 w47 m; simp only [List.cons_append, List.nil_append] at m; have M := Lib.hid m; clear m; try have q4_6 := M.out.cell (j := 6) 4 rfl (by first | assumption | rfl); try have q4_7 := M.out.cell (j := 7) 4 rfl (by first | assumption | rfl))
          | ((with_reducible refine gate_dst (N := 92) rfl ?_); go_must (refine M.out.ev_ldw 1 _ _ rfl rfl rfl Try.underlying37 rfl (by first | exact sz37 | (rw [S1.out]; exact sz37) | (rw [S2.out]; exact sz37) | (rw [S3.out]; exact sz37)) rfl ?_))
          | ((with_reducible refine gate_dst (N := 104) rfl ?_); go_must (refine M.out.ev_ld 4 _ _ rfl rfl rfl Try.underlying77 rfl rfl (by first | assumption | rfl) ?_))
          | ((with_reducible refine gate_store (x := .tmp 109) rfl ?_); go_must (refine M.out.ev_put 4 _ _ _ rfl rfl rfl rfl (.slice _ _ _) rfl (by first | assumption | exact Fld.lt0 _ | exact Fld.lt1 _ | (simp; done) | (simp only [ints_size]; omega)) sz77 rfl rfl ?_); intro wn m; simp only [List.set_cons_succ, List.set_cons_zero, List.setIfInBounds_toArray] at m; have M := Lib.hid m; clear m; try have q4_6 := M.out.cell (j := 6) 4 rfl (by first | assumption | rfl); try have q4_7 := M.out.cell (j := 7) 4 rfl (by first | assumption | rfl))
          | ((with_reducible refine gate_dst (N := 114) rfl ?_); go_must (refine M.out.ev_ld 4 _ _ rfl rfl rfl Try.underlying78 rfl rfl (by first | assumption | rfl) ?_))
          | ((with_reducible refine gate_store (x := .tmp 119) rfl ?_); go_must (refine M.out.ev_put 4 _ _ _ rfl rfl rfl rfl (.slice _ _ _) rfl (by first | assumption | exact Fld.lt0 _ | exact Fld.lt1 _ | (simp; done) | (simp only [ints_size]; omega)) sz78 rfl rfl ?_); intro wn m; simp only [List.set_cons_succ, List.set_cons_zero, List.setIfInBounds_toArray] at m; have M := Lib.hid m; clear m; try have q4_6 := M.out.cell (j := 6) 4 rfl (by first | assumption | rfl); try have q4_7 := M.out.cell (j := 7) 4 rfl (by first | assumption | rfl))
          | ((with_reducible refine gate_dst (N := 124) rfl ?_); go_must (refine M.out.ev_ld 4 _ _ rfl rfl rfl Try.underlying79 rfl rfl (by first | assumption | rfl) ?_))
          | ((with_reducible refine gate_store (x := .tmp 129) rfl ?_); go_must (refine M.out.ev_put 4 _ _ _ rfl rfl rfl rfl (.slice _ _ _) rfl (by first | assumption | exact Fld.lt0 _ | exact Fld.lt1 _ | (simp; done) | (simp only [ints_size]; omega)) sz79 rfl rfl ?_); intro wn m; simp only [List.set_cons_succ, List.set_cons_zero, List.setIfInBounds_toArray] at m; have M := Lib.hid m; clear m; try have q4_6 := M.out.cell (j := 6) 4 rfl (by first | assumption | rfl); try have q4_7 := M.out.cell (j := 7) 4 rfl (by first | assumption | rfl))
          | ((with_reducible refine gate_dst (N := 138) rfl ?_); go_must (refine M.out.ev_ld 4 _ _ rfl rfl rfl Try.underlying32 rfl rfl (by first | assumption | rfl) ?_))
          | ((with_reducible refine gate_dst (N := 142) rfl ?_); go_must (refine M.out.ev_ld 4 _ _ rfl rfl rfl Try.underlying2 rfl rfl (by first | assumption | rfl) ?_))
          | (go_at_call 31; go_must (refine (l04Priced_any g4 g6 F HF.out p hp c hc _ (M.out.blk 0 rfl) (M.out.blk 2 rfl)).mono ?_); rintro e w_ ⟨rfl, N_⟩; have m := M.out.join N_; clear N_; simp only [List.cons_append, List.nil_append, List.append_nil] at m; have M := Lib.hid m; clear m; rw [HK.out])
          | (go_at_call 32; go_must (refine (l00In_any _ _ _ _).mono ?_); rintro e w_ ⟨rfl, rfl⟩; rw [HIN.out])
          | (go_at_call 33; go_must (refine (l04Wood_any g4 g6 F HF.out c hc _ (M.out.blk 0 rfl) (M.out.blk 2 rfl)).mono ?_); rintro e w_ ⟨rfl, N_⟩; have m := M.out.join N_; clear N_; simp only [List.cons_append, List.nil_append, List.append_nil] at m; have M := Lib.hid m; clear m; rw [HW.out])
          | ((with_reducible refine gate_dst (N := 37) rfl ?_); go_must (refine M.out.ev_bs0 elem_Net rfl rfl ?_); intro gv37 wv37 m; simp only [List.cons_append, List.nil_append] at m; have M := Lib.hid m; clear m)
          )
        go_ret3
        rw [HX.out.1, HX.out.2.1, HX.out.2.2]
        exact ⟨_, _, rfl, by simp, M.out.only [3] (K := [_]) rfl (by decide)⟩
  · obtain ⟨d, hd⟩ : ∃ d, d = prCode F p [] c := ⟨_, rfl⟩
    have HX := Lib.hid (ch_bad (b := b) hk)
    rw [← hd] at HX
    have HD := Lib.hid hd
    rw [← hd] at hk
    have e0 : (d == 0) = false := by rw [← Bool.not_eq_true, beq_iff_eq]; exact hk
    have e1 : (d != 0) = true := by rw [bne, e0]; rfl
    clear hd
    go_enter Try.func5, Try.ntmps5
    go_wp2_with (first
      | ((with_reducible refine gate_dst (N := 4) rfl ?_); go_must (refine M.out.ev_new rfl (by first | (go_simp; done) | (go_simp; rfl)) ?_); intro g4 w4 m; simp only [List.cons_append, List.nil_append] at m; have M := Lib.hid m; clear m; try have q4_6 := M.out.cell (j := 6) 4 rfl (by first | assumption | rfl); try have q4_7 := M.out.cell (j := 7) 4 rfl (by first | assumption | rfl))
      | ((with_reducible refine gate_dst (N := 5) rfl ?_); go_must (refine M.out.ev_new rfl (by first | (go_simp; done) | (go_simp; rfl)) ?_); intro g5 w5 m; simp only [List.cons_append, List.nil_append] at m; have M := Lib.hid m; clear m; try have q4_6 := M.out.cell (j := 6) 4 rfl (by first | assumption | rfl); try have q4_7 := M.out.cell (j := 7) 4 rfl (by first | assumption | rfl))
      | ((with_reducible refine gate_dst (N := 6) rfl ?_); go_must (refine M.out.ev_new rfl (by first | (go_simp; done) | (go_simp; rfl)) ?_); intro g6 w6 m; simp only [List.cons_append, List.nil_append] at m; have M := Lib.hid m; clear m; try have q4_6 := M.out.cell (j := 6) 4 rfl (by first | assumption | rfl); try have q4_7 := M.out.cell (j := 7) 4 rfl (by first | assumption | rfl))
      | ((with_reducible refine gate_dst (N := 21) rfl ?_); go_must (refine M.out.ev_ldw 1 _ _ rfl rfl rfl Try.underlying37 rfl (by first | exact sz37 | (rw [S1.out]; exact sz37) | (rw [S2.out]; exact sz37) | (rw [S3.out]; exact sz37)) rfl ?_))
      | ((with_reducible refine gate_dst (N := 47) rfl ?_); go_must (refine M.out.ev_new rfl (by first | (go_simp; done) | (go_simp; rfl)) ?_); intro g47 w47 m; simp only [List.cons_append, List.nil_append] at m; have M := Lib.hid m; clear m; try have q4_6 := M.out.cell (j := 6) 4 rfl (by first | assumption | rfl); try have q4_7 := M.out.cell (j := 7) 4 rfl (by first | assumption | rfl))
      | ((with_reducible refine gate_dst (N := 92) rfl ?_); go_must (refine M.out.ev_ldw 1 _ _ rfl rfl rfl Try.underlying37 rfl (by first | exact sz37 | (rw [S1.out]; exact sz37) | (rw [S2.out]; exact sz37) | (rw [S3.out]; exact sz37)) rfl ?_))
      | ((with_reducible refine gate_dst (N := 104) rfl ?_); go_must (refine M.out.ev_ld 4 _ _ rfl rfl rfl Try.underlying77 rfl rfl (by first | assumption | rfl) ?_))
      | ((with_reducible refine gate_store (x := .tmp 109) rfl ?_); go_must (refine M.out.ev_put 4 _ _ _ rfl rfl rfl rfl (.slice _ _ _) rfl (by first | assumption | exact Fld.lt0 _ | exact Fld.lt1 _ | (simp; done) | (simp only [ints_size]; omega)) sz77 rfl rfl ?_); intro wn m; simp only [List.set_cons_succ, List.set_cons_zero, List.setIfInBounds_toArray] at m; have M := Lib.hid m; clear m; try have q4_6 := M.out.cell (j := 6) 4 rfl (by first | assumption | rfl); try have q4_7 := M.out.cell (j := 7) 4 rfl (by first | assumption | rfl))
      | ((with_reducible refine gate_dst (N := 114) rfl ?_); go_must (refine M.out.ev_ld 4 _ _ rfl rfl rfl Try.underlying78 rfl rfl (by first | assumption | rfl) ?_))
      | ((with_reducible refine gate_store (x := .tmp 119) rfl ?_); go_must (refine M.out.ev_put 4 _ _ _ rfl rfl rfl rfl (.slice _ _ _) rfl (by first | assumption | exact Fld.lt0 _ | exact Fld.lt1 _ | (simp; done) | (simp only [ints_size]; omega)) sz78 rfl rfl ?_); intro wn m; simp only [List.set_cons_succ, List.set_cons_zero, List.setIfInBounds_toArray] at m; have M := Lib.hid m; clear m; try have q4_6 := M.out.cell (j := 6) 4 rfl (by first | assumption | rfl); try have q4_7 := M.out.cell (j := 7) 4 rfl (by first | assumption | rfl))
      | ((with_reducible refine gate_dst (N := 124) rfl ?_); go_must (refine M.out.ev_ld 4 _ _ rfl rfl rfl Try.underlying79 rfl rfl (by first | assumption | rfl) ?_))
      | ((with_reducible refine gate_store (x := .tmp 129) rfl ?_); go_must (refine M.out.ev_put 4 _ _ _ rfl rfl rfl rfl (.slice _ _ _) rfl (by first | assumption | exact Fld.lt0 _ | exact Fld.lt1 _ | (simp; done) | (simp only [ints_size]; omega)) sz79 rfl rfl ?_); intro wn m; simp only [List.set_cons_succ, List.set_cons_zero, List.setIfInBounds_toArray] at m; have M := Lib.hid m; clear m; try have q4_6 := M.out.cell (j := 6) 4 rfl (by first | assumption | rfl); try have q4_7 := M.out.cell (j := 7) 4 rfl (by first | assumption | rfl))
      | ((with_reducible refine gate_dst (N := 138) rfl ?_); go_must (refine M.out.ev_ld 4 _ _ rfl rfl rfl Try.underlying32 rfl rfl (by first | assumption | rfl) ?_))
      | ((with_reducible refine gate_dst (N := 142) rfl ?_); go_must (refine M.out.ev_ld 4 _ _ rfl rfl rfl Try.underlying2 rfl rfl (by first | assumption | rfl) ?_))
      | (go_at_call 31; go_must (refine (l04Priced_any g4 g6 F HF.out p hp c hc _ (M.out.blk 0 rfl) (M.out.blk 2 rfl)).mono ?_); rintro e w_ ⟨rfl, N_⟩; have m := M.out.join N_; clear N_; simp only [List.cons_append, List.nil_append, List.append_nil] at m; have M := Lib.hid m; clear m; rw [← HD.out])
      | ((with_reducible refine gate_dst (N := 37) rfl ?_); go_must (refine M.out.ev_bs0 elem_Net rfl rfl ?_); intro gv37 wv37 m; simp only [List.cons_append, List.nil_append] at m; have M := Lib.hid m; clear m)
      )
    go_ret3
    rw [HX.out.1, HX.out.2.1, HX.out.2.2]
    exact ⟨_, _, rfl, by simp, M.out.only [3] (K := [_]) rfl (by decide)⟩
end Go.Proofs.Ytjkclggdaafmaaa
