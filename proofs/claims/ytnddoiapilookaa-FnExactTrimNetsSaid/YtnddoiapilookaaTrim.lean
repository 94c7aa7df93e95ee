/- Nets that are not needed: the walks of both. -/
import Derived.Test.YtnddoiapilookaaBare
import Derived.Test.YtnddoiapilookaaDeleteN
import Derived.Test.YtnddoiapilookaaGen2
import Derived.Test.YtnddoiapilookaaHeld
import Derived.Test.YtnddoiapilookaaNeq
namespace Go.Proofs.Ytnddoiapilookaa
set_option linter.unusedSimpArgs false
set_option linter.unusedVariables false
open Go.RowKit
attribute [local go_sem] cell?_mk frozen?_mk
--ONES exact Cs.one _
/-- Nets tried from the last one on: left away if all targets stay covered. -/
def trimFrom (c : Cs) : Nat → List Net → List Net
  | 0, xs => xs
  | k + 1, xs => trimFrom c k (if (bareSet (xs.eraseIdx k) c).all = [] then xs.eraseIdx k else xs)
def trimRes (F : Fld) (xs : List Net) (c : Cs) : List Net := if ntCode F xs c = 0 then (if (bareSet xs c).all = [] then trimFrom c xs.length xs else []) else []
def trimCode (F : Fld) (xs : List Net) (c : Cs) : Int := if ntCode F xs c = 0 then (if (bareSet xs c).all = [] then 0 else 4) else ntCode F xs c
theorem trimFrom_len (c : Cs) : ∀ (k : Nat) (xs : List Net), (trimFrom c k xs).length ≤ xs.length
  | 0, xs => Nat.le_refl _
  | k + 1, xs => by
    rw [trimFrom]
    refine Nat.le_trans (trimFrom_len c k _) ?_
    split
    · exact List.length_eraseIdx_le _ _
    · exact Nat.le_refl _
theorem trimRes_len (F : Fld) (xs : List Net) (c : Cs) : (trimRes F xs c).length ≤ xs.length := by
  unfold trimRes
  split
  · split
    · exact trimFrom_len _ _ _
    · simp
  · simp
set_option maxRecDepth 100000 in
set_option maxHeartbeats 8000000 in
theorem impl_TrimNets_any (F : Fld) (hF : F.ok) (A : Option Addr) (n : Nat) (xs : List Net) (hx : ∀ x ∈ xs, x.ok) (hl : xs.length ≤ 1048576) (hc : xs.length ≤ n) (hn : n ≤ 9223372036854775807) (hA : A = none → n = 0) (c : Cs) (hcc : c.ok) (w : World) (hs : Sl w 4 A xs.length (flat Net.vals xs)) :
    Calls Try.prog 44 #[.agg F.cells, .slice A xs.length n, .agg c.cells] w (RetRowC w 44 4 (trimRes F xs c).length (flat Net.vals (trimRes F xs c)) (trimCode F xs c)) := by
  have M := Lib.hid (Mem.start w)
  have HX := Lib.hid hx
  have HS := Lib.hid hs
  have HF := Lib.hid hF
  have S1 := Lib.hid (Fld.size hF.toLen)
  have O1 := Lib.hid (Cs.one Cs.z)
  clear hx hs hF
  by_cases hk : ntCode F xs c = 0
  · have hok := netsOk_iff.1 (ntCode_0 hk).1
    have HSN := Lib.hid (show ∀ x ∈ xs, x.snug from fun x hx => Net.snug_of hok.1 (hok.2 x hx))
    have HK := Lib.hid hk
    clear hok
    have hbl : (bareSet xs c).all.length ≤ 100 := (bareSet xs c).below_len 100
    by_cases hz : (bareSet xs c).all = []
    · have HZ := Lib.hid hz
      have HR := Lib.hid (show trimRes F xs c = trimFrom c xs.length xs by rw [trimRes, if_pos hk, if_pos hz])
      have HC := Lib.hid (show trimCode F xs c = 0 by rw [trimCode, if_pos hk, if_pos hz])
      have heq := neqCs (bareSet xs c) Cs.z
      rw [bare_z, decide_eq_true hz] at heq
      change ∀ w, (binOp .neq 51 (.agg (bareSet xs c).cells) (.agg #[.int .u64 0, .int .u64 0])).run Try.prog w = _ at heq
      clear hk hz
      go_enter Try.func44, Try.ntmps44
      go_wp2_with (first
        | ((with_reducible refine gate_dst (N := 3) rfl ?_); go_must (refine M.out.ev_new rfl (by first | (go_simp; done) | (go_simp; rfl)) ?_); intro g3 w3 m; simp only [List.cons_append, List.nil_append] at m; have M := Lib.hid m; clear m)
        | ((with_reducible refine gate_dst (N := 5) rfl ?_); go_must (refine M.out.ev_new rfl (by first | (go_simp; done) | (go_simp; rfl)) ?_); intro g5 w5 m; simp only [List.cons_append, List.nil_append] at m; have M := Lib.hid m; clear m)
        | ((with_reducible refine gate_dst (N := 13) rfl ?_); go_must (refine M.out.ev_ldw 1 _ _ rfl rfl rfl Try.underlying51 rfl (by first | exact sz51 | (rw [S1.out]; exact sz51) | (rw [S2.out]; exact sz51) | (rw [S3.out]; exact sz51)) rfl ?_))
        | ((with_reducible refine gate_dst (N := 21) rfl ?_); go_must (refine M.out.ev_ldw 1 _ _ rfl rfl rfl Try.underlying51 rfl (by first | exact sz51 | (rw [S1.out]; exact sz51) | (rw [S2.out]; exact sz51) | (rw [S3.out]; exact sz51)) rfl ?_))
        | ((with_reducible refine gate_dst (N := 41) rfl ?_); go_must (refine M.out.ev_ldw 1 _ _ rfl rfl rfl Try.underlying51 rfl (by first | exact sz51 | (rw [S1.out]; exact sz51) | (rw [S2.out]; exact sz51) | (rw [S3.out]; exact sz51)) rfl ?_))
        | (go_at_call 66; go_must (refine (netsCode_any g3 F HF.out A n xs HX.out hl c hcc _ (M.out.blk 0 rfl) (M.out.sl HS.out)).mono ?_); rintro e w_ ⟨rfl, N_⟩; have m := M.out.join N_; clear N_; simp only [List.cons_append, List.nil_append, List.append_nil] at m; have M := Lib.hid m; clear m; rw [HK.out])
        | (go_at_call 79; go_must (refine (bare_any A n xs HSN.out hl c _ (M.out.sl HS.out)).mono ?_); rintro e w_ ⟨rfl, N_⟩; have m := M.out.join N_; clear N_; simp only [List.cons_append, List.nil_append, List.append_nil] at m; have M := Lib.hid m; clear m)
        | (go_at_call 81; go_must (refine (cloneNet_any A n xs hl hc hA _ (M.out.sl HS.out)).mono ?_); rintro e w_ ⟨A_, c_, rfl, hc_, N_⟩; have m := M.out.join N_; clear N_; simp only [List.cons_append, List.nil_append, List.append_nil] at m; have M := Lib.hid m; clear m)
        )
      clear heq
      go_loopw [9, 10] (fun s v wr => ∃ (k : Nat) (ys : List Net), v = .int .i64 ((k : Int) - 1) ∧ k ≤ ys.length ∧ ys.length ≤ xs.length ∧ (∀ y ∈ ys, y.snug) ∧ trimFrom c k ys = trimFrom c xs.length xs ∧ Mem w wr [.blk g3 31 F.cells, .blk g5 51 c.cells, .row s 44 4 ys.length (flat Net.vals ys)])
        (fun _ v _ => (intOf v + 1).toNat)
      case atStart => exact ⟨xs.length, xs, by first | rfl | go_num, Nat.le_refl _, Nat.le_refl _, HSN.out, rfl, M.out⟩
      case round =>
        clear M
        obtain ⟨k, ys, rfl, hky, hyl, hyx, hyt, m⟩ := hrel
        have M := Lib.hid m
        have HYX := Lib.hid hyx
        have HYT := Lib.hid hyt
        clear m hyx hyt
        cases k with
        | zero =>
          go_wp2
          obtain ⟨B, cB, rfl, hcB, _⟩ := M.out.row_slice 2 rfl
          go_ret2
          have hh : ys = trimRes F xs c := by rw [HR.out, ← HYT.out]; rfl
          rw [HC.out, ← hh]
          exact ⟨B, cB, rfl, hcB, M.out.only [2] (K := [_]) rfl (by decide)⟩
        | succ k =>
          have k0 : (0 : Int) ≤ ((k + 1 : Nat) : Int) - 1 := by omega
          have k1 : IntKind.i64.wrap (((k + 1 : Nat) : Int) - 1) = (k : Int) := by rw [IntWalk.i64_in _ (by omega)]; omega
          have k2 : ((k + 1 : Nat) : Int) - 1 = (k : Int) := by omega
          have hle : (ys.eraseIdx k).length = ys.length - 1 := List.length_eraseIdx_of_lt (by omega)
          have hyl1 : ys.length - 1 ≤ 1048576 := by omega
          rw [k2]
          clear k0 k1 k2
          have k0 : (0 : Int) ≤ (k : Int) := by omega
          have hlt : k < ys.length := by omega
          obtain ⟨B, cB, rfl, hcB, hcBm⟩ := M.out.row_slice 2 rfl
          have HRN := Lib.hid (M.out.row_none 2 rfl)
          have HEQ := Lib.hid (eqCs (bareSet (ys.eraseIdx k) c) Cs.z)
          have heq := HEQ.out
          rw [bare_z] at heq
          change ∀ w, (binOp .eql 51 (.agg (bareSet (ys.eraseIdx k) c).cells) (.agg #[.int .u64 0, .int .u64 0])).run Try.prog w = _ at heq
          have HBA := Lib.hid (fun A n w hs => bare_any A n (ys.eraseIdx k) (fun y hy => HYX.out y (List.mem_of_mem_eraseIdx hy)) (by omega) c w hs)
          rw [hle] at HBA
          cases hq : decide ((bareSet (ys.eraseIdx k) c).all = [])
          all_goals
            rw [hq] at heq
            go_wp2_with (first
              | ((with_reducible refine gate_dst (N := 3) rfl ?_); go_must (refine M.out.ev_new rfl (by first | (go_simp; done) | (go_simp; rfl)) ?_); intro g3 w3 m; simp only [List.cons_append, List.nil_append] at m; have M := Lib.hid m; clear m)
              | ((with_reducible refine gate_dst (N := 5) rfl ?_); go_must (refine M.out.ev_new rfl (by first | (go_simp; done) | (go_simp; rfl)) ?_); intro g5 w5 m; simp only [List.cons_append, List.nil_append] at m; have M := Lib.hid m; clear m)
              | ((with_reducible refine gate_dst (N := 13) rfl ?_); go_must (refine M.out.ev_ldw 1 _ _ rfl rfl rfl Try.underlying51 rfl (by first | exact sz51 | (rw [S1.out]; exact sz51) | (rw [S2.out]; exact sz51) | (rw [S3.out]; exact sz51)) rfl ?_))
              | ((with_reducible refine gate_dst (N := 21) rfl ?_); go_must (refine M.out.ev_ldw 1 _ _ rfl rfl rfl Try.underlying51 rfl (by first | exact sz51 | (rw [S1.out]; exact sz51) | (rw [S2.out]; exact sz51) | (rw [S3.out]; exact sz51)) rfl ?_))
              | ((with_reducible refine gate_dst (N := 41) rfl ?_); go_must (refine M.out.ev_ldw 1 _ _ rfl rfl rfl Try.underlying51 rfl (by first | exact sz51 | (rw [S1.out]; exact sz51) | (rw [S2.out]; exact sz51) | (rw [S3.out]; exact sz51)) rfl ?_))
              | (go_at_call 81; go_must (refine (cloneNet_any B cB ys (by omega) hcB HRN.out _ (M.out.slof 2 rfl)).mono ?_); rintro e w_ ⟨A_, c_, rfl, hc_, N_⟩; have m := M.out.join N_; clear N_; simp only [List.cons_append, List.nil_append, List.append_nil] at m; have M := Lib.hid m; clear m)
              | (go_at_call 82; go_must (refine (deleteN_any 3 M.out _ _ ys rfl (by omega) hc_ (M.out.row_cap 3 rfl) k hlt).mono ?_); rintro e w_ ⟨rfl, m⟩; simp only [List.set_cons_succ, List.set_cons_zero] at m; have M := Lib.hid m; clear m)
              | (go_at_call 79; go_must (refine (HBA.out _ _ _ (M.out.slof 3 rfl)).mono ?_); rintro e w_ ⟨rfl, N_⟩; have m := M.out.join N_; clear N_; simp only [List.cons_append, List.nil_append, List.append_nil] at m; have M := Lib.hid m; clear m)
              )
          · refine ⟨⟨k, ys, by go_num, by omega, hyl, HYX.out, ?_, M.out.take 3⟩, by simp [intOf]; try omega⟩
            rw [← HYT.out, trimFrom, if_neg (of_decide_eq_false hq)]
          · refine ⟨⟨k, ys.eraseIdx k, by go_num, by omega, by omega, fun y hy => HYX.out y (List.mem_of_mem_eraseIdx hy), ?_, ?_⟩, by simp [intOf]; try omega⟩
            · rw [← HYT.out, trimFrom, if_pos (of_decide_eq_true hq)]
            · rw [hle]
              exact M.out.only [0, 1, 3] (K := [.blk _ _ _, .blk _ _ _, .row _ _ _ _ _]) rfl (by decide)
    · have HR := Lib.hid (show trimRes F xs c = [] by rw [trimRes, if_pos hk, if_neg hz])
      have HC := Lib.hid (show trimCode F xs c = 4 by rw [trimCode, if_pos hk, if_neg hz])
      have heq := neqCs (bareSet xs c) Cs.z
      rw [bare_z, decide_eq_false hz] at heq
      change ∀ w, (binOp .neq 51 (.agg (bareSet xs c).cells) (.agg #[.int .u64 0, .int .u64 0])).run Try.prog w = _ at heq
      clear hk hz
      go_enter Try.func44, Try.ntmps44
      go_wp2_with (first
        | ((with_reducible refine gate_dst (N := 3) rfl ?_); go_must (refine M.out.ev_new rfl (by first | (go_simp; done) | (go_simp; rfl)) ?_); intro g3 w3 m; simp only [List.cons_append, List.nil_append] at m; have M := Lib.hid m; clear m)
        | ((with_reducible refine gate_dst (N := 5) rfl ?_); go_must (refine M.out.ev_new rfl (by first | (go_simp; done) | (go_simp; rfl)) ?_); intro g5 w5 m; simp only [List.cons_append, List.nil_append] at m; have M := Lib.hid m; clear m)
        | ((with_reducible refine gate_dst (N := 13) rfl ?_); go_must (refine M.out.ev_ldw 1 _ _ rfl rfl rfl Try.underlying51 rfl (by first | exact sz51 | (rw [S1.out]; exact sz51) | (rw [S2.out]; exact sz51) | (rw [S3.out]; exact sz51)) rfl ?_))
        | ((with_reducible refine gate_dst (N := 21) rfl ?_); go_must (refine M.out.ev_ldw 1 _ _ rfl rfl rfl Try.underlying51 rfl (by first | exact sz51 | (rw [S1.out]; exact sz51) | (rw [S2.out]; exact sz51) | (rw [S3.out]; exact sz51)) rfl ?_))
        | ((with_reducible refine gate_dst (N := 41) rfl ?_); go_must (refine M.out.ev_ldw 1 _ _ rfl rfl rfl Try.underlying51 rfl (by first | exact sz51 | (rw [S1.out]; exact sz51) | (rw [S2.out]; exact sz51) | (rw [S3.out]; exact sz51)) rfl ?_))
        | (go_at_call 66; go_must (refine (netsCode_any g3 F HF.out A n xs HX.out hl c hcc _ (M.out.blk 0 rfl) (M.out.sl HS.out)).mono ?_); rintro e w_ ⟨rfl, N_⟩; have m := M.out.join N_; clear N_; simp only [List.cons_append, List.nil_append, List.append_nil] at m; have M := Lib.hid m; clear m; rw [HK.out])
        | (go_at_call 79; go_must (refine (bare_any A n xs HSN.out hl c _ (M.out.sl HS.out)).mono ?_); rintro e w_ ⟨rfl, N_⟩; have m := M.out.join N_; clear N_; simp only [List.cons_append, List.nil_append, List.append_nil] at m; have M := Lib.hid m; clear m)
        )
      go_ret2
      rw [HR.out, HC.out]
      exact ⟨none, 0, rfl, by simp, (M.out.take 0).nilrow _ _⟩
  · obtain ⟨d, hd⟩ : ∃ d, d = ntCode F xs c := ⟨_, rfl⟩
    have HR := Lib.hid (show trimRes F xs c = [] by rw [trimRes, if_neg hk])
    have HC := Lib.hid (show trimCode F xs c = d by rw [trimCode, if_neg hk, hd])
    have HD := Lib.hid hd
    rw [← hd] at hk
    clear hd
    go_enter Try.func44, Try.ntmps44
    go_wp2_with (first
      | ((with_reducible refine gate_dst (N := 3) rfl ?_); go_must (refine M.out.ev_new rfl (by first | (go_simp; done) | (go_simp; rfl)) ?_); intro g3 w3 m; simp only [List.cons_append, List.nil_append] at m; have M := Lib.hid m; clear m)
      | ((with_reducible refine gate_dst (N := 5) rfl ?_); go_must (refine M.out.ev_new rfl (by first | (go_simp; done) | (go_simp; rfl)) ?_); intro g5 w5 m; simp only [List.cons_append, List.nil_append] at m; have M := Lib.hid m; clear m)
      | ((with_reducible refine gate_dst (N := 13) rfl ?_); go_must (refine M.out.ev_ldw 1 _ _ rfl rfl rfl Try.underlying51 rfl (by first | exact sz51 | (rw [S1.out]; exact sz51) | (rw [S2.out]; exact sz51) | (rw [S3.out]; exact sz51)) rfl ?_))
      | ((with_reducible refine gate_dst (N := 21) rfl ?_); go_must (refine M.out.ev_ldw 1 _ _ rfl rfl rfl Try.underlying51 rfl (by first | exact sz51 | (rw [S1.out]; exact sz51) | (rw [S2.out]; exact sz51) | (rw [S3.out]; exact sz51)) rfl ?_))
      | ((with_reducible refine gate_dst (N := 41) rfl ?_); go_must (refine M.out.ev_ldw 1 _ _ rfl rfl rfl Try.underlying51 rfl (by first | exact sz51 | (rw [S1.out]; exact sz51) | (rw [S2.out]; exact sz51) | (rw [S3.out]; exact sz51)) rfl ?_))
      | (go_at_call 66; go_must (refine (netsCode_any g3 F HF.out A n xs HX.out hl c hcc _ (M.out.blk 0 rfl) (M.out.sl HS.out)).mono ?_); rintro e w_ ⟨rfl, N_⟩; have m := M.out.join N_; clear N_; simp only [List.cons_append, List.nil_append, List.append_nil] at m; have M := Lib.hid m; clear m; rw [← HD.out])
      )
    go_ret2
    rw [HR.out, HC.out]
    exact ⟨none, 0, rfl, by simp, (M.out.take 0).nilrow _ _⟩
set_option maxRecDepth 100000 in
set_option maxHeartbeats 8000000 in
theorem spec_TrimNets_any (F : Fld) (hF : F.ok) (A : Option Addr) (n : Nat) (xs : List Net) (hx : ∀ x ∈ xs, x.ok) (hl : xs.length ≤ 1048576) (hc : xs.length ≤ n) (hn : n ≤ 9223372036854775807) (hA : A = none → n = 0) (c : Cs) (hcc : c.ok) (w : World) (hs : Sl w 4 A xs.length (flat Net.vals xs)) :
    Calls Try.prog 43 #[.agg F.cells, .slice A xs.length n, .agg c.cells] w (RetRowC w 44 4 (trimRes F xs c).length (flat Net.vals (trimRes F xs c)) (trimCode F xs c)) := by
  have M := Lib.hid (Mem.start w)
  have HX := Lib.hid hx
  have HS := Lib.hid hs
  have HF := Lib.hid hF
  have S1 := Lib.hid (Fld.size hF.toLen)
  have O1 := Lib.hid (Cs.one Cs.z)
  clear hx hs hF
  by_cases hk : ntCode F xs c = 0
  · have hok := netsOk_iff.1 (ntCode_0 hk).1
    have HSN := Lib.hid (show ∀ x ∈ xs, x.snug from fun x hx => Net.snug_of hok.1 (hok.2 x hx))
    have HK := Lib.hid hk
    clear hok
    have hbl : (bareSet xs c).all.length ≤ 100 := (bareSet xs c).below_len 100
    by_cases hz : (bareSet xs c).all = []
    · have HZ := Lib.hid hz
      have HR := Lib.hid (show trimRes F xs c = trimFrom c xs.length xs by rw [trimRes, if_pos hk, if_pos hz])
      have HC := Lib.hid (show trimCode F xs c = 0 by rw [trimCode, if_pos hk, if_pos hz])
      have hzl : ¬ ((0 : Int) < ((bareSet xs c).all.length : Int)) := by rw [hz]; simp
      clear hk hz
      go_enter Try.func43, Try.ntmps43
      go_wp2_with (first
        | ((with_reducible refine gate_dst (N := 3) rfl ?_); go_must (refine M.out.ev_new rfl (by first | (go_simp; done) | (go_simp; rfl)) ?_); intro g3 w3 m; simp only [List.cons_append, List.nil_append] at m; have M := Lib.hid m; clear m)
        | ((with_reducible refine gate_dst (N := 5) rfl ?_); go_must (refine M.out.ev_new rfl (by first | (go_simp; done) | (go_simp; rfl)) ?_); intro g5 w5 m; simp only [List.cons_append, List.nil_append] at m; have M := Lib.hid m; clear m)
        | (go_at_call 76; go_must (refine (l04Targets_any g3 g5 F HF.out A n xs HX.out hl c hcc _ (M.out.blk 0 rfl) (M.out.sl HS.out) (M.out.blk 1 rfl)).mono ?_); rintro e w_ ⟨rfl, N_⟩; have m := M.out.join N_; clear N_; simp only [List.cons_append, List.nil_append, List.append_nil] at m; have M := Lib.hid m; clear m; rw [HK.out])
        | (go_at_call 78; go_must (refine (l04Bare_any g5 A n xs HX.out hl c hcc _ (M.out.sl HS.out) (M.out.blk 1 rfl)).mono ?_); rintro e w_ ⟨A_, c_, rfl, hc_, N_⟩; have m := M.out.join N_; clear N_; simp only [List.cons_append, List.nil_append, List.append_nil] at m; have M := Lib.hid m; clear m)
        | ((with_reducible refine gate_dst (N := 23) rfl ?_); go_must (refine M.out.ev_bs0 elem_Net rfl rfl ?_); intro gv23 wv23 m; simp only [List.cons_append, List.nil_append] at m; have M := Lib.hid m; clear m)
        | ((with_reducible refine gate_dst (N := 25) rfl ?_); go_must (refine M.out.ev_appends 3 elem_Net rfl _ _ rfl rfl rfl rfl (M.out.sl HS.out) hA (by omega) (flat_one Net.ones _) (by omega) (by decide) ?_); intro v25 w25 m; simp only [List.set_cons_succ, List.set_cons_zero, List.nil_append, Nat.zero_add] at m; obtain ⟨B_, cB_, rfl, hcB_, _⟩ := m.row_slice 3 rfl; have M := Lib.hid m; clear m)
        )
      go_loopw [9, 10] (fun s v wr => ∃ (k : Nat) (ys : List Net), v = .int .i64 ((k : Int) - 1) ∧ k ≤ ys.length ∧ ys.length ≤ xs.length ∧ (∀ y ∈ ys, y.ok) ∧ trimFrom c k ys = trimFrom c xs.length xs ∧ Mem w wr [.blk g3 31 F.cells, .blk g5 51 c.cells, .row s 44 4 ys.length (flat Net.vals ys)])
        (fun _ v _ => (intOf v + 1).toNat)
      case atStart => exact ⟨xs.length, xs, by first | rfl | go_num, Nat.le_refl _, Nat.le_refl _, HX.out, rfl, by simpa using M.out.only [0, 1, 3] (K := [.blk _ _ _, .blk _ _ _, .row _ _ _ _ _]) rfl (by decide)⟩
      case round =>
        clear M
        obtain ⟨k, ys, rfl, hky, hyl, hyx, hyt, m⟩ := hrel
        have M := Lib.hid m
        have HYX := Lib.hid hyx
        have HYT := Lib.hid hyt
        clear m hyx hyt
        cases k with
        | zero =>
          go_wp2
          obtain ⟨B, cB, rfl, hcB, _⟩ := M.out.row_slice 2 rfl
          go_ret2
          have hh : ys = trimRes F xs c := by rw [HR.out, ← HYT.out]; rfl
          rw [HC.out, ← hh]
          exact ⟨B, cB, rfl, hcB, M.out.only [2] (K := [_]) rfl (by decide)⟩
        | succ k =>
          have k0 : (0 : Int) ≤ ((k + 1 : Nat) : Int) - 1 := by omega
          have k1 : IntKind.i64.wrap (((k + 1 : Nat) : Int) - 1) = (k : Int) := by rw [IntWalk.i64_in _ (by omega)]; omega
          have k2 : ((k + 1 : Nat) : Int) - 1 = (k : Int) := by omega
          have hle : (ys.eraseIdx k).length = ys.length - 1 := List.length_eraseIdx_of_lt (by omega)
          have hyl1 : ys.length - 1 ≤ 1048576 := by omega
          rw [k2]
          clear k0 k1 k2
          have k0 : (0 : Int) ≤ (k : Int) := by omega
          have hlt : k < ys.length := by omega
          obtain ⟨B, cB, rfl, hcB, hcBm⟩ := M.out.row_slice 2 rfl
          have HRN := Lib.hid (M.out.row_none 2 rfl)
          obtain ⟨gb, gc, he, hgc⟩ := M.out.row_form 2 rfl (by omega)
          injection he with he1 he2 he3
          subst he1 he3
          have e1 : IntKind.i64.wrap ((k : Int) + 1) = (k : Int) + 1 := IntWalk.i64_in _ (by omega)
          have i4 : ((k : Int) + 1).toNat = k + 1 := by omega
          have i2 : (k : Int) + 1 ≤ (ys.length : Int) := by omega
          have i5 : (0 : Int) ≤ (k : Int) + 1 := by omega
          have hc0 : ¬ (cB = 0) := by omega
          have hkc : k ≤ cB := by omega
          have HER := Lib.hid (show flat Net.vals (ys.take k) ++ flat Net.vals (ys.drop (k + 1)) = flat Net.vals (ys.eraseIdx k) by rw [← flat_append, List.eraseIdx_eq_take_drop_succ])
          have HK2 := Lib.hid (show k + (ys.length - (k + 1)) = ys.length - 1 by omega)
          have HBA := Lib.hid (fun A n h w hs hcb => l04Bare_any h (t := 51) A n (ys.eraseIdx k) (fun y hy => HYX.out y (List.mem_of_mem_eraseIdx hy)) (by omega) c hcc w hs hcb)
          rw [hle] at HBA
          have hzl := len0 (bareSet (ys.eraseIdx k) c).all
          have hbl2 : (bareSet (ys.eraseIdx k) c).all.length ≤ 100 := (bareSet (ys.eraseIdx k) c).below_len 100
          by_cases hce : cB = k + 1
          · subst hce
            have hq1 : k ≤ k + 1 := by omega
            have hq2 : (k : Int) ≤ (k : Int) + 1 := by omega
            have hq3 : ¬ (k + 1 = 0) := by omega
            have HKZ := Lib.hid (show k + 0 = ys.length - 1 by omega)
            have HNIL := Lib.hid (fun w2 : World => show Sl w2 4 (some ⟨gb, 0, none⟩) 0 (flat Net.vals (ys.drop (k + 1))) by rw [List.drop_of_length_le (by omega)]; exact Sl.nil_)
            cases hq : decide ((bareSet (ys.eraseIdx k) c).all = [])
            all_goals
              rw [hq] at hzl
              go_wp2
              refine region_anyH (fun w' => Mem w w' [.blk g3 31 F.cells, .blk g5 51 c.cells, .row (.slice (some ⟨gb, 0, none⟩) ys.length (k + 1)) 44 4 ys.length (flat Net.vals ys)]) (by kernel_rfl) ?_
              have m := M.out.drew
              clear M
              have M := Lib.hid m
              clear m
              apply takeH (i := 1) 34 rfl (by kernel_rfl) (by kernel_rfl) (by kernel_rfl) (fun _ _ _ h => h) rfl (by first | exact M.out | exact M.out.take 3)
              case' hy =>
                refine Or.inl ⟨by first | rfl | (go_simp; done), ?_⟩
                intro w hS
                clear hS
                go_simp
                try with_reducible rfl
              try simp only [Act.put, List.getElem_toArray, List.getElem_cons_succ, List.getElem_cons_zero, List.setIfInBounds_toArray, List.set_cons_succ, List.set_cons_zero]
              apply takeH (i := 2) 35 rfl (by kernel_rfl) (by kernel_rfl) (by kernel_rfl) (fun _ _ _ h => h) rfl (by first | exact M.out | exact M.out.take 3)
              case' hy =>
                refine Or.inl ⟨by first | rfl | (go_simp; done), ?_⟩
                intro w hS
                clear hS
                go_simp
                try with_reducible rfl
              try simp only [Act.put, List.getElem_toArray, List.getElem_cons_succ, List.getElem_cons_zero, List.setIfInBounds_toArray, List.set_cons_succ, List.set_cons_zero]
              apply takeH (i := 3) 36 rfl (by kernel_rfl) (by kernel_rfl) (by kernel_rfl) (fun _ _ _ h => h) rfl (by first | exact M.out | exact M.out.take 3)
              case' hy =>
                refine Or.inl ⟨by first | rfl | (go_simp; done), ?_⟩
                intro w hS
                clear hS
                go_simp
                try with_reducible rfl
              try simp only [Act.put, List.getElem_toArray, List.getElem_cons_succ, List.getElem_cons_zero, List.setIfInBounds_toArray, List.set_cons_succ, List.set_cons_zero]
              apply takeH (i := 5) 38 rfl (by kernel_rfl) (by kernel_rfl) (by kernel_rfl) (fun _ _ _ h => h) rfl (by first | exact M.out | exact M.out.take 3)
              case' hy =>
                refine Or.inl ⟨by first | rfl | (go_simp; done), ?_⟩
                intro w hS
                clear hS
                go_simp
                try with_reducible rfl
              try simp only [Act.put, List.getElem_toArray, List.getElem_cons_succ, List.getElem_cons_zero, List.setIfInBounds_toArray, List.set_cons_succ, List.set_cons_zero]
              apply takeH (i := 6) 39 rfl (by kernel_rfl) (by kernel_rfl) (by kernel_rfl) (fun _ _ _ h => h) rfl (by first | exact M.out | exact M.out.take 3)
              case' hy =>
                refine Or.inl ⟨by first | rfl | (go_simp; done), ?_⟩
                intro w hS
                clear hS
                go_simp
                try with_reducible rfl
              try simp only [Act.put, List.getElem_toArray, List.getElem_cons_succ, List.getElem_cons_zero, List.setIfInBounds_toArray, List.set_cons_succ, List.set_cons_zero]
              apply takeH (i := 7) 40 rfl (by kernel_rfl) (by kernel_rfl) (by kernel_rfl) (fun _ _ _ h => h) rfl (by first | exact M.out | exact M.out.take 3)
              case' hy =>
                refine Or.inl ⟨by first | rfl | (go_simp; done), ?_⟩
                intro w hS
                clear hS
                go_simp
                try with_reducible rfl
              try simp only [Act.put, List.getElem_toArray, List.getElem_cons_succ, List.getElem_cons_zero, List.setIfInBounds_toArray, List.set_cons_succ, List.set_cons_zero]
              apply takeH (i := 8) 41 rfl (by kernel_rfl) (by kernel_rfl) (by kernel_rfl) (fun _ _ _ h => h) rfl (by first | exact M.out | exact M.out.take 3)
              case' hy =>
                refine Or.inl ⟨by first | rfl | (go_simp; done), ?_⟩
                intro w hS
                clear hS
                go_simp
                try with_reducible rfl
              try simp only [Act.put, List.getElem_toArray, List.getElem_cons_succ, List.getElem_cons_zero, List.setIfInBounds_toArray, List.set_cons_succ, List.set_cons_zero]
              refine any1H 0 (by kernel_rfl) rfl (fun K hK => ?_)
              go_wp2_with (first | ((with_reducible refine gate_dst (N := 33) rfl ?_); go_must (refine M.out.ev_bs0 elem_Net rfl rfl ?_); intro gv33 wv33 m; simp only [List.cons_append, List.nil_append] at m; have M := Lib.hid m; clear m) | ((with_reducible refine gate_dst (N := 37) rfl ?_); go_must (refine M.out.ev_appends 3 elem_Net rfl _ _ rfl rfl rfl rfl ((M.out.slof 2 rfl).takeM Net.vl k (by omega)) (fun h => by cases h) (by omega) (flat_one Net.ones _) (by omega) (by decide) ?_); intro v37 w37 m; simp only [List.set_cons_succ, List.set_cons_zero, List.nil_append, Nat.zero_add] at m; have M := Lib.hid m; clear m) | ((with_reducible refine gate_dst (N := 42) rfl ?_); go_must (refine M.out.ev_appends 3 elem_Net rfl _ _ rfl rfl rfl rfl (HNIL.out _) (fun h => by cases h) (by omega) (flat_one Net.ones _) (by omega) (by decide) ?_); intro v42 w42 m; simp only [List.set_cons_succ, List.set_cons_zero, List.nil_append, Nat.zero_add] at m; rw [HER.out, HKZ.out] at m; obtain ⟨B_, cB_, rfl, hcB_, _⟩ := m.row_slice 3 rfl; have M := Lib.hid m; clear m))
              refine onward_normal (hK _ _ ⟨(by first | exact M.out | exact M.out.take 3), ?_⟩)
              clear hK K
              try simp only [Act.put, List.getElem_toArray, List.getElem_cons_succ, List.getElem_cons_zero, List.setIfInBounds_toArray, List.set_cons_succ, List.set_cons_zero]
              refine any1H 4 (by kernel_rfl) rfl (fun K hK => ?_)
              go_wp2_with (first | ((with_reducible refine gate_dst (N := 33) rfl ?_); go_must (refine M.out.ev_bs0 elem_Net rfl rfl ?_); intro gv33 wv33 m; simp only [List.cons_append, List.nil_append] at m; have M := Lib.hid m; clear m) | ((with_reducible refine gate_dst (N := 37) rfl ?_); go_must (refine M.out.ev_appends 3 elem_Net rfl _ _ rfl rfl rfl rfl ((M.out.slof 2 rfl).takeM Net.vl k (by omega)) (fun h => by cases h) (by omega) (flat_one Net.ones _) (by omega) (by decide) ?_); intro v37 w37 m; simp only [List.set_cons_succ, List.set_cons_zero, List.nil_append, Nat.zero_add] at m; have M := Lib.hid m; clear m) | ((with_reducible refine gate_dst (N := 42) rfl ?_); go_must (refine M.out.ev_appends 3 elem_Net rfl _ _ rfl rfl rfl rfl (HNIL.out _) (fun h => by cases h) (by omega) (flat_one Net.ones _) (by omega) (by decide) ?_); intro v42 w42 m; simp only [List.set_cons_succ, List.set_cons_zero, List.nil_append, Nat.zero_add] at m; rw [HER.out, HKZ.out] at m; obtain ⟨B_, cB_, rfl, hcB_, _⟩ := m.row_slice 3 rfl; have M := Lib.hid m; clear m))
              refine onward_normal (hK _ _ ⟨(by first | exact M.out | exact M.out.take 3), ?_⟩)
              clear hK K
              try simp only [Act.put, List.getElem_toArray, List.getElem_cons_succ, List.getElem_cons_zero, List.setIfInBounds_toArray, List.set_cons_succ, List.set_cons_zero]
              refine any1H 9 (by kernel_rfl) rfl (fun K hK => ?_)
              go_wp2_with (first | ((with_reducible refine gate_dst (N := 33) rfl ?_); go_must (refine M.out.ev_bs0 elem_Net rfl rfl ?_); intro gv33 wv33 m; simp only [List.cons_append, List.nil_append] at m; have M := Lib.hid m; clear m) | ((with_reducible refine gate_dst (N := 37) rfl ?_); go_must (refine M.out.ev_appends 3 elem_Net rfl _ _ rfl rfl rfl rfl ((M.out.slof 2 rfl).takeM Net.vl k (by omega)) (fun h => by cases h) (by omega) (flat_one Net.ones _) (by omega) (by decide) ?_); intro v37 w37 m; simp only [List.set_cons_succ, List.set_cons_zero, List.nil_append, Nat.zero_add] at m; have M := Lib.hid m; clear m) | ((with_reducible refine gate_dst (N := 42) rfl ?_); go_must (refine M.out.ev_appends 3 elem_Net rfl _ _ rfl rfl rfl rfl (HNIL.out _) (fun h => by cases h) (by omega) (flat_one Net.ones _) (by omega) (by decide) ?_); intro v42 w42 m; simp only [List.set_cons_succ, List.set_cons_zero, List.nil_append, Nat.zero_add] at m; rw [HER.out, HKZ.out] at m; obtain ⟨B_, cB_, rfl, hcB_, _⟩ := m.row_slice 3 rfl; have M := Lib.hid m; clear m))
              refine onward_normal (hK _ _ ⟨(by first | exact M.out | exact M.out.take 3), ?_⟩)
              clear hK K
              try simp only [Act.put, List.getElem_toArray, List.getElem_cons_succ, List.getElem_cons_zero, List.setIfInBounds_toArray, List.set_cons_succ, List.set_cons_zero]
              apply takeH (i := 10) 11 rfl (by kernel_rfl) (by kernel_rfl) (by kernel_rfl) (fun _ _ _ h => h) rfl (by first | exact M.out | exact M.out.take 3)
              case' hy =>
                refine Or.inl ⟨by first | rfl | (go_simp; done), ?_⟩
                intro w hS
                clear hS
                go_simp
                try with_reducible rfl
              try simp only [Act.put, List.getElem_toArray, List.getElem_cons_succ, List.getElem_cons_zero, List.setIfInBounds_toArray, List.set_cons_succ, List.set_cons_zero]
              refine wpAnyH_done (by kernel_rfl) ?_ _
              all_goals
                go_wp2_with (first
                  | ((with_reducible refine gate_dst (N := 3) rfl ?_); go_must (refine M.out.ev_new rfl (by first | (go_simp; done) | (go_simp; rfl)) ?_); intro g3 w3 m; simp only [List.cons_append, List.nil_append] at m; have M := Lib.hid m; clear m)
                  | ((with_reducible refine gate_dst (N := 5) rfl ?_); go_must (refine M.out.ev_new rfl (by first | (go_simp; done) | (go_simp; rfl)) ?_); intro g5 w5 m; simp only [List.cons_append, List.nil_append] at m; have M := Lib.hid m; clear m)
                  | (go_at_call 78; go_must (refine (HBA.out _ _ g5 _ (M.out.slof 3 rfl) (M.out.blk 1 rfl)).mono ?_); rintro e w_ ⟨A_, c_, rfl, hc_, N_⟩; have m := M.out.join N_; clear N_; simp only [List.cons_append, List.nil_append, List.append_nil] at m; have M := Lib.hid m; clear m)
                  )
            · refine ⟨⟨k, ys, by go_num, by omega, hyl, HYX.out, ?_, M.out.take 3⟩, by simp [intOf]; try omega⟩
              rw [← HYT.out, trimFrom, if_neg (of_decide_eq_false hq)]
            · refine ⟨⟨k, ys.eraseIdx k, by go_num, by omega, by omega, fun y hy => HYX.out y (List.mem_of_mem_eraseIdx hy), ?_, ?_⟩, by simp [intOf]; try omega⟩
              · rw [← HYT.out, trimFrom, if_pos (of_decide_eq_true hq)]
              · rw [hle]
                exact M.out.only [0, 1, 3] (K := [.blk _ _ _, .blk _ _ _, .row _ _ _ _ _]) rfl (by decide)
          · cases hq : decide ((bareSet (ys.eraseIdx k) c).all = [])
            all_goals
              rw [hq] at hzl
              go_wp2
              refine region_anyH (fun w' => Mem w w' [.blk g3 31 F.cells, .blk g5 51 c.cells, .row (.slice (some ⟨gb, 0, none⟩) ys.length cB) 44 4 ys.length (flat Net.vals ys)]) (by kernel_rfl) ?_
              have m := M.out.drew
              clear M
              have M := Lib.hid m
              clear m
              apply takeH (i := 1) 34 rfl (by kernel_rfl) (by kernel_rfl) (by kernel_rfl) (fun _ _ _ h => h) rfl (by first | exact M.out | exact M.out.take 3)
              case' hy =>
                refine Or.inl ⟨by first | rfl | (go_simp; done), ?_⟩
                intro w hS
                clear hS
                go_simp
                try with_reducible rfl
              try simp only [Act.put, List.getElem_toArray, List.getElem_cons_succ, List.getElem_cons_zero, List.setIfInBounds_toArray, List.set_cons_succ, List.set_cons_zero]
              apply takeH (i := 2) 35 rfl (by kernel_rfl) (by kernel_rfl) (by kernel_rfl) (fun _ _ _ h => h) rfl (by first | exact M.out | exact M.out.take 3)
              case' hy =>
                refine Or.inl ⟨by first | rfl | (go_simp; done), ?_⟩
                intro w hS
                clear hS
                go_simp
                try with_reducible rfl
              try simp only [Act.put, List.getElem_toArray, List.getElem_cons_succ, List.getElem_cons_zero, List.setIfInBounds_toArray, List.set_cons_succ, List.set_cons_zero]
              apply takeH (i := 3) 36 rfl (by kernel_rfl) (by kernel_rfl) (by kernel_rfl) (fun _ _ _ h => h) rfl (by first | exact M.out | exact M.out.take 3)
              case' hy =>
                refine Or.inl ⟨by first | rfl | (go_simp; done), ?_⟩
                intro w hS
                clear hS
                go_simp
                try with_reducible rfl
              try simp only [Act.put, List.getElem_toArray, List.getElem_cons_succ, List.getElem_cons_zero, List.setIfInBounds_toArray, List.set_cons_succ, List.set_cons_zero]
              apply takeH (i := 5) 38 rfl (by kernel_rfl) (by kernel_rfl) (by kernel_rfl) (fun _ _ _ h => h) rfl (by first | exact M.out | exact M.out.take 3)
              case' hy =>
                refine Or.inl ⟨by first | rfl | (go_simp; done), ?_⟩
                intro w hS
                clear hS
                go_simp
                try with_reducible rfl
              try simp only [Act.put, List.getElem_toArray, List.getElem_cons_succ, List.getElem_cons_zero, List.setIfInBounds_toArray, List.set_cons_succ, List.set_cons_zero]
              apply takeH (i := 6) 39 rfl (by kernel_rfl) (by kernel_rfl) (by kernel_rfl) (fun _ _ _ h => h) rfl (by first | exact M.out | exact M.out.take 3)
              case' hy =>
                refine Or.inl ⟨by first | rfl | (go_simp; done), ?_⟩
                intro w hS
                clear hS
                go_simp
                try with_reducible rfl
              try simp only [Act.put, List.getElem_toArray, List.getElem_cons_succ, List.getElem_cons_zero, List.setIfInBounds_toArray, List.set_cons_succ, List.set_cons_zero]
              apply takeH (i := 7) 40 rfl (by kernel_rfl) (by kernel_rfl) (by kernel_rfl) (fun _ _ _ h => h) rfl (by first | exact M.out | exact M.out.take 3)
              case' hy =>
                refine Or.inl ⟨by first | rfl | (go_simp; done), ?_⟩
                intro w hS
                clear hS
                go_simp
                try with_reducible rfl
              try simp only [Act.put, List.getElem_toArray, List.getElem_cons_succ, List.getElem_cons_zero, List.setIfInBounds_toArray, List.set_cons_succ, List.set_cons_zero]
              apply takeH (i := 8) 41 rfl (by kernel_rfl) (by kernel_rfl) (by kernel_rfl) (fun _ _ _ h => h) rfl (by first | exact M.out | exact M.out.take 3)
              case' hy =>
                refine Or.inl ⟨by first | rfl | (go_simp; done), ?_⟩
                intro w hS
                clear hS
                go_simp
                try with_reducible rfl
              try simp only [Act.put, List.getElem_toArray, List.getElem_cons_succ, List.getElem_cons_zero, List.setIfInBounds_toArray, List.set_cons_succ, List.set_cons_zero]
              refine any1H 0 (by kernel_rfl) rfl (fun K hK => ?_)
              go_wp2_with (first | ((with_reducible refine gate_dst (N := 33) rfl ?_); go_must (refine M.out.ev_bs0 elem_Net rfl rfl ?_); intro gv33 wv33 m; simp only [List.cons_append, List.nil_append] at m; have M := Lib.hid m; clear m) | ((with_reducible refine gate_dst (N := 37) rfl ?_); go_must (refine M.out.ev_appends 3 elem_Net rfl _ _ rfl rfl rfl rfl ((M.out.slof 2 rfl).takeM Net.vl k (by omega)) (fun h => by cases h) (by omega) (flat_one Net.ones _) (by omega) (by decide) ?_); intro v37 w37 m; simp only [List.set_cons_succ, List.set_cons_zero, List.nil_append, Nat.zero_add] at m; have M := Lib.hid m; clear m) | ((with_reducible refine gate_dst (N := 42) rfl ?_); go_must (refine M.out.ev_appends 3 elem_Net rfl _ _ rfl rfl rfl rfl (by have h := (M.out.slof 2 rfl).dropM Net.vl (k + 1) (by omega); rw [Nat.zero_add] at h; exact h) (fun h => by cases h) (by omega) (flat_one Net.ones _) (by omega) (by decide) ?_); intro v42 w42 m; simp only [List.set_cons_succ, List.set_cons_zero, List.nil_append, Nat.zero_add] at m; rw [HER.out, HK2.out] at m; obtain ⟨B_, cB_, rfl, hcB_, _⟩ := m.row_slice 3 rfl; have M := Lib.hid m; clear m))
              refine onward_normal (hK _ _ ⟨(by first | exact M.out | exact M.out.take 3), ?_⟩)
              clear hK K
              try simp only [Act.put, List.getElem_toArray, List.getElem_cons_succ, List.getElem_cons_zero, List.setIfInBounds_toArray, List.set_cons_succ, List.set_cons_zero]
              refine any1H 4 (by kernel_rfl) rfl (fun K hK => ?_)
              go_wp2_with (first | ((with_reducible refine gate_dst (N := 33) rfl ?_); go_must (refine M.out.ev_bs0 elem_Net rfl rfl ?_); intro gv33 wv33 m; simp only [List.cons_append, List.nil_append] at m; have M := Lib.hid m; clear m) | ((with_reducible refine gate_dst (N := 37) rfl ?_); go_must (refine M.out.ev_appends 3 elem_Net rfl _ _ rfl rfl rfl rfl ((M.out.slof 2 rfl).takeM Net.vl k (by omega)) (fun h => by cases h) (by omega) (flat_one Net.ones _) (by omega) (by decide) ?_); intro v37 w37 m; simp only [List.set_cons_succ, List.set_cons_zero, List.nil_append, Nat.zero_add] at m; have M := Lib.hid m; clear m) | ((with_reducible refine gate_dst (N := 42) rfl ?_); go_must (refine M.out.ev_appends 3 elem_Net rfl _ _ rfl rfl rfl rfl (by have h := (M.out.slof 2 rfl).dropM Net.vl (k + 1) (by omega); rw [Nat.zero_add] at h; exact h) (fun h => by cases h) (by omega) (flat_one Net.ones _) (by omega) (by decide) ?_); intro v42 w42 m; simp only [List.set_cons_succ, List.set_cons_zero, List.nil_append, Nat.zero_add] at m; rw [HER.out, HK2.out] at m; obtain ⟨B_, cB_, rfl, hcB_, _⟩ := m.row_slice 3 rfl; have M := Lib.hid m; clear m))
              refine onward_normal (hK _ _ ⟨(by first | exact M.out | exact M.out.take 3), ?_⟩)
              clear hK K
              try simp only [Act.put, List.getElem_toArray, List.getElem_cons_succ, List.getElem_cons_zero, List.setIfInBounds_toArray, List.set_cons_succ, List.set_cons_zero]
              refine any1H 9 (by kernel_rfl) rfl (fun K hK => ?_)
              go_wp2_with (first | ((with_reducible refine gate_dst (N := 33) rfl ?_); go_must (refine M.out.ev_bs0 elem_Net rfl rfl ?_); intro gv33 wv33 m; simp only [List.cons_append, List.nil_append] at m; have M := Lib.hid m; clear m) | ((with_reducible refine gate_dst (N := 37) rfl ?_); go_must (refine M.out.ev_appends 3 elem_Net rfl _ _ rfl rfl rfl rfl ((M.out.slof 2 rfl).takeM Net.vl k (by omega)) (fun h => by cases h) (by omega) (flat_one Net.ones _) (by omega) (by decide) ?_); intro v37 w37 m; simp only [List.set_cons_succ, List.set_cons_zero, List.nil_append, Nat.zero_add] at m; have M := Lib.hid m; clear m) | ((with_reducible refine gate_dst (N := 42) rfl ?_); go_must (refine M.out.ev_appends 3 elem_Net rfl _ _ rfl rfl rfl rfl (by have h := (M.out.slof 2 rfl).dropM Net.vl (k + 1) (by omega); rw [Nat.zero_add] at h; exact h) (fun h => by cases h) (by omega) (flat_one Net.ones _) (by omega) (by decide) ?_); intro v42 w42 m; simp only [List.set_cons_succ, List.set_cons_zero, List.nil_append, Nat.zero_add] at m; rw [HER.out, HK2.out] at m; obtain ⟨B_, cB_, rfl, hcB_, _⟩ := m.row_slice 3 rfl; have M := Lib.hid m; clear m))
              refine onward_normal (hK _ _ ⟨(by first | exact M.out | exact M.out.take 3), ?_⟩)
              clear hK K
              try simp only [Act.put, List.getElem_toArray, List.getElem_cons_succ, List.getElem_cons_zero, List.setIfInBounds_toArray, List.set_cons_succ, List.set_cons_zero]
              apply takeH (i := 10) 11 rfl (by kernel_rfl) (by kernel_rfl) (by kernel_rfl) (fun _ _ _ h => h) rfl (by first | exact M.out | exact M.out.take 3)
              case' hy =>
                refine Or.inl ⟨by first | rfl | (go_simp; done), ?_⟩
                intro w hS
                clear hS
                go_simp
                try with_reducible rfl
              try simp only [Act.put, List.getElem_toArray, List.getElem_cons_succ, List.getElem_cons_zero, List.setIfInBounds_toArray, List.set_cons_succ, List.set_cons_zero]
              refine wpAnyH_done (by kernel_rfl) ?_ _
              all_goals
                go_wp2_with (first
                  | ((with_reducible refine gate_dst (N := 3) rfl ?_); go_must (refine M.out.ev_new rfl (by first | (go_simp; done) | (go_simp; rfl)) ?_); intro g3 w3 m; simp only [List.cons_append, List.nil_append] at m; have M := Lib.hid m; clear m)
                  | ((with_reducible refine gate_dst (N := 5) rfl ?_); go_must (refine M.out.ev_new rfl (by first | (go_simp; done) | (go_simp; rfl)) ?_); intro g5 w5 m; simp only [List.cons_append, List.nil_append] at m; have M := Lib.hid m; clear m)
                  | (go_at_call 78; go_must (refine (HBA.out _ _ g5 _ (M.out.slof 3 rfl) (M.out.blk 1 rfl)).mono ?_); rintro e w_ ⟨A_, c_, rfl, hc_, N_⟩; have m := M.out.join N_; clear N_; simp only [List.cons_append, List.nil_append, List.append_nil] at m; have M := Lib.hid m; clear m)
                  )
            · refine ⟨⟨k, ys, by go_num, by omega, hyl, HYX.out, ?_, M.out.take 3⟩, by simp [intOf]; try omega⟩
              rw [← HYT.out, trimFrom, if_neg (of_decide_eq_false hq)]
            · refine ⟨⟨k, ys.eraseIdx k, by go_num, by omega, by omega, fun y hy => HYX.out y (List.mem_of_mem_eraseIdx hy), ?_, ?_⟩, by simp [intOf]; try omega⟩
              · rw [← HYT.out, trimFrom, if_pos (of_decide_eq_true hq)]
              · rw [hle]
                exact M.out.only [0, 1, 3] (K := [.blk _ _ _, .blk _ _ _, .row _ _ _ _ _]) rfl (by decide)
    · have HR := Lib.hid (show trimRes F xs c = [] by rw [trimRes, if_pos hk, if_neg hz])
      have HC := Lib.hid (show trimCode F xs c = 4 by rw [trimCode, if_pos hk, if_neg hz])
      have hzl : (0 : Int) < ((bareSet xs c).all.length : Int) := by have := List.length_pos_iff.2 hz; omega
      clear hk hz
      go_enter Try.func43, Try.ntmps43
      go_wp2_with (first
        | ((with_reducible refine gate_dst (N := 3) rfl ?_); go_must (refine M.out.ev_new rfl (by first | (go_simp; done) | (go_simp; rfl)) ?_); intro g3 w3 m; simp only [List.cons_append, List.nil_append] at m; have M := Lib.hid m; clear m)
        | ((with_reducible refine gate_dst (N := 5) rfl ?_); go_must (refine M.out.ev_new rfl (by first | (go_simp; done) | (go_simp; rfl)) ?_); intro g5 w5 m; simp only [List.cons_append, List.nil_append] at m; have M := Lib.hid m; clear m)
        | (go_at_call 76; go_must (refine (l04Targets_any g3 g5 F HF.out A n xs HX.out hl c hcc _ (M.out.blk 0 rfl) (M.out.sl HS.out) (M.out.blk 1 rfl)).mono ?_); rintro e w_ ⟨rfl, N_⟩; have m := M.out.join N_; clear N_; simp only [List.cons_append, List.nil_append, List.append_nil] at m; have M := Lib.hid m; clear m; rw [HK.out])
        | (go_at_call 78; go_must (refine (l04Bare_any g5 A n xs HX.out hl c hcc _ (M.out.sl HS.out) (M.out.blk 1 rfl)).mono ?_); rintro e w_ ⟨A_, c_, rfl, hc_, N_⟩; have m := M.out.join N_; clear N_; simp only [List.cons_append, List.nil_append, List.append_nil] at m; have M := Lib.hid m; clear m)
        | ((with_reducible refine gate_dst (N := 22) rfl ?_); go_must (refine M.out.ev_bs0 elem_Net rfl rfl ?_); intro gv22 wv22 m; simp only [List.cons_append, List.nil_append] at m; have M := Lib.hid m; clear m)
        )
      go_ret2
      rw [HR.out, HC.out]
      exact ⟨_, 0, rfl, by simp, M.out.only [3] (K := [_]) rfl (by decide)⟩
  · obtain ⟨d, hd⟩ : ∃ d, d = ntCode F xs c := ⟨_, rfl⟩
    have HR := Lib.hid (show trimRes F xs c = [] by rw [trimRes, if_neg hk])
    have HC := Lib.hid (show trimCode F xs c = d by rw [trimCode, if_neg hk, hd])
    have HD := Lib.hid hd
    rw [← hd] at hk
    clear hd
    go_enter Try.func43, Try.ntmps43
    go_wp2_with (first
      | ((with_reducible refine gate_dst (N := 3) rfl ?_); go_must (refine M.out.ev_new rfl (by first | (go_simp; done) | (go_simp; rfl)) ?_); intro g3 w3 m; simp only [List.cons_append, List.nil_append] at m; have M := Lib.hid m; clear m)
      | ((with_reducible refine gate_dst (N := 5) rfl ?_); go_must (refine M.out.ev_new rfl (by first | (go_simp; done) | (go_simp; rfl)) ?_); intro g5 w5 m; simp only [List.cons_append, List.nil_append] at m; have M := Lib.hid m; clear m)
      | (go_at_call 76; go_must (refine (l04Targets_any g3 g5 F HF.out A n xs HX.out hl c hcc _ (M.out.blk 0 rfl) (M.out.sl HS.out) (M.out.blk 1 rfl)).mono ?_); rintro e w_ ⟨rfl, N_⟩; have m := M.out.join N_; clear N_; simp only [List.cons_append, List.nil_append, List.append_nil] at m; have M := Lib.hid m; clear m; rw [← HD.out])
      | ((with_reducible refine gate_dst (N := 16) rfl ?_); go_must (refine M.out.ev_bs0 elem_Net rfl rfl ?_); intro gv16 wv16 m; simp only [List.cons_append, List.nil_append] at m; have M := Lib.hid m; clear m)
      )
    go_ret2
    rw [HR.out, HC.out]
    exact ⟨_, 0, rfl, by simp, M.out.only [2] (K := [_]) rfl (by decide)⟩
end Go.Proofs.Ytnddoiapilookaa
