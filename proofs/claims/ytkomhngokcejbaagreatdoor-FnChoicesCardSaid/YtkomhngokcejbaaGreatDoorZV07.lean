/- Texts of a proof, laid together: CellsFor2. -/
import Derived.Test.YtkomhngokcejbaaGreatDoorZV06
import Derived.Test.YtkomhngokcejbaaGreatDoorZV03
namespace Go.Proofs.YtkomhngokcejbaaGreatDoor
set_option linter.unusedSimpArgs false
set_option linter.unusedVariables false
open Go.RowKit
attribute [local go_sem] cell?_mk frozen?_mk

theorem birdsOk_one (F : Fld) (fs : List Int) (x : Flock) : birdsOk F fs [x] = (F.valid && fearsOk F fs && x.fine F) := by
  simp [birdsOk, flocksOk]
theorem fine_plain {F : Fld} {x : Flock} (h : x.fine F = true) : x.plain = true := by
  rw [Flock.fine, Bool.and_eq_true] at h
  exact h.1
theorem birds1_plain {F : Fld} {fs : List Int} {x : Flock} (h : birdsOk F fs [x] = true) : x.plain = true := by
  rw [birdsOk_one, Bool.and_eq_true] at h
  exact fine_plain h.2
theorem Mem.argrg {w0 w : World} {L : List Ent} (M : Mem w0 w L) {b off : Nat} {cs : List Value} (h : w0.rangeAt b off cs) : w.rangeAt b off cs := M.argrange h
theorem Blk.range {w : World} {g : Nat} {t : TypeId} {x : Flock} (h : Blk w g t x.vals.toArray) : w.rangeAt g 0 x.vals := fun j v hj => by
  rw [Nat.zero_add]
  exact h.cellv (by rw [List.getElem?_toArray]; exact hj)
theorem flat_1 (x : Flock) : flat Flock.vals [x] = x.vals := by simp [flat]
theorem sl_blk {w : World} {g : Nat} {t : TypeId} {x : Flock} (h : Blk w g t x.vals.toArray) : Sl w 6 (some ⟨g, 0, none⟩) [x].length (flat Flock.vals [x]) := by
  rw [flat_1]
  exact ⟨rfl, fun _ => ⟨g, 0, rfl, h.range⟩⟩
set_option maxRecDepth 100000 in
set_option maxHeartbeats 1000000 in
theorem l02Asked_any (g b p off : Nat) {t tb : TypeId} (F : Fld) (hF : F.ok) (fs : List Int) (hfl : fs.length = 100) (hff : ∀ x ∈ fs, -32768 ≤ x ∧ x ≤ 32767) (x : Flock) (hx : x.ok) (w : World) (hb : Blk w g t F.cells) (hfb : Blk w b tb (ints .i16 fs)) (hr : w.rangeAt p off x.vals) :
    Calls Tryz.prog 78 #[.pointer (some ⟨g, 0, none⟩), .pointer (some ⟨b, 0, none⟩), .pointer (some ⟨p, off, none⟩)] w fun e w' => e = .returned (.int .i64 (birdsCode F fs [x])) ∧ w = w' := by
  have HB := Lib.hid hb
  have HFB := Lib.hid hfb
  have HFF := Lib.hid hff
  have HR := Lib.hid hr
  have BC := Lib.hid (birdsOk_one F fs x)
  clear hb hfb hff hr
  cases hv : F.valid && fearsOk F fs <;> cases hk : x.fine F <;>
  · have HV := Lib.hid hv
    have HK := Lib.hid hk
    clear hv hk
    go_enter Tryz.func78, Tryz.ntmps78
    go_wp2_with (first
      | (go_at_call 144; go_must (refine (l02Fears_any g b F hF fs hfl HFF.out _ HB.out HFB.out).mono ?_); rintro e w_ ⟨rfl, rfl⟩; rw [HV.out])
      | (go_at_call 146; go_must (refine (l02Flock_any g p off F hF x hx _ HB.out HR.out).mono ?_); rintro e w_ ⟨rfl, rfl⟩; rw [HK.out])
      )
    go_ret
    exact ⟨ret_int (by rw [birdsCode, BC.out, HV.out, HK.out]; rfl), rfl⟩
def goTo (F : Fld) (fs : List Int) (x : Flock) (n : Nat) : Cs := setOf ((List.range n).filter fun k => F.has k && goP F fs x k)
theorem goTo_ok (F : Fld) (fs : List Int) (x : Flock) {n : Nat} (hn : n ≤ 100) : (goTo F fs x n).ok := setOf_ok _ fun k hk => by
  have := List.mem_range.1 (List.mem_filter.1 hk).1
  omega
theorem goTo_succ (F : Fld) (fs : List Int) (x : Flock) (n : Nat) : goTo F fs x (n + 1) = if (F.has n && goP F fs x n) = true then (goTo F fs x n).put n else goTo F fs x n := by
  unfold goTo
  rw [List.range_succ, List.filter_append]
  cases h : F.has n && goP F fs x n
  · simp [h]
  · simp only [List.filter_cons, h, List.filter_nil, if_true]
    rw [setOf_snoc]
theorem goTo_all (F : Fld) (fs : List Int) (x : Flock) : goTo F fs x 100 = goSet F fs x := by
  unfold goTo goSet Fld.all Fld.below
  rw [List.filter_filter]
  congr 1
  refine List.filter_congr fun k _ => ?_
  cases F.has k <;> simp
set_option maxRecDepth 100000 in
set_option maxHeartbeats 1000000 in
theorem l02Cells_any (g b p off : Nat) {t tb : TypeId} (F : Fld) (hF : F.ok) (fs : List Int) (hfl : fs.length = 100) (x : Flock) (hp : x.plain = true) (w : World) (hb : Blk w g t F.cells) (hfb : Blk w b tb (ints .i16 fs)) (hr : w.rangeAt p off x.vals) :
    Calls Tryz.prog 79 #[.pointer (some ⟨g, 0, none⟩), .pointer (some ⟨b, 0, none⟩), .pointer (some ⟨p, off, none⟩)] w fun e w' => e = .returned (.agg (goSet F fs x).cells) ∧ Mem w w' [] := by
  have M := Lib.hid (Mem.start w)
  have HB := Lib.hid hb
  have HFB := Lib.hid hfb
  have HR := Lib.hid hr
  have O1 := Lib.hid (Cs.one (goSet F fs x))
  clear hb hfb hr
  go_enter Tryz.func79, Tryz.ntmps79
  go_wp2_with (first
    | ((with_reducible refine gate_dst (N := 6) rfl ?_); go_must (refine M.out.ev_new rfl (by first | (go_simp; done) | (go_simp; rfl)) ?_); intro g6 w6 m; simp only [List.cons_append, List.nil_append] at m; have M := Lib.hid m; clear m)
    | ((with_reducible refine gate_dst (N := 7) rfl ?_); go_must (refine M.out.ev_new rfl (by first | (go_simp; done) | (go_simp; rfl)) ?_); intro g7 w7 m; simp only [List.cons_append, List.nil_append] at m; have M := Lib.hid m; clear m)
    | ((with_reducible refine gate_store (x := .tmp 7) rfl ?_); go_must (refine M.out.ev_stw 1 _ _ _ rfl rfl rfl rfl _ rfl (by first | rfl | (simp only [S1.out]; rfl) | (simp only [S1.out, S2.out]; rfl) | (simp only [S3.out]; rfl) | (simp only [S1.out, S2.out, S3.out]; rfl)) (by first | exact sz40 | (rw [S1.out]; exact sz40) | (rw [S2.out]; exact sz40) | (rw [S3.out]; exact sz40)) (by first | exact ints_one _ _ | exact Fld.one _ | exact O1.out | rfl | (simp [Value.oneCell']; done)) rfl ?_); intro wn m; simp only [List.set_cons_succ, List.set_cons_zero, List.setIfInBounds_toArray] at m; have M := Lib.hid m; clear m)
    | ((with_reducible refine gate_dst (N := 21) rfl ?_); go_must (refine M.out.ev_ldw 1 _ _ rfl rfl rfl Tryz.underlying40 rfl (by first | exact sz40 | (rw [S1.out]; exact sz40) | (rw [S2.out]; exact sz40) | (rw [S3.out]; exact sz40)) rfl ?_))
    | ((with_reducible refine gate_store (x := .tmp 6) rfl ?_); go_must (refine M.out.ev_stw 0 _ _ _ rfl rfl rfl rfl _ rfl (by first | rfl | (simp only [S1.out]; rfl) | (simp only [S1.out, S2.out]; rfl) | (simp only [S3.out]; rfl) | (simp only [S1.out, S2.out, S3.out]; rfl)) (by first | exact sz40 | (rw [S1.out]; exact sz40) | (rw [S2.out]; exact sz40) | (rw [S3.out]; exact sz40)) (by first | exact ints_one _ _ | exact Fld.one _ | exact O1.out | rfl | (simp [Value.oneCell']; done)) rfl ?_); intro wn m; simp only [List.set_cons_succ, List.set_cons_zero, List.setIfInBounds_toArray] at m; have M := Lib.hid m; clear m)
    )
  go_loopw [8] (fun v wr => ∃ k : Nat, k ≤ 100 ∧ v = .int .i64 k ∧ Mem w wr [.blk g6 40 Cs.z.cells, .blk g7 40 (goTo F fs x k).cells])
    (fun v _ => 100 - (intOf v).toNat)
  case atStart => exact ⟨0, by omega, rfl, M.out⟩
  case round =>
    clear M
    obtain ⟨k, hk, rfl, m⟩ := hrel
    have M := Lib.hid m
    clear m
    have CO := Lib.hid (goTo_ok F fs x hk)
    by_cases hlt : k < 100
    · have HS := Lib.hid (goTo_succ F fs x k)
      cases hq : F.has k && goP F fs x k
      · have HQ := Lib.hid hq
        clear hq
        go_wp2_with (first
          | (go_at_call 72; go_must (refine (l02Would_any g b p off F hF fs hfl x hp k hlt _ (M.out.arg HB.out) (M.out.arg HFB.out) (M.out.argrg HR.out)).mono ?_); rintro e w_ ⟨rfl, N_⟩; have m := M.out.join N_; clear N_; simp only [List.cons_append, List.nil_append, List.append_nil] at m; have M := Lib.hid m; clear m; rw [HQ.out])
          )
        refine ⟨⟨k + 1, by omega, by go_num, ?_⟩, by simp [intOf]; omega⟩
        rw [HS.out, HQ.out]
        exact M.out
      · have HQ := Lib.hid hq
        clear hq
        go_wp2_with (first
          | (go_at_call 72; go_must (refine (l02Would_any g b p off F hF fs hfl x hp k hlt _ (M.out.arg HB.out) (M.out.arg HFB.out) (M.out.argrg HR.out)).mono ?_); rintro e w_ ⟨rfl, N_⟩; have m := M.out.join N_; clear N_; simp only [List.cons_append, List.nil_append, List.append_nil] at m; have M := Lib.hid m; clear m; rw [HQ.out])
          | (go_at_call 73; go_must (refine (l01Put_any 1 M.out _ _ CO.out rfl k hlt).mono ?_); rintro e w_ ⟨rfl, m⟩; simp only [List.set_cons_succ, List.set_cons_zero] at m; have M := Lib.hid m; clear m)
          )
        refine ⟨⟨k + 1, by omega, by go_num, ?_⟩, by simp [intOf]; omega⟩
        rw [HS.out, HQ.out]
        exact M.out
    · obtain rfl : k = 100 := by omega
      rw [goTo_all] at M
      go_wp2_with (first
        | ((with_reducible refine gate_dst (N := 6) rfl ?_); go_must (refine M.out.ev_new rfl (by first | (go_simp; done) | (go_simp; rfl)) ?_); intro g6 w6 m; simp only [List.cons_append, List.nil_append] at m; have M := Lib.hid m; clear m)
        | ((with_reducible refine gate_dst (N := 7) rfl ?_); go_must (refine M.out.ev_new rfl (by first | (go_simp; done) | (go_simp; rfl)) ?_); intro g7 w7 m; simp only [List.cons_append, List.nil_append] at m; have M := Lib.hid m; clear m)
        | ((with_reducible refine gate_store (x := .tmp 7) rfl ?_); go_must (refine M.out.ev_stw 1 _ _ _ rfl rfl rfl rfl _ rfl (by first | rfl | (simp only [S1.out]; rfl) | (simp only [S1.out, S2.out]; rfl) | (simp only [S3.out]; rfl) | (simp only [S1.out, S2.out, S3.out]; rfl)) (by first | exact sz40 | (rw [S1.out]; exact sz40) | (rw [S2.out]; exact sz40) | (rw [S3.out]; exact sz40)) (by first | exact ints_one _ _ | exact Fld.one _ | exact O1.out | rfl | (simp [Value.oneCell']; done)) rfl ?_); intro wn m; simp only [List.set_cons_succ, List.set_cons_zero, List.setIfInBounds_toArray] at m; have M := Lib.hid m; clear m)
        | ((with_reducible refine gate_dst (N := 21) rfl ?_); go_must (refine M.out.ev_ldw 1 _ _ rfl rfl rfl Tryz.underlying40 rfl (by first | exact sz40 | (rw [S1.out]; exact sz40) | (rw [S2.out]; exact sz40) | (rw [S3.out]; exact sz40)) rfl ?_))
        | ((with_reducible refine gate_store (x := .tmp 6) rfl ?_); go_must (refine M.out.ev_stw 0 _ _ _ rfl rfl rfl rfl _ rfl (by first | rfl | (simp only [S1.out]; rfl) | (simp only [S1.out, S2.out]; rfl) | (simp only [S3.out]; rfl) | (simp only [S1.out, S2.out, S3.out]; rfl)) (by first | exact sz40 | (rw [S1.out]; exact sz40) | (rw [S2.out]; exact sz40) | (rw [S3.out]; exact sz40)) (by first | exact ints_one _ _ | exact Fld.one _ | exact O1.out | rfl | (simp [Value.oneCell']; done)) rfl ?_); intro wn m; simp only [List.set_cons_succ, List.set_cons_zero, List.setIfInBounds_toArray] at m; have M := Lib.hid m; clear m)
        )
      exact ret_cell rfl (M.out.blk 0 rfl) Tryz.underlying40 rfl sz40 rfl ⟨rfl, M.out.take 0⟩
def goRes (F : Fld) (fs : List Int) (x : Flock) : Cs := if birdsOk F fs [x] = true then goSet F fs x else Cs.z
set_option maxRecDepth 100000 in
set_option maxHeartbeats 1000000 in
theorem spec_CellsFor_any (F : Fld) (hF : F.ok) (fs : List Int) (hfl : fs.length = 100) (hff : ∀ x ∈ fs, -32768 ≤ x ∧ x ≤ 32767) (x : Flock) (hx : x.ok) (w : World) :
    Calls Tryz.prog 19 #[.agg F.cells, .agg (ints .i16 fs), .agg x.vals.toArray] w fun e w' => e = .returned (.tuple #[.agg (goRes F fs x).cells, .int .i64 (birdsCode F fs [x])]) ∧ Mem w w' [] := by
  have M := Lib.hid (Mem.start w)
  have HFF := Lib.hid hff
  have S1 := Lib.hid (Fld.size hF.toLen)
  have O1 := Lib.hid (Cs.one (goSet F fs x))
  clear hff
  cases hd : birdsOk F fs [x]
  · have HD := Lib.hid hd
    have HC := Lib.hid (show birdsCode F fs [x] = 1 by rw [birdsCode, hd]; rfl)
    clear hd
    go_enter Tryz.func19, Tryz.ntmps19
    go_wp2_with (first
      | ((with_reducible refine gate_dst (N := 3) rfl ?_); go_must (refine M.out.ev_new rfl (by first | (go_simp; done) | (go_simp; rfl)) ?_); intro g3 w3 m; simp only [List.cons_append, List.nil_append] at m; have M := Lib.hid m; clear m)
      | ((with_reducible refine gate_dst (N := 4) rfl ?_); go_must (refine M.out.ev_new rfl (by first | (go_simp; done) | (go_simp; rfl)) ?_); intro g4 w4 m; simp only [List.cons_append, List.nil_append] at m; have M := Lib.hid m; clear m)
      | ((with_reducible refine gate_dst (N := 5) rfl ?_); go_must (refine M.out.ev_new rfl (by first | (go_simp; done) | (go_simp; rfl)) ?_); intro g5 w5 m; simp only [List.cons_append, List.nil_append] at m; have M := Lib.hid m; clear m)
      | ((with_reducible refine gate_dst (N := 6) rfl ?_); go_must (refine M.out.ev_new rfl (by first | (go_simp; done) | (go_simp; rfl)) ?_); intro g6 w6 m; simp only [List.cons_append, List.nil_append] at m; have M := Lib.hid m; clear m)
      | ((with_reducible refine gate_store (x := .tmp 6) rfl ?_); go_must (refine M.out.ev_stw 3 _ _ _ rfl rfl rfl rfl _ rfl (by first | rfl | (simp only [S1.out]; rfl) | (simp only [S1.out, S2.out]; rfl) | (simp only [S3.out]; rfl) | (simp only [S1.out, S2.out, S3.out]; rfl)) (by first | exact sz40 | (rw [S1.out]; exact sz40) | (rw [S2.out]; exact sz40) | (rw [S3.out]; exact sz40)) (by first | exact ints_one _ _ | exact Fld.one _ | exact O1.out | rfl | (simp [Value.oneCell']; done)) rfl ?_); intro wn m; simp only [List.set_cons_succ, List.set_cons_zero, List.setIfInBounds_toArray] at m; have M := Lib.hid m; clear m)
      | ((with_reducible refine gate_store (x := .tmp 6) rfl ?_); go_must (refine M.out.ev_stw 3 _ _ _ rfl rfl rfl rfl _ rfl (by first | rfl | (simp only [S1.out]; rfl) | (simp only [S1.out, S2.out]; rfl) | (simp only [S3.out]; rfl) | (simp only [S1.out, S2.out, S3.out]; rfl)) (by first | exact sz40 | (rw [S1.out]; exact sz40) | (rw [S2.out]; exact sz40) | (rw [S3.out]; exact sz40)) (by first | exact ints_one _ _ | exact Fld.one _ | exact O1.out | rfl | (simp [Value.oneCell']; done)) rfl ?_); intro wn m; simp only [List.set_cons_succ, List.set_cons_zero, List.setIfInBounds_toArray] at m; have M := Lib.hid m; clear m)
      | (go_at_call 78; go_must (refine (l02Asked_any _ _ _ 0 F hF fs hfl HFF.out x hx _ (M.out.blk 0 rfl) (M.out.blk 1 rfl) (M.out.blk 2 rfl).range).mono ?_); rintro e w_ ⟨rfl, rfl⟩; rw [HC.out])
      )
    refine ret_ct rfl ((M.out.blk 3 rfl).var Tryz.underlying40 rfl sz40) ⟨?_, M.out.take 0⟩
    simp only [goRes, HD.out, HC.out]
    rfl
  · have HD := Lib.hid hd
    have HC := Lib.hid (show birdsCode F fs [x] = 0 by rw [birdsCode, hd]; rfl)
    have HP := Lib.hid (birds1_plain hd)
    clear hd
    go_enter Tryz.func19, Tryz.ntmps19
    go_wp2_with (first
      | ((with_reducible refine gate_dst (N := 3) rfl ?_); go_must (refine M.out.ev_new rfl (by first | (go_simp; done) | (go_simp; rfl)) ?_); intro g3 w3 m; simp only [List.cons_append, List.nil_append] at m; have M := Lib.hid m; clear m)
      | ((with_reducible refine gate_dst (N := 4) rfl ?_); go_must (refine M.out.ev_new rfl (by first | (go_simp; done) | (go_simp; rfl)) ?_); intro g4 w4 m; simp only [List.cons_append, List.nil_append] at m; have M := Lib.hid m; clear m)
      | ((with_reducible refine gate_dst (N := 5) rfl ?_); go_must (refine M.out.ev_new rfl (by first | (go_simp; done) | (go_simp; rfl)) ?_); intro g5 w5 m; simp only [List.cons_append, List.nil_append] at m; have M := Lib.hid m; clear m)
      | ((with_reducible refine gate_dst (N := 6) rfl ?_); go_must (refine M.out.ev_new rfl (by first | (go_simp; done) | (go_simp; rfl)) ?_); intro g6 w6 m; simp only [List.cons_append, List.nil_append] at m; have M := Lib.hid m; clear m)
      | ((with_reducible refine gate_store (x := .tmp 6) rfl ?_); go_must (refine M.out.ev_stw 3 _ _ _ rfl rfl rfl rfl _ rfl (by first | rfl | (simp only [S1.out]; rfl) | (simp only [S1.out, S2.out]; rfl) | (simp only [S3.out]; rfl) | (simp only [S1.out, S2.out, S3.out]; rfl)) (by first | exact sz40 | (rw [S1.out]; exact sz40) | (rw [S2.out]; exact sz40) | (rw [S3.out]; exact sz40)) (by first | exact ints_one _ _ | exact Fld.one _ | exact O1.out | rfl | (simp [Value.oneCell']; done)) rfl ?_); intro wn m; simp only [List.set_cons_succ, List.set_cons_zero, List.setIfInBounds_toArray] at m; have M := Lib.hid m; clear m)
      | ((with_reducible refine gate_store (x := .tmp 6) rfl ?_); go_must (refine M.out.ev_stw 3 _ _ _ rfl rfl rfl rfl _ rfl (by first | rfl | (simp only [S1.out]; rfl) | (simp only [S1.out, S2.out]; rfl) | (simp only [S3.out]; rfl) | (simp only [S1.out, S2.out, S3.out]; rfl)) (by first | exact sz40 | (rw [S1.out]; exact sz40) | (rw [S2.out]; exact sz40) | (rw [S3.out]; exact sz40)) (by first | exact ints_one _ _ | exact Fld.one _ | exact O1.out | rfl | (simp [Value.oneCell']; done)) rfl ?_); intro wn m; simp only [List.set_cons_succ, List.set_cons_zero, List.setIfInBounds_toArray] at m; have M := Lib.hid m; clear m)
      | (go_at_call 78; go_must (refine (l02Asked_any _ _ _ 0 F hF fs hfl HFF.out x hx _ (M.out.blk 0 rfl) (M.out.blk 1 rfl) (M.out.blk 2 rfl).range).mono ?_); rintro e w_ ⟨rfl, rfl⟩; rw [HC.out])
      | (go_at_call 79; go_must (refine (l02Cells_any _ _ _ 0 F hF fs hfl x HP.out _ (M.out.blk 0 rfl) (M.out.blk 1 rfl) (M.out.blk 2 rfl).range).mono ?_); rintro e w_ ⟨rfl, N_⟩; have m := M.out.join N_; clear N_; simp only [List.cons_append, List.nil_append, List.append_nil] at m; have M := Lib.hid m; clear m)
      )
    refine ret_ct rfl ((M.out.blk 3 rfl).var Tryz.underlying40 rfl sz40) ⟨?_, M.out.take 0⟩
    simp only [goRes, HD.out, HC.out]
    rfl
set_option maxRecDepth 100000 in
set_option maxHeartbeats 2000000 in
theorem impl_CellsFor_any (F : Fld) (hF : F.ok) (fs : List Int) (hfl : fs.length = 100) (hff : ∀ x ∈ fs, -32768 ≤ x ∧ x ≤ 32767) (x : Flock) (hx : x.ok) (w : World) :
    Calls Tryz.prog 18 #[.agg F.cells, .agg (ints .i16 fs), .agg x.vals.toArray] w fun e w' => e = .returned (.tuple #[.agg (goRes F fs x).cells, .int .i64 (birdsCode F fs [x])]) ∧ Mem w w' [] := by
  have M := Lib.hid (Mem.start w)
  have HFF := Lib.hid hff
  have S1 := Lib.hid (Fld.size hF.toLen)
  have O1 := Lib.hid (Cs.one (goSet F fs x))
  have HX := Lib.hid (show ∀ y ∈ [x], y.ok from fun y hy => by rw [List.mem_singleton.1 hy]; exact hx)
  clear hff
  cases hd : birdsOk F fs [x]
  · have HD := Lib.hid hd
    have HC := Lib.hid (show birdsCode F fs [x] = 1 by rw [birdsCode, hd]; rfl)
    clear hd
    go_enter Tryz.func18, Tryz.ntmps18
    go_wp2_with (first
      | ((with_reducible refine gate_dst (N := 3) rfl ?_); go_must (refine M.out.ev_new rfl (by first | (go_simp; done) | (go_simp; rfl)) ?_); intro g3 w3 m; simp only [List.cons_append, List.nil_append] at m; have M := Lib.hid m; clear m)
      | ((with_reducible refine gate_dst (N := 4) rfl ?_); go_must (refine M.out.ev_new rfl (by first | (go_simp; done) | (go_simp; rfl)) ?_); intro g4 w4 m; simp only [List.cons_append, List.nil_append] at m; have M := Lib.hid m; clear m)
      | ((with_reducible refine gate_dst (N := 5) rfl ?_); go_must (refine M.out.ev_new rfl (by first | (go_simp; done) | (go_simp; rfl)) ?_); intro g5 w5 m; simp only [List.cons_append, List.nil_append] at m; have M := Lib.hid m; clear m)
      | ((with_reducible refine gate_dst (N := 6) rfl ?_); go_must (refine M.out.ev_new rfl (by first | (go_simp; done) | (go_simp; rfl)) ?_); intro g6 w6 m; simp only [List.cons_append, List.nil_append] at m; have M := Lib.hid m; clear m)
      | ((with_reducible refine gate_dst (N := 8) rfl ?_); go_must (refine M.out.ev_ldw 2 _ _ rfl rfl rfl Tryz.underlying48 rfl (by first | exact sz48 | (rw [S1.out]; exact sz48) | (rw [S2.out]; exact sz48) | (rw [S3.out]; exact sz48)) rfl ?_))
      | ((with_reducible refine gate_store (x := .tmp 6) rfl ?_); go_must (refine M.out.ev_stw 3 _ _ _ rfl rfl rfl rfl _ rfl (by first | rfl | (simp only [S1.out]; rfl) | (simp only [S1.out, S2.out]; rfl) | (simp only [S3.out]; rfl) | (simp only [S1.out, S2.out, S3.out]; rfl)) (by first | exact sz40 | (rw [S1.out]; exact sz40) | (rw [S2.out]; exact sz40) | (rw [S3.out]; exact sz40)) (by first | exact ints_one _ _ | exact Fld.one _ | exact O1.out | rfl | (simp [Value.oneCell']; done)) rfl ?_); intro wn m; simp only [List.set_cons_succ, List.set_cons_zero, List.setIfInBounds_toArray] at m; have M := Lib.hid m; clear m)
      | ((with_reducible refine gate_store (x := .tmp 6) rfl ?_); go_must (refine M.out.ev_stw 3 _ _ _ rfl rfl rfl rfl _ rfl (by first | rfl | (simp only [S1.out]; rfl) | (simp only [S1.out, S2.out]; rfl) | (simp only [S3.out]; rfl) | (simp only [S1.out, S2.out, S3.out]; rfl)) (by first | exact sz40 | (rw [S1.out]; exact sz40) | (rw [S2.out]; exact sz40) | (rw [S3.out]; exact sz40)) (by first | exact ints_one _ _ | exact Fld.one _ | exact O1.out | rfl | (simp [Value.oneCell']; done)) rfl ?_); intro wn m; simp only [List.set_cons_succ, List.set_cons_zero, List.setIfInBounds_toArray] at m; have M := Lib.hid m; clear m)
      | ((with_reducible refine gate_dst (N := 9) rfl ?_); go_must (refine M.out.ev_bs1 elem_Flock rfl _ rfl x.vals.toArray rfl rfl (by decide) ?_); intro g9 w9 m; simp only [List.cons_append, List.nil_append] at m; have M := Lib.hid m; clear m)
      | (go_at_call 66; go_must (refine (areBirds_any _ _ F hF fs hfl HFF.out _ _ [x] HX.out (by simp) _ (M.out.blk 0 rfl) (M.out.blk 1 rfl) (sl_blk (M.out.blk 4 rfl))).mono ?_); rintro e w_ ⟨rfl, N_⟩; have m := M.out.join N_; clear N_; simp only [List.cons_append, List.nil_append, List.append_nil] at m; have M := Lib.hid m; clear m; rw [HD.out])
      )
    refine ret_ct rfl ((M.out.blk 3 rfl).var Tryz.underlying40 rfl sz40) ⟨?_, M.out.take 0⟩
    simp only [goRes, HD.out, HC.out]
    rfl
  · have HD := Lib.hid hd
    have HC := Lib.hid (show birdsCode F fs [x] = 0 by rw [birdsCode, hd]; rfl)
    have HP := Lib.hid (birds1_plain hd)
    clear hd
    go_enter Tryz.func18, Tryz.ntmps18
    go_wp2_with (first
      | ((with_reducible refine gate_dst (N := 3) rfl ?_); go_must (refine M.out.ev_new rfl (by first | (go_simp; done) | (go_simp; rfl)) ?_); intro g3 w3 m; simp only [List.cons_append, List.nil_append] at m; have M := Lib.hid m; clear m)
      | ((with_reducible refine gate_dst (N := 4) rfl ?_); go_must (refine M.out.ev_new rfl (by first | (go_simp; done) | (go_simp; rfl)) ?_); intro g4 w4 m; simp only [List.cons_append, List.nil_append] at m; have M := Lib.hid m; clear m)
      | ((with_reducible refine gate_dst (N := 5) rfl ?_); go_must (refine M.out.ev_new rfl (by first | (go_simp; done) | (go_simp; rfl)) ?_); intro g5 w5 m; simp only [List.cons_append, List.nil_append] at m; have M := Lib.hid m; clear m)
      | ((with_reducible refine gate_dst (N := 6) rfl ?_); go_must (refine M.out.ev_new rfl (by first | (go_simp; done) | (go_simp; rfl)) ?_); intro g6 w6 m; simp only [List.cons_append, List.nil_append] at m; have M := Lib.hid m; clear m)
      | ((with_reducible refine gate_dst (N := 8) rfl ?_); go_must (refine M.out.ev_ldw 2 _ _ rfl rfl rfl Tryz.underlying48 rfl (by first | exact sz48 | (rw [S1.out]; exact sz48) | (rw [S2.out]; exact sz48) | (rw [S3.out]; exact sz48)) rfl ?_))
      | ((with_reducible refine gate_store (x := .tmp 6) rfl ?_); go_must (refine M.out.ev_stw 3 _ _ _ rfl rfl rfl rfl _ rfl (by first | rfl | (simp only [S1.out]; rfl) | (simp only [S1.out, S2.out]; rfl) | (simp only [S3.out]; rfl) | (simp only [S1.out, S2.out, S3.out]; rfl)) (by first | exact sz40 | (rw [S1.out]; exact sz40) | (rw [S2.out]; exact sz40) | (rw [S3.out]; exact sz40)) (by first | exact ints_one _ _ | exact Fld.one _ | exact O1.out | rfl | (simp [Value.oneCell']; done)) rfl ?_); intro wn m; simp only [List.set_cons_succ, List.set_cons_zero, List.setIfInBounds_toArray] at m; have M := Lib.hid m; clear m)
      | ((with_reducible refine gate_store (x := .tmp 6) rfl ?_); go_must (refine M.out.ev_stw 3 _ _ _ rfl rfl rfl rfl _ rfl (by first | rfl | (simp only [S1.out]; rfl) | (simp only [S1.out, S2.out]; rfl) | (simp only [S3.out]; rfl) | (simp only [S1.out, S2.out, S3.out]; rfl)) (by first | exact sz40 | (rw [S1.out]; exact sz40) | (rw [S2.out]; exact sz40) | (rw [S3.out]; exact sz40)) (by first | exact ints_one _ _ | exact Fld.one _ | exact O1.out | rfl | (simp [Value.oneCell']; done)) rfl ?_); intro wn m; simp only [List.set_cons_succ, List.set_cons_zero, List.setIfInBounds_toArray] at m; have M := Lib.hid m; clear m)
      | ((with_reducible refine gate_dst (N := 9) rfl ?_); go_must (refine M.out.ev_bs1 elem_Flock rfl _ rfl x.vals.toArray rfl rfl (by decide) ?_); intro g9 w9 m; simp only [List.cons_append, List.nil_append] at m; have M := Lib.hid m; clear m)
      | (go_at_call 66; go_must (refine (areBirds_any _ _ F hF fs hfl HFF.out _ _ [x] HX.out (by simp) _ (M.out.blk 0 rfl) (M.out.blk 1 rfl) (sl_blk (M.out.blk 4 rfl))).mono ?_); rintro e w_ ⟨rfl, N_⟩; have m := M.out.join N_; clear N_; simp only [List.cons_append, List.nil_append, List.append_nil] at m; have M := Lib.hid m; clear m; rw [HD.out])
      | (go_at_call 69; go_must (refine (cellsFor_any _ _ _ 0 F hF fs hfl x HP.out _ (M.out.blk 0 rfl) (M.out.blk 1 rfl) (M.out.blk 2 rfl).range).mono ?_); rintro e w_ ⟨rfl, N_⟩; have m := M.out.join N_; clear N_; simp only [List.cons_append, List.nil_append, List.append_nil] at m; have M := Lib.hid m; clear m)
      )
    refine ret_ct rfl ((M.out.blk 3 rfl).var Tryz.underlying40 rfl sz40) ⟨?_, M.out.take 0⟩
    simp only [goRes, HD.out, HC.out]
    rfl
end Go.Proofs.YtkomhngokcejbaaGreatDoor
