/- Texts of a proof, laid together: FeedAll, EqI. -/
import Derived.Test.YtlonbgomdabmmaaZF10
import Derived.Test.YtlonbgomdabmmaaZF02
namespace Go.Proofs.Ytlonbgomdabmmaa
set_option linter.unusedSimpArgs false
set_option linter.unusedVariables false
open Go.RowKit
attribute [local go_sem] cell?_mk frozen?_mk

theorem birds_all {F : Fld} {fs : List Int} {xs : List Flock} (h : birdsOk F fs xs = true) : (∀ x ∈ xs, x.plain = true) ∧ xs.length ≤ 12 := by
  simp only [birdsOk, flocksOk, Bool.and_eq_true, List.all_eq_true, Flock.fine, decide_eq_true_eq] at h
  exact ⟨fun x hx => (h.2.1 x hx).1, h.2.2⟩
def faF (F : Fld) (fs : List Int) (xs : List Flock) : Fld := if birdsOk F fs xs = true then (dayOf F fs xs).1 else Fld.z
def faV (F : Fld) (fs : List Int) (xs : List Flock) : List Visit := if birdsOk F fs xs = true then (dayOf F fs xs).2.1 else []
theorem faF_len {F : Fld} (hF : F.ok) (fs : List Int) (xs : List Flock) : (faF F fs xs).len := by
  unfold faF
  split
  · rename_i h
    exact (dayTo_ok hF fs (birds_all h).1 _ (Nat.le_refl _)).1.toLen
  · exact Fld.z_len
theorem dayOf_one (F : Fld) (fs : List Int) (x : Flock) : dayOf F fs [x] = ((feedOf F fs x 0).1, (feedOf F fs x 0).2.1, [(feedOf F fs x 0).2.2]) := by
  rw [dayOf, show [x].length = 0 + 1 from rfl, dayTo_succ F fs (by simp)]
  simp [dayTo]
/-- A call hands back a field, visits of its own and a code. -/
def RetFV (w : World) (F : Fld) (vs : List Visit) (code : Int) (e : Ending) (w' : World) : Prop :=
  ∃ A c, e = .returned (.tuple #[.agg F.cells, .slice A vs.length c, .int .i64 code]) ∧ vs.length ≤ c ∧ Mem w w' [.row (.slice A vs.length c) 51 3 vs.length (flat Visit.vals vs)]
set_option maxRecDepth 100000 in
set_option maxHeartbeats 4000000 in
theorem impl_FeedAll_any (F : Fld) (hF : F.ok) (fs : List Int) (hfl : fs.length = 100) (hff : ∀ x ∈ fs, -32768 ≤ x ∧ x ≤ 32767) (A : Option Addr) (n : Nat) (xs : List Flock) (hx : ∀ x ∈ xs, x.ok) (hl : xs.length ≤ 1048576) (w : World) (hs : Sl w 6 A xs.length (flat Flock.vals xs)) :
    Calls Try.prog 8 #[.agg F.cells, .agg (ints .i16 fs), .slice A xs.length n] w (RetFV w (faF F fs xs) (faV F fs xs) (birdsCode F fs xs)) := by
  have M := Lib.hid (Mem.start w)
  have HFF := Lib.hid hff
  have HF := Lib.hid hF
  have S1 := Lib.hid (Fld.size hF.toLen)
  have S2 := Lib.hid (Fld.size Fld.z_len)
  have O1 := Lib.hid (Fld.one Fld.z)
  have HX := Lib.hid hx
  have HS := Lib.hid hs
  clear hx hs hff hF
  cases hd : birdsOk F fs xs
  · have HD := Lib.hid hd
    have HC := Lib.hid (show birdsCode F fs xs = 1 by rw [birdsCode, hd]; rfl)
    clear hd
    go_enter Try.func8, Try.ntmps8
    go_wp2_with (first
      | ((with_reducible refine gate_dst (N := 6) rfl ?_); go_must (refine M.out.ev_new rfl (by first | (go_simp; done) | (go_simp; rfl)) ?_); intro g6 w6 m; simp only [List.cons_append, List.nil_append, zeroFld] at m; have M := Lib.hid m; clear m)
      | (go_at_call 33; go_must (refine (areBirds_any _ _ F HF.out fs hfl HFF.out A n xs HX.out hl _ (M.out.blk 0 rfl) (M.out.blk 1 rfl) (M.out.sl HS.out)).mono ?_); rintro e w_ ⟨rfl, N_⟩; have m := M.out.join N_; clear N_; simp only [List.cons_append, List.nil_append, List.append_nil] at m; have M := Lib.hid m; clear m; rw [HD.out])
      | ((with_reducible refine gate_dst (N := 3) rfl ?_); go_must (refine M.out.ev_new rfl (by first | (go_simp; done) | (go_simp; rfl)) ?_); intro g3 w3 m; simp only [List.cons_append, List.nil_append, zeroFld] at m; have M := Lib.hid m; clear m)
      | ((with_reducible refine gate_dst (N := 4) rfl ?_); go_must (refine M.out.ev_new rfl (by first | (go_simp; done) | (go_simp; rfl)) ?_); intro g4 w4 m; simp only [List.cons_append, List.nil_append, zeroFld] at m; have M := Lib.hid m; clear m)
      | ((with_reducible refine gate_dst (N := 6) rfl ?_); go_must (refine M.out.ev_new rfl (by first | (go_simp; done) | (go_simp; rfl)) ?_); intro g6 w6 m; simp only [List.cons_append, List.nil_append, zeroFld] at m; have M := Lib.hid m; clear m)
      | ((with_reducible refine gate_store (x := .tmp 6) rfl ?_); go_must (refine M.out.ev_stw 2 _ _ _ rfl rfl rfl rfl _ rfl (by first | rfl | (simp only [S1.out]; rfl) | (simp only [S1.out, S2.out]; rfl) | (simp only [S3.out]; rfl) | (simp only [S1.out, S2.out, S3.out]; rfl)) (by first | exact sz29 | (rw [S1.out]; exact sz29) | (rw [S2.out]; exact sz29) | (rw [S3.out]; exact sz29)) (by first | exact ints_one _ _ | exact Fld.one _ | exact O1.out | rfl | (simp [Value.oneCell']; done)) rfl ?_); intro wn m; simp only [List.set_cons_succ, List.set_cons_zero, List.setIfInBounds_toArray, zeroFld] at m; have M := Lib.hid m; clear m)
      | ((with_reducible refine gate_dst (N := 20) rfl ?_); go_must (refine M.out.ev_ldw 0 _ _ rfl rfl rfl Try.underlying29 rfl (by first | exact sz29 | (rw [S1.out]; exact sz29) | (rw [S2.out]; exact sz29) | (rw [S3.out]; exact sz29)) rfl ?_))
      | ((with_reducible refine gate_store (x := .tmp 6) rfl ?_); go_must (refine M.out.ev_stw 2 _ _ _ rfl rfl rfl rfl _ rfl (by first | rfl | (simp only [S1.out]; rfl) | (simp only [S1.out, S2.out]; rfl) | (simp only [S3.out]; rfl) | (simp only [S1.out, S2.out, S3.out]; rfl)) (by first | exact sz29 | (rw [S1.out]; exact sz29) | (rw [S2.out]; exact sz29) | (rw [S3.out]; exact sz29)) (by first | exact ints_one _ _ | exact Fld.one _ | exact O1.out | rfl | (simp [Value.oneCell']; done)) rfl ?_); intro wn m; simp only [List.set_cons_succ, List.set_cons_zero, List.setIfInBounds_toArray, zeroFld] at m; have M := Lib.hid m; clear m)
      )
    refine ret_ctt rfl ((M.out.blk 2 rfl).var Try.underlying29 rfl (by rw [S2.out]; exact sz29)) ?_
    have m := (M.out.take 0).nilrow 51 3
    simp only [RetFV, faF, faV, HD.out, HC.out]
    exact ⟨none, 0, rfl, Nat.le_refl _, m⟩
  · have HD := Lib.hid hd
    have HC := Lib.hid (show birdsCode F fs xs = 0 by rw [birdsCode, hd]; rfl)
    have hb := birds_all hd
    have HDY := Lib.hid (dayTo_ok HF.out fs hb.1 _ (Nat.le_refl _))
    have HR := Lib.hid (show faF F fs xs = (dayOf F fs xs).1 by rw [faF, hd, if_pos rfl])
    have HV := Lib.hid (show faV F fs xs = (dayOf F fs xs).2.1 by rw [faV, hd, if_pos rfl])
    have DA := Lib.hid (fun (wx : World) (E1 E2 : Ent) (ga gb : Nat) (m0 : Mem w wx [.blk ga 29 F.cells, .blk gb 31 (ints .i16 fs), E1, E2]) => feedAll_any ga gb F HF.out fs hfl HFF.out A n xs hb.1 hb.2 m0 HS.out)
    have HDO := Lib.hid (show (dayOf F fs xs).1.len from HDY.out.1.toLen)
    obtain ⟨D, hD⟩ : ∃ D, D = dayOf F fs xs := ⟨_, rfl⟩
    rw [← hD] at DA HDO HR HV
    have S3 := Lib.hid (Fld.size HDO.out)
    have O2 := Lib.hid (Fld.one D.1)
    clear hd hD hb
    go_enter Try.func8, Try.ntmps8
    go_wp2_with (first
      | ((with_reducible refine gate_dst (N := 6) rfl ?_); go_must (refine M.out.ev_new rfl (by first | (go_simp; done) | (go_simp; rfl)) ?_); intro g6 w6 m; simp only [List.cons_append, List.nil_append, zeroFld] at m; have M := Lib.hid m; clear m)
      | (go_at_call 33; go_must (refine (areBirds_any _ _ F HF.out fs hfl HFF.out A n xs HX.out hl _ (M.out.blk 0 rfl) (M.out.blk 1 rfl) (M.out.sl HS.out)).mono ?_); rintro e w_ ⟨rfl, N_⟩; have m := M.out.join N_; clear N_; simp only [List.cons_append, List.nil_append, List.append_nil] at m; have M := Lib.hid m; clear m; rw [HD.out])
      | (go_at_call 34; go_must (refine (DA.out _ _ _ _ _ (M.out.nilrow 48 6)).mono ?_); rintro e w_ ⟨A1, c1, A2, c2, rfl, hc1, hc2, m⟩; have M := Lib.hid m; clear m)
      | ((with_reducible refine gate_dst (N := 20) rfl ?_); go_must (refine M.out.ev_ldw 0 _ _ rfl rfl rfl Try.underlying29 rfl (by rw [S3.out]; exact sz29) rfl ?_))
      | ((with_reducible refine gate_store (x := .tmp 6) rfl ?_); go_must (refine M.out.ev_stw 2 _ _ _ rfl rfl rfl rfl D.1.cells rfl (by rw [S2.out, S3.out]) (by rw [S3.out]; exact sz29) O2.out rfl ?_); intro wn m; simp only [List.set_cons_succ, List.set_cons_zero] at m; have M := Lib.hid m; clear m)
      | ((with_reducible refine gate_dst (N := 3) rfl ?_); go_must (refine M.out.ev_new rfl (by first | (go_simp; done) | (go_simp; rfl)) ?_); intro g3 w3 m; simp only [List.cons_append, List.nil_append, zeroFld] at m; have M := Lib.hid m; clear m)
      | ((with_reducible refine gate_dst (N := 4) rfl ?_); go_must (refine M.out.ev_new rfl (by first | (go_simp; done) | (go_simp; rfl)) ?_); intro g4 w4 m; simp only [List.cons_append, List.nil_append, zeroFld] at m; have M := Lib.hid m; clear m)
      | ((with_reducible refine gate_dst (N := 6) rfl ?_); go_must (refine M.out.ev_new rfl (by first | (go_simp; done) | (go_simp; rfl)) ?_); intro g6 w6 m; simp only [List.cons_append, List.nil_append, zeroFld] at m; have M := Lib.hid m; clear m)
      | ((with_reducible refine gate_store (x := .tmp 6) rfl ?_); go_must (refine M.out.ev_stw 2 _ _ _ rfl rfl rfl rfl _ rfl (by first | rfl | (simp only [S1.out]; rfl) | (simp only [S1.out, S2.out]; rfl) | (simp only [S3.out]; rfl) | (simp only [S1.out, S2.out, S3.out]; rfl)) (by first | exact sz29 | (rw [S1.out]; exact sz29) | (rw [S2.out]; exact sz29) | (rw [S3.out]; exact sz29)) (by first | exact ints_one _ _ | exact Fld.one _ | exact O1.out | rfl | (simp [Value.oneCell']; done)) rfl ?_); intro wn m; simp only [List.set_cons_succ, List.set_cons_zero, List.setIfInBounds_toArray, zeroFld] at m; have M := Lib.hid m; clear m)
      | ((with_reducible refine gate_dst (N := 20) rfl ?_); go_must (refine M.out.ev_ldw 0 _ _ rfl rfl rfl Try.underlying29 rfl (by first | exact sz29 | (rw [S1.out]; exact sz29) | (rw [S2.out]; exact sz29) | (rw [S3.out]; exact sz29)) rfl ?_))
      | ((with_reducible refine gate_store (x := .tmp 6) rfl ?_); go_must (refine M.out.ev_stw 2 _ _ _ rfl rfl rfl rfl _ rfl (by first | rfl | (simp only [S1.out]; rfl) | (simp only [S1.out, S2.out]; rfl) | (simp only [S3.out]; rfl) | (simp only [S1.out, S2.out, S3.out]; rfl)) (by first | exact sz29 | (rw [S1.out]; exact sz29) | (rw [S2.out]; exact sz29) | (rw [S3.out]; exact sz29)) (by first | exact ints_one _ _ | exact Fld.one _ | exact O1.out | rfl | (simp [Value.oneCell']; done)) rfl ?_); intro wn m; simp only [List.set_cons_succ, List.set_cons_zero, List.setIfInBounds_toArray, zeroFld] at m; have M := Lib.hid m; clear m)
      )
    refine ret_ctt rfl ((M.out.blk 2 rfl).var Try.underlying29 rfl (by rw [S3.out]; exact sz29)) ?_
    have m := M.out.only [4] (K := [_]) rfl (by decide)
    rw [HR.out, HV.out, HC.out]
    exact ⟨_, _, rfl, hc1, m⟩
set_option maxRecDepth 100000 in
set_option maxHeartbeats 4000000 in
theorem spec_FeedAll_any (F : Fld) (hF : F.ok) (fs : List Int) (hfl : fs.length = 100) (hff : ∀ x ∈ fs, -32768 ≤ x ∧ x ≤ 32767) (A : Option Addr) (n : Nat) (xs : List Flock) (hx : ∀ x ∈ xs, x.ok) (hl : xs.length ≤ 1048576) (w : World) (hs : Sl w 6 A xs.length (flat Flock.vals xs)) :
    Calls Try.prog 9 #[.agg F.cells, .agg (ints .i16 fs), .slice A xs.length n] w (RetFV w (faF F fs xs) (faV F fs xs) (birdsCode F fs xs)) := by
  have M := Lib.hid (Mem.start w)
  have HFF := Lib.hid hff
  have HF := Lib.hid hF
  have S1 := Lib.hid (Fld.size hF.toLen)
  have S2 := Lib.hid (Fld.size Fld.z_len)
  have O1 := Lib.hid (Fld.one Fld.z)
  have HX := Lib.hid hx
  have HS := Lib.hid hs
  clear hx hs hff hF
  cases hd : birdsOk F fs xs
  · have HD := Lib.hid hd
    have HC := Lib.hid (show birdsCode F fs xs = 1 by rw [birdsCode, hd]; rfl)
    clear hd
    go_enter Try.func9, Try.ntmps9
    go_wp2_with (first
      | ((with_reducible refine gate_dst (N := 6) rfl ?_); go_must (refine M.out.ev_new rfl (by first | (go_simp; done) | (go_simp; rfl)) ?_); intro g6 w6 m; simp only [List.cons_append, List.nil_append, zeroFld] at m; have M := Lib.hid m; clear m)
      | (go_at_call 35; go_must (refine (l02All_any _ _ F HF.out fs hfl HFF.out A n xs HX.out hl _ (M.out.blk 0 rfl) (M.out.blk 1 rfl) (M.out.sl HS.out)).mono ?_); rintro e w_ ⟨rfl, rfl⟩; rw [HC.out])
      | ((with_reducible refine gate_dst (N := 17) rfl ?_); go_must (refine M.out.ev_bs0 elem_Visit rfl rfl ?_); intro g17 w17 m; simp only [List.cons_append, List.nil_append] at m; have M := Lib.hid m; clear m)
      | ((with_reducible refine gate_dst (N := 3) rfl ?_); go_must (refine M.out.ev_new rfl (by first | (go_simp; done) | (go_simp; rfl)) ?_); intro g3 w3 m; simp only [List.cons_append, List.nil_append, zeroFld] at m; have M := Lib.hid m; clear m)
      | ((with_reducible refine gate_dst (N := 4) rfl ?_); go_must (refine M.out.ev_new rfl (by first | (go_simp; done) | (go_simp; rfl)) ?_); intro g4 w4 m; simp only [List.cons_append, List.nil_append, zeroFld] at m; have M := Lib.hid m; clear m)
      | ((with_reducible refine gate_dst (N := 6) rfl ?_); go_must (refine M.out.ev_new rfl (by first | (go_simp; done) | (go_simp; rfl)) ?_); intro g6 w6 m; simp only [List.cons_append, List.nil_append, zeroFld] at m; have M := Lib.hid m; clear m)
      | ((with_reducible refine gate_store (x := .tmp 6) rfl ?_); go_must (refine M.out.ev_stw 2 _ _ _ rfl rfl rfl rfl _ rfl (by first | rfl | (simp only [S1.out]; rfl) | (simp only [S1.out, S2.out]; rfl) | (simp only [S3.out]; rfl) | (simp only [S1.out, S2.out, S3.out]; rfl)) (by first | exact sz29 | (rw [S1.out]; exact sz29) | (rw [S2.out]; exact sz29) | (rw [S3.out]; exact sz29)) (by first | exact ints_one _ _ | exact Fld.one _ | exact O1.out | rfl | (simp [Value.oneCell']; done)) rfl ?_); intro wn m; simp only [List.set_cons_succ, List.set_cons_zero, List.setIfInBounds_toArray, zeroFld] at m; have M := Lib.hid m; clear m)
      | ((with_reducible refine gate_dst (N := 20) rfl ?_); go_must (refine M.out.ev_ldw 0 _ _ rfl rfl rfl Try.underlying29 rfl (by first | exact sz29 | (rw [S1.out]; exact sz29) | (rw [S2.out]; exact sz29) | (rw [S3.out]; exact sz29)) rfl ?_))
      | ((with_reducible refine gate_dst (N := 10) rfl ?_); go_must (refine M.out.ev_new rfl (by first | (go_simp; done) | (go_simp; rfl)) ?_); intro g10 w10 m; simp only [List.cons_append, List.nil_append, zeroFld] at m; have M := Lib.hid m; clear m)
      | ((with_reducible refine gate_store (x := .tmp 10) rfl ?_); go_must (refine M.out.ev_stw 3 _ _ _ rfl rfl rfl rfl _ rfl (by first | rfl | (simp only [S1.out]; rfl) | (simp only [S1.out, S2.out]; rfl) | (simp only [S3.out]; rfl) | (simp only [S1.out, S2.out, S3.out]; rfl)) (by first | exact sz29 | (rw [S1.out]; exact sz29) | (rw [S2.out]; exact sz29) | (rw [S3.out]; exact sz29)) (by first | exact ints_one _ _ | exact Fld.one _ | exact O1.out | rfl | (simp [Value.oneCell']; done)) rfl ?_); intro wn m; simp only [List.set_cons_succ, List.set_cons_zero, List.setIfInBounds_toArray, zeroFld] at m; have M := Lib.hid m; clear m)
      | ((with_reducible refine gate_dst (N := 25) rfl ?_); go_must (refine M.out.ev_ldw 3 _ _ rfl rfl rfl Try.underlying29 rfl (by first | exact sz29 | (rw [S1.out]; exact sz29) | (rw [S2.out]; exact sz29) | (rw [S3.out]; exact sz29)) rfl ?_))
      | ((with_reducible refine gate_store (x := .tmp 6) rfl ?_); go_must (refine M.out.ev_stw 2 _ _ _ rfl rfl rfl rfl _ rfl (by first | rfl | (simp only [S1.out]; rfl) | (simp only [S1.out, S2.out]; rfl) | (simp only [S3.out]; rfl) | (simp only [S1.out, S2.out, S3.out]; rfl)) (by first | exact sz29 | (rw [S1.out]; exact sz29) | (rw [S2.out]; exact sz29) | (rw [S3.out]; exact sz29)) (by first | exact ints_one _ _ | exact Fld.one _ | exact O1.out | rfl | (simp [Value.oneCell']; done)) rfl ?_); intro wn m; simp only [List.set_cons_succ, List.set_cons_zero, List.setIfInBounds_toArray, zeroFld] at m; have M := Lib.hid m; clear m)
      )
    refine ret_ctt rfl ((M.out.blk 2 rfl).var Try.underlying29 rfl (by rw [S2.out]; exact sz29)) ?_
    have m := M.out.only [3] (K := [_]) rfl (by decide)
    simp only [RetFV, faF, faV, HD.out, HC.out]
    exact ⟨_, 0, rfl, Nat.le_refl _, m⟩
  · have HD := Lib.hid hd
    have HC := Lib.hid (show birdsCode F fs xs = 0 by rw [birdsCode, hd]; rfl)
    have hb := birds_all hd
    have HDY := Lib.hid (dayTo_ok HF.out fs hb.1 _ (Nat.le_refl _))
    have HR := Lib.hid (show faF F fs xs = (dayOf F fs xs).1 by rw [faF, hd, if_pos rfl])
    have HV := Lib.hid (show faV F fs xs = (dayOf F fs xs).2.1 by rw [faV, hd, if_pos rfl])
    have DA := Lib.hid (fun (wx : World) (gb : Nat) (h1 : Blk wx gb 31 (ints .i16 fs)) (h2 : Sl wx 6 A xs.length (flat Flock.vals xs)) => l02Day_any gb F HF.out fs hfl HFF.out A n xs hb.1 hb.2 wx h1 h2)
    have HDO := Lib.hid (show (dayOf F fs xs).1.len from HDY.out.1.toLen)
    obtain ⟨D, hD⟩ : ∃ D, D = dayOf F fs xs := ⟨_, rfl⟩
    rw [← hD] at DA HDO HR HV
    have S3 := Lib.hid (Fld.size HDO.out)
    have O2 := Lib.hid (Fld.one D.1)
    clear hd hD hb
    go_enter Try.func9, Try.ntmps9
    go_wp2_with (first
      | ((with_reducible refine gate_dst (N := 6) rfl ?_); go_must (refine M.out.ev_new rfl (by first | (go_simp; done) | (go_simp; rfl)) ?_); intro g6 w6 m; simp only [List.cons_append, List.nil_append, zeroFld] at m; have M := Lib.hid m; clear m)
      | (go_at_call 35; go_must (refine (l02All_any _ _ F HF.out fs hfl HFF.out A n xs HX.out hl _ (M.out.blk 0 rfl) (M.out.blk 1 rfl) (M.out.sl HS.out)).mono ?_); rintro e w_ ⟨rfl, rfl⟩; rw [HC.out])
      | (go_at_call 36; go_must (refine (DA.out _ _ (M.out.blk 1 rfl) (M.out.sl HS.out)).mono ?_); rintro e w_ ⟨A_, c_, rfl, hc_, N_⟩; have m := M.out.join N_; clear N_; simp only [List.cons_append, List.nil_append, List.append_nil] at m; have M := Lib.hid m; clear m)
      | ((with_reducible refine gate_dst (N := 10) rfl ?_); go_must (refine M.out.ev_new rfl (by first | (go_simp; done) | (go_simp; rfl)) ?_); intro g10 w10 m; simp only [List.cons_append, List.nil_append, zeroFld] at m; have M := Lib.hid m; clear m)
      | ((with_reducible refine gate_store (x := .tmp 10) rfl ?_); go_must (refine M.out.ev_stw 4 _ _ _ rfl rfl rfl rfl D.1.cells rfl (by rw [S2.out, S3.out]) (by rw [S3.out]; exact sz29) O2.out rfl ?_); intro wn m; simp only [List.set_cons_succ, List.set_cons_zero] at m; have M := Lib.hid m; clear m)
      | ((with_reducible refine gate_dst (N := 25) rfl ?_); go_must (refine M.out.ev_ldw 4 _ _ rfl rfl rfl Try.underlying29 rfl (by rw [S3.out]; exact sz29) rfl ?_))
      | ((with_reducible refine gate_store (x := .tmp 6) rfl ?_); go_must (refine M.out.ev_stw 2 _ _ _ rfl rfl rfl rfl D.1.cells rfl (by rw [S2.out, S3.out]) (by rw [S3.out]; exact sz29) O2.out rfl ?_); intro wn m; simp only [List.set_cons_succ, List.set_cons_zero] at m; have M := Lib.hid m; clear m)
      | ((with_reducible refine gate_dst (N := 3) rfl ?_); go_must (refine M.out.ev_new rfl (by first | (go_simp; done) | (go_simp; rfl)) ?_); intro g3 w3 m; simp only [List.cons_append, List.nil_append, zeroFld] at m; have M := Lib.hid m; clear m)
      | ((with_reducible refine gate_dst (N := 4) rfl ?_); go_must (refine M.out.ev_new rfl (by first | (go_simp; done) | (go_simp; rfl)) ?_); intro g4 w4 m; simp only [List.cons_append, List.nil_append, zeroFld] at m; have M := Lib.hid m; clear m)
      | ((with_reducible refine gate_dst (N := 6) rfl ?_); go_must (refine M.out.ev_new rfl (by first | (go_simp; done) | (go_simp; rfl)) ?_); intro g6 w6 m; simp only [List.cons_append, List.nil_append, zeroFld] at m; have M := Lib.hid m; clear m)
      | ((with_reducible refine gate_store (x := .tmp 6) rfl ?_); go_must (refine M.out.ev_stw 2 _ _ _ rfl rfl rfl rfl _ rfl (by first | rfl | (simp only [S1.out]; rfl) | (simp only [S1.out, S2.out]; rfl) | (simp only [S3.out]; rfl) | (simp only [S1.out, S2.out, S3.out]; rfl)) (by first | exact sz29 | (rw [S1.out]; exact sz29) | (rw [S2.out]; exact sz29) | (rw [S3.out]; exact sz29)) (by first | exact ints_one _ _ | exact Fld.one _ | exact O1.out | rfl | (simp [Value.oneCell']; done)) rfl ?_); intro wn m; simp only [List.set_cons_succ, List.set_cons_zero, List.setIfInBounds_toArray, zeroFld] at m; have M := Lib.hid m; clear m)
      | ((with_reducible refine gate_dst (N := 20) rfl ?_); go_must (refine M.out.ev_ldw 0 _ _ rfl rfl rfl Try.underlying29 rfl (by first | exact sz29 | (rw [S1.out]; exact sz29) | (rw [S2.out]; exact sz29) | (rw [S3.out]; exact sz29)) rfl ?_))
      | ((with_reducible refine gate_dst (N := 10) rfl ?_); go_must (refine M.out.ev_new rfl (by first | (go_simp; done) | (go_simp; rfl)) ?_); intro g10 w10 m; simp only [List.cons_append, List.nil_append, zeroFld] at m; have M := Lib.hid m; clear m)
      | ((with_reducible refine gate_store (x := .tmp 10) rfl ?_); go_must (refine M.out.ev_stw 3 _ _ _ rfl rfl rfl rfl _ rfl (by first | rfl | (simp only [S1.out]; rfl) | (simp only [S1.out, S2.out]; rfl) | (simp only [S3.out]; rfl) | (simp only [S1.out, S2.out, S3.out]; rfl)) (by first | exact sz29 | (rw [S1.out]; exact sz29) | (rw [S2.out]; exact sz29) | (rw [S3.out]; exact sz29)) (by first | exact ints_one _ _ | exact Fld.one _ | exact O1.out | rfl | (simp [Value.oneCell']; done)) rfl ?_); intro wn m; simp only [List.set_cons_succ, List.set_cons_zero, List.setIfInBounds_toArray, zeroFld] at m; have M := Lib.hid m; clear m)
      | ((with_reducible refine gate_dst (N := 25) rfl ?_); go_must (refine M.out.ev_ldw 3 _ _ rfl rfl rfl Try.underlying29 rfl (by first | exact sz29 | (rw [S1.out]; exact sz29) | (rw [S2.out]; exact sz29) | (rw [S3.out]; exact sz29)) rfl ?_))
      | ((with_reducible refine gate_store (x := .tmp 6) rfl ?_); go_must (refine M.out.ev_stw 2 _ _ _ rfl rfl rfl rfl _ rfl (by first | rfl | (simp only [S1.out]; rfl) | (simp only [S1.out, S2.out]; rfl) | (simp only [S3.out]; rfl) | (simp only [S1.out, S2.out, S3.out]; rfl)) (by first | exact sz29 | (rw [S1.out]; exact sz29) | (rw [S2.out]; exact sz29) | (rw [S3.out]; exact sz29)) (by first | exact ints_one _ _ | exact Fld.one _ | exact O1.out | rfl | (simp [Value.oneCell']; done)) rfl ?_); intro wn m; simp only [List.set_cons_succ, List.set_cons_zero, List.setIfInBounds_toArray, zeroFld] at m; have M := Lib.hid m; clear m)
      )
    refine ret_ctt rfl ((M.out.blk 2 rfl).var Try.underlying29 rfl (by rw [S3.out]; exact sz29)) ?_
    have m := M.out.only [3] (K := [_]) rfl (by decide)
    rw [HR.out, HV.out, HC.out]
    exact ⟨_, _, rfl, hc_, m⟩
set_option maxRecDepth 100000 in
set_option maxHeartbeats 4000000 in
theorem impl_FeedFlock_any (F : Fld) (hF : F.ok) (fs : List Int) (hfl : fs.length = 100) (hff : ∀ x ∈ fs, -32768 ≤ x ∧ x ≤ 32767) (x : Flock) (hx : x.ok) (w : World) :
    Calls Try.prog 18 #[.agg F.cells, .agg (ints .i16 fs), .agg x.vals.toArray] w (RetFV w (faF F fs [x]) (faV F fs [x]) (birdsCode F fs [x])) := by
  have M := Lib.hid (Mem.start w)
  have HFF := Lib.hid hff
  have HF := Lib.hid hF
  have S1 := Lib.hid (Fld.size hF.toLen)
  have S2 := Lib.hid (Fld.size Fld.z_len)
  have O1 := Lib.hid (Fld.one Fld.z)
  have HX := Lib.hid (show ∀ y ∈ [x], y.ok from fun y hy => by rw [List.mem_singleton.1 hy]; exact hx)
  have FA := Lib.hid (fun (A : Option Addr) (n : Nat) (wx : World) (h : Sl wx 6 A [x].length (flat Flock.vals [x])) => impl_FeedAll_any F HF.out fs hfl HFF.out A n [x] HX.out (by simp) wx h)
  have S3 := Lib.hid (Fld.size (faF_len hF fs [x]))
  obtain ⟨D, hD⟩ : ∃ D, D = faF F fs [x] := ⟨_, rfl⟩
  rw [← hD] at S3 FA ⊢
  have O2 := Lib.hid (Fld.one D)
  clear hD hff hF
  go_enter Try.func18, Try.ntmps18
  go_wp2_with (first
    | ((with_reducible refine gate_dst (N := 6) rfl ?_); go_must (refine M.out.ev_new rfl (by first | (go_simp; done) | (go_simp; rfl)) ?_); intro g6 w6 m; simp only [List.cons_append, List.nil_append, zeroFld] at m; have M := Lib.hid m; clear m)
    | ((with_reducible refine gate_dst (N := 10) rfl ?_); go_must (refine M.out.ev_ldw 1 _ _ rfl rfl rfl Try.underlying31 rfl (by rw [ints_size, hfl]; exact sz31) rfl ?_))
    | ((with_reducible refine gate_dst (N := 12) rfl ?_); go_must (refine M.out.ev_bs1 elem_Flock rfl _ rfl x.vals.toArray rfl rfl (by decide) ?_); intro g12 w12 m; simp only [List.cons_append, List.nil_append] at m; have M := Lib.hid m; clear m)
    | (go_at_call 8; go_must (refine (FA.out _ _ _ (sl_blk (M.out.blk 4 rfl))).mono ?_); rintro e w_ ⟨A_, c_, rfl, hc_, N_⟩; have m := M.out.join N_; clear N_; simp only [List.cons_append, List.nil_append, List.append_nil] at m; have M := Lib.hid m; clear m)
    | ((with_reducible refine gate_store (x := .tmp 6) rfl ?_); go_must (refine M.out.ev_stw 3 _ _ _ rfl rfl rfl rfl D.cells rfl (by rw [S2.out, S3.out]) (by rw [S3.out]; exact sz29) O2.out rfl ?_); intro wn m; simp only [List.set_cons_succ, List.set_cons_zero] at m; have M := Lib.hid m; clear m)
    | ((with_reducible refine gate_dst (N := 3) rfl ?_); go_must (refine M.out.ev_new rfl (by first | (go_simp; done) | (go_simp; rfl)) ?_); intro g3 w3 m; simp only [List.cons_append, List.nil_append, zeroFld] at m; have M := Lib.hid m; clear m)
    | ((with_reducible refine gate_dst (N := 4) rfl ?_); go_must (refine M.out.ev_new rfl (by first | (go_simp; done) | (go_simp; rfl)) ?_); intro g4 w4 m; simp only [List.cons_append, List.nil_append, zeroFld] at m; have M := Lib.hid m; clear m)
    | ((with_reducible refine gate_dst (N := 5) rfl ?_); go_must (refine M.out.ev_new rfl (by first | (go_simp; done) | (go_simp; rfl)) ?_); intro g5 w5 m; simp only [List.cons_append, List.nil_append, zeroFld] at m; have M := Lib.hid m; clear m)
    | ((with_reducible refine gate_dst (N := 6) rfl ?_); go_must (refine M.out.ev_new rfl (by first | (go_simp; done) | (go_simp; rfl)) ?_); intro g6 w6 m; simp only [List.cons_append, List.nil_append, zeroFld] at m; have M := Lib.hid m; clear m)
    | ((with_reducible refine gate_dst (N := 9) rfl ?_); go_must (refine M.out.ev_ldw 0 _ _ rfl rfl rfl Try.underlying29 rfl (by first | exact sz29 | (rw [S1.out]; exact sz29) | (rw [S2.out]; exact sz29) | (rw [S3.out]; exact sz29)) rfl ?_))
    | ((with_reducible refine gate_dst (N := 10) rfl ?_); go_must (refine M.out.ev_ldw 1 _ _ rfl rfl rfl Try.underlying31 rfl (by first | exact sz31 | (rw [S1.out]; exact sz31) | (rw [S2.out]; exact sz31) | (rw [S3.out]; exact sz31)) rfl ?_))
    | ((with_reducible refine gate_dst (N := 11) rfl ?_); go_must (refine M.out.ev_ldw 2 _ _ rfl rfl rfl Try.underlying48 rfl (by first | exact sz48 | (rw [S1.out]; exact sz48) | (rw [S2.out]; exact sz48) | (rw [S3.out]; exact sz48)) rfl ?_))
    | ((with_reducible refine gate_store (x := .tmp 6) rfl ?_); go_must (refine M.out.ev_stw 3 _ _ _ rfl rfl rfl rfl _ rfl (by first | rfl | (simp only [S1.out]; rfl) | (simp only [S1.out, S2.out]; rfl) | (simp only [S3.out]; rfl) | (simp only [S1.out, S2.out, S3.out]; rfl)) (by first | exact sz29 | (rw [S1.out]; exact sz29) | (rw [S2.out]; exact sz29) | (rw [S3.out]; exact sz29)) (by first | exact ints_one _ _ | exact Fld.one _ | exact O1.out | rfl | (simp [Value.oneCell']; done)) rfl ?_); intro wn m; simp only [List.set_cons_succ, List.set_cons_zero, List.setIfInBounds_toArray, zeroFld] at m; have M := Lib.hid m; clear m)
    )
  refine ret_ctt rfl ((M.out.blk 3 rfl).var Try.underlying29 rfl (by rw [S3.out]; exact sz29)) ?_
  exact ⟨_, _, rfl, hc_, M.out.only [5] (K := [_]) rfl (by decide)⟩
set_option maxRecDepth 100000 in
set_option maxHeartbeats 4000000 in
theorem spec_FeedFlock_any (F : Fld) (hF : F.ok) (fs : List Int) (hfl : fs.length = 100) (hff : ∀ x ∈ fs, -32768 ≤ x ∧ x ≤ 32767) (x : Flock) (hx : x.ok) (w : World) :
    Calls Try.prog 19 #[.agg F.cells, .agg (ints .i16 fs), .agg x.vals.toArray] w (RetFV w (faF F fs [x]) (faV F fs [x]) (birdsCode F fs [x])) := by
  have M := Lib.hid (Mem.start w)
  have HFF := Lib.hid hff
  have HF := Lib.hid hF
  have S1 := Lib.hid (Fld.size hF.toLen)
  have S2 := Lib.hid (Fld.size Fld.z_len)
  have O1 := Lib.hid (Fld.one Fld.z)
  clear hff hF
  cases hd : birdsOk F fs [x]
  · have HD := Lib.hid hd
    have HC := Lib.hid (show birdsCode F fs [x] = 1 by rw [birdsCode, hd]; rfl)
    clear hd
    go_enter Try.func19, Try.ntmps19
    go_wp2_with (first
      | ((with_reducible refine gate_dst (N := 6) rfl ?_); go_must (refine M.out.ev_new rfl (by first | (go_simp; done) | (go_simp; rfl)) ?_); intro g6 w6 m; simp only [List.cons_append, List.nil_append, zeroFld] at m; have M := Lib.hid m; clear m)
      | (go_at_call 47; go_must (refine (l02Asked_any _ _ _ 0 F HF.out fs hfl HFF.out x hx _ (M.out.blk 0 rfl) (M.out.blk 1 rfl) (M.out.blk 2 rfl).range).mono ?_); rintro e w_ ⟨rfl, rfl⟩; rw [HC.out])
      | ((with_reducible refine gate_dst (N := 16) rfl ?_); go_must (refine M.out.ev_bs0 elem_Visit rfl rfl ?_); intro g16 w16 m; simp only [List.cons_append, List.nil_append] at m; have M := Lib.hid m; clear m)
      | ((with_reducible refine gate_dst (N := 3) rfl ?_); go_must (refine M.out.ev_new rfl (by first | (go_simp; done) | (go_simp; rfl)) ?_); intro g3 w3 m; simp only [List.cons_append, List.nil_append, zeroFld] at m; have M := Lib.hid m; clear m)
      | ((with_reducible refine gate_dst (N := 4) rfl ?_); go_must (refine M.out.ev_new rfl (by first | (go_simp; done) | (go_simp; rfl)) ?_); intro g4 w4 m; simp only [List.cons_append, List.nil_append, zeroFld] at m; have M := Lib.hid m; clear m)
      | ((with_reducible refine gate_dst (N := 5) rfl ?_); go_must (refine M.out.ev_new rfl (by first | (go_simp; done) | (go_simp; rfl)) ?_); intro g5 w5 m; simp only [List.cons_append, List.nil_append, zeroFld] at m; have M := Lib.hid m; clear m)
      | ((with_reducible refine gate_dst (N := 6) rfl ?_); go_must (refine M.out.ev_new rfl (by first | (go_simp; done) | (go_simp; rfl)) ?_); intro g6 w6 m; simp only [List.cons_append, List.nil_append, zeroFld] at m; have M := Lib.hid m; clear m)
      | ((with_reducible refine gate_store (x := .tmp 6) rfl ?_); go_must (refine M.out.ev_stw 3 _ _ _ rfl rfl rfl rfl _ rfl (by first | rfl | (simp only [S1.out]; rfl) | (simp only [S1.out, S2.out]; rfl) | (simp only [S3.out]; rfl) | (simp only [S1.out, S2.out, S3.out]; rfl)) (by first | exact sz29 | (rw [S1.out]; exact sz29) | (rw [S2.out]; exact sz29) | (rw [S3.out]; exact sz29)) (by first | exact ints_one _ _ | exact Fld.one _ | exact O1.out | rfl | (simp [Value.oneCell']; done)) rfl ?_); intro wn m; simp only [List.set_cons_succ, List.set_cons_zero, List.setIfInBounds_toArray, zeroFld] at m; have M := Lib.hid m; clear m)
      | ((with_reducible refine gate_dst (N := 19) rfl ?_); go_must (refine M.out.ev_ldw 0 _ _ rfl rfl rfl Try.underlying29 rfl (by first | exact sz29 | (rw [S1.out]; exact sz29) | (rw [S2.out]; exact sz29) | (rw [S3.out]; exact sz29)) rfl ?_))
      | ((with_reducible refine gate_dst (N := 10) rfl ?_); go_must (refine M.out.ev_new rfl (by first | (go_simp; done) | (go_simp; rfl)) ?_); intro g10 w10 m; simp only [List.cons_append, List.nil_append, zeroFld] at m; have M := Lib.hid m; clear m)
      | ((with_reducible refine gate_store (x := .tmp 10) rfl ?_); go_must (refine M.out.ev_stw 4 _ _ _ rfl rfl rfl rfl _ rfl (by first | rfl | (simp only [S1.out]; rfl) | (simp only [S1.out, S2.out]; rfl) | (simp only [S3.out]; rfl) | (simp only [S1.out, S2.out, S3.out]; rfl)) (by first | exact sz29 | (rw [S1.out]; exact sz29) | (rw [S2.out]; exact sz29) | (rw [S3.out]; exact sz29)) (by first | exact ints_one _ _ | exact Fld.one _ | exact O1.out | rfl | (simp [Value.oneCell']; done)) rfl ?_); intro wn m; simp only [List.set_cons_succ, List.set_cons_zero, List.setIfInBounds_toArray, zeroFld] at m; have M := Lib.hid m; clear m)
      | ((with_reducible refine gate_dst (N := 23) rfl ?_); go_must (refine M.out.ev_ldw 4 _ _ rfl rfl rfl Try.underlying29 rfl (by first | exact sz29 | (rw [S1.out]; exact sz29) | (rw [S2.out]; exact sz29) | (rw [S3.out]; exact sz29)) rfl ?_))
      | ((with_reducible refine gate_store (x := .tmp 6) rfl ?_); go_must (refine M.out.ev_stw 3 _ _ _ rfl rfl rfl rfl _ rfl (by first | rfl | (simp only [S1.out]; rfl) | (simp only [S1.out, S2.out]; rfl) | (simp only [S3.out]; rfl) | (simp only [S1.out, S2.out, S3.out]; rfl)) (by first | exact sz29 | (rw [S1.out]; exact sz29) | (rw [S2.out]; exact sz29) | (rw [S3.out]; exact sz29)) (by first | exact ints_one _ _ | exact Fld.one _ | exact O1.out | rfl | (simp [Value.oneCell']; done)) rfl ?_); intro wn m; simp only [List.set_cons_succ, List.set_cons_zero, List.setIfInBounds_toArray, zeroFld] at m; have M := Lib.hid m; clear m)
      )
    refine ret_ctt rfl ((M.out.blk 3 rfl).var Try.underlying29 rfl (by rw [S2.out]; exact sz29)) ?_
    have m := M.out.only [4] (K := [_]) rfl (by decide)
    simp only [RetFV, faF, faV, HD.out, HC.out]
    exact ⟨_, 0, rfl, Nat.le_refl _, m⟩
  · have HD := Lib.hid hd
    have HC := Lib.hid (show birdsCode F fs [x] = 0 by rw [birdsCode, hd]; rfl)
    have hp := birds1_plain hd
    have HR := Lib.hid (show faF F fs [x] = (feedOf F fs x 0).1 by rw [faF, hd, if_pos rfl, dayOf_one])
    have HV := Lib.hid (show faV F fs [x] = (feedOf F fs x 0).2.1 by rw [faV, hd, if_pos rfl, dayOf_one])
    have DA := Lib.hid (fun (wx : World) (gb p : Nat) (h1 : Blk wx gb 31 (ints .i16 fs)) (h2 : wx.rangeAt p 0 x.vals) => l02Feed_any gb p 0 F HF.out fs hfl HFF.out x hp 0 (by omega) wx h1 h2)
    have HDO := Lib.hid (feedOf_ok HF.out fs hp 0).1.toLen
    obtain ⟨D, hD⟩ : ∃ D, D = feedOf F fs x 0 := ⟨_, rfl⟩
    rw [← hD] at DA HDO HR HV
    have S3 := Lib.hid (Fld.size HDO.out)
    have O2 := Lib.hid (Fld.one D.1)
    clear hd hD hp
    go_enter Try.func19, Try.ntmps19
    go_wp2_with (first
      | ((with_reducible refine gate_dst (N := 6) rfl ?_); go_must (refine M.out.ev_new rfl (by first | (go_simp; done) | (go_simp; rfl)) ?_); intro g6 w6 m; simp only [List.cons_append, List.nil_append, zeroFld] at m; have M := Lib.hid m; clear m)
      | (go_at_call 47; go_must (refine (l02Asked_any _ _ _ 0 F HF.out fs hfl HFF.out x hx _ (M.out.blk 0 rfl) (M.out.blk 1 rfl) (M.out.blk 2 rfl).range).mono ?_); rintro e w_ ⟨rfl, rfl⟩; rw [HC.out])
      | (go_at_call 48; go_must (refine Calls.mono (calls_args (by rfl) (DA.out _ _ _ (M.out.blk 1 rfl) (M.out.blk 2 rfl).range)) ?_); rintro e w_ ⟨A_, c_, rfl, hc_, N_⟩; have m := M.out.join N_; clear N_; simp only [List.cons_append, List.nil_append, List.append_nil] at m; have M := Lib.hid m; clear m)
      | ((with_reducible refine gate_dst (N := 10) rfl ?_); go_must (refine M.out.ev_new rfl (by first | (go_simp; done) | (go_simp; rfl)) ?_); intro g10 w10 m; simp only [List.cons_append, List.nil_append, zeroFld] at m; have M := Lib.hid m; clear m)
      | ((with_reducible refine gate_store (x := .tmp 10) rfl ?_); go_must (refine M.out.ev_stw 5 _ _ _ rfl rfl rfl rfl D.1.cells rfl (by rw [S2.out, S3.out]) (by rw [S3.out]; exact sz29) O2.out rfl ?_); intro wn m; simp only [List.set_cons_succ, List.set_cons_zero] at m; have M := Lib.hid m; clear m)
      | ((with_reducible refine gate_dst (N := 23) rfl ?_); go_must (refine M.out.ev_ldw 5 _ _ rfl rfl rfl Try.underlying29 rfl (by rw [S3.out]; exact sz29) rfl ?_))
      | ((with_reducible refine gate_store (x := .tmp 6) rfl ?_); go_must (refine M.out.ev_stw 3 _ _ _ rfl rfl rfl rfl D.1.cells rfl (by rw [S2.out, S3.out]) (by rw [S3.out]; exact sz29) O2.out rfl ?_); intro wn m; simp only [List.set_cons_succ, List.set_cons_zero] at m; have M := Lib.hid m; clear m)
      | ((with_reducible refine gate_dst (N := 3) rfl ?_); go_must (refine M.out.ev_new rfl (by first | (go_simp; done) | (go_simp; rfl)) ?_); intro g3 w3 m; simp only [List.cons_append, List.nil_append, zeroFld] at m; have M := Lib.hid m; clear m)
      | ((with_reducible refine gate_dst (N := 4) rfl ?_); go_must (refine M.out.ev_new rfl (by first | (go_simp; done) | (go_simp; rfl)) ?_); intro g4 w4 m; simp only [List.cons_append, List.nil_append, zeroFld] at m; have M := Lib.hid m; clear m)
      | ((with_reducible refine gate_dst (N := 5) rfl ?_); go_must (refine M.out.ev_new rfl (by first | (go_simp; done) | (go_simp; rfl)) ?_); intro g5 w5 m; simp only [List.cons_append, List.nil_append, zeroFld] at m; have M := Lib.hid m; clear m)
      | ((with_reducible refine gate_dst (N := 6) rfl ?_); go_must (refine M.out.ev_new rfl (by first | (go_simp; done) | (go_simp; rfl)) ?_); intro g6 w6 m; simp only [List.cons_append, List.nil_append, zeroFld] at m; have M := Lib.hid m; clear m)
      | ((with_reducible refine gate_store (x := .tmp 6) rfl ?_); go_must (refine M.out.ev_stw 3 _ _ _ rfl rfl rfl rfl _ rfl (by first | rfl | (simp only [S1.out]; rfl) | (simp only [S1.out, S2.out]; rfl) | (simp only [S3.out]; rfl) | (simp only [S1.out, S2.out, S3.out]; rfl)) (by first | exact sz29 | (rw [S1.out]; exact sz29) | (rw [S2.out]; exact sz29) | (rw [S3.out]; exact sz29)) (by first | exact ints_one _ _ | exact Fld.one _ | exact O1.out | rfl | (simp [Value.oneCell']; done)) rfl ?_); intro wn m; simp only [List.set_cons_succ, List.set_cons_zero, List.setIfInBounds_toArray, zeroFld] at m; have M := Lib.hid m; clear m)
      | ((with_reducible refine gate_dst (N := 19) rfl ?_); go_must (refine M.out.ev_ldw 0 _ _ rfl rfl rfl Try.underlying29 rfl (by first | exact sz29 | (rw [S1.out]; exact sz29) | (rw [S2.out]; exact sz29) | (rw [S3.out]; exact sz29)) rfl ?_))
      | ((with_reducible refine gate_dst (N := 10) rfl ?_); go_must (refine M.out.ev_new rfl (by first | (go_simp; done) | (go_simp; rfl)) ?_); intro g10 w10 m; simp only [List.cons_append, List.nil_append, zeroFld] at m; have M := Lib.hid m; clear m)
      | ((with_reducible refine gate_store (x := .tmp 10) rfl ?_); go_must (refine M.out.ev_stw 4 _ _ _ rfl rfl rfl rfl _ rfl (by first | rfl | (simp only [S1.out]; rfl) | (simp only [S1.out, S2.out]; rfl) | (simp only [S3.out]; rfl) | (simp only [S1.out, S2.out, S3.out]; rfl)) (by first | exact sz29 | (rw [S1.out]; exact sz29) | (rw [S2.out]; exact sz29) | (rw [S3.out]; exact sz29)) (by first | exact ints_one _ _ | exact Fld.one _ | exact O1.out | rfl | (simp [Value.oneCell']; done)) rfl ?_); intro wn m; simp only [List.set_cons_succ, List.set_cons_zero, List.setIfInBounds_toArray, zeroFld] at m; have M := Lib.hid m; clear m)
      | ((with_reducible refine gate_dst (N := 23) rfl ?_); go_must (refine M.out.ev_ldw 4 _ _ rfl rfl rfl Try.underlying29 rfl (by first | exact sz29 | (rw [S1.out]; exact sz29) | (rw [S2.out]; exact sz29) | (rw [S3.out]; exact sz29)) rfl ?_))
      | ((with_reducible refine gate_store (x := .tmp 6) rfl ?_); go_must (refine M.out.ev_stw 3 _ _ _ rfl rfl rfl rfl _ rfl (by first | rfl | (simp only [S1.out]; rfl) | (simp only [S1.out, S2.out]; rfl) | (simp only [S3.out]; rfl) | (simp only [S1.out, S2.out, S3.out]; rfl)) (by first | exact sz29 | (rw [S1.out]; exact sz29) | (rw [S2.out]; exact sz29) | (rw [S3.out]; exact sz29)) (by first | exact ints_one _ _ | exact Fld.one _ | exact O1.out | rfl | (simp [Value.oneCell']; done)) rfl ?_); intro wn m; simp only [List.set_cons_succ, List.set_cons_zero, List.setIfInBounds_toArray, zeroFld] at m; have M := Lib.hid m; clear m)
      )
    refine ret_ctt rfl ((M.out.blk 3 rfl).var Try.underlying29 rfl (by rw [S3.out]; exact sz29)) ?_
    have m := M.out.only [4] (K := [_]) rfl (by decide)
    rw [HR.out, HV.out, HC.out]
    exact ⟨_, _, rfl, hc_, m⟩
end Go.Proofs.Ytlonbgomdabmmaa
namespace Go.Proofs.Ytlonbgomdabmmaa
set_option linter.unusedSimpArgs false
set_option linter.unusedVariables false
open Go.RowKit
attribute [local go_sem] cell?_mk frozen?_mk

end Go.Proofs.Ytlonbgomdabmmaa
