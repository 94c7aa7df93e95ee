/- Texts of a proof, laid together: FeedDays, FlockM, MoveF. -/
import Derived.Test.YtlonbgomdabmmaaZF11
import Derived.Test.YtlonbgomdabmmaaZF02
import Derived.Test.YtlonbgomdabmmaaZF01
import Derived.Test.YtlonbgomdabmmaaZF04
namespace Go.Proofs.Ytlonbgomdabmmaa
set_option linter.unusedSimpArgs false
set_option linter.unusedVariables false
open Go.RowKit
attribute [local go_sem] cell?_mk frozen?_mk

def seedSum (F : Fld) : Nat → Int
  | 0 => 0
  | k + 1 => seedSum F k + F.seed k
theorem seedSum_b {F : Fld} (hF : F.ok) : ∀ k : Nat, -32768 * (k : Int) ≤ seedSum F k ∧ seedSum F k ≤ 32767 * (k : Int)
  | 0 => ⟨by simp [seedSum], by simp [seedSum]⟩
  | k + 1 => by
    have ih := seedSum_b hF k
    have h := hF.sb k
    rw [seedSum]
    constructor <;> (push_cast; omega)
set_option maxRecDepth 100000 in
set_option maxHeartbeats 1000000 in
theorem seedsIn_any (g : Nat) {t : TypeId} (F : Fld) (hF : F.ok) (w : World) (hb : Blk w g t F.cells) :
    Calls Try.prog 37 #[.pointer (some ⟨g, 0, none⟩)] w fun e w' => e = .returned (.int .i64 (seedSum F 100)) ∧ w = w' := by
  have R := Lib.hid (blk_range hb 102 (F.seeds.map (Value.int .i16)) (fun j v hv => Fld.cellsS hF.toLen j v hv))
  have hc0 := hb.cellv F.cell0
  have HF := Lib.hid hF
  have SL := Lib.hid (show (F.seeds.map (Value.int .i16)).toArray.size = 100 by simp [hF.sl])
  clear hb
  go_enter Try.func37, Try.ntmps37
  go_wp2_with (first
    | ((with_reducible refine gate_dst (N := 9) rfl ?_); go_must (refine ev_ldr _ _ rfl rfl R.out Try.underlying27 rfl (by rw [show (F.seeds.map (Value.int .i16)).length = 100 by simp [HF.out.sl]]; exact sz27) rfl ?_))
    )
  go_loop [3, 10] (fun s v => ∃ k : Nat, k ≤ 100 ∧ v = .int .i64 k ∧ s = .int .i64 (seedSum F k))
    (fun _ v => 100 - (intOf v).toNat)
  case atStart => exact ⟨0, by omega, rfl, rfl⟩
  case round =>
    obtain ⟨k, hk, rfl, rfl⟩ := hrel
    by_cases hlt : k < 100
    · have hsb := HF.out.sb k
      have hss := seedSum_b HF.out k
      have e1 : IntKind.i64.wrap (F.seed k) = F.seed k := IntWalk.i64_in _ (by omega)
      have e2 : IntKind.i64.wrap (seedSum F k + F.seed k) = seedSum F k + F.seed k := IntWalk.i64_in _ (by omega)
      have hix : ∀ w, (Instr.index 27 (.agg (F.seeds.map (Value.int .i16)).toArray) (.int .i64 k)).run Try.prog w = .ok (.int .i16 (F.seed k)) w := fun w => run_index1 w _ 26 100 _ k _ Try.underlying27 hlt sz26 Try.underlying26 rfl (by
        have hsl := HF.out.sl
        simp [Fld.seed, gi, hlt, hsl])
      go_wp2
      exact ⟨⟨k + 1, by omega, by go_num, rfl⟩, by simp [intOf]; omega⟩
    · obtain rfl : k = 100 := by omega
      go_wp2
      go_ret
      exact ⟨rfl, rfl⟩
set_option maxRecDepth 100000 in
set_option maxHeartbeats 1000000 in
theorem l01Sum_any (g : Nat) {t : TypeId} (F : Fld) (hF : F.ok) (w : World) (hb : Blk w g t F.cells) :
    Calls Try.prog 52 #[.pointer (some ⟨g, 0, none⟩)] w fun e w' => e = .returned (.int .i64 (seedSum F 100)) ∧ w = w' := by
  have HB := Lib.hid hb
  have hc0 := hb.cellv F.cell0
  have HF := Lib.hid hF
  clear hb
  go_enter Try.func52, Try.ntmps52
  go_wp2
  go_loop [3, 4] (fun s v => ∃ k : Nat, k ≤ 100 ∧ v = .int .i64 k ∧ s = .int .i64 (seedSum F k))
    (fun _ v => 100 - (intOf v).toNat)
  case atStart => exact ⟨0, by omega, rfl, rfl⟩
  case round =>
    obtain ⟨k, hk, rfl, rfl⟩ := hrel
    by_cases hlt : k < 100
    · have hsb := HF.out.sb k
      have hss := seedSum_b HF.out k
      have i0 : (0 : Int) ≤ (k : Int) := by omega
      have i1 : (k : Int) < 100 := by omega
      have y0 := HB.out.cellv (Fld.cellS HF.out.toLen hlt)
      have e1 : IntKind.i64.wrap (F.seed k) = F.seed k := IntWalk.i64_in _ (by omega)
      have e2 : IntKind.i64.wrap (seedSum F k + F.seed k) = seedSum F k + F.seed k := IntWalk.i64_in _ (by omega)
      go_wp2
      exact ⟨⟨k + 1, by omega, by go_num, rfl⟩, by simp [intOf]; omega⟩
    · obtain rfl : k = 100 := by omega
      go_wp2
      go_ret
      exact ⟨rfl, rfl⟩
/-- So many days: the field behind them, and how much is eaten on each. -/
def fdTo (F : Fld) (fs : List Int) (xs : List Flock) : Nat → Fld × List Int
  | 0 => (F, [])
  | k + 1 => ((dayOf (fdTo F fs xs k).1 fs xs).1, (fdTo F fs xs k).2 ++ [seedSum (fdTo F fs xs k).1 100 - seedSum (dayOf (fdTo F fs xs k).1 fs xs).1 100])
theorem dayOf_ok {F : Fld} (hF : F.ok) (fs : List Int) {xs : List Flock} (hx : ∀ x ∈ xs, x.plain = true) : (dayOf F fs xs).1.ok := (dayTo_ok hF fs hx _ (Nat.le_refl _)).1
theorem fdTo_ok {F : Fld} (hF : F.ok) (fs : List Int) {xs : List Flock} (hx : ∀ x ∈ xs, x.plain = true) : ∀ k, (fdTo F fs xs k).1.ok
  | 0 => hF
  | k + 1 => dayOf_ok (fdTo_ok hF fs hx k) fs hx
theorem fdTo_len (F : Fld) (fs : List Int) (xs : List Flock) : ∀ k, (fdTo F fs xs k).2.length = k
  | 0 => rfl
  | k + 1 => by rw [fdTo, List.length_append, fdTo_len F fs xs k]; rfl
def fdCode (F : Fld) (fs : List Int) (xs : List Flock) (d : Int) : Int := if birdsOk F fs xs = true then if inB d 0 60 = true then 0 else 2 else 1
def fdF (F : Fld) (fs : List Int) (xs : List Flock) (d : Int) : Fld := if fdCode F fs xs d = 0 then (fdTo F fs xs d.toNat).1 else Fld.z
def fdI (F : Fld) (fs : List Int) (xs : List Flock) (d : Int) : List Int := if fdCode F fs xs d = 0 then (fdTo F fs xs d.toNat).2 else []
/-- A call hands back a field, whole numbers of its own and a code. -/
def RetFI (w : World) (F : Fld) (vs : List Int) (code : Int) (e : Ending) (w' : World) : Prop :=
  ∃ A c, e = .returned (.tuple #[.agg F.cells, .slice A vs.length c, .int .i64 code]) ∧ vs.length ≤ c ∧ Mem w w' [.row (.slice A vs.length c) 2 1 vs.length (flat oneI vs)]
set_option maxRecDepth 100000 in
set_option maxHeartbeats 4000000 in
theorem impl_FeedDays_any (F : Fld) (hF : F.ok) (fs : List Int) (hfl : fs.length = 100) (hff : ∀ x ∈ fs, -32768 ≤ x ∧ x ≤ 32767) (A : Option Addr) (n : Nat) (xs : List Flock) (hx : ∀ x ∈ xs, x.ok) (hl : xs.length ≤ 1048576) (d : Int) (w : World) (hs : Sl w 6 A xs.length (flat Flock.vals xs)) :
    Calls Try.prog 21 #[.agg F.cells, .agg (ints .i16 fs), .slice A xs.length n, .int .i64 d] w (RetFI w (fdF F fs xs d) (fdI F fs xs d) (fdCode F fs xs d)) := by
  have M := Lib.hid (Mem.start w)
  have HFF := Lib.hid hff
  have HF := Lib.hid hF
  have HX := Lib.hid hx
  have HS := Lib.hid hs
  have S1 := Lib.hid (Fld.size hF.toLen)
  have S2 := Lib.hid (Fld.size Fld.z_len)
  have O1 := Lib.hid (Fld.one Fld.z)
  clear hx hs hff hF
  cases hd : birdsOk F fs xs
  · have HD := Lib.hid hd
    have HC := Lib.hid (show birdsCode F fs xs = 1 by rw [birdsCode, hd]; rfl)
    have HE := Lib.hid (show fdCode F fs xs d = 1 by simp [fdCode, hd])
    clear hd
    go_enter Try.func21, Try.ntmps21
    go_wp2_with (first
      | ((with_reducible refine gate_dst (N := 8) rfl ?_); go_must (refine M.out.ev_new rfl (by first | (go_simp; done) | (go_simp; rfl)) ?_); intro g8 w8 m; simp only [List.cons_append, List.nil_append, zeroFld] at m; have M := Lib.hid m; clear m)
      | (go_at_call 33; go_must (refine (areBirds_any _ _ F HF.out fs hfl HFF.out A n xs HX.out hl _ (M.out.blk 0 rfl) (M.out.blk 1 rfl) (M.out.sl HS.out)).mono ?_); rintro e w_ ⟨rfl, N_⟩; have m := M.out.join N_; clear N_; simp only [List.cons_append, List.nil_append, List.append_nil] at m; have M := Lib.hid m; clear m; rw [HD.out])
      | ((with_reducible refine gate_dst (N := 4) rfl ?_); go_must (refine M.out.ev_new rfl (by first | (go_simp; done) | (go_simp; rfl)) ?_); intro g4 w4 m; simp only [List.cons_append, List.nil_append, zeroFld] at m; have M := Lib.hid m; clear m)
      | ((with_reducible refine gate_dst (N := 5) rfl ?_); go_must (refine M.out.ev_new rfl (by first | (go_simp; done) | (go_simp; rfl)) ?_); intro g5 w5 m; simp only [List.cons_append, List.nil_append, zeroFld] at m; have M := Lib.hid m; clear m)
      | ((with_reducible refine gate_dst (N := 8) rfl ?_); go_must (refine M.out.ev_new rfl (by first | (go_simp; done) | (go_simp; rfl)) ?_); intro g8 w8 m; simp only [List.cons_append, List.nil_append, zeroFld] at m; have M := Lib.hid m; clear m)
      | ((with_reducible refine gate_store (x := .tmp 8) rfl ?_); go_must (refine M.out.ev_stw 2 _ _ _ rfl rfl rfl rfl _ rfl (by first | rfl | (simp only [S1.out]; rfl) | (simp only [S1.out, S2.out]; rfl) | (simp only [S3.out]; rfl) | (simp only [S1.out, S2.out, S3.out]; rfl)) (by first | exact sz29 | (rw [S1.out]; exact sz29) | (rw [S2.out]; exact sz29) | (rw [S3.out]; exact sz29)) (by first | exact ints_one _ _ | exact Fld.one _ | exact O1.out | rfl | (simp [Value.oneCell']; done)) rfl ?_); intro wn m; simp only [List.set_cons_succ, List.set_cons_zero, List.setIfInBounds_toArray, zeroFld] at m; have M := Lib.hid m; clear m)
      | ((with_reducible refine gate_store (x := .tmp 8) rfl ?_); go_must (refine M.out.ev_stw 2 _ _ _ rfl rfl rfl rfl _ rfl (by first | rfl | (simp only [S1.out]; rfl) | (simp only [S1.out, S2.out]; rfl) | (simp only [S3.out]; rfl) | (simp only [S1.out, S2.out, S3.out]; rfl)) (by first | exact sz29 | (rw [S1.out]; exact sz29) | (rw [S2.out]; exact sz29) | (rw [S3.out]; exact sz29)) (by first | exact ints_one _ _ | exact Fld.one _ | exact O1.out | rfl | (simp [Value.oneCell']; done)) rfl ?_); intro wn m; simp only [List.set_cons_succ, List.set_cons_zero, List.setIfInBounds_toArray, zeroFld] at m; have M := Lib.hid m; clear m)
      | ((with_reducible refine gate_dst (N := 37) rfl ?_); go_must (refine M.out.ev_ldw 0 _ _ rfl rfl rfl Try.underlying29 rfl (by first | exact sz29 | (rw [S1.out]; exact sz29) | (rw [S2.out]; exact sz29) | (rw [S3.out]; exact sz29)) rfl ?_))
      | ((with_reducible refine gate_store (x := .tmp 8) rfl ?_); go_must (refine M.out.ev_stw 2 _ _ _ rfl rfl rfl rfl _ rfl (by first | rfl | (simp only [S1.out]; rfl) | (simp only [S1.out, S2.out]; rfl) | (simp only [S3.out]; rfl) | (simp only [S1.out, S2.out, S3.out]; rfl)) (by first | exact sz29 | (rw [S1.out]; exact sz29) | (rw [S2.out]; exact sz29) | (rw [S3.out]; exact sz29)) (by first | exact ints_one _ _ | exact Fld.one _ | exact O1.out | rfl | (simp [Value.oneCell']; done)) rfl ?_); intro wn m; simp only [List.set_cons_succ, List.set_cons_zero, List.setIfInBounds_toArray, zeroFld] at m; have M := Lib.hid m; clear m)
      )
    refine ret_ctt rfl ((M.out.blk 2 rfl).var Try.underlying29 rfl (by rw [S2.out]; exact sz29)) ?_
    have m := (M.out.take 0).nilrow 2 1
    simp only [RetFI, fdF, fdI, HE.out]
    exact ⟨none, 0, rfl, Nat.le_refl _, m⟩
  · cases hq : inB d 0 60
    · have HD := Lib.hid hd
      have HQ := Lib.hid hq
      have HC := Lib.hid (show birdsCode F fs xs = 0 by rw [birdsCode, hd]; rfl)
      have HE := Lib.hid (show fdCode F fs xs d = 2 by simp [fdCode, hd, hq])
      clear hd hq
      go_enter Try.func21, Try.ntmps21
      go_wp2_with (first
        | ((with_reducible refine gate_dst (N := 8) rfl ?_); go_must (refine M.out.ev_new rfl (by first | (go_simp; done) | (go_simp; rfl)) ?_); intro g8 w8 m; simp only [List.cons_append, List.nil_append, zeroFld] at m; have M := Lib.hid m; clear m)
        | (go_at_call 33; go_must (refine (areBirds_any _ _ F HF.out fs hfl HFF.out A n xs HX.out hl _ (M.out.blk 0 rfl) (M.out.blk 1 rfl) (M.out.sl HS.out)).mono ?_); rintro e w_ ⟨rfl, N_⟩; have m := M.out.join N_; clear N_; simp only [List.cons_append, List.nil_append, List.append_nil] at m; have M := Lib.hid m; clear m; rw [HD.out])
        | (go_at_call 41; go_must (refine (within_any _ _ _ _).mono ?_); rintro e w_ ⟨rfl, rfl⟩; rw [HQ.out])
        | ((with_reducible refine gate_dst (N := 4) rfl ?_); go_must (refine M.out.ev_new rfl (by first | (go_simp; done) | (go_simp; rfl)) ?_); intro g4 w4 m; simp only [List.cons_append, List.nil_append, zeroFld] at m; have M := Lib.hid m; clear m)
        | ((with_reducible refine gate_dst (N := 5) rfl ?_); go_must (refine M.out.ev_new rfl (by first | (go_simp; done) | (go_simp; rfl)) ?_); intro g5 w5 m; simp only [List.cons_append, List.nil_append, zeroFld] at m; have M := Lib.hid m; clear m)
        | ((with_reducible refine gate_dst (N := 8) rfl ?_); go_must (refine M.out.ev_new rfl (by first | (go_simp; done) | (go_simp; rfl)) ?_); intro g8 w8 m; simp only [List.cons_append, List.nil_append, zeroFld] at m; have M := Lib.hid m; clear m)
        | ((with_reducible refine gate_store (x := .tmp 8) rfl ?_); go_must (refine M.out.ev_stw 2 _ _ _ rfl rfl rfl rfl _ rfl (by first | rfl | (simp only [S1.out]; rfl) | (simp only [S1.out, S2.out]; rfl) | (simp only [S3.out]; rfl) | (simp only [S1.out, S2.out, S3.out]; rfl)) (by first | exact sz29 | (rw [S1.out]; exact sz29) | (rw [S2.out]; exact sz29) | (rw [S3.out]; exact sz29)) (by first | exact ints_one _ _ | exact Fld.one _ | exact O1.out | rfl | (simp [Value.oneCell']; done)) rfl ?_); intro wn m; simp only [List.set_cons_succ, List.set_cons_zero, List.setIfInBounds_toArray, zeroFld] at m; have M := Lib.hid m; clear m)
        | ((with_reducible refine gate_store (x := .tmp 8) rfl ?_); go_must (refine M.out.ev_stw 2 _ _ _ rfl rfl rfl rfl _ rfl (by first | rfl | (simp only [S1.out]; rfl) | (simp only [S1.out, S2.out]; rfl) | (simp only [S3.out]; rfl) | (simp only [S1.out, S2.out, S3.out]; rfl)) (by first | exact sz29 | (rw [S1.out]; exact sz29) | (rw [S2.out]; exact sz29) | (rw [S3.out]; exact sz29)) (by first | exact ints_one _ _ | exact Fld.one _ | exact O1.out | rfl | (simp [Value.oneCell']; done)) rfl ?_); intro wn m; simp only [List.set_cons_succ, List.set_cons_zero, List.setIfInBounds_toArray, zeroFld] at m; have M := Lib.hid m; clear m)
        | ((with_reducible refine gate_dst (N := 37) rfl ?_); go_must (refine M.out.ev_ldw 0 _ _ rfl rfl rfl Try.underlying29 rfl (by first | exact sz29 | (rw [S1.out]; exact sz29) | (rw [S2.out]; exact sz29) | (rw [S3.out]; exact sz29)) rfl ?_))
        | ((with_reducible refine gate_store (x := .tmp 8) rfl ?_); go_must (refine M.out.ev_stw 2 _ _ _ rfl rfl rfl rfl _ rfl (by first | rfl | (simp only [S1.out]; rfl) | (simp only [S1.out, S2.out]; rfl) | (simp only [S3.out]; rfl) | (simp only [S1.out, S2.out, S3.out]; rfl)) (by first | exact sz29 | (rw [S1.out]; exact sz29) | (rw [S2.out]; exact sz29) | (rw [S3.out]; exact sz29)) (by first | exact ints_one _ _ | exact Fld.one _ | exact O1.out | rfl | (simp [Value.oneCell']; done)) rfl ?_); intro wn m; simp only [List.set_cons_succ, List.set_cons_zero, List.setIfInBounds_toArray, zeroFld] at m; have M := Lib.hid m; clear m)
        )
      refine ret_ctt rfl ((M.out.blk 2 rfl).var Try.underlying29 rfl (by rw [S2.out]; exact sz29)) ?_
      have m := (M.out.take 0).nilrow 2 1
      simp only [RetFI, fdF, fdI, HE.out]
      exact ⟨none, 0, rfl, Nat.le_refl _, m⟩
    · have HD := Lib.hid hd
      have HQ := Lib.hid hq
      have HC := Lib.hid (show birdsCode F fs xs = 0 by rw [birdsCode, hd]; rfl)
      have HE := Lib.hid (show fdCode F fs xs d = 0 by simp [fdCode, hd, hq])
      have hb := birds_all hd
      have HB := Lib.hid hb
      obtain ⟨d0, d1⟩ := inB_iff.1 hq
      obtain ⟨q, rfl⟩ : ∃ q : Nat, d = q := ⟨d.toNat, by omega⟩
      have HR := Lib.hid (show fdF F fs xs (q : Int) = (fdTo F fs xs q).1 by rw [fdF, if_pos HE.out, Int.toNat_natCast])
      have HV := Lib.hid (show fdI F fs xs (q : Int) = (fdTo F fs xs q).2 by rw [fdI, if_pos HE.out, Int.toNat_natCast])
      clear hd hq hb
      go_enter Try.func21, Try.ntmps21
      go_wp2_with (first
        | ((with_reducible refine gate_dst (N := 8) rfl ?_); go_must (refine M.out.ev_new rfl (by first | (go_simp; done) | (go_simp; rfl)) ?_); intro g8 w8 m; simp only [List.cons_append, List.nil_append, zeroFld] at m; have M := Lib.hid m; clear m)
        | (go_at_call 33; go_must (refine (areBirds_any _ _ F HF.out fs hfl HFF.out A n xs HX.out hl _ (M.out.blk 0 rfl) (M.out.blk 1 rfl) (M.out.sl HS.out)).mono ?_); rintro e w_ ⟨rfl, N_⟩; have m := M.out.join N_; clear N_; simp only [List.cons_append, List.nil_append, List.append_nil] at m; have M := Lib.hid m; clear m; rw [HD.out])
        | (go_at_call 41; go_must (refine (within_any _ _ _ _).mono ?_); rintro e w_ ⟨rfl, rfl⟩; rw [HQ.out])
        | ((with_reducible refine gate_dst (N := 23) rfl ?_); go_must (refine M.out.ev_bs0 elem_int64 rfl rfl ?_); intro g23 w23 m; simp only [List.cons_append, List.nil_append] at m; have M := Lib.hid m; clear m)
        | ((with_reducible refine gate_dst (N := 4) rfl ?_); go_must (refine M.out.ev_new rfl (by first | (go_simp; done) | (go_simp; rfl)) ?_); intro g4 w4 m; simp only [List.cons_append, List.nil_append, zeroFld] at m; have M := Lib.hid m; clear m)
        | ((with_reducible refine gate_dst (N := 5) rfl ?_); go_must (refine M.out.ev_new rfl (by first | (go_simp; done) | (go_simp; rfl)) ?_); intro g5 w5 m; simp only [List.cons_append, List.nil_append, zeroFld] at m; have M := Lib.hid m; clear m)
        | ((with_reducible refine gate_dst (N := 8) rfl ?_); go_must (refine M.out.ev_new rfl (by first | (go_simp; done) | (go_simp; rfl)) ?_); intro g8 w8 m; simp only [List.cons_append, List.nil_append, zeroFld] at m; have M := Lib.hid m; clear m)
        | ((with_reducible refine gate_store (x := .tmp 8) rfl ?_); go_must (refine M.out.ev_stw 2 _ _ _ rfl rfl rfl rfl _ rfl (by first | rfl | (simp only [S1.out]; rfl) | (simp only [S1.out, S2.out]; rfl) | (simp only [S3.out]; rfl) | (simp only [S1.out, S2.out, S3.out]; rfl)) (by first | exact sz29 | (rw [S1.out]; exact sz29) | (rw [S2.out]; exact sz29) | (rw [S3.out]; exact sz29)) (by first | exact ints_one _ _ | exact Fld.one _ | exact O1.out | rfl | (simp [Value.oneCell']; done)) rfl ?_); intro wn m; simp only [List.set_cons_succ, List.set_cons_zero, List.setIfInBounds_toArray, zeroFld] at m; have M := Lib.hid m; clear m)
        | ((with_reducible refine gate_store (x := .tmp 8) rfl ?_); go_must (refine M.out.ev_stw 2 _ _ _ rfl rfl rfl rfl _ rfl (by first | rfl | (simp only [S1.out]; rfl) | (simp only [S1.out, S2.out]; rfl) | (simp only [S3.out]; rfl) | (simp only [S1.out, S2.out, S3.out]; rfl)) (by first | exact sz29 | (rw [S1.out]; exact sz29) | (rw [S2.out]; exact sz29) | (rw [S3.out]; exact sz29)) (by first | exact ints_one _ _ | exact Fld.one _ | exact O1.out | rfl | (simp [Value.oneCell']; done)) rfl ?_); intro wn m; simp only [List.set_cons_succ, List.set_cons_zero, List.setIfInBounds_toArray, zeroFld] at m; have M := Lib.hid m; clear m)
        | ((with_reducible refine gate_dst (N := 37) rfl ?_); go_must (refine M.out.ev_ldw 0 _ _ rfl rfl rfl Try.underlying29 rfl (by first | exact sz29 | (rw [S1.out]; exact sz29) | (rw [S2.out]; exact sz29) | (rw [S3.out]; exact sz29)) rfl ?_))
        | ((with_reducible refine gate_store (x := .tmp 8) rfl ?_); go_must (refine M.out.ev_stw 2 _ _ _ rfl rfl rfl rfl _ rfl (by first | rfl | (simp only [S1.out]; rfl) | (simp only [S1.out, S2.out]; rfl) | (simp only [S3.out]; rfl) | (simp only [S1.out, S2.out, S3.out]; rfl)) (by first | exact sz29 | (rw [S1.out]; exact sz29) | (rw [S2.out]; exact sz29) | (rw [S3.out]; exact sz29)) (by first | exact ints_one _ _ | exact Fld.one _ | exact O1.out | rfl | (simp [Value.oneCell']; done)) rfl ?_); intro wn m; simp only [List.set_cons_succ, List.set_cons_zero, List.setIfInBounds_toArray, zeroFld] at m; have M := Lib.hid m; clear m)
        )
      go_loopw [11, 25] (fun s v wr => ∃ k : Nat, k ≤ q ∧ v = .int .i64 k ∧ Mem w wr [.blk g4 29 (fdTo F fs xs k).1.cells, .blk g5 31 (ints .i16 fs), .blk g8 29 Fld.z.cells, .row s 2 1 (fdTo F fs xs k).2.length (flat oneI (fdTo F fs xs k).2)])
        (fun _ v _ => q - (intOf v).toNat)
      case atStart => exact ⟨0, by omega, rfl, M.out⟩
      case round =>
        clear M
        obtain ⟨k, hk, rfl, mm⟩ := hrel
        have M := Lib.hid mm
        clear mm
        have hok := fdTo_ok HF.out fs HB.out.1 k
        have hln := fdTo_len F fs xs k
        by_cases hlt : k < q
        · have hy := dayOf_ok hok fs HB.out.1
          have HSU := Lib.hid (show fdTo F fs xs (k + 1) = ((dayOf (fdTo F fs xs k).1 fs xs).1, (fdTo F fs xs k).2 ++ [seedSum (fdTo F fs xs k).1 100 - seedSum (dayOf (fdTo F fs xs k).1 fs xs).1 100]) from rfl)
          obtain ⟨D, hD⟩ : ∃ D, D = fdTo F fs xs k := ⟨_, rfl⟩
          rw [← hD] at M HSU hok hln hy
          have DA := Lib.hid (fun (wx : World) (E1 E2 : Ent) (ga gb : Nat) (m0 : Mem w wx [.blk ga 29 D.1.cells, .blk gb 31 (ints .i16 fs), E1, E2]) => feedAll_any ga gb D.1 hok fs hfl HFF.out A n xs HB.out.1 HB.out.2 m0 HS.out)
          obtain ⟨Y, hY⟩ : ∃ Y, Y = dayOf D.1 fs xs := ⟨_, rfl⟩
          rw [← hY] at DA HSU hy
          clear hD hY
          have b1 := seedSum_b hok 100
          have b2 := seedSum_b hy 100
          have e1 : IntKind.i64.wrap (seedSum D.1 100 - seedSum Y.1 100) = seedSum D.1 100 - seedSum Y.1 100 := IntWalk.i64_in _ (by omega)
          have HOK := Lib.hid hok
          have HY := Lib.hid hy
          have S3 := Lib.hid (Fld.size hok.toLen)
          have S4 := Lib.hid (Fld.size hy.toLen)
          have O2 := Lib.hid (Fld.one Y.1)
          clear b1 b2 hok hy
          go_wp2_with (first
            | (go_at_call 37; go_must (first | (refine Calls.mono (seedsIn_any _ D.1 HOK.out _ (M.out.blk 0 rfl)) ?_) | (refine Calls.mono (seedsIn_any _ Y.1 HY.out _ (M.out.blk 0 rfl)) ?_)); rintro e w_ ⟨rfl, rfl⟩)
            | (go_at_call 34; go_must (refine (DA.out _ _ _ _ _ M.out).mono ?_); rintro e w_ ⟨A1, c1, A2, c2, rfl, hc1, hc2, m⟩; have M := Lib.hid m; clear m)
            | ((with_reducible refine gate_dst (N := 34) rfl ?_); go_must (refine M.out.ev_bs1 elem_int64 rfl _ rfl #[.int .i64 (seedSum D.1 100 - seedSum Y.1 100)] rfl rfl (by decide) ?_); intro g34 w34 m; simp only [List.cons_append, List.nil_append] at m; have M := Lib.hid m; clear m)
            | ((with_reducible refine gate_dst (N := 35) rfl ?_); go_must (refine M.out.ev_append1 3 6 elem_int64 rfl _ _ rfl rfl rfl rfl rfl rfl (by simp [Value.oneCell']) (by omega) (by decide) ?_); intro v35 w35 m; simp only [List.set_cons_succ, List.set_cons_zero] at m; have M := Lib.hid m; clear m)
            )
          refine ⟨⟨k + 1, by omega, by go_num, ?_⟩, by simp [intOf]; omega⟩
          have mm := M.out.take 4
          rw [HSU.out]
          simp only [List.length_append, flat_append, flat_oneI, List.map_append, List.map_cons, List.map_nil, List.length_cons, List.length_nil, Nat.zero_add]
          simp only [flat_oneI] at mm
          exact mm
        · obtain rfl : k = q := by omega
          obtain ⟨D, hD⟩ : ∃ D, D = fdTo F fs xs k := ⟨_, rfl⟩
          rw [← hD] at M HR HV hok
          obtain ⟨A1, c1, rfl, h1, _⟩ := M.out.row_slice 3 rfl
          have S3 := Lib.hid (Fld.size hok.toLen)
          have O2 := Lib.hid (Fld.one D.1)
          clear hD hok
          go_wp2_with (first
            | ((with_reducible refine gate_dst (N := 37) rfl ?_); go_must (refine M.out.ev_ldw 0 _ _ rfl rfl rfl Try.underlying29 rfl (by rw [S3.out]; exact sz29) rfl ?_))
            | ((with_reducible refine gate_store (x := .tmp 8) rfl ?_); go_must (refine M.out.ev_stw 2 _ _ _ rfl rfl rfl rfl D.1.cells rfl (by rw [S2.out, S3.out]) (by rw [S3.out]; exact sz29) O2.out rfl ?_); intro wn m; simp only [List.set_cons_succ, List.set_cons_zero] at m; have M := Lib.hid m; clear m)
            )
          refine ret_ctt rfl ((M.out.blk 2 rfl).var Try.underlying29 rfl (by rw [S3.out]; exact sz29)) ?_
          rw [HR.out, HV.out, HE.out]
          exact ⟨_, _, rfl, h1, M.out.only [3] (K := [_]) rfl (by decide)⟩
end Go.Proofs.Ytlonbgomdabmmaa
namespace Go.Proofs.Ytlonbgomdabmmaa
set_option linter.unusedSimpArgs false
set_option linter.unusedVariables false
open Go.RowKit
attribute [local go_sem] cell?_mk frozen?_mk

theorem Flock.ones (x : Flock) : ∀ v ∈ x.vals, v.oneCell' = true := by
  intro v hv
  simp only [Flock.vals, List.mem_cons, List.not_mem_nil, or_false] at hv
  rcases hv with rfl | rfl | rfl | rfl | rfl | rfl <;> rfl
def markFlock (k : Int) (i : Nat) : Flock := ⟨IntKind.i16.wrap (k + 6 * i), IntKind.i16.wrap (k + 6 * i + 1), IntKind.i16.wrap (k + 6 * i + 1 + 1), IntKind.i16.wrap (k + 6 * i + 1 + 1 + 1), IntKind.i16.wrap (k + 6 * i + 1 + 1 + 1 + 1), IntKind.i8.wrap (k + 6 * i + 1 + 1 + 1 + 1 + 1)⟩
def marksFlock (k : Int) (n : Nat) : List Flock := (List.range n).map (markFlock k)
def mixFlock (k : Int) (xs : List Flock) (i : Nat) : List Flock := (List.range i).map (markFlock k) ++ xs.drop i
set_option maxRecDepth 100000 in
set_option maxHeartbeats 1000000 in
theorem cloneFlock_any (A : Option Addr) (n : Nat) (xs : List Flock) (hl : xs.length ≤ 1048576) (hc : xs.length ≤ n) (hA : A = none → n = 0) (w : World) (hs : Sl w 6 A xs.length (flat Flock.vals xs)) :
    Calls Try.prog 55 #[.slice A xs.length n] w (RetRow w 48 6 xs.length (flat Flock.vals xs)) := by
  have M := Lib.hid (Mem.start w)
  have HS := Lib.hid hs
  clear hs
  cases A with
  | none =>
    obtain rfl := hA rfl
    obtain rfl : xs = [] := List.length_eq_zero_iff.1 (by omega)
    have he : ∀ w : World, (binOp .eql 33 (.slice none 0 0) (.slice none 0 0)).run Try.prog w = .ok (.bool true) w := fun _ => rfl
    go_enter Try.func55, Try.ntmps55
    go_wp2
    go_ret
    exact ⟨none, 0, rfl, by simp, M.out.nilrow _ _⟩
  | some a =>
    have he : ∀ w : World, (binOp .eql 33 (.slice (some a) xs.length n) (.slice none 0 0)).run Try.prog w = .ok (.bool false) w := fun _ => rfl
    go_enter Try.func55, Try.ntmps55
    go_wp2_with (first
      | ((with_reducible refine gate_dst (N := 5) rfl ?_); go_must (refine M.out.ev_bs0 elem_Flock rfl rfl ?_); intro g5 w5 m; simp only [List.nil_append] at m; have M := Lib.hid m; clear m)
      | ((with_reducible refine gate_dst (N := 7) rfl ?_); go_must (refine M.out.ev_appends 0 elem_Flock rfl _ _ rfl rfl rfl rfl (M.out.sl HS.out) (fun h => by cases h) hc (flat_one Flock.ones xs) (by omega) (by decide) ?_); intro v7 w7 m; simp only [List.set_cons_zero, List.nil_append, Nat.zero_add] at m; have M := Lib.hid m; clear m)
      )
    obtain ⟨B, c, rfl, hc1, _⟩ := M.out.row_slice 0 rfl
    go_ret
    exact ⟨B, c, rfl, hc1, M.out⟩
end Go.Proofs.Ytlonbgomdabmmaa
namespace Go.Proofs.Ytlonbgomdabmmaa
set_option linter.unusedSimpArgs false
set_option linter.unusedVariables false
open Go.RowKit
attribute [local go_sem] cell?_mk frozen?_mk

set_option maxRecDepth 100000 in
set_option maxHeartbeats 1000000 in
theorem ValidFlocks_any (F : Fld) (hF : F.ok) (A : Option Addr) (n : Nat) (xs : List Flock) (hx : ∀ x ∈ xs, x.ok) (hl : xs.length ≤ 1048576) (w : World) (hs : Sl w 6 A xs.length (flat Flock.vals xs)) :
    Calls Try.prog 38 #[.agg F.cells, .slice A xs.length n] w fun e w' => e = .returned (.bool (F.valid && flocksOk F xs)) ∧ Mem w w' [] := by
  have M := Lib.hid (Mem.start w)
  have HX := Lib.hid hx
  have HS := Lib.hid hs
  have S1 := Lib.hid (Fld.size hF.toLen)
  have O1 := Lib.hid (Fld.one F)
  clear hs hx
  cases hv : F.valid <;>
  · have HV := Lib.hid hv
    clear hv
    go_enter Try.func38, Try.ntmps38
    go_wp2_with (first
      | ((with_reducible refine gate_dst (N := 2) rfl ?_); go_must (refine M.out.ev_new rfl (by first | (go_simp; done) | (go_simp; rfl)) ?_); intro g2 w2 m; simp only [List.cons_append, List.nil_append] at m; have M := Lib.hid m; clear m)
      | ((with_reducible refine gate_dst (N := 5) rfl ?_); go_must (refine M.out.ev_ldw 0 _ _ rfl rfl rfl Try.underlying29 rfl (by first | exact sz29 | (rw [S1.out]; exact sz29) | (rw [S2.out]; exact sz29) | (rw [S3.out]; exact sz29)) rfl ?_))
      | (go_at_call 14; go_must (refine (ValidField_any F hF _).mono ?_); rintro e w_ ⟨rfl, N_⟩; have m := M.out.join N_; clear N_; simp only [List.cons_append, List.nil_append, List.append_nil] at m; have M := Lib.hid m; clear m; rw [HV.out])
      | (go_at_call 62; go_must (refine (areFlocks_any _ F hF A n xs HX.out hl _ (M.out.blk 0 rfl) (M.out.sl HS.out)).mono ?_); rintro e w_ ⟨rfl, N_⟩; have m := M.out.join N_; clear N_; simp only [List.cons_append, List.nil_append, List.append_nil] at m; have M := Lib.hid m; clear m)
      )
    go_ret
    exact ⟨ret_bool (by simp), M.out.take 0⟩
def flIdx (F : Fld) (xs : List Flock) (i : Int) : Bool := (F.valid && flocksOk F xs) && inB i 0 (xs.length - 1)
def flCode (F : Fld) (xs : List Flock) (i : Int) (p : Bool) : Int := if (F.valid && flocksOk F xs) = true then if (inB i 0 (xs.length - 1) && p) = true then 0 else 2 else 1
theorem flCode_0 {F : Fld} {xs : List Flock} {i : Int} {p : Bool} (h : flCode F xs i p = 0) : F.valid = true ∧ flocksOk F xs = true ∧ inB i 0 (xs.length - 1) = true ∧ p = true := by
  unfold flCode at h
  split at h
  · split at h
    · rename_i h1 h2
      rw [Bool.and_eq_true] at h1 h2
      exact ⟨h1.1, h1.2, h2.1, h2.2⟩
    · cases h
  · cases h
set_option maxRecDepth 100000 in
set_option maxHeartbeats 1000000 in
theorem flockCode_any (g : Nat) {t : TypeId} (F : Fld) (hF : F.ok) (A : Option Addr) (n : Nat) (xs : List Flock) (hx : ∀ x ∈ xs, x.ok) (hl : xs.length ≤ 1048576) (i : Int) (f : FuncId) (caps : Array Value) (p : Bool) (w : World) (hb : Blk w g t F.cells) (hs : Sl w 6 A xs.length (flat Flock.vals xs))
    (HF : ∀ (vs : Array Value) (w : World), Sem.run Try.prog (callFunc f vs) w = Result.ok (Next.enter f vs) w)
    (H : flIdx F xs i = true → ∀ w1, Mem w w1 [] → Calls Try.prog f caps w1 fun e w' => e = .returned (.bool p) ∧ Mem w1 w' []) :
    Calls Try.prog 53 #[.pointer (some ⟨g, 0, none⟩), .slice A xs.length n, .int .i64 i, .func (.func f) #[] caps] w fun e w' => e = .returned (.int .i64 (flCode F xs i p)) ∧ Mem w w' [] := by
  have M := Lib.hid (Mem.start w)
  have HX := Lib.hid hx
  have HS := Lib.hid hs
  have HB := Lib.hid hb
  have HH := Lib.hid H
  have S1 := Lib.hid (Fld.size hF.toLen)
  have hc0 := hb.cellv F.cell0
  have e1 : IntKind.i64.wrap ((xs.length : Int) - 1) = (xs.length : Int) - 1 := IntWalk.i64_in _ (by omega)
  clear hs hx hb H
  cases hv : (F.valid && flocksOk F xs)
  · have HV := Lib.hid hv
    clear hv
    go_enter Try.func53, Try.ntmps53
    go_wp2_with (first
      | ((with_reducible refine gate_dst (N := 12) rfl ?_); go_must (refine M.out.ev_lda _ _ rfl rfl HB.out Try.underlying29 rfl (by rw [S1.out]; exact sz29) rfl ?_))
      | (go_at_call 38; go_must (refine (ValidFlocks_any F hF A n xs HX.out hl _ (M.out.sl HS.out)).mono ?_); rintro e w_ ⟨rfl, N_⟩; have m := M.out.join N_; clear N_; simp only [List.cons_append, List.nil_append, List.append_nil] at m; have M := Lib.hid m; clear m; rw [HV.out])
      )
    go_ret
    exact ⟨ret_int (by simp [flCode, HV.out]), M.out.take 0⟩
  · cases hi : inB i 0 (xs.length - 1) <;> cases hp : p <;>
    · have HV := Lib.hid hv
      have HI := Lib.hid hi
      have HP := Lib.hid hp
      have HIX := Lib.hid (show flIdx F xs i = inB i 0 (xs.length - 1) by rw [flIdx, hv]; rfl)
      clear hv hi hp
      go_enter Try.func53, Try.ntmps53
      go_wp2_with (first
        | ((with_reducible refine gate_dst (N := 12) rfl ?_); go_must (refine M.out.ev_lda _ _ rfl rfl HB.out Try.underlying29 rfl (by rw [S1.out]; exact sz29) rfl ?_))
        | (go_at_call 38; go_must (refine (ValidFlocks_any F hF A n xs HX.out hl _ (M.out.sl HS.out)).mono ?_); rintro e w_ ⟨rfl, N_⟩; have m := M.out.join N_; clear N_; simp only [List.cons_append, List.nil_append, List.append_nil] at m; have M := Lib.hid m; clear m; rw [HV.out])
        | (go_at_call 41; go_must (refine (within_any _ _ _ _).mono ?_); rintro e w_ ⟨rfl, rfl⟩; rw [HI.out])
        | (refine (HH.out (by rw [HIX.out, HI.out]) _ M.out).mono ?_; rintro e w_ ⟨rfl, N_⟩; have m := M.out.join N_; clear N_; simp only [List.cons_append, List.nil_append, List.append_nil] at m; have M := Lib.hid m; clear m; rw [HP.out])
        )
      go_ret
      exact ⟨ret_int (by simp [flCode, HV.out, HI.out]), M.out.take 0⟩
def mvCode (F : Fld) (xs : List Flock) (i c : Int) : Int := if flCode F xs i (F.has c) ≠ 0 then flCode F xs i (F.has c) else if F.kind c.toNat = 3 then 0 else 4
def mvAt (xs : List Flock) (j : Nat) (c : Int) : List Flock := match xs[j]? with | some x => xs.set j { x with tree := c } | none => xs
def mvRes (F : Fld) (xs : List Flock) (i c : Int) : List Flock := if mvCode F xs i c = 0 then mvAt xs i.toNat c else []
set_option maxRecDepth 100000 in
set_option maxHeartbeats 1000000 in
theorem mvIs_any (g h : Nat) {t t' : TypeId} (F : Fld) (hF : F.ok) (c : Int) (w : World) (hb : Blk w g t F.cells) (hc : Blk w h t' #[.int .i64 c]) :
    Calls Try.prog 56 #[.pointer (some ⟨g, 0, none⟩), .pointer (some ⟨h, 0, none⟩)] w fun e w' => e = .returned (.bool (F.has c)) ∧ Mem w w' [] := by
  have M := Lib.hid (Mem.start w)
  have HB := Lib.hid hb
  have hc0 := hc.cellv (i := 0) rfl
  clear hb hc
  go_enter Try.func56, Try.ntmps56
  go_wp2_with (first
    | (go_at_call 43; go_must (refine (has_any g F hF c _ HB.out).mono ?_); rintro e w_ ⟨rfl, rfl⟩)
    )
  go_ret
  exact ⟨rfl, M.out⟩
end Go.Proofs.Ytlonbgomdabmmaa
