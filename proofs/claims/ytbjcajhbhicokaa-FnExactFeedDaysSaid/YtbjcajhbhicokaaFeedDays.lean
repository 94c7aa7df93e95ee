/- Flocks that eat for some days: the walks of both. -/
import Derived.Test.YtbjcajhbhicokaaFeedAll
import Derived.Test.YtbjcajhbhicokaaEqI
namespace Go.Proofs.Ytbjcajhbhicokaa
set_option linter.unusedSimpArgs false
set_option linter.unusedVariables false
open Go.RowKit
attribute [local go_sem] cell?_mk frozen?_mk

def seedSum (F : Fld) : Nat → Int
  | 0 => 0
  | k + 1 => seedSum F k + F.seed k
theorem seedSum_b {F : Fld} (hF : F.ok) : ∀ k : Nat, -32768 * (k : Int) ≤ seedSum F k ∧ seedSum F k ≤ 32767 * (k : Int)
  | 0 => ⟨by simp [seedSum], by simp [seedSum]⟩
  | k + 1 => by
    have ih := seedSum_b hF k
    have h := hF.sb k
    rw [seedSum]
    constructor <;> (push_cast; omega)
set_option maxRecDepth 100000 in
set_option maxHeartbeats 1000000 in
theorem seedsIn_any (g : Nat) {t : TypeId} (F : Fld) (hF : F.ok) (w : World) (hb : Blk w g t F.cells) :
    Calls Try.prog 113 #[.pointer (some ⟨g, 0, none⟩)] w fun e w' => e = .returned (.int .i64 (seedSum F 100)) ∧ w = w' := by
  have R := Lib.hid (blk_range hb 102 (F.seeds.map (Value.int .i16)) (fun j v hv => Fld.cellsS hF.toLen j v hv))
  have hc0 := hb.cellv F.cell0
  have HF := Lib.hid hF
  have SL := Lib.hid (show (F.seeds.map (Value.int .i16)).toArray.size = 100 by simp [hF.sl])
  clear hb
  go_enter Try.func113, Try.ntmps113
  go_wp2_with (first
    | ((with_reducible refine gate_dst (N := 9) rfl ?_); go_must (refine ev_ldr _ _ rfl rfl R.out Try.underlying25 rfl (by rw [show (F.seeds.map (Value.int .i16)).length = 100 by simp [HF.out.sl]]; exact sz25) rfl ?_))
    )
  go_loop [3, 10] (fun s v => ∃ k : Nat, k ≤ 100 ∧ v = .int .i64 k ∧ s = .int .i64 (seedSum F k))
    (fun _ v => 100 - (intOf v).toNat)
  case atStart => exact ⟨0, by omega, rfl, rfl⟩
  case round =>
    obtain ⟨k, hk, rfl, rfl⟩ := hrel
    by_cases hlt : k < 100
    · have hsb := HF.out.sb k
      have hss := seedSum_b HF.out k
      have e1 : IntKind.i64.wrap (F.seed k) = F.seed k := IntWalk.i64_in _ (by omega)
      have e2 : IntKind.i64.wrap (seedSum F k + F.seed k) = seedSum F k + F.seed k := IntWalk.i64_in _ (by omega)
      have hix : ∀ w, (Instr.index 25 (.agg (F.seeds.map (Value.int .i16)).toArray) (.int .i64 k)).run Try.prog w = .ok (.int .i16 (F.seed k)) w := fun w => run_index1 w _ 24 100 _ k _ Try.underlying25 hlt sz24 Try.underlying24 rfl (by
        have hsl := HF.out.sl
        simp [Fld.seed, gi, hlt, hsl])
      go_wp2
      exact ⟨⟨k + 1, by omega, by go_num, rfl⟩, by simp [intOf]; omega⟩
    · obtain rfl : k = 100 := by omega
      go_wp2
      go_ret
      exact ⟨rfl, rfl⟩
set_option maxRecDepth 100000 in
set_option maxHeartbeats 1000000 in
theorem l01Sum_any (g : Nat) {t : TypeId} (F : Fld) (hF : F.ok) (w : World) (hb : Blk w g t F.cells) :
    Calls Try.prog 112 #[.pointer (some ⟨g, 0, none⟩)] w fun e w' => e = .returned (.int .i64 (seedSum F 100)) ∧ w = w' := by
  have HB := Lib.hid hb
  have hc0 := hb.cellv F.cell0
  have HF := Lib.hid hF
  clear hb
  go_enter Try.func112, Try.ntmps112
  go_wp2
  go_loop [3, 4] (fun s v => ∃ k : Nat, k ≤ 100 ∧ v = .int .i64 k ∧ s = .int .i64 (seedSum F k))
    (fun _ v => 100 - (intOf v).toNat)
  case atStart => exact ⟨0, by omega, rfl, rfl⟩
  case round =>
    obtain ⟨k, hk, rfl, rfl⟩ := hrel
    by_cases hlt : k < 100
    · have hsb := HF.out.sb k
      have hss := seedSum_b HF.out k
      have i0 : (0 : Int) ≤ (k : Int) := by omega
      have i1 : (k : Int) < 100 := by omega
      have y0 := HB.out.cellv (Fld.cellS HF.out.toLen hlt)
      have e1 : IntKind.i64.wrap (F.seed k) = F.seed k := IntWalk.i64_in _ (by omega)
      have e2 : IntKind.i64.wrap (seedSum F k + F.seed k) = seedSum F k + F.seed k := IntWalk.i64_in _ (by omega)
      go_wp2
      exact ⟨⟨k + 1, by omega, by go_num, rfl⟩, by simp [intOf]; omega⟩
    · obtain rfl : k = 100 := by omega
      go_wp2
      go_ret
      exact ⟨rfl, rfl⟩
/-- So many days: the field behind them, and how much is eaten on each. -/
def fdTo (F : Fld) (fs : List Int) (xs : List Flock) : Nat → Fld × List Int
  | 0 => (F, [])
  | k + 1 => ((dayOf (fdTo F fs xs k).1 fs xs).1, (fdTo F fs xs k).2 ++ [seedSum (fdTo F fs xs k).1 100 - seedSum (dayOf (fdTo F fs xs k).1 fs xs).1 100])
theorem dayOf_ok {F : Fld} (hF : F.ok) (fs : List Int) {xs : List Flock} (hx : ∀ x ∈ xs, x.plain = true) : (dayOf F fs xs).1.ok := (dayTo_ok hF fs hx _ (Nat.le_refl _)).1
theorem fdTo_ok {F : Fld} (hF : F.ok) (fs : List Int) {xs : List Flock} (hx : ∀ x ∈ xs, x.plain = true) : ∀ k, (fdTo F fs xs k).1.ok
  | 0 => hF
  | k + 1 => dayOf_ok (fdTo_ok hF fs hx k) fs hx
theorem fdTo_len (F : Fld) (fs : List Int) (xs : List Flock) : ∀ k, (fdTo F fs xs k).2.length = k
  | 0 => rfl
  | k + 1 => by rw [fdTo, List.length_append, fdTo_len F fs xs k]; rfl
def fdCode (F : Fld) (fs : List Int) (xs : List Flock) (d : Int) : Int := if birdsOk F fs xs = true then if inB d 0 60 = true then 0 else 2 else 1
def fdF (F : Fld) (fs : List Int) (xs : List Flock) (d : Int) : Fld := if fdCode F fs xs d = 0 then (fdTo F fs xs d.toNat).1 else Fld.z
def fdI (F : Fld) (fs : List Int) (xs : List Flock) (d : Int) : List Int := if fdCode F fs xs d = 0 then (fdTo F fs xs d.toNat).2 else []
theorem fdCode_0 {F : Fld} {fs : List Int} {xs : List Flock} {d : Int} (h : fdCode F fs xs d = 0) : birdsOk F fs xs = true ∧ inB d 0 60 = true := by
  unfold fdCode at h
  split at h
  · split at h
    · exact ⟨by assumption, by assumption⟩
    · cases h
  · cases h
theorem fdF_len {F : Fld} (hF : F.ok) (fs : List Int) (xs : List Flock) (d : Int) : (fdF F fs xs d).len := by
  unfold fdF
  split
  · rename_i h
    exact (fdTo_ok hF fs (birds_all (fdCode_0 h).1).1 _).toLen
  · exact Fld.z_len
theorem fdI_len (F : Fld) (fs : List Int) (xs : List Flock) (d : Int) : (fdI F fs xs d).length ≤ 1048576 := by
  unfold fdI
  split
  · rename_i h
    have := inB_iff.1 (fdCode_0 h).2
    rw [fdTo_len]
    omega
  · simp
/-- A call hands back a field, whole numbers of its own and a code. -/
def RetFI (w : World) (F : Fld) (vs : List Int) (code : Int) (e : Ending) (w' : World) : Prop :=
  ∃ A c, e = .returned (.tuple #[.agg F.cells, .slice A vs.length c, .int .i64 code]) ∧ vs.length ≤ c ∧ Mem w w' [.row (.slice A vs.length c) 2 1 vs.length (flat oneI vs)]
set_option maxRecDepth 100000 in
set_option maxHeartbeats 4000000 in
theorem impl_FeedDays_any (F : Fld) (hF : F.ok) (fs : List Int) (hfl : fs.length = 100) (hff : ∀ x ∈ fs, -32768 ≤ x ∧ x ≤ 32767) (A : Option Addr) (n : Nat) (xs : List Flock) (hx : ∀ x ∈ xs, x.ok) (hl : xs.length ≤ 1048576) (d : Int) (w : World) (hs : Sl w 6 A xs.length (flat Flock.vals xs)) :
    Calls Try.prog 62 #[.agg F.cells, .agg (ints .i16 fs), .slice A xs.length n, .int .i64 d] w (RetFI w (fdF F fs xs d) (fdI F fs xs d) (fdCode F fs xs d)) := by
  have M := Lib.hid (Mem.start w)
  have HFF := Lib.hid hff
  have HF := Lib.hid hF
  have HX := Lib.hid hx
  have HS := Lib.hid hs
  have S1 := Lib.hid (Fld.size hF.toLen)
  have S2 := Lib.hid (Fld.size Fld.z_len)
  have O1 := Lib.hid (Fld.one Fld.z)
  clear hx hs hff hF
  cases hd : birdsOk F fs xs
  · have HD := Lib.hid hd
    have HC := Lib.hid (show birdsCode F fs xs = 1 by rw [birdsCode, hd]; rfl)
    have HE := Lib.hid (show fdCode F fs xs d = 1 by simp [fdCode, hd])
    clear hd
    go_enter Try.func62, Try.ntmps62
    go_wp2_with (first
      | ((with_reducible refine gate_dst (N := 8) rfl ?_); go_must (refine M.out.ev_new rfl (by first | (go_simp; done) | (go_simp; rfl)) ?_); intro g8 w8 m; simp only [List.cons_append, List.nil_append, zeroFld] at m; have M := Lib.hid m; clear m)
      | (go_at_call 67; go_must (refine (areBirds_any _ _ F HF.out fs hfl HFF.out A n xs HX.out hl _ (M.out.blk 0 rfl) (M.out.blk 1 rfl) (M.out.sl HS.out)).mono ?_); rintro e w_ ⟨rfl, N_⟩; have m := M.out.join N_; clear N_; simp only [List.cons_append, List.nil_append, List.append_nil] at m; have M := Lib.hid m; clear m; rw [HD.out])
      | ((with_reducible refine gate_dst (N := 4) rfl ?_); go_must (refine M.out.ev_new rfl (by first | (go_simp; done) | (go_simp; rfl)) ?_); intro g4 w4 m; simp only [List.cons_append, List.nil_append, zeroFld] at m; have M := Lib.hid m; clear m)
      | ((with_reducible refine gate_dst (N := 5) rfl ?_); go_must (refine M.out.ev_new rfl (by first | (go_simp; done) | (go_simp; rfl)) ?_); intro g5 w5 m; simp only [List.cons_append, List.nil_append, zeroFld] at m; have M := Lib.hid m; clear m)
      | ((with_reducible refine gate_dst (N := 8) rfl ?_); go_must (refine M.out.ev_new rfl (by first | (go_simp; done) | (go_simp; rfl)) ?_); intro g8 w8 m; simp only [List.cons_append, List.nil_append, zeroFld] at m; have M := Lib.hid m; clear m)
      | ((with_reducible refine gate_store (x := .tmp 8) rfl ?_); go_must (refine M.out.ev_stw 2 _ _ _ rfl rfl rfl rfl _ rfl (by first | rfl | (simp only [S1.out]; rfl) | (simp only [S1.out, S2.out]; rfl) | (simp only [S3.out]; rfl) | (simp only [S1.out, S2.out, S3.out]; rfl)) (by first | exact sz35 | (rw [S1.out]; exact sz35) | (rw [S2.out]; exact sz35) | (rw [S3.out]; exact sz35)) (by first | exact ints_one _ _ | exact Fld.one _ | exact O1.out | rfl | (simp [Value.oneCell']; done)) rfl ?_); intro wn m; simp only [List.set_cons_succ, List.set_cons_zero, List.setIfInBounds_toArray, zeroFld] at m; have M := Lib.hid m; clear m)
      | ((with_reducible refine gate_store (x := .tmp 8) rfl ?_); go_must (refine M.out.ev_stw 2 _ _ _ rfl rfl rfl rfl _ rfl (by first | rfl | (simp only [S1.out]; rfl) | (simp only [S1.out, S2.out]; rfl) | (simp only [S3.out]; rfl) | (simp only [S1.out, S2.out, S3.out]; rfl)) (by first | exact sz35 | (rw [S1.out]; exact sz35) | (rw [S2.out]; exact sz35) | (rw [S3.out]; exact sz35)) (by first | exact ints_one _ _ | exact Fld.one _ | exact O1.out | rfl | (simp [Value.oneCell']; done)) rfl ?_); intro wn m; simp only [List.set_cons_succ, List.set_cons_zero, List.setIfInBounds_toArray, zeroFld] at m; have M := Lib.hid m; clear m)
      | ((with_reducible refine gate_dst (N := 37) rfl ?_); go_must (refine M.out.ev_ldw 0 _ _ rfl rfl rfl Try.underlying35 rfl (by first | exact sz35 | (rw [S1.out]; exact sz35) | (rw [S2.out]; exact sz35) | (rw [S3.out]; exact sz35)) rfl ?_))
      | ((with_reducible refine gate_store (x := .tmp 8) rfl ?_); go_must (refine M.out.ev_stw 2 _ _ _ rfl rfl rfl rfl _ rfl (by first | rfl | (simp only [S1.out]; rfl) | (simp only [S1.out, S2.out]; rfl) | (simp only [S3.out]; rfl) | (simp only [S1.out, S2.out, S3.out]; rfl)) (by first | exact sz35 | (rw [S1.out]; exact sz35) | (rw [S2.out]; exact sz35) | (rw [S3.out]; exact sz35)) (by first | exact ints_one _ _ | exact Fld.one _ | exact O1.out | rfl | (simp [Value.oneCell']; done)) rfl ?_); intro wn m; simp only [List.set_cons_succ, List.set_cons_zero, List.setIfInBounds_toArray, zeroFld] at m; have M := Lib.hid m; clear m)
      )
    refine ret_ctt rfl ((M.out.blk 2 rfl).var Try.underlying35 rfl (by rw [S2.out]; exact sz35)) ?_
    have m := (M.out.take 0).nilrow 2 1
    simp only [RetFI, fdF, fdI, HE.out]
    exact ⟨none, 0, rfl, Nat.le_refl _, m⟩
  · cases hq : inB d 0 60
    · have HD := Lib.hid hd
      have HQ := Lib.hid hq
      have HC := Lib.hid (show birdsCode F fs xs = 0 by rw [birdsCode, hd]; rfl)
      have HE := Lib.hid (show fdCode F fs xs d = 2 by simp [fdCode, hd, hq])
      clear hd hq
      go_enter Try.func62, Try.ntmps62
      go_wp2_with (first
        | ((with_reducible refine gate_dst (N := 8) rfl ?_); go_must (refine M.out.ev_new rfl (by first | (go_simp; done) | (go_simp; rfl)) ?_); intro g8 w8 m; simp only [List.cons_append, List.nil_append, zeroFld] at m; have M := Lib.hid m; clear m)
        | (go_at_call 67; go_must (refine (areBirds_any _ _ F HF.out fs hfl HFF.out A n xs HX.out hl _ (M.out.blk 0 rfl) (M.out.blk 1 rfl) (M.out.sl HS.out)).mono ?_); rintro e w_ ⟨rfl, N_⟩; have m := M.out.join N_; clear N_; simp only [List.cons_append, List.nil_append, List.append_nil] at m; have M := Lib.hid m; clear m; rw [HD.out])
        | (go_at_call 92; go_must (refine (within_any _ _ _ _).mono ?_); rintro e w_ ⟨rfl, rfl⟩; rw [HQ.out])
        | ((with_reducible refine gate_dst (N := 4) rfl ?_); go_must (refine M.out.ev_new rfl (by first | (go_simp; done) | (go_simp; rfl)) ?_); intro g4 w4 m; simp only [List.cons_append, List.nil_append, zeroFld] at m; have M := Lib.hid m; clear m)
        | ((with_reducible refine gate_dst (N := 5) rfl ?_); go_must (refine M.out.ev_new rfl (by first | (go_simp; done) | (go_simp; rfl)) ?_); intro g5 w5 m; simp only [List.cons_append, List.nil_append, zeroFld] at m; have M := Lib.hid m; clear m)
        | ((with_reducible refine gate_dst (N := 8) rfl ?_); go_must (refine M.out.ev_new rfl (by first | (go_simp; done) | (go_simp; rfl)) ?_); intro g8 w8 m; simp only [List.cons_append, List.nil_append, zeroFld] at m; have M := Lib.hid m; clear m)
        | ((with_reducible refine gate_store (x := .tmp 8) rfl ?_); go_must (refine M.out.ev_stw 2 _ _ _ rfl rfl rfl rfl _ rfl (by first | rfl | (simp only [S1.out]; rfl) | (simp only [S1.out, S2.out]; rfl) | (simp only [S3.out]; rfl) | (simp only [S1.out, S2.out, S3.out]; rfl)) (by first | exact sz35 | (rw [S1.out]; exact sz35) | (rw [S2.out]; exact sz35) | (rw [S3.out]; exact sz35)) (by first | exact ints_one _ _ | exact Fld.one _ | exact O1.out | rfl | (simp [Value.oneCell']; done)) rfl ?_); intro wn m; simp only [List.set_cons_succ, List.set_cons_zero, List.setIfInBounds_toArray, zeroFld] at m; have M := Lib.hid m; clear m)
        | ((with_reducible refine gate_store (x := .tmp 8) rfl ?_); go_must (refine M.out.ev_stw 2 _ _ _ rfl rfl rfl rfl _ rfl (by first | rfl | (simp only [S1.out]; rfl) | (simp only [S1.out, S2.out]; rfl) | (simp only [S3.out]; rfl) | (simp only [S1.out, S2.out, S3.out]; rfl)) (by first | exact sz35 | (rw [S1.out]; exact sz35) | (rw [S2.out]; exact sz35) | (rw [S3.out]; exact sz35)) (by first | exact ints_one _ _ | exact Fld.one _ | exact O1.out | rfl | (simp [Value.oneCell']; done)) rfl ?_); intro wn m; simp only [List.set_cons_succ, List.set_cons_zero, List.setIfInBounds_toArray, zeroFld] at m; have M := Lib.hid m; clear m)
        | ((with_reducible refine gate_dst (N := 37) rfl ?_); go_must (refine M.out.ev_ldw 0 _ _ rfl rfl rfl Try.underlying35 rfl (by first | exact sz35 | (rw [S1.out]; exact sz35) | (rw [S2.out]; exact sz35) | (rw [S3.out]; exact sz35)) rfl ?_))
        | ((with_reducible refine gate_store (x := .tmp 8) rfl ?_); go_must (refine M.out.ev_stw 2 _ _ _ rfl rfl rfl rfl _ rfl (by first | rfl | (simp only [S1.out]; rfl) | (simp only [S1.out, S2.out]; rfl) | (simp only [S3.out]; rfl) | (simp only [S1.out, S2.out, S3.out]; rfl)) (by first | exact sz35 | (rw [S1.out]; exact sz35) | (rw [S2.out]; exact sz35) | (rw [S3.out]; exact sz35)) (by first | exact ints_one _ _ | exact Fld.one _ | exact O1.out | rfl | (simp [Value.oneCell']; done)) rfl ?_); intro wn m; simp only [List.set_cons_succ, List.set_cons_zero, List.setIfInBounds_toArray, zeroFld] at m; have M := Lib.hid m; clear m)
        )
      refine ret_ctt rfl ((M.out.blk 2 rfl).var Try.underlying35 rfl (by rw [S2.out]; exact sz35)) ?_
      have m := (M.out.take 0).nilrow 2 1
      simp only [RetFI, fdF, fdI, HE.out]
      exact ⟨none, 0, rfl, Nat.le_refl _, m⟩
    · have HD := Lib.hid hd
      have HQ := Lib.hid hq
      have HC := Lib.hid (show birdsCode F fs xs = 0 by rw [birdsCode, hd]; rfl)
      have HE := Lib.hid (show fdCode F fs xs d = 0 by simp [fdCode, hd, hq])
      have hb := birds_all hd
      have HB := Lib.hid hb
      obtain ⟨d0, d1⟩ := inB_iff.1 hq
      obtain ⟨q, rfl⟩ : ∃ q : Nat, d = q := ⟨d.toNat, by omega⟩
      have HR := Lib.hid (show fdF F fs xs (q : Int) = (fdTo F fs xs q).1 by rw [fdF, if_pos HE.out, Int.toNat_natCast])
      have HV := Lib.hid (show fdI F fs xs (q : Int) = (fdTo F fs xs q).2 by rw [fdI, if_pos HE.out, Int.toNat_natCast])
      clear hd hq hb
      go_enter Try.func62, Try.ntmps62
      go_wp2_with (first
        | ((with_reducible refine gate_dst (N := 8) rfl ?_); go_must (refine M.out.ev_new rfl (by first | (go_simp; done) | (go_simp; rfl)) ?_); intro g8 w8 m; simp only [List.cons_append, List.nil_append, zeroFld] at m; have M := Lib.hid m; clear m)
        | (go_at_call 67; go_must (refine (areBirds_any _ _ F HF.out fs hfl HFF.out A n xs HX.out hl _ (M.out.blk 0 rfl) (M.out.blk 1 rfl) (M.out.sl HS.out)).mono ?_); rintro e w_ ⟨rfl, N_⟩; have m := M.out.join N_; clear N_; simp only [List.cons_append, List.nil_append, List.append_nil] at m; have M := Lib.hid m; clear m; rw [HD.out])
        | (go_at_call 92; go_must (refine (within_any _ _ _ _).mono ?_); rintro e w_ ⟨rfl, rfl⟩; rw [HQ.out])
        | ((with_reducible refine gate_dst (N := 23) rfl ?_); go_must (refine M.out.ev_bs0 elem_int64 rfl rfl ?_); intro g23 w23 m; simp only [List.cons_append, List.nil_append] at m; have M := Lib.hid m; clear m)
        | ((with_reducible refine gate_dst (N := 4) rfl ?_); go_must (refine M.out.ev_new rfl (by first | (go_simp; done) | (go_simp; rfl)) ?_); intro g4 w4 m; simp only [List.cons_append, List.nil_append, zeroFld] at m; have M := Lib.hid m; clear m)
        | ((with_reducible refine gate_dst (N := 5) rfl ?_); go_must (refine M.out.ev_new rfl (by first | (go_simp; done) | (go_simp; rfl)) ?_); intro g5 w5 m; simp only [List.cons_append, List.nil_append, zeroFld] at m; have M := Lib.hid m; clear m)
        | ((with_reducible refine gate_dst (N := 8) rfl ?_); go_must (refine M.out.ev_new rfl (by first | (go_simp; done) | (go_simp; rfl)) ?_); intro g8 w8 m; simp only [List.cons_append, List.nil_append, zeroFld] at m; have M := Lib.hid m; clear m)
        | ((with_reducible refine gate_store (x := .tmp 8) rfl ?_); go_must (refine M.out.ev_stw 2 _ _ _ rfl rfl rfl rfl _ rfl (by first | rfl | (simp only [S1.out]; rfl) | (simp only [S1.out, S2.out]; rfl) | (simp only [S3.out]; rfl) | (simp only [S1.out, S2.out, S3.out]; rfl)) (by first | exact sz35 | (rw [S1.out]; exact sz35) | (rw [S2.out]; exact sz35) | (rw [S3.out]; exact sz35)) (by first | exact ints_one _ _ | exact Fld.one _ | exact O1.out | rfl | (simp [Value.oneCell']; done)) rfl ?_); intro wn m; simp only [List.set_cons_succ, List.set_cons_zero, List.setIfInBounds_toArray, zeroFld] at m; have M := Lib.hid m; clear m)
        | ((with_reducible refine gate_store (x := .tmp 8) rfl ?_); go_must (refine M.out.ev_stw 2 _ _ _ rfl rfl rfl rfl _ rfl (by first | rfl | (simp only [S1.out]; rfl) | (simp only [S1.out, S2.out]; rfl) | (simp only [S3.out]; rfl) | (simp only [S1.out, S2.out, S3.out]; rfl)) (by first | exact sz35 | (rw [S1.out]; exact sz35) | (rw [S2.out]; exact sz35) | (rw [S3.out]; exact sz35)) (by first | exact ints_one _ _ | exact Fld.one _ | exact O1.out | rfl | (simp [Value.oneCell']; done)) rfl ?_); intro wn m; simp only [List.set_cons_succ, List.set_cons_zero, List.setIfInBounds_toArray, zeroFld] at m; have M := Lib.hid m; clear m)
        | ((with_reducible refine gate_dst (N := 37) rfl ?_); go_must (refine M.out.ev_ldw 0 _ _ rfl rfl rfl Try.underlying35 rfl (by first | exact sz35 | (rw [S1.out]; exact sz35) | (rw [S2.out]; exact sz35) | (rw [S3.out]; exact sz35)) rfl ?_))
        | ((with_reducible refine gate_store (x := .tmp 8) rfl ?_); go_must (refine M.out.ev_stw 2 _ _ _ rfl rfl rfl rfl _ rfl (by first | rfl | (simp only [S1.out]; rfl) | (simp only [S1.out, S2.out]; rfl) | (simp only [S3.out]; rfl) | (simp only [S1.out, S2.out, S3.out]; rfl)) (by first | exact sz35 | (rw [S1.out]; exact sz35) | (rw [S2.out]; exact sz35) | (rw [S3.out]; exact sz35)) (by first | exact ints_one _ _ | exact Fld.one _ | exact O1.out | rfl | (simp [Value.oneCell']; done)) rfl ?_); intro wn m; simp only [List.set_cons_succ, List.set_cons_zero, List.setIfInBounds_toArray, zeroFld] at m; have M := Lib.hid m; clear m)
        )
      go_loopw [11, 25] (fun s v wr => ∃ k : Nat, k ≤ q ∧ v = .int .i64 k ∧ Mem w wr [.blk g4 35 (fdTo F fs xs k).1.cells, .blk g5 37 (ints .i16 fs), .blk g8 35 Fld.z.cells, .row s 2 1 (fdTo F fs xs k).2.length (flat oneI (fdTo F fs xs k).2)])
        (fun _ v _ => q - (intOf v).toNat)
      case atStart => exact ⟨0, by omega, rfl, M.out⟩
      case round =>
        clear M
        obtain ⟨k, hk, rfl, mm⟩ := hrel
        have M := Lib.hid mm
        clear mm
        have hok := fdTo_ok HF.out fs HB.out.1 k
        have hln := fdTo_len F fs xs k
        by_cases hlt : k < q
        · have hy := dayOf_ok hok fs HB.out.1
          have HSU := Lib.hid (show fdTo F fs xs (k + 1) = ((dayOf (fdTo F fs xs k).1 fs xs).1, (fdTo F fs xs k).2 ++ [seedSum (fdTo F fs xs k).1 100 - seedSum (dayOf (fdTo F fs xs k).1 fs xs).1 100]) from rfl)
          obtain ⟨D, hD⟩ : ∃ D, D = fdTo F fs xs k := ⟨_, rfl⟩
          rw [← hD] at M HSU hok hln hy
          have DA := Lib.hid (fun (wx : World) (E1 E2 : Ent) (ga gb : Nat) (m0 : Mem w wx [.blk ga 35 D.1.cells, .blk gb 37 (ints .i16 fs), E1, E2]) => feedAll_any ga gb D.1 hok fs hfl HFF.out A n xs HB.out.1 HB.out.2 m0 HS.out)
          obtain ⟨Y, hY⟩ : ∃ Y, Y = dayOf D.1 fs xs := ⟨_, rfl⟩
          rw [← hY] at DA HSU hy
          clear hD hY
          have b1 := seedSum_b hok 100
          have b2 := seedSum_b hy 100
          have e1 : IntKind.i64.wrap (seedSum D.1 100 - seedSum Y.1 100) = seedSum D.1 100 - seedSum Y.1 100 := IntWalk.i64_in _ (by omega)
          have HOK := Lib.hid hok
          have HY := Lib.hid hy
          have S3 := Lib.hid (Fld.size hok.toLen)
          have S4 := Lib.hid (Fld.size hy.toLen)
          have O2 := Lib.hid (Fld.one Y.1)
          clear b1 b2 hok hy
          go_wp2_with (first
            | (go_at_call 113; go_must (first | (refine Calls.mono (seedsIn_any _ D.1 HOK.out _ (M.out.blk 0 rfl)) ?_) | (refine Calls.mono (seedsIn_any _ Y.1 HY.out _ (M.out.blk 0 rfl)) ?_)); rintro e w_ ⟨rfl, rfl⟩)
            | (go_at_call 111; go_must (refine (DA.out _ _ _ _ _ M.out).mono ?_); rintro e w_ ⟨A1, c1, A2, c2, rfl, hc1, hc2, m⟩; have M := Lib.hid m; clear m)
            | ((with_reducible refine gate_dst (N := 34) rfl ?_); go_must (refine M.out.ev_bs1 elem_int64 rfl _ rfl #[.int .i64 (seedSum D.1 100 - seedSum Y.1 100)] rfl rfl (by decide) ?_); intro g34 w34 m; simp only [List.cons_append, List.nil_append] at m; have M := Lib.hid m; clear m)
            | ((with_reducible refine gate_dst (N := 35) rfl ?_); go_must (refine M.out.ev_append1 3 6 elem_int64 rfl _ _ rfl rfl rfl rfl rfl rfl (by simp [Value.oneCell']) (by omega) (by decide) ?_); intro v35 w35 m; simp only [List.set_cons_succ, List.set_cons_zero] at m; have M := Lib.hid m; clear m)
            )
          refine ⟨⟨k + 1, by omega, by go_num, ?_⟩, by simp [intOf]; omega⟩
          have mm := M.out.take 4
          rw [HSU.out]
          simp only [List.length_append, flat_append, flat_oneI, List.map_append, List.map_cons, List.map_nil, List.length_cons, List.length_nil, Nat.zero_add]
          simp only [flat_oneI] at mm
          exact mm
        · obtain rfl : k = q := by omega
          obtain ⟨D, hD⟩ : ∃ D, D = fdTo F fs xs k := ⟨_, rfl⟩
          rw [← hD] at M HR HV hok
          obtain ⟨A1, c1, rfl, h1, _⟩ := M.out.row_slice 3 rfl
          have S3 := Lib.hid (Fld.size hok.toLen)
          have O2 := Lib.hid (Fld.one D.1)
          clear hD hok
          go_wp2_with (first
            | ((with_reducible refine gate_dst (N := 37) rfl ?_); go_must (refine M.out.ev_ldw 0 _ _ rfl rfl rfl Try.underlying35 rfl (by rw [S3.out]; exact sz35) rfl ?_))
            | ((with_reducible refine gate_store (x := .tmp 8) rfl ?_); go_must (refine M.out.ev_stw 2 _ _ _ rfl rfl rfl rfl D.1.cells rfl (by rw [S2.out, S3.out]) (by rw [S3.out]; exact sz35) O2.out rfl ?_); intro wn m; simp only [List.set_cons_succ, List.set_cons_zero] at m; have M := Lib.hid m; clear m)
            )
          refine ret_ctt rfl ((M.out.blk 2 rfl).var Try.underlying35 rfl (by rw [S3.out]; exact sz35)) ?_
          rw [HR.out, HV.out, HE.out]
          exact ⟨_, _, rfl, h1, M.out.only [3] (K := [_]) rfl (by decide)⟩
set_option maxRecDepth 100000 in
set_option maxHeartbeats 4000000 in
theorem spec_FeedDays_any (F : Fld) (hF : F.ok) (fs : List Int) (hfl : fs.length = 100) (hff : ∀ x ∈ fs, -32768 ≤ x ∧ x ≤ 32767) (A : Option Addr) (n : Nat) (xs : List Flock) (hx : ∀ x ∈ xs, x.ok) (hl : xs.length ≤ 1048576) (d : Int) (w : World) (hs : Sl w 6 A xs.length (flat Flock.vals xs)) :
    Calls Try.prog 61 #[.agg F.cells, .agg (ints .i16 fs), .slice A xs.length n, .int .i64 d] w (RetFI w (fdF F fs xs d) (fdI F fs xs d) (fdCode F fs xs d)) := by
  have M := Lib.hid (Mem.start w)
  have HFF := Lib.hid hff
  have HF := Lib.hid hF
  have HX := Lib.hid hx
  have HS := Lib.hid hs
  have S1 := Lib.hid (Fld.size hF.toLen)
  have S2 := Lib.hid (Fld.size Fld.z_len)
  have O1 := Lib.hid (Fld.one Fld.z)
  clear hx hs hff hF
  cases hd : birdsOk F fs xs
  · have HD := Lib.hid hd
    have HC := Lib.hid (show birdsCode F fs xs = 1 by rw [birdsCode, hd]; rfl)
    have HE := Lib.hid (show fdCode F fs xs d = 1 by simp [fdCode, hd])
    clear hd
    go_enter Try.func61, Try.ntmps61
    go_wp2_with (first
      | ((with_reducible refine gate_dst (N := 8) rfl ?_); go_must (refine M.out.ev_new rfl (by first | (go_simp; done) | (go_simp; rfl)) ?_); intro g8 w8 m; simp only [List.cons_append, List.nil_append, zeroFld] at m; have M := Lib.hid m; clear m)
      | (go_at_call 109; go_must (refine (l02All_any _ _ F HF.out fs hfl HFF.out A n xs HX.out hl _ (M.out.blk 0 rfl) (M.out.blk 1 rfl) (M.out.sl HS.out)).mono ?_); rintro e w_ ⟨rfl, rfl⟩; rw [HC.out])
      | ((with_reducible refine gate_dst (N := 29) rfl ?_); go_must (refine M.out.ev_bs0 elem_int64 rfl rfl ?_); intro g29 w29 m; simp only [List.cons_append, List.nil_append] at m; have M := Lib.hid m; clear m)
      | ((with_reducible refine gate_dst (N := 4) rfl ?_); go_must (refine M.out.ev_new rfl (by first | (go_simp; done) | (go_simp; rfl)) ?_); intro g4 w4 m; simp only [List.cons_append, List.nil_append, zeroFld] at m; have M := Lib.hid m; clear m)
      | ((with_reducible refine gate_dst (N := 5) rfl ?_); go_must (refine M.out.ev_new rfl (by first | (go_simp; done) | (go_simp; rfl)) ?_); intro g5 w5 m; simp only [List.cons_append, List.nil_append, zeroFld] at m; have M := Lib.hid m; clear m)
      | ((with_reducible refine gate_dst (N := 8) rfl ?_); go_must (refine M.out.ev_new rfl (by first | (go_simp; done) | (go_simp; rfl)) ?_); intro g8 w8 m; simp only [List.cons_append, List.nil_append, zeroFld] at m; have M := Lib.hid m; clear m)
      | ((with_reducible refine gate_store (x := .tmp 8) rfl ?_); go_must (refine M.out.ev_stw 2 _ _ _ rfl rfl rfl rfl _ rfl (by first | rfl | (simp only [S1.out]; rfl) | (simp only [S1.out, S2.out]; rfl) | (simp only [S3.out]; rfl) | (simp only [S1.out, S2.out, S3.out]; rfl)) (by first | exact sz35 | (rw [S1.out]; exact sz35) | (rw [S2.out]; exact sz35) | (rw [S3.out]; exact sz35)) (by first | exact ints_one _ _ | exact Fld.one _ | exact O1.out | rfl | (simp [Value.oneCell']; done)) rfl ?_); intro wn m; simp only [List.set_cons_succ, List.set_cons_zero, List.setIfInBounds_toArray, zeroFld] at m; have M := Lib.hid m; clear m)
      | ((with_reducible refine gate_dst (N := 39) rfl ?_); go_must (refine M.out.ev_ldw 0 _ _ rfl rfl rfl Try.underlying35 rfl (by first | exact sz35 | (rw [S1.out]; exact sz35) | (rw [S2.out]; exact sz35) | (rw [S3.out]; exact sz35)) rfl ?_))
      | ((with_reducible refine gate_dst (N := 15) rfl ?_); go_must (refine M.out.ev_new rfl (by first | (go_simp; done) | (go_simp; rfl)) ?_); intro g15 w15 m; simp only [List.cons_append, List.nil_append, zeroFld] at m; have M := Lib.hid m; clear m)
      | ((with_reducible refine gate_store (x := .tmp 15) rfl ?_); go_must (refine M.out.ev_stw 3 _ _ _ rfl rfl rfl rfl _ rfl (by first | rfl | (simp only [S1.out]; rfl) | (simp only [S1.out, S2.out]; rfl) | (simp only [S3.out]; rfl) | (simp only [S1.out, S2.out, S3.out]; rfl)) (by first | exact sz35 | (rw [S1.out]; exact sz35) | (rw [S2.out]; exact sz35) | (rw [S3.out]; exact sz35)) (by first | exact ints_one _ _ | exact Fld.one _ | exact O1.out | rfl | (simp [Value.oneCell']; done)) rfl ?_); intro wn m; simp only [List.set_cons_succ, List.set_cons_zero, List.setIfInBounds_toArray, zeroFld] at m; have M := Lib.hid m; clear m)
      | ((with_reducible refine gate_dst (N := 44) rfl ?_); go_must (refine M.out.ev_ldw 3 _ _ rfl rfl rfl Try.underlying35 rfl (by first | exact sz35 | (rw [S1.out]; exact sz35) | (rw [S2.out]; exact sz35) | (rw [S3.out]; exact sz35)) rfl ?_))
      | ((with_reducible refine gate_store (x := .tmp 4) rfl ?_); go_must (refine M.out.ev_stw 0 _ _ _ rfl rfl rfl rfl _ rfl (by first | rfl | (simp only [S1.out]; rfl) | (simp only [S1.out, S2.out]; rfl) | (simp only [S3.out]; rfl) | (simp only [S1.out, S2.out, S3.out]; rfl)) (by first | exact sz35 | (rw [S1.out]; exact sz35) | (rw [S2.out]; exact sz35) | (rw [S3.out]; exact sz35)) (by first | exact ints_one _ _ | exact Fld.one _ | exact O1.out | rfl | (simp [Value.oneCell']; done)) rfl ?_); intro wn m; simp only [List.set_cons_succ, List.set_cons_zero, List.setIfInBounds_toArray, zeroFld] at m; have M := Lib.hid m; clear m)
      | ((with_reducible refine gate_dst (N := 51) rfl ?_); go_must (refine M.out.ev_ldw 0 _ _ rfl rfl rfl Try.underlying35 rfl (by first | exact sz35 | (rw [S1.out]; exact sz35) | (rw [S2.out]; exact sz35) | (rw [S3.out]; exact sz35)) rfl ?_))
      | ((with_reducible refine gate_store (x := .tmp 8) rfl ?_); go_must (refine M.out.ev_stw 2 _ _ _ rfl rfl rfl rfl _ rfl (by first | rfl | (simp only [S1.out]; rfl) | (simp only [S1.out, S2.out]; rfl) | (simp only [S3.out]; rfl) | (simp only [S1.out, S2.out, S3.out]; rfl)) (by first | exact sz35 | (rw [S1.out]; exact sz35) | (rw [S2.out]; exact sz35) | (rw [S3.out]; exact sz35)) (by first | exact ints_one _ _ | exact Fld.one _ | exact O1.out | rfl | (simp [Value.oneCell']; done)) rfl ?_); intro wn m; simp only [List.set_cons_succ, List.set_cons_zero, List.setIfInBounds_toArray, zeroFld] at m; have M := Lib.hid m; clear m)
      )
    refine ret_ctt rfl ((M.out.blk 2 rfl).var Try.underlying35 rfl (by rw [S2.out]; exact sz35)) ?_
    have m := M.out.only [3] (K := [_]) rfl (by decide)
    simp only [RetFI, fdF, fdI, HE.out]
    exact ⟨_, 0, rfl, Nat.le_refl _, m⟩
  · cases hq : inB d 0 60
    · have HD := Lib.hid hd
      have HQ := Lib.hid hq
      have HC := Lib.hid (show birdsCode F fs xs = 0 by rw [birdsCode, hd]; rfl)
      have HE := Lib.hid (show fdCode F fs xs d = 2 by simp [fdCode, hd, hq])
      clear hd hq
      go_enter Try.func61, Try.ntmps61
      go_wp2_with (first
        | ((with_reducible refine gate_dst (N := 8) rfl ?_); go_must (refine M.out.ev_new rfl (by first | (go_simp; done) | (go_simp; rfl)) ?_); intro g8 w8 m; simp only [List.cons_append, List.nil_append, zeroFld] at m; have M := Lib.hid m; clear m)
        | (go_at_call 109; go_must (refine (l02All_any _ _ F HF.out fs hfl HFF.out A n xs HX.out hl _ (M.out.blk 0 rfl) (M.out.blk 1 rfl) (M.out.sl HS.out)).mono ?_); rintro e w_ ⟨rfl, rfl⟩; rw [HC.out])
        | (go_at_call 90; go_must (refine (l00In_any _ _ _ _).mono ?_); rintro e w_ ⟨rfl, rfl⟩; rw [HQ.out])
        | ((with_reducible refine gate_dst (N := 29) rfl ?_); go_must (refine M.out.ev_bs0 elem_int64 rfl rfl ?_); intro g29 w29 m; simp only [List.cons_append, List.nil_append] at m; have M := Lib.hid m; clear m)
        | ((with_reducible refine gate_dst (N := 4) rfl ?_); go_must (refine M.out.ev_new rfl (by first | (go_simp; done) | (go_simp; rfl)) ?_); intro g4 w4 m; simp only [List.cons_append, List.nil_append, zeroFld] at m; have M := Lib.hid m; clear m)
        | ((with_reducible refine gate_dst (N := 5) rfl ?_); go_must (refine M.out.ev_new rfl (by first | (go_simp; done) | (go_simp; rfl)) ?_); intro g5 w5 m; simp only [List.cons_append, List.nil_append, zeroFld] at m; have M := Lib.hid m; clear m)
        | ((with_reducible refine gate_dst (N := 8) rfl ?_); go_must (refine M.out.ev_new rfl (by first | (go_simp; done) | (go_simp; rfl)) ?_); intro g8 w8 m; simp only [List.cons_append, List.nil_append, zeroFld] at m; have M := Lib.hid m; clear m)
        | ((with_reducible refine gate_store (x := .tmp 8) rfl ?_); go_must (refine M.out.ev_stw 2 _ _ _ rfl rfl rfl rfl _ rfl (by first | rfl | (simp only [S1.out]; rfl) | (simp only [S1.out, S2.out]; rfl) | (simp only [S3.out]; rfl) | (simp only [S1.out, S2.out, S3.out]; rfl)) (by first | exact sz35 | (rw [S1.out]; exact sz35) | (rw [S2.out]; exact sz35) | (rw [S3.out]; exact sz35)) (by first | exact ints_one _ _ | exact Fld.one _ | exact O1.out | rfl | (simp [Value.oneCell']; done)) rfl ?_); intro wn m; simp only [List.set_cons_succ, List.set_cons_zero, List.setIfInBounds_toArray, zeroFld] at m; have M := Lib.hid m; clear m)
        | ((with_reducible refine gate_dst (N := 39) rfl ?_); go_must (refine M.out.ev_ldw 0 _ _ rfl rfl rfl Try.underlying35 rfl (by first | exact sz35 | (rw [S1.out]; exact sz35) | (rw [S2.out]; exact sz35) | (rw [S3.out]; exact sz35)) rfl ?_))
        | ((with_reducible refine gate_dst (N := 15) rfl ?_); go_must (refine M.out.ev_new rfl (by first | (go_simp; done) | (go_simp; rfl)) ?_); intro g15 w15 m; simp only [List.cons_append, List.nil_append, zeroFld] at m; have M := Lib.hid m; clear m)
        | ((with_reducible refine gate_store (x := .tmp 15) rfl ?_); go_must (refine M.out.ev_stw 3 _ _ _ rfl rfl rfl rfl _ rfl (by first | rfl | (simp only [S1.out]; rfl) | (simp only [S1.out, S2.out]; rfl) | (simp only [S3.out]; rfl) | (simp only [S1.out, S2.out, S3.out]; rfl)) (by first | exact sz35 | (rw [S1.out]; exact sz35) | (rw [S2.out]; exact sz35) | (rw [S3.out]; exact sz35)) (by first | exact ints_one _ _ | exact Fld.one _ | exact O1.out | rfl | (simp [Value.oneCell']; done)) rfl ?_); intro wn m; simp only [List.set_cons_succ, List.set_cons_zero, List.setIfInBounds_toArray, zeroFld] at m; have M := Lib.hid m; clear m)
        | ((with_reducible refine gate_dst (N := 44) rfl ?_); go_must (refine M.out.ev_ldw 3 _ _ rfl rfl rfl Try.underlying35 rfl (by first | exact sz35 | (rw [S1.out]; exact sz35) | (rw [S2.out]; exact sz35) | (rw [S3.out]; exact sz35)) rfl ?_))
        | ((with_reducible refine gate_store (x := .tmp 4) rfl ?_); go_must (refine M.out.ev_stw 0 _ _ _ rfl rfl rfl rfl _ rfl (by first | rfl | (simp only [S1.out]; rfl) | (simp only [S1.out, S2.out]; rfl) | (simp only [S3.out]; rfl) | (simp only [S1.out, S2.out, S3.out]; rfl)) (by first | exact sz35 | (rw [S1.out]; exact sz35) | (rw [S2.out]; exact sz35) | (rw [S3.out]; exact sz35)) (by first | exact ints_one _ _ | exact Fld.one _ | exact O1.out | rfl | (simp [Value.oneCell']; done)) rfl ?_); intro wn m; simp only [List.set_cons_succ, List.set_cons_zero, List.setIfInBounds_toArray, zeroFld] at m; have M := Lib.hid m; clear m)
        | ((with_reducible refine gate_dst (N := 51) rfl ?_); go_must (refine M.out.ev_ldw 0 _ _ rfl rfl rfl Try.underlying35 rfl (by first | exact sz35 | (rw [S1.out]; exact sz35) | (rw [S2.out]; exact sz35) | (rw [S3.out]; exact sz35)) rfl ?_))
        | ((with_reducible refine gate_store (x := .tmp 8) rfl ?_); go_must (refine M.out.ev_stw 2 _ _ _ rfl rfl rfl rfl _ rfl (by first | rfl | (simp only [S1.out]; rfl) | (simp only [S1.out, S2.out]; rfl) | (simp only [S3.out]; rfl) | (simp only [S1.out, S2.out, S3.out]; rfl)) (by first | exact sz35 | (rw [S1.out]; exact sz35) | (rw [S2.out]; exact sz35) | (rw [S3.out]; exact sz35)) (by first | exact ints_one _ _ | exact Fld.one _ | exact O1.out | rfl | (simp [Value.oneCell']; done)) rfl ?_); intro wn m; simp only [List.set_cons_succ, List.set_cons_zero, List.setIfInBounds_toArray, zeroFld] at m; have M := Lib.hid m; clear m)
        )
      refine ret_ctt rfl ((M.out.blk 2 rfl).var Try.underlying35 rfl (by rw [S2.out]; exact sz35)) ?_
      have m := M.out.only [3] (K := [_]) rfl (by decide)
      simp only [RetFI, fdF, fdI, HE.out]
      exact ⟨_, 0, rfl, Nat.le_refl _, m⟩
    · have HD := Lib.hid hd
      have HQ := Lib.hid hq
      have HC := Lib.hid (show birdsCode F fs xs = 0 by rw [birdsCode, hd]; rfl)
      have HE := Lib.hid (show fdCode F fs xs d = 0 by simp [fdCode, hd, hq])
      have hb := birds_all hd
      have HB := Lib.hid hb
      obtain ⟨d0, d1⟩ := inB_iff.1 hq
      obtain ⟨q, rfl⟩ : ∃ q : Nat, d = q := ⟨d.toNat, by omega⟩
      have HR := Lib.hid (show fdF F fs xs (q : Int) = (fdTo F fs xs q).1 by rw [fdF, if_pos HE.out, Int.toNat_natCast])
      have HV := Lib.hid (show fdI F fs xs (q : Int) = (fdTo F fs xs q).2 by rw [fdI, if_pos HE.out, Int.toNat_natCast])
      clear hd hq hb
      go_enter Try.func61, Try.ntmps61
      go_wp2_with (first
        | ((with_reducible refine gate_dst (N := 8) rfl ?_); go_must (refine M.out.ev_new rfl (by first | (go_simp; done) | (go_simp; rfl)) ?_); intro g8 w8 m; simp only [List.cons_append, List.nil_append, zeroFld] at m; have M := Lib.hid m; clear m)
        | (go_at_call 109; go_must (refine (l02All_any _ _ F HF.out fs hfl HFF.out A n xs HX.out hl _ (M.out.blk 0 rfl) (M.out.blk 1 rfl) (M.out.sl HS.out)).mono ?_); rintro e w_ ⟨rfl, rfl⟩; rw [HC.out])
        | (go_at_call 90; go_must (refine (l00In_any _ _ _ _).mono ?_); rintro e w_ ⟨rfl, rfl⟩; rw [HQ.out])
        | ((with_reducible refine gate_dst (N := 31) rfl ?_); go_must (refine M.out.ev_bs0 elem_int64 rfl rfl ?_); intro g31 w31 m; simp only [List.cons_append, List.nil_append] at m; have M := Lib.hid m; clear m)
        | ((with_reducible refine gate_dst (N := 4) rfl ?_); go_must (refine M.out.ev_new rfl (by first | (go_simp; done) | (go_simp; rfl)) ?_); intro g4 w4 m; simp only [List.cons_append, List.nil_append, zeroFld] at m; have M := Lib.hid m; clear m)
        | ((with_reducible refine gate_dst (N := 5) rfl ?_); go_must (refine M.out.ev_new rfl (by first | (go_simp; done) | (go_simp; rfl)) ?_); intro g5 w5 m; simp only [List.cons_append, List.nil_append, zeroFld] at m; have M := Lib.hid m; clear m)
        | ((with_reducible refine gate_dst (N := 8) rfl ?_); go_must (refine M.out.ev_new rfl (by first | (go_simp; done) | (go_simp; rfl)) ?_); intro g8 w8 m; simp only [List.cons_append, List.nil_append, zeroFld] at m; have M := Lib.hid m; clear m)
        | ((with_reducible refine gate_store (x := .tmp 8) rfl ?_); go_must (refine M.out.ev_stw 2 _ _ _ rfl rfl rfl rfl _ rfl (by first | rfl | (simp only [S1.out]; rfl) | (simp only [S1.out, S2.out]; rfl) | (simp only [S3.out]; rfl) | (simp only [S1.out, S2.out, S3.out]; rfl)) (by first | exact sz35 | (rw [S1.out]; exact sz35) | (rw [S2.out]; exact sz35) | (rw [S3.out]; exact sz35)) (by first | exact ints_one _ _ | exact Fld.one _ | exact O1.out | rfl | (simp [Value.oneCell']; done)) rfl ?_); intro wn m; simp only [List.set_cons_succ, List.set_cons_zero, List.setIfInBounds_toArray, zeroFld] at m; have M := Lib.hid m; clear m)
        | ((with_reducible refine gate_dst (N := 39) rfl ?_); go_must (refine M.out.ev_ldw 0 _ _ rfl rfl rfl Try.underlying35 rfl (by first | exact sz35 | (rw [S1.out]; exact sz35) | (rw [S2.out]; exact sz35) | (rw [S3.out]; exact sz35)) rfl ?_))
        | ((with_reducible refine gate_dst (N := 15) rfl ?_); go_must (refine M.out.ev_new rfl (by first | (go_simp; done) | (go_simp; rfl)) ?_); intro g15 w15 m; simp only [List.cons_append, List.nil_append, zeroFld] at m; have M := Lib.hid m; clear m)
        | ((with_reducible refine gate_store (x := .tmp 15) rfl ?_); go_must (refine M.out.ev_stw 3 _ _ _ rfl rfl rfl rfl _ rfl (by first | rfl | (simp only [S1.out]; rfl) | (simp only [S1.out, S2.out]; rfl) | (simp only [S3.out]; rfl) | (simp only [S1.out, S2.out, S3.out]; rfl)) (by first | exact sz35 | (rw [S1.out]; exact sz35) | (rw [S2.out]; exact sz35) | (rw [S3.out]; exact sz35)) (by first | exact ints_one _ _ | exact Fld.one _ | exact O1.out | rfl | (simp [Value.oneCell']; done)) rfl ?_); intro wn m; simp only [List.set_cons_succ, List.set_cons_zero, List.setIfInBounds_toArray, zeroFld] at m; have M := Lib.hid m; clear m)
        | ((with_reducible refine gate_dst (N := 44) rfl ?_); go_must (refine M.out.ev_ldw 3 _ _ rfl rfl rfl Try.underlying35 rfl (by first | exact sz35 | (rw [S1.out]; exact sz35) | (rw [S2.out]; exact sz35) | (rw [S3.out]; exact sz35)) rfl ?_))
        | ((with_reducible refine gate_store (x := .tmp 4) rfl ?_); go_must (refine M.out.ev_stw 0 _ _ _ rfl rfl rfl rfl _ rfl (by first | rfl | (simp only [S1.out]; rfl) | (simp only [S1.out, S2.out]; rfl) | (simp only [S3.out]; rfl) | (simp only [S1.out, S2.out, S3.out]; rfl)) (by first | exact sz35 | (rw [S1.out]; exact sz35) | (rw [S2.out]; exact sz35) | (rw [S3.out]; exact sz35)) (by first | exact ints_one _ _ | exact Fld.one _ | exact O1.out | rfl | (simp [Value.oneCell']; done)) rfl ?_); intro wn m; simp only [List.set_cons_succ, List.set_cons_zero, List.setIfInBounds_toArray, zeroFld] at m; have M := Lib.hid m; clear m)
        | ((with_reducible refine gate_dst (N := 51) rfl ?_); go_must (refine M.out.ev_ldw 0 _ _ rfl rfl rfl Try.underlying35 rfl (by first | exact sz35 | (rw [S1.out]; exact sz35) | (rw [S2.out]; exact sz35) | (rw [S3.out]; exact sz35)) rfl ?_))
        | ((with_reducible refine gate_store (x := .tmp 8) rfl ?_); go_must (refine M.out.ev_stw 2 _ _ _ rfl rfl rfl rfl _ rfl (by first | rfl | (simp only [S1.out]; rfl) | (simp only [S1.out, S2.out]; rfl) | (simp only [S3.out]; rfl) | (simp only [S1.out, S2.out, S3.out]; rfl)) (by first | exact sz35 | (rw [S1.out]; exact sz35) | (rw [S2.out]; exact sz35) | (rw [S3.out]; exact sz35)) (by first | exact ints_one _ _ | exact Fld.one _ | exact O1.out | rfl | (simp [Value.oneCell']; done)) rfl ?_); intro wn m; simp only [List.set_cons_succ, List.set_cons_zero, List.setIfInBounds_toArray, zeroFld] at m; have M := Lib.hid m; clear m)
        )
      go_loopw [12, 13] (fun s v wr => ∃ k : Nat, k ≤ q ∧ v = .int .i64 k ∧ Mem w wr [.blk g4 35 (fdTo F fs xs k).1.cells, .blk g5 37 (ints .i16 fs), .blk g8 35 Fld.z.cells, .row s 2 1 (fdTo F fs xs k).2.length (flat oneI (fdTo F fs xs k).2)])
        (fun _ v _ => q - (intOf v).toNat)
      case atStart => exact ⟨0, by omega, rfl, M.out⟩
      case round =>
        clear M
        obtain ⟨k, hk, rfl, mm⟩ := hrel
        have M := Lib.hid mm
        clear mm
        have hok := fdTo_ok HF.out fs HB.out.1 k
        have hln := fdTo_len F fs xs k
        by_cases hlt : k < q
        · have hy := dayOf_ok hok fs HB.out.1
          have HSU := Lib.hid (show fdTo F fs xs (k + 1) = ((dayOf (fdTo F fs xs k).1 fs xs).1, (fdTo F fs xs k).2 ++ [seedSum (fdTo F fs xs k).1 100 - seedSum (dayOf (fdTo F fs xs k).1 fs xs).1 100]) from rfl)
          obtain ⟨D, hD⟩ : ∃ D, D = fdTo F fs xs k := ⟨_, rfl⟩
          rw [← hD] at M HSU hok hln hy
          have DA := Lib.hid (fun (wx : World) (gb : Nat) (h1 : Blk wx gb 37 (ints .i16 fs)) (h2 : Sl wx 6 A xs.length (flat Flock.vals xs)) => l02Day_any gb D.1 hok fs hfl HFF.out A n xs HB.out.1 HB.out.2 wx h1 h2)
          obtain ⟨Y, hY⟩ : ∃ Y, Y = dayOf D.1 fs xs := ⟨_, rfl⟩
          rw [← hY] at DA HSU hy
          clear hD hY
          have b1 := seedSum_b hok 100
          have b2 := seedSum_b hy 100
          have e1 : IntKind.i64.wrap (seedSum D.1 100 - seedSum Y.1 100) = seedSum D.1 100 - seedSum Y.1 100 := IntWalk.i64_in _ (by omega)
          have HOK := Lib.hid hok
          have HY := Lib.hid hy
          have S3 := Lib.hid (Fld.size hok.toLen)
          have S4 := Lib.hid (Fld.size hy.toLen)
          have O2 := Lib.hid (Fld.one Y.1)
          clear b1 b2 hok hy
          go_wp2_with (first
            | (go_at_call 112; go_must (first | (refine Calls.mono (l01Sum_any _ D.1 HOK.out _ (M.out.blk 0 rfl)) ?_) | (refine Calls.mono (l01Sum_any _ Y.1 HY.out _ (M.out.blk 0 rfl)) ?_)); rintro e w_ ⟨rfl, rfl⟩)
            | ((with_reducible refine gate_dst (N := 39) rfl ?_); go_must (refine M.out.ev_ldw 0 _ _ rfl rfl rfl Try.underlying35 rfl (by rw [S3.out]; exact sz35) rfl ?_))
            | (go_at_call 110; go_must (refine (DA.out _ _ (M.out.blk 1 rfl) (M.out.sl HS.out)).mono ?_); rintro e w_ ⟨A_, c_, rfl, hc_, N_⟩; have m := M.out.join N_; clear N_; simp only [List.cons_append, List.nil_append, List.append_nil] at m; have M := Lib.hid m; clear m)
            | ((with_reducible refine gate_dst (N := 15) rfl ?_); go_must (refine M.out.ev_new rfl (by first | (go_simp; done) | (go_simp; rfl)) ?_); intro g15 w15 m; simp only [List.cons_append, List.nil_append, zeroFld] at m; have M := Lib.hid m; clear m)
            | ((with_reducible refine gate_store (x := .tmp 15) rfl ?_); go_must (refine M.out.ev_stw 5 _ _ _ rfl rfl rfl rfl Y.1.cells rfl (by rw [S2.out, S4.out]) (by rw [S4.out]; exact sz35) O2.out rfl ?_); intro wn m; simp only [List.set_cons_succ, List.set_cons_zero] at m; have M := Lib.hid m; clear m)
            | ((with_reducible refine gate_dst (N := 44) rfl ?_); go_must (refine M.out.ev_ldw 5 _ _ rfl rfl rfl Try.underlying35 rfl (by rw [S4.out]; exact sz35) rfl ?_))
            | ((with_reducible refine gate_store (x := .tmp 4) rfl ?_); go_must (refine M.out.ev_stw 0 _ _ _ rfl rfl rfl rfl Y.1.cells rfl (by rw [S3.out, S4.out]) (by rw [S4.out]; exact sz35) O2.out rfl ?_); intro wn m; simp only [List.set_cons_succ, List.set_cons_zero] at m; have M := Lib.hid m; clear m)
            | ((with_reducible refine gate_dst (N := 49) rfl ?_); go_must (refine M.out.ev_bs1 elem_int64 rfl _ rfl #[.int .i64 (seedSum D.1 100 - seedSum Y.1 100)] rfl rfl (by decide) ?_); intro g49 w49 m; simp only [List.cons_append, List.nil_append] at m; have M := Lib.hid m; clear m)
            | ((with_reducible refine gate_dst (N := 50) rfl ?_); go_must (refine M.out.ev_append1 3 6 elem_int64 rfl _ _ rfl rfl rfl rfl rfl rfl (by simp [Value.oneCell']) (by omega) (by decide) ?_); intro v50 w50 m; simp only [List.set_cons_succ, List.set_cons_zero] at m; have M := Lib.hid m; clear m)
            )
          refine ⟨⟨k + 1, by omega, by go_num, ?_⟩, by simp [intOf]; omega⟩
          have mm := M.out.take 4
          rw [HSU.out]
          simp only [List.length_append, flat_append, flat_oneI, List.map_append, List.map_cons, List.map_nil, List.length_cons, List.length_nil, Nat.zero_add]
          simp only [flat_oneI] at mm
          exact mm
        · obtain rfl : k = q := by omega
          obtain ⟨D, hD⟩ : ∃ D, D = fdTo F fs xs k := ⟨_, rfl⟩
          rw [← hD] at M HR HV hok
          obtain ⟨A1, c1, rfl, h1, _⟩ := M.out.row_slice 3 rfl
          have S3 := Lib.hid (Fld.size hok.toLen)
          have O2 := Lib.hid (Fld.one D.1)
          clear hD hok
          go_wp2_with (first
            | ((with_reducible refine gate_dst (N := 51) rfl ?_); go_must (refine M.out.ev_ldw 0 _ _ rfl rfl rfl Try.underlying35 rfl (by rw [S3.out]; exact sz35) rfl ?_))
            | ((with_reducible refine gate_store (x := .tmp 8) rfl ?_); go_must (refine M.out.ev_stw 2 _ _ _ rfl rfl rfl rfl D.1.cells rfl (by rw [S2.out, S3.out]) (by rw [S3.out]; exact sz35) O2.out rfl ?_); intro wn m; simp only [List.set_cons_succ, List.set_cons_zero] at m; have M := Lib.hid m; clear m)
            )
          refine ret_ctt rfl ((M.out.blk 2 rfl).var Try.underlying35 rfl (by rw [S3.out]; exact sz35)) ?_
          rw [HR.out, HV.out, HE.out]
          exact ⟨_, _, rfl, h1, M.out.only [3] (K := [_]) rfl (by decide)⟩
end Go.Proofs.Ytbjcajhbhicokaa
