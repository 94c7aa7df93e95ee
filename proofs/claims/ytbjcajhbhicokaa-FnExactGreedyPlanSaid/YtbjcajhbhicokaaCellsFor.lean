/- The cells to which a flock would go: the walks. -/
import Derived.Test.YtbjcajhbhicokaaBirds2
import Derived.Test.YtbjcajhbhicokaaScares
import Derived.Test.YtbjcajhbhicokaaThose
import Derived.Test.YtbjcajhbhicokaaSets2
namespace Go.Proofs.Ytbjcajhbhicokaa
set_option linter.unusedSimpArgs false
set_option linter.unusedVariables false
open Go.RowKit
attribute [local go_sem] cell?_mk frozen?_mk

theorem Mem.argrange {w0 w : World} {L : List Ent} (M : Mem w0 w L) {b off : Nat} {cs : List Value} (h : w0.rangeAt b off cs) : w.rangeAt b off cs := fun j v hj => M.argcell (h j v hj)
def goP (F : Fld) (fs : List Int) (x : Flock) (k : Nat) : Bool := decide (0 < F.seed k) && (decide (gi fs k ≤ x.bold) && decide (sq k x.tree ≤ x.reach))
def goSet (F : Fld) (fs : List Int) (x : Flock) : Cs := setOf (F.all.filter (goP F fs x))
set_option maxRecDepth 100000 in
set_option maxHeartbeats 400000 in
theorem l01Is_d (b : Nat) (F : Fld) (hF : F.ok) (c : Int) (w : World) (h0 : w.cell? ⟨b, 0, none⟩ = some (.int .i8 F.wide)) (h1 : w.cell? ⟨b, 1, none⟩ = some (.int .i8 F.high)) :
    Calls Try.prog 83 #[.pointer (some ⟨b, 0, none⟩), .int .i64 c] w fun e w' => e = .returned (.bool (F.has c)) ∧ w = w' := by
  have a0 := hF.w0
  have a1 := hF.w1
  have a2 := hF.h0
  have a3 := hF.h1
  clear hF
  cases hc : inB c 0 99
  · have HC := Lib.hid hc
    clear hc
    go_enter Try.func83, Try.ntmps83
    go_wp2_with (go_at_call 90; refine (l00In_any _ _ _ _).mono ?_; rintro e w' ⟨rfl, rfl⟩; rw [HC.out])
    go_ret
    exact ⟨ret_bool (by simp [Fld.has, HC.out]), rfl⟩
  · have HC := Lib.hid hc
    have hc2 := inB_iff.1 hc
    have b0 := hc2.1
    have b1 := hc2.2
    clear hc hc2
    go_enter Try.func83, Try.ntmps83
    go_wp2_with (go_at_call 90; refine (l00In_any _ _ _ _).mono ?_; rintro e w' ⟨rfl, rfl⟩; rw [HC.out])
    · have hw : c % 10 < F.wide := by assumption
      go_ret
      exact ⟨ret_bool (by simp [Fld.has, HC.out, hw]), rfl⟩
    · have hw : F.wide ≤ c % 10 := by assumption
      go_ret
      exact ⟨ret_bool (by simp [Fld.has, HC.out]; omega), rfl⟩
set_option maxRecDepth 100000 in
set_option maxHeartbeats 2000000 in
theorem goIs_any (g fb p off a b d : Nat) {t tf ta tb td : TypeId} (F : Fld) (hF : F.ok) (fs : List Int) (hfl : fs.length = 100) (x : Flock) (hp : x.plain = true) (k : Nat) (hk : k < 100) (w : World) (hb : Blk w g t F.cells) (hfb : Blk w fb tf (ints .i16 fs)) (hx : w.rangeAt p off x.vals)
    (h1 : Blk w a ta #[.pointer (some ⟨g, 0, none⟩)]) (h2 : Blk w b tb #[.pointer (some ⟨fb, 0, none⟩)]) (h3 : Blk w d td #[.pointer (some ⟨p, off, none⟩)]) :
    Calls Try.prog 122 #[.int .i64 k, .pointer (some ⟨a, 0, none⟩), .pointer (some ⟨b, 0, none⟩), .pointer (some ⟨d, 0, none⟩)] w fun e w' => e = .returned (.bool (goP F fs x k)) ∧ Mem w w' [] := by
  have M := Lib.hid (Mem.start w)
  have y1 := h1.cellv (i := 0) rfl
  have y2 := h2.cellv (i := 0) rfl
  have y3 := h3.cellv (i := 0) rfl
  have y4 := hb.cellv (Fld.cellS hF.toLen (k := k) hk)
  have y5 := hfb.cellv (ints_at (k := .i16) (xs := fs) (i := k) (by omega))
  have y6 : w.cell? ⟨p, off + 3, none⟩ = some (.int .i16 x.bold) := hx 3 _ rfl
  have y7 : w.cell? ⟨p, off, none⟩ = some (.int .i16 x.tree) := hx 0 _ rfl
  have y8 : w.cell? ⟨p, off + 4, none⟩ = some (.int .i16 x.reach) := hx 4 _ rfl
  obtain ⟨⟨t0, t1⟩, _, _, ⟨b0, b1⟩, ⟨r0, r1⟩, _⟩ := Flock.plain_iff.1 hp
  have i0 : (0 : Int) ≤ (k : Int) := by omega
  have i1 : (k : Int) < 100 := by omega
  have e1 : IntKind.i64.wrap x.tree = x.tree := IntWalk.i64_in _ (by omega)
  have e2 : IntKind.i64.wrap x.reach = x.reach := IntWalk.i64_in _ (by omega)
  clear hb hfb hx h1 h2 h3 hp
  cases q1 : decide (0 < F.seed k) <;> cases q2 : decide (gi fs k ≤ x.bold) <;>
  · have Q1 := Lib.hid q1
    have Q2 := Lib.hid q2
    go_enter Try.func122, Try.ntmps122
    go_wp2_with fail
    go_quiet ((refine Calls.quiet_of_same (v := .int .i64 (sq k x.tree)) ?_; exact (square_any _ _ i0 (by omega) t0 t1 _).mono fun _ _ h => ⟨h.1, h.2.symm⟩))
    have M := Lib.hid (M.out.drewN nq)
    go_wp2
    go_ret
    exact ⟨ret_bool (by simp [goP, Q1.out, Q2.out]), M.out⟩
set_option maxRecDepth 100000 in
set_option maxHeartbeats 2000000 in
theorem l02Would_any (g fb p off : Nat) {t tf : TypeId} (F : Fld) (hF : F.ok) (fs : List Int) (hfl : fs.length = 100) (x : Flock) (hp : x.plain = true) (k : Nat) (hk : k < 100) (w : World) (hb : Blk w g t F.cells) (hfb : Blk w fb tf (ints .i16 fs)) (hx : w.rangeAt p off x.vals) :
    Calls Try.prog 116 #[.pointer (some ⟨g, 0, none⟩), .pointer (some ⟨fb, 0, none⟩), .pointer (some ⟨p, off, none⟩), .int .i64 k] w fun e w' => e = .returned (.bool (F.has k && goP F fs x k)) ∧ Mem w w' [] := by
  have M := Lib.hid (Mem.start w)
  have y4 := hb.cellv (Fld.cellS hF.toLen (k := k) hk)
  have y5 := hfb.cellv (ints_at (k := .i16) (xs := fs) (i := k) (by omega))
  have y6 : w.cell? ⟨p, off + 3, none⟩ = some (.int .i16 x.bold) := hx 3 _ rfl
  have y7 : w.cell? ⟨p, off, none⟩ = some (.int .i16 x.tree) := hx 0 _ rfl
  have y8 : w.cell? ⟨p, off + 4, none⟩ = some (.int .i16 x.reach) := hx 4 _ rfl
  have HB := Lib.hid hb
  have z0 := hb.cellv F.cell0
  have z1 := hb.cellv F.cell1
  obtain ⟨⟨t0, t1⟩, _, _, ⟨b0, b1⟩, ⟨r0, r1⟩, _⟩ := Flock.plain_iff.1 hp
  have i0 : (0 : Int) ≤ (k : Int) := by omega
  have i1 : (k : Int) < 100 := by omega
  have e1 : IntKind.i64.wrap x.tree = x.tree := IntWalk.i64_in _ (by omega)
  have e2 : IntKind.i64.wrap x.reach = x.reach := IntWalk.i64_in _ (by omega)
  clear hb hfb hx hp
  cases hh : F.has k
  · have HH := Lib.hid hh
    clear hh
    go_enter Try.func116, Try.ntmps116
    go_wp2_with fail
    go_quiet ((refine Calls.quiet_of_same (v := .bool false) ?_; rw [← HH.out]; exact (l01Is_d g F hF _ _ (by first | assumption | exact z0) (by first | assumption | exact z1)).mono fun _ _ h => ⟨h.1, h.2.symm⟩))
    have M := Lib.hid (M.out.drewN nq)
    go_wp2
    go_ret
    exact ⟨ret_bool (by simp), M.out⟩
  · have HH := Lib.hid hh
    clear hh
    cases q1 : decide (0 < F.seed k) <;> cases q2 : decide (gi fs k ≤ x.bold) <;>
    · have Q1 := Lib.hid q1
      have Q2 := Lib.hid q2
      go_enter Try.func116, Try.ntmps116
      go_wp2_with fail
      go_quiet (first | (refine Calls.quiet_of_same (v := .bool true) ?_; rw [← HH.out]; exact (l01Is_d g F hF _ _ (by first | assumption | exact z0) (by first | assumption | exact z1)).mono fun _ _ h => ⟨h.1, h.2.symm⟩) | (refine Calls.quiet_of_same (v := .int .i64 (sq k x.tree)) ?_; exact (l01Square_any _ _ i0 (by omega) t0 t1 _).mono fun _ _ h => ⟨h.1, h.2.symm⟩))
      have M := Lib.hid (M.out.drewN nq)
      go_wp2
      go_ret
      exact ⟨ret_bool (by simp [goP, Q1.out, Q2.out]), M.out⟩
set_option maxRecDepth 100000 in
set_option maxHeartbeats 2000000 in
theorem cellsFor_any (g fb p off : Nat) {t tf : TypeId} (F : Fld) (hF : F.ok) (fs : List Int) (hfl : fs.length = 100) (x : Flock) (hp : x.plain = true) (w : World) (hb : Blk w g t F.cells) (hfb : Blk w fb tf (ints .i16 fs)) (hx : w.rangeAt p off x.vals) :
    Calls Try.prog 68 #[.pointer (some ⟨g, 0, none⟩), .pointer (some ⟨fb, 0, none⟩), .pointer (some ⟨p, off, none⟩)] w fun e w' => e = .returned (.agg (goSet F fs x).cells) ∧ Mem w w' [] := by
  have M := Lib.hid (Mem.start w)
  have HB := Lib.hid hb
  have HFB := Lib.hid hfb
  have HX := Lib.hid hx
  have O1 := Lib.hid (Cs.one (goSet F fs x))
  clear hb hfb hx
  go_enter Try.func68, Try.ntmps68
  go_wp2_with (first
    | ((with_reducible refine gate_dst (N := 3) rfl ?_); go_must (refine M.out.ev_new rfl (by first | (go_simp; done) | (go_simp; rfl)) ?_); intro g3 w3 m; simp only [List.cons_append, List.nil_append] at m; have M := Lib.hid m; clear m)
    | ((with_reducible refine gate_dst (N := 4) rfl ?_); go_must (refine M.out.ev_new rfl (by first | (go_simp; done) | (go_simp; rfl)) ?_); intro g4 w4 m; simp only [List.cons_append, List.nil_append] at m; have M := Lib.hid m; clear m)
    | ((with_reducible refine gate_dst (N := 5) rfl ?_); go_must (refine M.out.ev_new rfl (by first | (go_simp; done) | (go_simp; rfl)) ?_); intro g5 w5 m; simp only [List.cons_append, List.nil_append] at m; have M := Lib.hid m; clear m)
    | ((with_reducible refine gate_dst (N := 6) rfl ?_); go_must (refine M.out.ev_new rfl (by first | (go_simp; done) | (go_simp; rfl)) ?_); intro g6 w6 m; simp only [List.cons_append, List.nil_append] at m; have M := Lib.hid m; clear m)
    | ((with_reducible refine gate_dst (N := 7) rfl ?_); go_must (refine M.out.ev_ld 0 _ _ rfl rfl rfl Try.underlying93 rfl rfl (by first | assumption | rfl) ?_))
    | ((with_reducible refine gate_store (x := .tmp 6) rfl ?_); go_must (refine M.out.ev_stw 3 _ _ _ rfl rfl rfl rfl _ rfl (by first | rfl | (simp only [S1.out]; rfl) | (simp only [S1.out, S2.out]; rfl) | (simp only [S3.out]; rfl) | (simp only [S1.out, S2.out, S3.out]; rfl)) (by first | exact sz32 | (rw [S1.out]; exact sz32) | (rw [S2.out]; exact sz32) | (rw [S3.out]; exact sz32)) (by first | exact ints_one _ _ | exact Fld.one _ | exact O1.out | rfl | (simp [Value.oneCell']; done)) rfl ?_); intro wn m; simp only [List.set_cons_succ, List.set_cons_zero, List.setIfInBounds_toArray] at m; have M := Lib.hid m; clear m)
    | (go_at_call 121; go_must (refine (those_any g F hF 122 #[.pointer (some ⟨g3, 0, none⟩), .pointer (some ⟨g4, 0, none⟩), .pointer (some ⟨g5, 0, none⟩)] (goP F fs x) _ (M.out.arg HB.out) (fun _ _ => by go_simp) (fun k hk _ w1 m1 => calls_caps (goIs_any g fb p off _ _ _ F hF fs hfl x hp k hk w1 ((M.out.join m1).arg HB.out) ((M.out.join m1).arg HFB.out) ((M.out.join m1).argrange HX.out) ((M.out.join m1).blk 0 rfl) ((M.out.join m1).blk 1 rfl) ((M.out.join m1).blk 2 rfl)))).mono ?_); rintro e w_ ⟨rfl, N_⟩; have m := M.out.join N_; clear N_; simp only [List.cons_append, List.nil_append, List.append_nil] at m; have M := Lib.hid m; clear m)
    )
  exact ret_cell rfl (M.out.blk 3 rfl) Try.underlying32 rfl sz32 rfl ⟨rfl, M.out.take 0⟩
def andn (a b : Nat) : Nat := (BitVec.ofNat 64 a &&& ~~~BitVec.ofNat 64 b).toNat
theorem andn_lt (a b : Nat) : andn a b < 18446744073709551616 := (BitVec.ofNat 64 a &&& ~~~BitVec.ofNat 64 b).isLt
theorem andn_bit (a b : Nat) {i : Nat} (h : i < 64) : (andn a b).testBit i = (a.testBit i && !b.testBit i) := by
  rw [andn, BitVec.testBit_toNat, BitVec.getLsbD_and, BitVec.getLsbD_not, BitVec.getLsbD_ofNat, BitVec.getLsbD_ofNat]
  simp only [h, decide_true, Bool.true_and]
theorem bits_andn (a b : Nat) : bits .andNot .u64 (a : Int) (b : Int) = (andn a b : Int) := by
  have h := andn_lt a b
  show IntKind.u64.wrap ((BitVec.ofInt 64 (a : Int) &&& ~~~BitVec.ofInt 64 (b : Int)).toNat : Int) = _
  rw [BitVec.ofInt_natCast, BitVec.ofInt_natCast]
  show IntKind.u64.wrap ((andn a b : Nat) : Int) = _
  rw [IntKind.wrap_u64]
  omega
def Cs.without (a b : Cs) : Cs := Cs.cut ⟨andn a.lo b.lo, andn a.hi b.hi⟩
theorem Cs.without_ok (a b : Cs) : (a.without b).ok := Cs.cut_ok ⟨andn_lt _ _, andn_lt _ _⟩
theorem Cs.without_has (a b : Cs) {k : Nat} (hk : k < 100) : (a.without b).has k = (a.has k && !b.has k) := by
  rw [Cs.without, Cs.cut_has _ hk]
  unfold Cs.has
  split
  · rename_i h; rw [andn_bit _ _ h]
  · rw [andn_bit _ _ (by omega)]
theorem zeroFs : Try.zeroCells37 = ints .i16 (zs 100) := by kernel_rfl
set_option maxRecDepth 100000 in
set_option maxHeartbeats 1000000 in
theorem toFears_any (xs : List Int) (hs : xs.length = 100) (w : World) :
    Calls Try.prog 17 #[.agg (ints .i16 xs)] w fun e w' => e = .returned (.agg (ints .i16 xs)) ∧ Below w.heap.size w w' := by
  have M := Lib.hid (Mem.start w)
  have S1 := Lib.hid (show (ints .i16 xs).size = 100 by rw [ints_size, hs])
  have S2 := Lib.hid (show (ints .i16 (zs 100)).size = 100 by rw [ints_size, zs_len])
  have HS := Lib.hid hs
  clear hs
  go_enter Try.func17, Try.ntmps17
  go_wp2_with (first
    | ((with_reducible refine gate_dst (N := 1) rfl ?_); go_must (refine M.out.ev_new rfl (by first | (go_simp; done) | (go_simp; rfl)) ?_); intro g1 w1 m; simp only [List.cons_append, List.nil_append] at m; have M := Lib.hid m; clear m)
    | ((with_reducible refine gate_dst (N := 2) rfl ?_); go_must (refine M.out.ev_new rfl (by first | (go_simp; done) | (go_simp; rfl)) ?_); intro g2 w2 m; simp only [List.cons_append, List.nil_append] at m; have M := Lib.hid m; clear m)
    | ((with_reducible refine gate_dst (N := 3) rfl ?_); go_must (refine M.out.ev_new rfl (by first | (go_simp; done) | (go_simp; rfl)) ?_); intro g3 w3 m; simp only [List.cons_append, List.nil_append] at m; have M := Lib.hid m; clear m)
    | ((with_reducible refine gate_dst (N := 12) rfl ?_); go_must (refine M.out.ev_ld 0 _ _ rfl rfl rfl Try.underlying24 rfl rfl (by first | assumption | rfl) ?_))
    | ((with_reducible refine gate_store (x := .tmp 13) rfl ?_); go_must (refine M.out.ev_put 2 _ _ _ rfl rfl rfl rfl (.int _ _) rfl (by first | assumption | exact Fld.lt0 _ | exact Fld.lt1 _ | (simp; done) | (simp only [ints_size]; omega)) sz24 rfl rfl ?_); intro wn m; simp only [List.set_cons_succ, List.set_cons_zero, List.setIfInBounds_toArray] at m; have M := Lib.hid m; clear m)
    | ((with_reducible refine gate_dst (N := 14) rfl ?_); go_must (refine M.out.ev_ldw 2 _ _ rfl rfl rfl Try.underlying37 rfl (by first | exact sz37 | (rw [S1.out]; exact sz37) | (rw [S2.out]; exact sz37) | (rw [S3.out]; exact sz37)) rfl ?_))
    | ((with_reducible refine gate_store (x := .tmp 2) rfl ?_); go_must (refine M.out.ev_stw 1 _ _ _ rfl rfl rfl rfl _ rfl (by first | rfl | (simp only [S1.out]; rfl) | (simp only [S1.out, S2.out]; rfl) | (simp only [S3.out]; rfl) | (simp only [S1.out, S2.out, S3.out]; rfl)) (by first | exact sz37 | (rw [S1.out]; exact sz37) | (rw [S2.out]; exact sz37) | (rw [S3.out]; exact sz37)) (by first | exact ints_one _ _ | exact Fld.one _ | exact O1.out | rfl | (simp [Value.oneCell']; done)) rfl ?_); intro wn m; simp only [List.set_cons_succ, List.set_cons_zero, List.setIfInBounds_toArray] at m; have M := Lib.hid m; clear m)
    )
  have m := M.out
  rw [zeroFs] at m
  go_loopw [4] (fun v wr => ∃ k : Nat, k ≤ 100 ∧ v = .int .i64 k ∧ Mem w wr [.blk g1 25 (ints .i16 xs), .blk g2 37 (ints .i16 (zs 100)), .blk g3 37 (ints .i16 (xs.take k ++ (zs 100).drop k))])
    (fun v _ => 100 - (intOf v).toNat)
  case atStart => exact ⟨0, by omega, rfl, m⟩
  case round =>
    obtain ⟨k, hk, rfl, m⟩ := hrel
    have M := Lib.hid m
    clear m
    by_cases hlt : k < 100
    · have hc : (ints .i16 xs)[k]? = some (.int .i16 (gi xs k)) := ints_at (by rw [HS.out]; omega)
      have hj : k < (ints .i16 (xs.take k ++ (zs 100).drop k)).size := by rw [ints_size, take_drop_len _ _ k 100 HS.out (zs_len 100) (by omega)]; omega
      go_wp2_with (first
        | ((with_reducible refine gate_dst (N := 1) rfl ?_); go_must (refine M.out.ev_new rfl (by first | (go_simp; done) | (go_simp; rfl)) ?_); intro g1 w1 m; simp only [List.cons_append, List.nil_append] at m; have M := Lib.hid m; clear m)
        | ((with_reducible refine gate_dst (N := 2) rfl ?_); go_must (refine M.out.ev_new rfl (by first | (go_simp; done) | (go_simp; rfl)) ?_); intro g2 w2 m; simp only [List.cons_append, List.nil_append] at m; have M := Lib.hid m; clear m)
        | ((with_reducible refine gate_dst (N := 3) rfl ?_); go_must (refine M.out.ev_new rfl (by first | (go_simp; done) | (go_simp; rfl)) ?_); intro g3 w3 m; simp only [List.cons_append, List.nil_append] at m; have M := Lib.hid m; clear m)
        | ((with_reducible refine gate_dst (N := 12) rfl ?_); go_must (refine M.out.ev_ld 0 _ _ rfl rfl rfl Try.underlying24 rfl rfl (by first | assumption | rfl) ?_))
        | ((with_reducible refine gate_store (x := .tmp 13) rfl ?_); go_must (refine M.out.ev_put 2 _ _ _ rfl rfl rfl rfl (.int _ _) rfl (by first | assumption | exact Fld.lt0 _ | exact Fld.lt1 _ | (simp; done) | (simp only [ints_size]; omega)) sz24 rfl rfl ?_); intro wn m; simp only [List.set_cons_succ, List.set_cons_zero, List.setIfInBounds_toArray] at m; have M := Lib.hid m; clear m)
        | ((with_reducible refine gate_dst (N := 14) rfl ?_); go_must (refine M.out.ev_ldw 2 _ _ rfl rfl rfl Try.underlying37 rfl (by first | exact sz37 | (rw [S1.out]; exact sz37) | (rw [S2.out]; exact sz37) | (rw [S3.out]; exact sz37)) rfl ?_))
        | ((with_reducible refine gate_store (x := .tmp 2) rfl ?_); go_must (refine M.out.ev_stw 1 _ _ _ rfl rfl rfl rfl _ rfl (by first | rfl | (simp only [S1.out]; rfl) | (simp only [S1.out, S2.out]; rfl) | (simp only [S3.out]; rfl) | (simp only [S1.out, S2.out, S3.out]; rfl)) (by first | exact sz37 | (rw [S1.out]; exact sz37) | (rw [S2.out]; exact sz37) | (rw [S3.out]; exact sz37)) (by first | exact ints_one _ _ | exact Fld.one _ | exact O1.out | rfl | (simp [Value.oneCell']; done)) rfl ?_); intro wn m; simp only [List.set_cons_succ, List.set_cons_zero, List.setIfInBounds_toArray] at m; have M := Lib.hid m; clear m)
        )
      go_roundw
      case rel =>
        refine ⟨k + 1, by omega, by go_num, ?_⟩
        have m := M.out
        rw [ints_set, take_set_drop _ _ _ _ (getElem?_gi (by rw [HS.out]; omega)) (by rw [zs_len]; omega)] at m
        exact m
      case measure => simp [intOf]; omega
    · obtain rfl : k = 100 := by omega
      have hx : xs.take 100 ++ (zs 100).drop 100 = xs := by
        rw [List.take_of_length_le (by rw [HS.out]; omega), List.drop_of_length_le (by rw [zs_len]; omega), List.append_nil]
      rw [hx] at M
      clear hx
      go_wp2_with (first
        | ((with_reducible refine gate_dst (N := 1) rfl ?_); go_must (refine M.out.ev_new rfl (by first | (go_simp; done) | (go_simp; rfl)) ?_); intro g1 w1 m; simp only [List.cons_append, List.nil_append] at m; have M := Lib.hid m; clear m)
        | ((with_reducible refine gate_dst (N := 2) rfl ?_); go_must (refine M.out.ev_new rfl (by first | (go_simp; done) | (go_simp; rfl)) ?_); intro g2 w2 m; simp only [List.cons_append, List.nil_append] at m; have M := Lib.hid m; clear m)
        | ((with_reducible refine gate_dst (N := 3) rfl ?_); go_must (refine M.out.ev_new rfl (by first | (go_simp; done) | (go_simp; rfl)) ?_); intro g3 w3 m; simp only [List.cons_append, List.nil_append] at m; have M := Lib.hid m; clear m)
        | ((with_reducible refine gate_dst (N := 12) rfl ?_); go_must (refine M.out.ev_ld 0 _ _ rfl rfl rfl Try.underlying24 rfl rfl (by first | assumption | rfl) ?_))
        | ((with_reducible refine gate_store (x := .tmp 13) rfl ?_); go_must (refine M.out.ev_put 2 _ _ _ rfl rfl rfl rfl (.int _ _) rfl (by first | assumption | exact Fld.lt0 _ | exact Fld.lt1 _ | (simp; done) | (simp only [ints_size]; omega)) sz24 rfl rfl ?_); intro wn m; simp only [List.set_cons_succ, List.set_cons_zero, List.setIfInBounds_toArray] at m; have M := Lib.hid m; clear m)
        | ((with_reducible refine gate_dst (N := 14) rfl ?_); go_must (refine M.out.ev_ldw 2 _ _ rfl rfl rfl Try.underlying37 rfl (by first | exact sz37 | (rw [S1.out]; exact sz37) | (rw [S2.out]; exact sz37) | (rw [S3.out]; exact sz37)) rfl ?_))
        | ((with_reducible refine gate_store (x := .tmp 2) rfl ?_); go_must (refine M.out.ev_stw 1 _ _ _ rfl rfl rfl rfl _ rfl (by first | rfl | (simp only [S1.out]; rfl) | (simp only [S1.out, S2.out]; rfl) | (simp only [S3.out]; rfl) | (simp only [S1.out, S2.out, S3.out]; rfl)) (by first | exact sz37 | (rw [S1.out]; exact sz37) | (rw [S2.out]; exact sz37) | (rw [S3.out]; exact sz37)) (by first | exact ints_one _ _ | exact Fld.one _ | exact O1.out | rfl | (simp [Value.oneCell']; done)) rfl ?_); intro wn m; simp only [List.set_cons_succ, List.set_cons_zero, List.setIfInBounds_toArray] at m; have M := Lib.hid m; clear m)
        )
      exact ret_cell rfl (M.out.blk 1 rfl) Try.underlying37 rfl (by rw [S1.out]; exact sz37) rfl ⟨rfl, M.out.below⟩
theorem Cs.ext_has {a b : Cs} (ha : a.ok) (hb : b.ok) (h : ∀ k, k < 128 → a.has k = b.has k) : a = b := by
  have hi : ∀ {x : Nat} {i : Nat}, x < 18446744073709551616 → 64 ≤ i → x.testBit i = false := fun {x i} hx h64 =>
    Nat.testBit_lt_two_pow (Nat.lt_of_lt_of_le hx (Nat.pow_le_pow_right (n := 2) (by omega) h64))
  have h1 : a.lo = b.lo := Nat.eq_of_testBit_eq fun i => by
    rcases Nat.lt_or_ge i 64 with h64 | h64
    · have := h i (by omega)
      simpa [Cs.has, h64] using this
    · rw [hi ha.l h64, hi hb.l h64]
  have h2 : a.hi = b.hi := Nat.eq_of_testBit_eq fun i => by
    rcases Nat.lt_or_ge i 64 with h64 | h64
    · have := h (64 + i) (by omega)
      simpa [Cs.has, show ¬ (64 + i < 64) by omega] using this
    · rw [hi ha.h h64, hi hb.h h64]
  cases a
  cases b
  simp only at h1 h2
  rw [h1, h2]
theorem Cs.cut_small (c : Cs) {k : Nat} (h1 : 100 ≤ k) (h2 : k < 128) : c.cut.has k = false := by
  unfold Cs.has Cs.cut
  rw [if_neg (by omega), Nat.testBit_and, show (68719476735 : Nat) = 2 ^ 36 - 1 by decide, Nat.testBit_two_pow_sub_one, decide_eq_false (by omega), Bool.and_false]
theorem setOf_small {ks : List Nat} (h : ∀ k ∈ ks, k < 100) {k : Nat} (h1 : 100 ≤ k) : (setOf ks).has k = false := by
  rw [setOf_has, ← Bool.not_eq_true, List.contains_iff_mem]
  intro hk
  have := h k hk
  omega
theorem goSet_has (F : Fld) (fs : List Int) (x : Flock) {k : Nat} (hk : k < 100) : (goSet F fs x).has k = (F.has k && goP F fs x k) := by
  rw [goSet, setOf_has, Bool.eq_iff_iff, List.contains_iff_mem, List.mem_filter, Fld.all, Fld.below, List.mem_filter, List.mem_range, Bool.and_eq_true]
  exact ⟨fun h => ⟨h.1.2, h.2⟩, fun h => ⟨⟨hk, h.1⟩, h.2⟩⟩
end Go.Proofs.Ytbjcajhbhicokaa
