/- Texts of a proof, laid together: Scares, CellsFor, Pick, RowI. -/
import Derived.Test.YtkomhngokcejbaaGreatDoorZV05
import Derived.Test.YtkomhngokcejbaaGreatDoorZV03
import Derived.Test.YtkomhngokcejbaaGreatDoorZV02
namespace Go.Proofs.YtkomhngokcejbaaGreatDoor
set_option linter.unusedSimpArgs false
set_option linter.unusedVariables false
open Go.RowKit
attribute [local go_sem] cell?_mk frozen?_mk

def Fld.place (F : Fld) (c : Int) : Bool := F.has c && (F.kind c.toNat != 3)
theorem mul9 (x : Int) (hx : -9 ≤ x ∧ x ≤ 9) : 0 ≤ x * x ∧ x * x ≤ 81 := by
  have h : ((x.natAbs * x.natAbs : Nat) : Int) = x * x := Int.natAbs_mul_self
  have : x.natAbs * x.natAbs ≤ 9 * 9 := Nat.mul_le_mul (by omega) (by omega)
  omega
def sq (a b : Int) : Int := (a % 10 - b % 10) * (a % 10 - b % 10) + (a / 10 - b / 10) * (a / 10 - b / 10)
set_option maxRecDepth 100000 in
set_option maxHeartbeats 1000000 in
theorem square_any (a b : Int) (a0 : 0 ≤ a) (a1 : a ≤ 99) (b0 : 0 ≤ b) (b1 : b ≤ 99) (w : World) :
    Calls Tryz.prog 87 #[.int .i64 a, .int .i64 b] w fun e w' => e = .returned (.int .i64 (sq a b)) ∧ w = w' := by
  go_enter Tryz.func87, Tryz.ntmps87
  go_wp2
  go_ret
  refine ⟨ret_int ?_, rfl⟩
  have k1 := mul9 (a % 10 - b % 10) (by omega)
  have k2 := mul9 (a / 10 - b / 10) (by omega)
  unfold sq
  rw [IntWalk.wrap64_in ((a % 10 - b % 10) * (a % 10 - b % 10)) (by omega), IntWalk.wrap64_in ((a / 10 - b / 10) * (a / 10 - b / 10)) (by omega)]
  exact IntWalk.wrap64_in _ (by omega)

set_option maxRecDepth 100000 in
set_option maxHeartbeats 1000000 in
theorem l01Square_any (a b : Int) (a0 : 0 ≤ a) (a1 : a ≤ 99) (b0 : 0 ≤ b) (b1 : b ≤ 99) (w : World) :
    Calls Tryz.prog 89 #[.int .i64 a, .int .i64 b] w fun e w' => e = .returned (.int .i64 (sq a b)) ∧ w = w' := by
  go_enter Tryz.func89, Tryz.ntmps89
  go_wp2
  go_ret
  refine ⟨ret_int ?_, rfl⟩
  have k1 := mul9 (a % 10 - b % 10) (by omega)
  have k2 := mul9 (a / 10 - b / 10) (by omega)
  unfold sq
  rw [IntWalk.wrap64_in ((a % 10 - b % 10) * (a % 10 - b % 10)) (by omega), IntWalk.wrap64_in ((a / 10 - b / 10) * (a / 10 - b / 10)) (by omega)]
  exact IntWalk.wrap64_in _ (by omega)

end Go.Proofs.YtkomhngokcejbaaGreatDoor
namespace Go.Proofs.YtkomhngokcejbaaGreatDoor
set_option linter.unusedSimpArgs false
set_option linter.unusedVariables false
open Go.RowKit
attribute [local go_sem] cell?_mk frozen?_mk

theorem Mem.argrange {w0 w : World} {L : List Ent} (M : Mem w0 w L) {b off : Nat} {cs : List Value} (h : w0.rangeAt b off cs) : w.rangeAt b off cs := fun j v hj => M.argcell (h j v hj)
def goP (F : Fld) (fs : List Int) (x : Flock) (k : Nat) : Bool := decide (0 < F.seed k) && (decide (gi fs k ≤ x.bold) && decide (sq k x.tree ≤ x.reach))
def goSet (F : Fld) (fs : List Int) (x : Flock) : Cs := setOf (F.all.filter (goP F fs x))
set_option maxRecDepth 100000 in
set_option maxHeartbeats 400000 in
theorem l01Is_d (b : Nat) (F : Fld) (hF : F.ok) (c : Int) (w : World) (h0 : w.cell? ⟨b, 0, none⟩ = some (.int .i8 F.wide)) (h1 : w.cell? ⟨b, 1, none⟩ = some (.int .i8 F.high)) :
    Calls Tryz.prog 71 #[.pointer (some ⟨b, 0, none⟩), .int .i64 c] w fun e w' => e = .returned (.bool (F.has c)) ∧ w = w' := by
  have a0 := hF.w0
  have a1 := hF.w1
  have a2 := hF.h0
  have a3 := hF.h1
  clear hF
  cases hc : inB c 0 99
  · have HC := Lib.hid hc
    clear hc
    go_enter Tryz.func71, Tryz.ntmps71
    go_wp2_with (go_at_call 103; refine (l00In_any _ _ _ _).mono ?_; rintro e w' ⟨rfl, rfl⟩; rw [HC.out])
    go_ret
    exact ⟨ret_bool (by simp [Fld.has, HC.out]), rfl⟩
  · have HC := Lib.hid hc
    have hc2 := inB_iff.1 hc
    have b0 := hc2.1
    have b1 := hc2.2
    clear hc hc2
    go_enter Tryz.func71, Tryz.ntmps71
    go_wp2_with (go_at_call 103; refine (l00In_any _ _ _ _).mono ?_; rintro e w' ⟨rfl, rfl⟩; rw [HC.out])
    · have hw : c % 10 < F.wide := by assumption
      go_ret
      exact ⟨ret_bool (by simp [Fld.has, HC.out, hw]), rfl⟩
    · have hw : F.wide ≤ c % 10 := by assumption
      go_ret
      exact ⟨ret_bool (by simp [Fld.has, HC.out]; omega), rfl⟩
set_option maxRecDepth 100000 in
set_option maxHeartbeats 2000000 in
theorem goIs_any (g fb p off a b d : Nat) {t tf ta tb td : TypeId} (F : Fld) (hF : F.ok) (fs : List Int) (hfl : fs.length = 100) (x : Flock) (hp : x.plain = true) (k : Nat) (hk : k < 100) (w : World) (hb : Blk w g t F.cells) (hfb : Blk w fb tf (ints .i16 fs)) (hx : w.rangeAt p off x.vals)
    (h1 : Blk w a ta #[.pointer (some ⟨g, 0, none⟩)]) (h2 : Blk w b tb #[.pointer (some ⟨fb, 0, none⟩)]) (h3 : Blk w d td #[.pointer (some ⟨p, off, none⟩)]) :
    Calls Tryz.prog 143 #[.int .i64 k, .pointer (some ⟨a, 0, none⟩), .pointer (some ⟨b, 0, none⟩), .pointer (some ⟨d, 0, none⟩)] w fun e w' => e = .returned (.bool (goP F fs x k)) ∧ Mem w w' [] := by
  have M := Lib.hid (Mem.start w)
  have y1 := h1.cellv (i := 0) rfl
  have y2 := h2.cellv (i := 0) rfl
  have y3 := h3.cellv (i := 0) rfl
  have y4 := hb.cellv (Fld.cellS hF.toLen (k := k) hk)
  have y5 := hfb.cellv (ints_at (k := .i16) (xs := fs) (i := k) (by omega))
  have y6 : w.cell? ⟨p, off + 3, none⟩ = some (.int .i16 x.bold) := hx 3 _ rfl
  have y7 : w.cell? ⟨p, off, none⟩ = some (.int .i16 x.tree) := hx 0 _ rfl
  have y8 : w.cell? ⟨p, off + 4, none⟩ = some (.int .i16 x.reach) := hx 4 _ rfl
  obtain ⟨⟨t0, t1⟩, _, _, ⟨b0, b1⟩, ⟨r0, r1⟩, _⟩ := Flock.plain_iff.1 hp
  have i0 : (0 : Int) ≤ (k : Int) := by omega
  have i1 : (k : Int) < 100 := by omega
  have e1 : IntKind.i64.wrap x.tree = x.tree := IntWalk.i64_in _ (by omega)
  have e2 : IntKind.i64.wrap x.reach = x.reach := IntWalk.i64_in _ (by omega)
  clear hb hfb hx h1 h2 h3 hp
  cases q1 : decide (0 < F.seed k) <;> cases q2 : decide (gi fs k ≤ x.bold) <;>
  · have Q1 := Lib.hid q1
    have Q2 := Lib.hid q2
    go_enter Tryz.func143, Tryz.ntmps143
    go_wp2_with fail
    go_quiet ((refine Calls.quiet_of_same (v := .int .i64 (sq k x.tree)) ?_; exact (square_any _ _ i0 (by omega) t0 t1 _).mono fun _ _ h => ⟨h.1, h.2.symm⟩))
    have M := Lib.hid (M.out.drewN nq)
    go_wp2
    go_ret
    exact ⟨ret_bool (by simp [goP, Q1.out, Q2.out]), M.out⟩
set_option maxRecDepth 100000 in
set_option maxHeartbeats 2000000 in
theorem l02Would_any (g fb p off : Nat) {t tf : TypeId} (F : Fld) (hF : F.ok) (fs : List Int) (hfl : fs.length = 100) (x : Flock) (hp : x.plain = true) (k : Nat) (hk : k < 100) (w : World) (hb : Blk w g t F.cells) (hfb : Blk w fb tf (ints .i16 fs)) (hx : w.rangeAt p off x.vals) :
    Calls Tryz.prog 72 #[.pointer (some ⟨g, 0, none⟩), .pointer (some ⟨fb, 0, none⟩), .pointer (some ⟨p, off, none⟩), .int .i64 k] w fun e w' => e = .returned (.bool (F.has k && goP F fs x k)) ∧ Mem w w' [] := by
  have M := Lib.hid (Mem.start w)
  have y4 := hb.cellv (Fld.cellS hF.toLen (k := k) hk)
  have y5 := hfb.cellv (ints_at (k := .i16) (xs := fs) (i := k) (by omega))
  have y6 : w.cell? ⟨p, off + 3, none⟩ = some (.int .i16 x.bold) := hx 3 _ rfl
  have y7 : w.cell? ⟨p, off, none⟩ = some (.int .i16 x.tree) := hx 0 _ rfl
  have y8 : w.cell? ⟨p, off + 4, none⟩ = some (.int .i16 x.reach) := hx 4 _ rfl
  have HB := Lib.hid hb
  have z0 := hb.cellv F.cell0
  have z1 := hb.cellv F.cell1
  obtain ⟨⟨t0, t1⟩, _, _, ⟨b0, b1⟩, ⟨r0, r1⟩, _⟩ := Flock.plain_iff.1 hp
  have i0 : (0 : Int) ≤ (k : Int) := by omega
  have i1 : (k : Int) < 100 := by omega
  have e1 : IntKind.i64.wrap x.tree = x.tree := IntWalk.i64_in _ (by omega)
  have e2 : IntKind.i64.wrap x.reach = x.reach := IntWalk.i64_in _ (by omega)
  clear hb hfb hx hp
  cases hh : F.has k
  · have HH := Lib.hid hh
    clear hh
    go_enter Tryz.func72, Tryz.ntmps72
    go_wp2_with fail
    go_quiet ((refine Calls.quiet_of_same (v := .bool false) ?_; rw [← HH.out]; exact (l01Is_d g F hF _ _ (by first | assumption | exact z0) (by first | assumption | exact z1)).mono fun _ _ h => ⟨h.1, h.2.symm⟩))
    have M := Lib.hid (M.out.drewN nq)
    go_wp2
    go_ret
    exact ⟨ret_bool (by simp), M.out⟩
  · have HH := Lib.hid hh
    clear hh
    cases q1 : decide (0 < F.seed k) <;> cases q2 : decide (gi fs k ≤ x.bold) <;>
    · have Q1 := Lib.hid q1
      have Q2 := Lib.hid q2
      go_enter Tryz.func72, Tryz.ntmps72
      go_wp2_with fail
      go_quiet (first | (refine Calls.quiet_of_same (v := .bool true) ?_; rw [← HH.out]; exact (l01Is_d g F hF _ _ (by first | assumption | exact z0) (by first | assumption | exact z1)).mono fun _ _ h => ⟨h.1, h.2.symm⟩) | (refine Calls.quiet_of_same (v := .int .i64 (sq k x.tree)) ?_; exact (l01Square_any _ _ i0 (by omega) t0 t1 _).mono fun _ _ h => ⟨h.1, h.2.symm⟩))
      have M := Lib.hid (M.out.drewN nq)
      go_wp2
      go_ret
      exact ⟨ret_bool (by simp [goP, Q1.out, Q2.out]), M.out⟩
set_option maxRecDepth 100000 in
set_option maxHeartbeats 2000000 in
theorem cellsFor_any (g fb p off : Nat) {t tf : TypeId} (F : Fld) (hF : F.ok) (fs : List Int) (hfl : fs.length = 100) (x : Flock) (hp : x.plain = true) (w : World) (hb : Blk w g t F.cells) (hfb : Blk w fb tf (ints .i16 fs)) (hx : w.rangeAt p off x.vals) :
    Calls Tryz.prog 69 #[.pointer (some ⟨g, 0, none⟩), .pointer (some ⟨fb, 0, none⟩), .pointer (some ⟨p, off, none⟩)] w fun e w' => e = .returned (.agg (goSet F fs x).cells) ∧ Mem w w' [] := by
  have M := Lib.hid (Mem.start w)
  have HB := Lib.hid hb
  have HFB := Lib.hid hfb
  have HX := Lib.hid hx
  have O1 := Lib.hid (Cs.one (goSet F fs x))
  clear hb hfb hx
  go_enter Tryz.func69, Tryz.ntmps69
  go_wp2_with (first
    | ((with_reducible refine gate_dst (N := 3) rfl ?_); go_must (refine M.out.ev_new rfl (by first | (go_simp; done) | (go_simp; rfl)) ?_); intro g3 w3 m; simp only [List.cons_append, List.nil_append] at m; have M := Lib.hid m; clear m)
    | ((with_reducible refine gate_dst (N := 4) rfl ?_); go_must (refine M.out.ev_new rfl (by first | (go_simp; done) | (go_simp; rfl)) ?_); intro g4 w4 m; simp only [List.cons_append, List.nil_append] at m; have M := Lib.hid m; clear m)
    | ((with_reducible refine gate_dst (N := 5) rfl ?_); go_must (refine M.out.ev_new rfl (by first | (go_simp; done) | (go_simp; rfl)) ?_); intro g5 w5 m; simp only [List.cons_append, List.nil_append] at m; have M := Lib.hid m; clear m)
    | ((with_reducible refine gate_dst (N := 6) rfl ?_); go_must (refine M.out.ev_new rfl (by first | (go_simp; done) | (go_simp; rfl)) ?_); intro g6 w6 m; simp only [List.cons_append, List.nil_append] at m; have M := Lib.hid m; clear m)
    | ((with_reducible refine gate_dst (N := 7) rfl ?_); go_must (refine M.out.ev_ld 0 _ _ rfl rfl rfl Tryz.underlying89 rfl rfl (by first | assumption | rfl) ?_))
    | ((with_reducible refine gate_store (x := .tmp 6) rfl ?_); go_must (refine M.out.ev_stw 3 _ _ _ rfl rfl rfl rfl _ rfl (by first | rfl | (simp only [S1.out]; rfl) | (simp only [S1.out, S2.out]; rfl) | (simp only [S3.out]; rfl) | (simp only [S1.out, S2.out, S3.out]; rfl)) (by first | exact sz40 | (rw [S1.out]; exact sz40) | (rw [S2.out]; exact sz40) | (rw [S3.out]; exact sz40)) (by first | exact ints_one _ _ | exact Fld.one _ | exact O1.out | rfl | (simp [Value.oneCell']; done)) rfl ?_); intro wn m; simp only [List.set_cons_succ, List.set_cons_zero, List.setIfInBounds_toArray] at m; have M := Lib.hid m; clear m)
    | (go_at_call 141; go_must (refine (those_any g F hF 143 #[.pointer (some ⟨g3, 0, none⟩), .pointer (some ⟨g4, 0, none⟩), .pointer (some ⟨g5, 0, none⟩)] (goP F fs x) _ (M.out.arg HB.out) (fun _ _ => by go_simp) (fun k hk _ w1 m1 => calls_caps (goIs_any g fb p off _ _ _ F hF fs hfl x hp k hk w1 ((M.out.join m1).arg HB.out) ((M.out.join m1).arg HFB.out) ((M.out.join m1).argrange HX.out) ((M.out.join m1).blk 0 rfl) ((M.out.join m1).blk 1 rfl) ((M.out.join m1).blk 2 rfl)))).mono ?_); rintro e w_ ⟨rfl, N_⟩; have m := M.out.join N_; clear N_; simp only [List.cons_append, List.nil_append, List.append_nil] at m; have M := Lib.hid m; clear m)
    )
  exact ret_cell rfl (M.out.blk 3 rfl) Tryz.underlying40 rfl sz40 rfl ⟨rfl, M.out.take 0⟩
theorem zeroFs : Tryz.zeroCells31 = ints .i16 (zs 100) := by kernel_rfl
theorem goSet_has (F : Fld) (fs : List Int) (x : Flock) {k : Nat} (hk : k < 100) : (goSet F fs x).has k = (F.has k && goP F fs x k) := by
  rw [goSet, setOf_has, Bool.eq_iff_iff, List.contains_iff_mem, List.mem_filter, Fld.all, Fld.below, List.mem_filter, List.mem_range, Bool.and_eq_true]
  exact ⟨fun h => ⟨h.1.2, h.2⟩, fun h => ⟨⟨hk, h.1⟩, h.2⟩⟩
end Go.Proofs.YtkomhngokcejbaaGreatDoor
namespace Go.Proofs.YtkomhngokcejbaaGreatDoor
set_option linter.unusedSimpArgs false
set_option linter.unusedVariables false
open Go.RowKit

/-- The better one of the best so far and a new one, if that counts. -/
def pickStep (p : Nat → Bool) (lt : Nat → Nat → Bool) (b : Int) (k : Nat) : Int := if (p k && (decide (b < 0) || lt k b.toNat)) = true then (k : Int) else b
def pick (p : Nat → Bool) (lt : Nat → Nat → Bool) (ks : List Nat) : Int := ks.foldl (pickStep p lt) (-1)
theorem pick_snoc (p : Nat → Bool) (lt : Nat → Nat → Bool) (ks : List Nat) (k : Nat) : pick p lt (ks ++ [k]) = pickStep p lt (pick p lt ks) k := by simp [pick]
theorem pick_of (p : Nat → Bool) (lt : Nat → Nat → Bool) (ks : List Nat) : pick p lt ks = -1 ∨ ∃ k ∈ ks, p k = true ∧ pick p lt ks = k := by
  have key : ∀ (r : List Nat), (∀ x ∈ r, x ∈ ks) → ∀ b : Int, (b = -1 ∨ ∃ k ∈ ks, p k = true ∧ b = k) → (r.foldl (pickStep p lt) b = -1 ∨ ∃ k ∈ ks, p k = true ∧ r.foldl (pickStep p lt) b = k) := by
    intro r
    induction r with
    | nil => intro _ b h; exact h
    | cons x r ih =>
      intro hr b hb
      refine ih (fun y hy => hr y (by simp [hy])) _ ?_
      unfold pickStep
      split
      · rename_i h
        rw [Bool.and_eq_true] at h
        exact .inr ⟨x, hr x (by simp), h.1, rfl⟩
      · exact hb
  exact key ks (fun _ h => h) _ (.inl rfl)
theorem pick_congr {p q : Nat → Bool} (lt : Nat → Nat → Bool) {ks : List Nat} (h : ∀ k ∈ ks, p k = q k) : pick p lt ks = pick q lt ks := by
  have key : ∀ (r : List Nat), (∀ x ∈ r, x ∈ ks) → ∀ b : Int, r.foldl (pickStep p lt) b = r.foldl (pickStep q lt) b := by
    intro r
    induction r with
    | nil => intro _ b; rfl
    | cons x r ih =>
      intro hr b
      rw [List.foldl_cons, List.foldl_cons, ih (fun y hy => hr y (by simp [hy]))]
      rw [pickStep, pickStep, h x (hr x (by simp))]
  exact key ks (fun _ h => h) _
theorem pick_filter (p q : Nat → Bool) (lt : Nat → Nat → Bool) (ks : List Nat) : pick p lt (ks.filter q) = pick (fun k => q k && p k) lt ks := by
  have key : ∀ (r : List Nat) (b : Int), (r.filter q).foldl (pickStep p lt) b = r.foldl (pickStep (fun k => q k && p k) lt) b := by
    intro r
    induction r with
    | nil => intro b; rfl
    | cons x r ih =>
      intro b
      rw [List.filter_cons, List.foldl_cons]
      cases h : q x
      · simp only [Bool.false_eq_true, if_false]
        rw [ih, show pickStep (fun k => q k && p k) lt b x = b by simp [pickStep, h]]
      · simp only [if_true]
        rw [List.foldl_cons, ih, show pickStep (fun k => q k && p k) lt b x = pickStep p lt b x by simp [pickStep, h]]
  exact key ks _
/-- Whether one list of numbers comes before another. -/
def lexlt : List Int → List Int → Bool
  | a :: r, b :: q => decide (a < b) || (decide (a = b) && lexlt r q)
  | [], _ :: _ => true
  | _, [] => false
def rk (F : Fld) (fs : List Int) (x : Flock) (k : Nat) : List Int :=
  if x.taste = 0 then [-F.seed k, sq k x.tree] else if x.taste = 1 then [sq k x.tree, -F.seed k] else [gi fs k, -F.seed k, sq k x.tree]
def rk3 (F : Fld) (fs : List Int) (x : Flock) (k : Nat) : List Int :=
  if x.taste = 0 then [-F.seed k, sq k x.tree, 0] else if x.taste = 1 then [sq k x.tree, -F.seed k, 0] else [gi fs k, -F.seed k, sq k x.tree]
def better (F : Fld) (fs : List Int) (x : Flock) (a b : Nat) : Bool := lexlt (rk F fs x a) (rk F fs x b)
theorem better3 (F : Fld) (fs : List Int) (x : Flock) (a b : Nat) : lexlt (rk3 F fs x a) (rk3 F fs x b) = better F fs x a b := by
  have h : ∀ a b c d : Int, lexlt [a, b, 0] [c, d, 0] = lexlt [a, b] [c, d] := fun a b c d => by simp [lexlt]
  unfold better rk rk3
  split
  · exact h _ _ _ _
  · split
    · exact h _ _ _ _
    · rfl
def choiceOf (F : Fld) (fs : List Int) (x : Flock) : Int := pick (fun k => F.has k && goP F fs x k) (better F fs x) (List.range 100)
theorem choice_all (F : Fld) (fs : List Int) (x : Flock) : pick (goSet F fs x).has (better F fs x) F.all = choiceOf F fs x := by
  rw [Fld.all, Fld.below, pick_filter, choiceOf]
  refine pick_congr _ fun k hk => ?_
  rw [goSet_has F fs x (List.mem_range.1 hk)]
  cases F.has k <;> rfl
theorem choice_of (F : Fld) (fs : List Int) (x : Flock) : choiceOf F fs x = -1 ∨ ∃ k : Nat, k < 100 ∧ (F.has k && goP F fs x k) = true ∧ choiceOf F fs x = k := by
  rcases pick_of (fun k => F.has k && goP F fs x k) (better F fs x) (List.range 100) with h | ⟨k, h1, h2, h3⟩
  · exact .inl h
  · exact .inr ⟨k, List.mem_range.1 h1, h2, h3⟩
end Go.Proofs.YtkomhngokcejbaaGreatDoor
namespace Go.Proofs.YtkomhngokcejbaaGreatDoor
set_option linter.unusedSimpArgs false
set_option linter.unusedVariables false
open Go.RowKit
attribute [local go_sem] cell?_mk frozen?_mk

def cmpI (a b : Int) : Int := if a < b then -1 else if b < a then 1 else 0
def lexcmp : List Int → List Int → Int
  | a :: r, b :: q => if cmpI a b = 0 then lexcmp r q else cmpI a b
  | [], _ :: _ => -1
  | _ :: _, [] => 1
  | [], [] => 0
theorem lexcmp_lt : ∀ xs ys : List Int, decide (lexcmp xs ys < 0) = lexlt xs ys
  | [], [] => rfl
  | [], _ :: _ => rfl
  | _ :: _, [] => rfl
  | a :: r, b :: q => by
    rw [lexcmp, lexlt, ← lexcmp_lt r q]
    unfold cmpI
    rcases Int.lt_trichotomy a b with h | rfl | h
    · simp [h]
    · simp
    · have h1 : ¬ (a < b) := by omega
      have h2 : ¬ (a = b) := by omega
      simp [h, h1, h2]
theorem lexcmp_same {xs ys : List Int} {k : Nat} (h1 : k < xs.length) (h2 : k < ys.length) : lexcmp (xs.drop k) (ys.drop k) = if cmpI xs[k] ys[k] = 0 then lexcmp (xs.drop (k + 1)) (ys.drop (k + 1)) else cmpI xs[k] ys[k] := by
  rw [List.drop_eq_getElem_cons h1, List.drop_eq_getElem_cons h2, lexcmp]
set_option maxRecDepth 100000 in
set_option maxHeartbeats 1000000 in
theorem isNaN_any (x : Int) (w : World) :
    Calls Tryz.prog 197 #[.int .i64 x] w fun e w' => e = .returned (.bool false) ∧ w = w' := by
  go_enter Tryz.func197, Tryz.ntmps197
  go_wp2
  go_ret
  exact ⟨ret_bool (by simp), rfl⟩
set_option maxRecDepth 100000 in
set_option maxHeartbeats 1000000 in
theorem cmpC_any (a b : Int) (w : World) :
    Calls Tryz.prog 177 #[.int .i64 a, .int .i64 b] w fun e w' => e = .returned (.int .i64 (cmpI a b)) ∧ w = w' := by
  have h : cmpI a b = if a < b then -1 else if b < a then 1 else 0 := rfl
  have H := Lib.hid h
  clear h
  rcases Int.lt_trichotomy a b with h | h | h
  · have h1 : decide (a < b) = true := by simp [h]
    have HH := Lib.hid h
    go_enter Tryz.func177, Tryz.ntmps177
    go_wp2_with (first | (go_at_call 197; go_must (refine (isNaN_any _ _).mono ?_); rintro e w_ ⟨rfl, rfl⟩))
    go_ret
    exact ⟨ret_int (by rw [H.out, if_pos HH.out]), rfl⟩
  · have h1 : ¬ (a < b) := by omega
    have h2 : ¬ (b < a) := by omega
    have H1 := Lib.hid h1
    have H2 := Lib.hid h2
    clear h
    go_enter Tryz.func177, Tryz.ntmps177
    go_wp2_with (first | (go_at_call 197; go_must (refine (isNaN_any _ _).mono ?_); rintro e w_ ⟨rfl, rfl⟩))
    go_ret
    exact ⟨ret_int (by rw [H.out, if_neg (by have := H1.out; omega), if_neg (by have := H2.out; omega)]), rfl⟩
  · have h1 : ¬ (a < b) := by omega
    have H1 := Lib.hid h1
    have HH := Lib.hid h
    go_enter Tryz.func177, Tryz.ntmps177
    go_wp2_with (first | (go_at_call 197; go_must (refine (isNaN_any _ _).mono ?_); rintro e w_ ⟨rfl, rfl⟩))
    go_ret
    exact ⟨ret_int (by rw [H.out, if_neg (by have := H1.out; omega), if_pos HH.out]), rfl⟩
set_option maxRecDepth 100000 in
set_option maxHeartbeats 1000000 in
theorem compare_any (A B : Option Addr) (c d : Nat) (xs ys : List Int) (h1 : xs.length ≤ 1048576) (h2 : ys.length ≤ 1048576) (w : World) (hx : Sl w 1 A xs.length (flat oneI xs)) (hy : Sl w 1 B ys.length (flat oneI ys)) :
    Calls Tryz.prog 150 #[.slice A xs.length c, .slice B ys.length d] w fun e w' => e = .returned (.int .i64 (lexcmp xs ys)) ∧ w = w' := by
  have HX := Lib.hid hx
  have HY := Lib.hid hy
  clear hx hy
  go_enter Tryz.func150, Tryz.ntmps150
  go_wp2
  go_loop [11] (fun v => ∃ k : Nat, k ≤ xs.length ∧ k ≤ ys.length ∧ v = .int .i64 k ∧ lexcmp xs ys = lexcmp (xs.drop k) (ys.drop k))
    (fun v => xs.length - (intOf v).toNat)
  case atStart => exact ⟨0, by omega, by omega, rfl, rfl⟩
  case round =>
    obtain ⟨k, hk, hk2, rfl, he⟩ := hrel
    have HE := Lib.hid he
    clear he
    have i0 : (0 : Int) ≤ (k : Int) := by omega
    by_cases hlt : k < xs.length
    · obtain ⟨b, off, rfl, hr⟩ := HX.out.2 (by omega)
      have x0 : w.cell? ⟨b, off + k, none⟩ = some (.int .i64 xs[k]) := by simpa [oneI] using range_at oneI_len hr (List.getElem?_eq_getElem hlt) 0 _ rfl
      clear hr
      by_cases hlt2 : k < ys.length
      · obtain ⟨b2, off2, rfl, hr2⟩ := HY.out.2 (by omega)
        have y0 : w.cell? ⟨b2, off2 + k, none⟩ = some (.int .i64 ys[k]) := by simpa [oneI] using range_at oneI_len hr2 (List.getElem?_eq_getElem hlt2) 0 _ rfl
        have L1 := Lib.hid (lexcmp_same hlt hlt2)
        have i1 : (k : Int) < (xs.length : Int) := by omega
        have i2 : ¬ ((ys.length : Int) ≤ (k : Int)) := by omega
        clear hr2
        obtain ⟨q, hq⟩ : ∃ q, q = cmpI xs[k] ys[k] := ⟨_, rfl⟩
        have HQ := Lib.hid hq
        clear hq
        by_cases hz : q = 0
        · have HZ := Lib.hid hz
          have hz2 : (q != 0) = false := by simp [hz]
          clear hz
          go_wp2_with (first | (go_at_call 177; go_must (refine (cmpC_any _ _ _).mono ?_); rintro e w_ ⟨rfl, rfl⟩; rw [← HQ.out]))
          exact ⟨⟨k + 1, by omega, by omega, by go_num, by rw [HE.out, L1.out, ← HQ.out, if_pos HZ.out]⟩, by simp [intOf]; omega⟩
        · have HZ := Lib.hid hz
          have hz2 : (q != 0) = true := by simp [hz]
          clear hz
          go_wp2_with (first | (go_at_call 177; go_must (refine (cmpC_any _ _ _).mono ?_); rintro e w_ ⟨rfl, rfl⟩; rw [← HQ.out]))
          go_ret
          exact ⟨ret_int (by rw [HE.out, L1.out, ← HQ.out, if_neg HZ.out]), rfl⟩
      · obtain rfl : k = ys.length := by omega
        have i1 : (ys.length : Int) < (xs.length : Int) := by omega
        have HL := Lib.hid (show lexcmp xs ys = 1 by rw [HE.out, List.drop_length, List.drop_eq_getElem_cons hlt]; rfl)
        go_wp2
        go_ret
        exact ⟨ret_int (by rw [HL.out]), rfl⟩
    · obtain rfl : k = xs.length := by omega
      by_cases hlt2 : xs.length < ys.length
      · have i1 : (xs.length : Int) < (ys.length : Int) := by omega
        have HL := Lib.hid (show lexcmp xs ys = -1 by rw [HE.out, List.drop_length, List.drop_eq_getElem_cons hlt2]; rfl)
        go_wp2
        go_ret
        exact ⟨ret_int (by rw [HL.out]), rfl⟩
      · have i1 : ¬ ((xs.length : Int) < (ys.length : Int)) := by omega
        have HL := Lib.hid (show lexcmp xs ys = 0 by rw [HE.out, List.drop_length, List.drop_of_length_le (by omega)]; rfl)
        go_wp2
        go_ret
        exact ⟨ret_int (by rw [HL.out]), rfl⟩
end Go.Proofs.YtkomhngokcejbaaGreatDoor
