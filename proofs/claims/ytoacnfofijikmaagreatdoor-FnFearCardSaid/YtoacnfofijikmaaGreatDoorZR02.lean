/- Texts of a proof, laid together: Scarecrow, Scares, Scares2, Grow, Gen, Aged, Mark. -/
import Derived.Test.YtoacnfofijikmaaGreatDoorZR00
import Derived.Test.YtoacnfofijikmaaGreatDoorZR01
import Derived.Great.BuildSlice
import Derived.Laws.OwnMore
namespace Go.Proofs.YtoacnfofijikmaaGreatDoor
set_option linter.unusedSimpArgs false
set_option linter.unusedVariables false
open Go.RowKit
structure Scarecrow where
  cell : Int
  power : Int
  age : Int
  deriving DecidableEq
def Scarecrow.vals (x : Scarecrow) : List Value := [.int .i16 x.cell, .int .i16 x.power, .int .i8 x.age]
theorem Scarecrow.vl (x : Scarecrow) : x.vals.length = 3 := rfl
theorem Scarecrow.one (x : Scarecrow) : x.vals.toArray.all (·.oneCell') = true := by simp [Scarecrow.vals, Value.oneCell']
structure Scarecrow.ok (x : Scarecrow) : Prop where
  cell : -32768 ≤ x.cell ∧ x.cell ≤ 32767
  power : -32768 ≤ x.power ∧ x.power ≤ 32767
  age : -128 ≤ x.age ∧ x.age ≤ 127
def Scarecrow.z : Scarecrow := ⟨0, 0, 0⟩
theorem elem_Scarecrow : ElemOk Tryz.prog 31 60 (.agg Scarecrow.z.vals.toArray) 3 6 := ⟨by kernel_rfl, by kernel_rfl, by kernel_rfl, by decide⟩
def Scarecrow.ks : List IntKind := [.i16, .i16, .i8]
theorem Scarecrow.of_conf (cs : List Value) (h : Conf Scarecrow.ks cs) : ∃ x : Scarecrow, x.ok ∧ x.vals = cs := by
  obtain ⟨e0, r, rfl, w0, h⟩ := h.cons
  obtain ⟨e1, r, rfl, w1, h⟩ := h.cons
  obtain ⟨e2, r, rfl, w2, h⟩ := h.cons
  obtain rfl := h.nil_eq
  exact ⟨⟨e0, e1, e2⟩, ⟨bounds_i16 w0, bounds_i16 w1, bounds_i8 w2⟩, rfl⟩
end Go.Proofs.YtoacnfofijikmaaGreatDoor
namespace Go.Proofs.YtoacnfofijikmaaGreatDoor
set_option linter.unusedSimpArgs false
set_option linter.unusedVariables false
open Go.RowKit
attribute [local go_sem] cell?_mk frozen?_mk

def Scarecrow.plain (x : Scarecrow) : Bool := inB x.cell 0 99 && (inB x.power 1 1000 && inB x.age 0 30)
def Fld.place (F : Fld) (c : Int) : Bool := F.has c && (F.kind c.toNat != 3)
theorem mul9 (x : Int) (hx : -9 ≤ x ∧ x ≤ 9) : 0 ≤ x * x ∧ x * x ≤ 81 := by
  have h : ((x.natAbs * x.natAbs : Nat) : Int) = x * x := Int.natAbs_mul_self
  have : x.natAbs * x.natAbs ≤ 9 * 9 := Nat.mul_le_mul (by omega) (by omega)
  omega
def sq (a b : Int) : Int := (a % 10 - b % 10) * (a % 10 - b % 10) + (a / 10 - b / 10) * (a / 10 - b / 10)
theorem sq_small {a b : Int} (a0 : 0 ≤ a) (a1 : a ≤ 99) (b0 : 0 ≤ b) (b1 : b ≤ 99) : 0 ≤ sq a b ∧ sq a b ≤ 162 := by
  have h1 : -9 ≤ a % 10 - b % 10 ∧ a % 10 - b % 10 ≤ 9 := by omega
  have h2 : -9 ≤ a / 10 - b / 10 ∧ a / 10 - b / 10 ≤ 9 := by omega
  have k1 := mul9 _ h1
  have k2 := mul9 _ h2
  unfold sq
  omega
theorem age3 {c : Int} (c0 : 0 ≤ c) (c1 : c ≤ 30) : IntKind.i8.wrap (c.tdiv 3) = c / 3 := by
  rw [Int.tdiv_eq_ediv_of_nonneg c0]
  exact IntWalk.i8_in _ (by omega)
theorem age3u {c : Int} (c0 : 0 ≤ c) (c1 : c ≤ 30) : min (IntKind.u64.wrap (IntKind.i8.wrap (c.tdiv 3))).toNat 64 = (c / 3).toNat := by
  rw [age3 c0 c1, IntWalk.u64_in _ (by omega)]
  omega
def Scarecrow.fear (x : Scarecrow) (c : Int) : Int := (x.power / 2 ^ (x.age / 3).toNat) / (1 + sq x.cell c)
theorem Scarecrow.plain_iff {x : Scarecrow} : x.plain = true ↔ (0 ≤ x.cell ∧ x.cell ≤ 99) ∧ (1 ≤ x.power ∧ x.power ≤ 1000) ∧ (0 ≤ x.age ∧ x.age ≤ 30) := by
  simp [Scarecrow.plain, inB_iff]

set_option maxRecDepth 100000 in
set_option maxHeartbeats 1000000 in
theorem isPower_any (n : Int) (w : World) :
    Calls Tryz.prog 54 #[.int .i64 n] w fun e w' => e = .returned (.bool (inB n 1 1000)) ∧ w = w' := by
  go_enter Tryz.func54, Tryz.ntmps54
  go_wp2_with (first
    | (go_at_call 59; go_must (refine (within_any _ _ _ _).mono ?_); rintro e w_ ⟨rfl, rfl⟩)
    )
  go_ret
  exact ⟨rfl, rfl⟩

set_option maxRecDepth 100000 in
set_option maxHeartbeats 1000000 in
theorem isPlainS_any (x : Scarecrow) (hx : x.ok) (w : World) :
    Calls Tryz.prog 41 #[.agg x.vals.toArray] w fun e w' => e = .returned (.bool x.plain) ∧ Mem w w' [] := by
  have M := Lib.hid (Mem.start w)
  obtain ⟨a0, a1⟩ := hx.cell
  obtain ⟨b0, b1⟩ := hx.power
  obtain ⟨c0, c1⟩ := hx.age
  obtain ⟨a, b, c⟩ := x
  simp only [Scarecrow.vals] at *
  cases h1 : inB a 0 99 <;> cases h2 : inB b 1 1000 <;>
  · have H1 := Lib.hid h1
    have H2 := Lib.hid h2
    clear h1 h2
    go_enter Tryz.func41, Tryz.ntmps41
    go_wp2_with (first
      | ((with_reducible refine gate_dst (N := 1) rfl ?_); go_must (refine M.out.ev_new rfl (by first | (go_simp; done) | (go_simp; rfl)) ?_); intro g1 w1 m; simp only [List.cons_append, List.nil_append] at m; have M := Lib.hid m; clear m; try have q0_1 := M.out.cell (j := 1) 0 rfl (by first | assumption | rfl); try have q0_2 := M.out.cell (j := 2) 0 rfl (by first | assumption | rfl))
      | ((with_reducible refine gate_dst (N := 4) rfl ?_); go_must (refine M.out.ev_ld 0 _ _ rfl rfl rfl Tryz.underlying26 rfl rfl (by first | assumption | rfl) ?_))
      | (go_at_call 59; refine (within_any _ _ _ _).mono ?_; rintro e w' ⟨rfl, rfl⟩; first | rw [H1.out] | skip)
      | (go_at_call 54; refine (isPower_any _ _).mono ?_; rintro e w' ⟨rfl, rfl⟩; rw [H2.out])
      )
    go_ret
    exact ⟨ret_bool (by simp [Scarecrow.plain, H1.out, H2.out]), M.out.take 0⟩

set_option maxRecDepth 100000 in
set_option maxHeartbeats 1000000 in
theorem l03Shape_any (x : Scarecrow) (hx : x.ok) (w : World) :
    Calls Tryz.prog 117 #[.agg x.vals.toArray] w fun e w' => e = .returned (.bool x.plain) ∧ Mem w w' [] := by
  have M := Lib.hid (Mem.start w)
  obtain ⟨a0, a1⟩ := hx.cell
  obtain ⟨b0, b1⟩ := hx.power
  obtain ⟨c0, c1⟩ := hx.age
  obtain ⟨a, b, c⟩ := x
  simp only [Scarecrow.vals] at *
  cases h1 : inB a 0 99 <;> cases h2 : inB b 1 1000 <;>
  · have H1 := Lib.hid h1
    have H2 := Lib.hid h2
    clear h1 h2
    go_enter Tryz.func117, Tryz.ntmps117
    go_wp2_with (first
      | ((with_reducible refine gate_dst (N := 1) rfl ?_); go_must (refine M.out.ev_new rfl (by first | (go_simp; done) | (go_simp; rfl)) ?_); intro g1 w1 m; simp only [List.cons_append, List.nil_append] at m; have M := Lib.hid m; clear m; try have q0_1 := M.out.cell (j := 1) 0 rfl (by first | assumption | rfl); try have q0_2 := M.out.cell (j := 2) 0 rfl (by first | assumption | rfl))
      | ((with_reducible refine gate_dst (N := 4) rfl ?_); go_must (refine M.out.ev_ld 0 _ _ rfl rfl rfl Tryz.underlying26 rfl rfl (by first | assumption | rfl) ?_))
      | (go_at_call 61; refine (l00In_any _ _ _ _).mono ?_; rintro e w' ⟨rfl, rfl⟩; first | rw [H1.out] | rw [H2.out] | skip)
      )
    go_ret
    exact ⟨ret_bool (by simp [Scarecrow.plain, H1.out, H2.out]), M.out.take 0⟩

set_option maxRecDepth 100000 in
set_option maxHeartbeats 1000000 in
theorem isPlace_any (b : Nat) {t : TypeId} (F : Fld) (hF : F.ok) (c : Int) (w : World) (hb : Blk w b t F.cells) :
    Calls Tryz.prog 79 #[.pointer (some ⟨b, 0, none⟩), .int .i64 c] w fun e w' => e = .returned (.bool (F.place c)) ∧ w = w' := by
  cases h : F.has c
  · have H := Lib.hid h
    have HB := Lib.hid hb
    clear h hb
    go_enter Tryz.func79, Tryz.ntmps79
    go_wp2_with (first
      | (go_at_call 47; refine (has_any b F hF c _ HB.out).mono ?_; rintro e w' ⟨rfl, rfl⟩; rw [H.out])
      )
    go_ret
    exact ⟨ret_bool (by simp [Fld.place, H.out]), rfl⟩
  · obtain ⟨⟨c0, c1⟩, _⟩ := Fld.has_iff.1 h
    obtain ⟨k, rfl⟩ : ∃ k : Nat, c = k := ⟨c.toNat, by omega⟩
    have H := Lib.hid h
    have HB := Lib.hid hb
    have hc := hb.cellv (Fld.cellK hF.toLen (k := k) (by omega))
    have kb := hF.kb k
    clear h hb
    go_enter Tryz.func79, Tryz.ntmps79
    go_wp2_with (first
      | (go_at_call 47; refine (has_any b F hF k _ HB.out).mono ?_; rintro e w' ⟨rfl, rfl⟩; rw [H.out])
      )
    go_ret
    exact ⟨ret_bool (by simp [Fld.place, H.out]), rfl⟩

set_option maxRecDepth 100000 in
set_option maxHeartbeats 1000000 in
theorem square_any (a b : Int) (a0 : 0 ≤ a) (a1 : a ≤ 99) (b0 : 0 ≤ b) (b1 : b ≤ 99) (w : World) :
    Calls Tryz.prog 115 #[.int .i64 a, .int .i64 b] w fun e w' => e = .returned (.int .i64 (sq a b)) ∧ w = w' := by
  go_enter Tryz.func115, Tryz.ntmps115
  go_wp2
  go_ret
  refine ⟨ret_int ?_, rfl⟩
  have k1 := mul9 (a % 10 - b % 10) (by omega)
  have k2 := mul9 (a / 10 - b / 10) (by omega)
  unfold sq
  rw [IntWalk.wrap64_in ((a % 10 - b % 10) * (a % 10 - b % 10)) (by omega), IntWalk.wrap64_in ((a / 10 - b / 10) * (a / 10 - b / 10)) (by omega)]
  exact IntWalk.wrap64_in _ (by omega)

set_option maxRecDepth 100000 in
set_option maxHeartbeats 1000000 in
theorem l01Square_any (a b : Int) (a0 : 0 ≤ a) (a1 : a ≤ 99) (b0 : 0 ≤ b) (b1 : b ≤ 99) (w : World) :
    Calls Tryz.prog 96 #[.int .i64 a, .int .i64 b] w fun e w' => e = .returned (.int .i64 (sq a b)) ∧ w = w' := by
  go_enter Tryz.func96, Tryz.ntmps96
  go_wp2
  go_ret
  refine ⟨ret_int ?_, rfl⟩
  have k1 := mul9 (a % 10 - b % 10) (by omega)
  have k2 := mul9 (a / 10 - b / 10) (by omega)
  unfold sq
  rw [IntWalk.wrap64_in ((a % 10 - b % 10) * (a % 10 - b % 10)) (by omega), IntWalk.wrap64_in ((a / 10 - b / 10) * (a / 10 - b / 10)) (by omega)]
  exact IntWalk.wrap64_in _ (by omega)

set_option maxRecDepth 100000 in
set_option maxHeartbeats 1000000 in
theorem l03Counts_any (x : Scarecrow) (hx : x.plain = true) (w : World) :
    Calls Tryz.prog 95 #[.agg x.vals.toArray] w fun e w' => e = .returned (.int .i64 (x.power / 2 ^ (x.age / 3).toNat)) ∧ Mem w w' [] := by
  have M := Lib.hid (Mem.start w)
  obtain ⟨⟨a0, a1⟩, ⟨b0, b1⟩, c0, c1⟩ := Scarecrow.plain_iff.1 hx
  obtain ⟨a, b, c⟩ := x
  simp only [Scarecrow.vals] at *
  go_enter Tryz.func95, Tryz.ntmps95
  go_wp2_with (first
    | ((with_reducible refine gate_dst (N := 1) rfl ?_); go_must (refine M.out.ev_new rfl (by first | (go_simp; done) | (go_simp; rfl)) ?_); intro g1 w1 m; simp only [List.cons_append, List.nil_append] at m; have M := Lib.hid m; clear m)
    | ((with_reducible refine gate_dst (N := 4) rfl ?_); go_must (refine M.out.ev_ld 0 _ _ rfl rfl rfl Tryz.underlying26 rfl rfl (by first | assumption | rfl) ?_))
    | ((with_reducible refine gate_dst (N := 7) rfl ?_); go_must (refine M.out.ev_ld 0 _ _ rfl rfl rfl Tryz.underlying24 rfl rfl (by first | assumption | rfl) ?_))
    )
  go_ret
  exact ⟨ret_int (by rw [age3u c0 c1]), M.out.take 0⟩

set_option maxRecDepth 100000 in
set_option maxHeartbeats 1000000 in
theorem fear_any (x : Scarecrow) (hx : x.plain = true) (c : Int) (d0 : 0 ≤ c) (d1 : c ≤ 99) (w : World) :
    Calls Tryz.prog 92 #[.agg x.vals.toArray, .int .i64 c] w fun e w' => e = .returned (.int .i64 (x.fear c)) ∧ Mem w w' [] := by
  have M := Lib.hid (Mem.start w)
  obtain ⟨⟨a0, a1⟩, ⟨b0, b1⟩, c0, c1⟩ := Scarecrow.plain_iff.1 hx
  obtain ⟨a, b, g⟩ := x
  simp only [Scarecrow.vals] at *
  have hs := sq_small a0 a1 d0 d1
  have e1 := age3 c0 c1
  have e2 : IntKind.i64.wrap (1 + sq a c) = 1 + sq a c := IntWalk.i64_in _ (by omega)
  have e3 : ¬ (1 + sq a c = 0) := by omega
  have e4 : ¬ (g / 3 < 0) := by omega
  have ea : IntKind.i64.wrap a = a := IntWalk.i64_in _ (by omega)
  have eb : IntKind.i64.wrap b = b := IntWalk.i64_in _ (by omega)
  go_enter Tryz.func92, Tryz.ntmps92
  go_wp2_with (first
    | ((with_reducible refine gate_dst (N := 2) rfl ?_); go_must (refine M.out.ev_new rfl (by first | (go_simp; done) | (go_simp; rfl)) ?_); intro g2 w2 m; simp only [List.cons_append, List.nil_append] at m; have M := Lib.hid m; clear m; try have q0_1 := M.out.cell (j := 1) 0 rfl (by first | assumption | rfl); try have q0_2 := M.out.cell (j := 2) 0 rfl (by first | assumption | rfl); try have q0_0 := M.out.cell (j := 0) 0 rfl (by first | assumption | rfl))
    | ((with_reducible refine gate_dst (N := 6) rfl ?_); go_must (refine M.out.ev_ld 0 _ _ rfl rfl rfl Tryz.underlying26 rfl rfl (by first | assumption | rfl) ?_))
    | ((with_reducible refine gate_dst (N := 9) rfl ?_); go_must (refine M.out.ev_ld 0 _ _ rfl rfl rfl Tryz.underlying24 rfl rfl (by first | assumption | rfl) ?_))
    | ((with_reducible refine gate_dst (N := 13) rfl ?_); go_must (refine M.out.ev_ld 0 _ _ rfl rfl rfl Tryz.underlying26 rfl rfl (by first | assumption | rfl) ?_))
    )
  go_quiet ((refine Calls.quiet_of_same (v := .int .i64 (sq a c)) ?_; exact (square_any _ _ a0 a1 d0 d1 _).mono fun _ _ h => ⟨h.1, h.2.symm⟩))
  have m := M.out.drewN nq
  go_wp2
  go_ret
  refine ⟨ret_int ?_, m.take 0⟩
  have p0 : 0 ≤ b / 2 ^ (g / 3).toNat ∧ b / 2 ^ (g / 3).toNat ≤ 1000 := by
    have hp : (1 : Int) ≤ 2 ^ (g / 3).toNat := by
      have := Int.pow_pos (n := (2 : Int)) (m := (g / 3).toNat) (by omega)
      omega
    exact ⟨Int.ediv_nonneg (by omega) (by omega), Int.le_trans (Int.ediv_le_self _ (by omega)) (by omega)⟩
  have p1 : 0 ≤ b / 2 ^ (g / 3).toNat / (1 + sq a c) ∧ b / 2 ^ (g / 3).toNat / (1 + sq a c) ≤ 1000 :=
    ⟨Int.ediv_nonneg p0.1 (by omega), Int.le_trans (Int.ediv_le_self _ p0.1) p0.2⟩
  rw [Int.tdiv_eq_ediv_of_nonneg p0.1]
  exact IntWalk.wrap64_in _ (by omega)
theorem fear_small {x : Scarecrow} (hx : x.plain = true) {c : Int} (d0 : 0 ≤ c) (d1 : c ≤ 99) : 0 ≤ x.fear c ∧ x.fear c ≤ 1000 := by
  obtain ⟨⟨a0, a1⟩, ⟨b0, b1⟩, c0, c1⟩ := Scarecrow.plain_iff.1 hx
  have hs := sq_small a0 a1 d0 d1
  have p0 : 0 ≤ x.power / 2 ^ (x.age / 3).toNat ∧ x.power / 2 ^ (x.age / 3).toNat ≤ 1000 := by
    have hp : (1 : Int) ≤ 2 ^ (x.age / 3).toNat := by
      have := Int.pow_pos (n := (2 : Int)) (m := (x.age / 3).toNat) (by omega)
      omega
    exact ⟨Int.ediv_nonneg (by omega) (by omega), Int.le_trans (Int.ediv_le_self _ (by omega)) (by omega)⟩
  exact ⟨Int.ediv_nonneg p0.1 (by omega), Int.le_trans (Int.ediv_le_self _ p0.1) p0.2⟩
end Go.Proofs.YtoacnfofijikmaaGreatDoor
namespace Go.Proofs.YtoacnfofijikmaaGreatDoor
set_option linter.unusedSimpArgs false
set_option linter.unusedVariables false
open Go.RowKit
attribute [local go_sem] cell?_mk frozen?_mk

def big (a b : Int) : Int := if a < b then b else a
def fearAt (xs : List Scarecrow) (c : Int) : Int := xs.foldl (fun m x => big m (x.fear c)) 0
theorem fearAt_snoc (xs : List Scarecrow) (x : Scarecrow) (c : Int) : fearAt (xs ++ [x]) c = big (fearAt xs c) (x.fear c) := by simp [fearAt]
theorem fearAt_small {xs : List Scarecrow} {c : Int} (hx : ∀ x ∈ xs, x.plain = true) (d0 : 0 ≤ c) (d1 : c ≤ 99) : 0 ≤ fearAt xs c ∧ fearAt xs c ≤ 1000 := by
  have key : ∀ (xs : List Scarecrow) (m : Int), (∀ x ∈ xs, x.plain = true) → 0 ≤ m ∧ m ≤ 1000 → 0 ≤ xs.foldl (fun m x => big m (x.fear c)) m ∧ xs.foldl (fun m x => big m (x.fear c)) m ≤ 1000 := by
    intro xs
    induction xs with
    | nil => intro m _ h; exact h
    | cons x r ih =>
      intro m h hm
      have := fear_small (h x (by simp)) d0 d1
      exact ih _ (fun y hy => h y (by simp [hy])) (by show 0 ≤ big m (x.fear c) ∧ big m (x.fear c) ≤ 1000; unfold big; split <;> omega)
  exact key xs 0 hx (by omega)

set_option maxRecDepth 100000 in
set_option maxHeartbeats 1000000 in
theorem fearOf_any (A : Option Addr) (n : Nat) (xs : List Scarecrow) (hx : ∀ x ∈ xs, x.plain = true) (hn : xs.length ≤ 1048576) (c : Int) (d0 : 0 ≤ c) (d1 : c ≤ 99) (w : World) (hs : Sl w 3 A xs.length (flat Scarecrow.vals xs)) :
    Calls Tryz.prog 48 #[.slice A xs.length n, .int .i64 c] w fun e w' => e = .returned (.int .i64 (fearAt xs c)) ∧ Mem w w' [] := by
  have M := Lib.hid (Mem.start w)
  have HX := Lib.hid hx
  have HS := Lib.hid hs
  clear hx hs
  go_enter Tryz.func48, Tryz.ntmps48
  go_wp2
  go_loopw [5, 10] (fun m v wr => ∃ k : Nat, k ≤ xs.length ∧ v = .int .i64 k ∧ m = .int .i64 (fearAt (xs.take k) c) ∧ Mem w wr [])
    (fun _ v _ => xs.length - (intOf v).toNat)
  case atStart => exact ⟨0, by omega, rfl, rfl, M.out⟩
  case round =>
    clear M
    obtain ⟨k, hk, rfl, rfl, m⟩ := hrel
    have M := Lib.hid m
    clear m
    by_cases hlt : k < xs.length
    · obtain ⟨b, off, rfl, hr⟩ := (M.out.sl HS.out).2 (by omega)
      have hxk : xs[k]? = some xs[k] := List.getElem?_eq_getElem hlt
      have R := Lib.hid (range_at Scarecrow.vl hr hxk)
      have HP := Lib.hid (HX.out xs[k] (List.getElem_mem hlt))
      have O1 := Lib.hid (Scarecrow.one xs[k])
      have hb := fearAt_small (fun x hx => HX.out x (List.mem_of_mem_take hx)) d0 d1 (xs := xs.take k)
      have hc := fear_small HP.out d0 d1
      clear hr hxk
      go_wp2_with (first
        | ((with_reducible refine gate_dst (N := 13) rfl ?_); go_must (refine ev_ldr _ _ rfl rfl (R.out) Tryz.underlying60 rfl (by first | exact sz60 | (rw [S1.out]; exact sz60)) rfl ?_))
        | ((with_reducible refine gate_dst (N := 7) rfl ?_); go_must (refine M.out.ev_new rfl (by first | (go_simp; done) | (go_simp; rfl)) ?_); intro g7 w7 m; simp only [List.cons_append, List.nil_append] at m; have M := Lib.hid m; clear m)
        | ((with_reducible refine gate_store (x := .tmp 7) rfl ?_); go_must (refine M.out.ev_stw 0 _ _ _ rfl rfl rfl rfl _ rfl (by first | rfl | (simp only [S1.out]; rfl) | (simp only [S1.out, S2.out]; rfl) | (simp only [S3.out]; rfl) | (simp only [S1.out, S2.out, S3.out]; rfl)) (by first | exact sz60 | (rw [S1.out]; exact sz60) | (rw [S2.out]; exact sz60) | (rw [S3.out]; exact sz60)) (by first | exact ints_one _ _ | exact Fld.one _ | exact O1.out | rfl | (simp [Value.oneCell']; done)) rfl ?_); intro wn m; simp only [List.set_cons_succ, List.set_cons_zero, List.setIfInBounds_toArray] at m; have M := Lib.hid m; clear m)
        | ((with_reducible refine gate_dst (N := 15) rfl ?_); go_must (refine M.out.ev_ldw 0 _ _ rfl rfl rfl Tryz.underlying60 rfl (by first | exact sz60 | (rw [S1.out]; exact sz60) | (rw [S2.out]; exact sz60) | (rw [S3.out]; exact sz60)) rfl ?_))
        | (go_at_call 92; go_must (refine (fear_any xs[k] HP.out c d0 d1 _).mono ?_); rintro e w_ ⟨rfl, N_⟩; have m := M.out.join N_; clear N_; simp only [List.cons_append, List.nil_append, List.append_nil] at m; have M := Lib.hid m; clear m)
        )
      refine ⟨⟨k + 1, by omega, by go_num, ?_, M.out.take 0⟩, by simp [intOf]; omega⟩
      rw [List.take_succ_eq_append_getElem hlt, fearAt_snoc]
      rfl
    · obtain rfl : k = xs.length := by omega
      rw [List.take_length]
      go_wp2
      go_ret
      exact ⟨ret_int rfl, M.out⟩

theorem fear_wrap {x : Scarecrow} (hx : x.plain = true) {c : Int} (d0 : 0 ≤ c) (d1 : c ≤ 99) : IntKind.i64.wrap ((x.power / 2 ^ (x.age / 3).toNat).tdiv (1 + sq x.cell c)) = x.fear c := by
  obtain ⟨⟨a0, a1⟩, ⟨b0, b1⟩, c0, c1⟩ := Scarecrow.plain_iff.1 hx
  have hf := fear_small hx d0 d1
  have p0 : 0 ≤ x.power / 2 ^ (x.age / 3).toNat := by
    have := Int.pow_pos (n := (2 : Int)) (m := (x.age / 3).toNat) (by omega)
    exact Int.ediv_nonneg (by omega) (by omega)
  rw [Int.tdiv_eq_ediv_of_nonneg p0]
  exact IntWalk.i64_in _ (by unfold Scarecrow.fear at hf; omega)
set_option maxRecDepth 100000 in
set_option maxHeartbeats 1000000 in
theorem l00Max_any (a b : Int) (w : World) :
    Calls Tryz.prog 94 #[.int .i64 a, .int .i64 b] w fun e w' => e = .returned (.int .i64 (big a b)) ∧ w = w' := by
  by_cases h : b < a
  · go_enter Tryz.func94, Tryz.ntmps94
    go_wp2
    go_ret
    exact ⟨ret_int (by unfold big; rw [if_neg (by omega)]), rfl⟩
  · go_enter Tryz.func94, Tryz.ntmps94
    go_wp2
    go_ret
    exact ⟨ret_int (by unfold big; split <;> omega), rfl⟩
set_option maxRecDepth 100000 in
set_option maxHeartbeats 1000000 in
theorem l03Fear_any (A : Option Addr) (n : Nat) (xs : List Scarecrow) (hx : ∀ x ∈ xs, x.plain = true) (hn : xs.length ≤ 1048576) (c : Int) (d0 : 0 ≤ c) (d1 : c ≤ 99) (w : World) (hs : Sl w 3 A xs.length (flat Scarecrow.vals xs)) :
    Calls Tryz.prog 51 #[.slice A xs.length n, .int .i64 c] w fun e w' => e = .returned (.int .i64 (fearAt xs c)) ∧ Mem w w' [] := by
  have M := Lib.hid (Mem.start w)
  have HX := Lib.hid hx
  have HS := Lib.hid hs
  clear hx hs
  go_enter Tryz.func51, Tryz.ntmps51
  go_wp2
  go_loopw [5, 6] (fun m v wr => ∃ k : Nat, k ≤ xs.length ∧ v = .int .i64 k ∧ m = .int .i64 (fearAt (xs.take k) c) ∧ Mem w wr [])
    (fun _ v _ => xs.length - (intOf v).toNat)
  case atStart => exact ⟨0, by omega, rfl, rfl, M.out⟩
  case round =>
    clear M
    obtain ⟨k, hk, rfl, rfl, m⟩ := hrel
    have M := Lib.hid m
    clear m
    by_cases hlt : k < xs.length
    · obtain ⟨b, off, rfl, hr⟩ := (M.out.sl HS.out).2 (by omega)
      have hxk : xs[k]? = some xs[k] := List.getElem?_eq_getElem hlt
      have R := Lib.hid (range_at Scarecrow.vl hr hxk)
      have HP := Lib.hid (HX.out xs[k] (List.getElem_mem hlt))
      have hb := fearAt_small (fun x hx => HX.out x (List.mem_of_mem_take hx)) d0 d1 (xs := xs.take k)
      have hc := fear_small HP.out d0 d1
      obtain ⟨⟨p0, p1⟩, ⟨p2, p3⟩, p4, p5⟩ := Scarecrow.plain_iff.1 HP.out
      have hq := sq_small p0 p1 d0 d1
      have e2 : IntKind.i64.wrap (1 + sq xs[k].cell c) = 1 + sq xs[k].cell c := IntWalk.i64_in _ (by omega)
      have e3 : ¬ (1 + sq xs[k].cell c = 0) := by omega
      have ea : IntKind.i64.wrap xs[k].cell = xs[k].cell := IntWalk.i64_in _ (by omega)
      have x0 : wr.cell? ⟨b, off + k * 3, none⟩ = some (.int .i16 xs[k].cell) := R.out 0 _ rfl
      have x1 : wr.cell? ⟨b, off + k * 3 + 1, none⟩ = some (.int .i16 xs[k].power) := R.out 1 _ rfl
      have x2 : wr.cell? ⟨b, off + k * 3 + 2, none⟩ = some (.int .i8 xs[k].age) := R.out 2 _ rfl
      clear hr hxk
      go_wp2
      go_region_held3 (fun w' => w'.cell? ⟨b, off + k * 3, none⟩ = some (.int .i16 xs[k].cell) ∧ w'.cell? ⟨b, off + k * 3 + 1, none⟩ = some (.int .i16 xs[k].power) ∧ w'.cell? ⟨b, off + k * 3 + 2, none⟩ = some (.int .i8 xs[k].age)) (first | go_keep | (go_split_ands; (repeat' apply And.intro) <;> exact cell_kept N_.below (by assumption)))
        (first | (go_at_call 95; refine (l03Counts_any xs[k] HP.out _).mono ?_; rintro e w_ ⟨rfl, N_⟩) | (go_at_call 96; refine (l01Square_any xs[k].cell c (by omega) (by omega) d0 d1 _).mono ?_; rintro e w_ ⟨rfl, rfl⟩) | (go_at_call 94; refine (l00Max_any _ _ _).mono ?_; rintro e w_ ⟨rfl, rfl⟩))
      rw [fear_wrap HP.out d0 d1]
      have M := Lib.hid ((M.out.drew.join N_).take 0)
      clear N_ x0 x1 x2
      go_wp2
      refine ⟨⟨k + 1, by omega, by go_num, ?_, M.out⟩, by simp [intOf]; omega⟩
      rw [List.take_succ_eq_append_getElem hlt, fearAt_snoc]
    · obtain rfl : k = xs.length := by omega
      rw [List.take_length]
      go_wp2
      go_ret
      exact ⟨ret_int rfl, M.out⟩
end Go.Proofs.YtoacnfofijikmaaGreatDoor
namespace Go.Proofs.YtoacnfofijikmaaGreatDoor
set_option linter.unusedSimpArgs false
set_option linter.unusedVariables false
open Go.RowKit

section
variable {P : Program} {ops : Array Oper} {rest : List Oper} {o : Oper} {a : Act} {w0 w : World} {Q : Exit → Act → World → Prop} {L : List Ent}
theorem set_same {α : Type} {L : List α} {i : Nat} {x : α} (h : L[i]? = some x) : L.set i x = L := by
  apply List.ext_getElem?
  intro j
  rw [List.getElem?_set]
  split
  · rename_i hij
    subst hij
    rw [if_pos (List.getElem?_eq_some_iff.1 h).1, h]
  · rfl
/-- One cell of one element exchanged. -/
theorem flat_put {α : Type} {enc : α → List Value} {sz : Nat} (h : ∀ x, (enc x).length = sz) {j : Nat} (hj : j < sz) {v : Value} : ∀ (xs : List α) (k : Nat) (x y : α), xs[k]? = some x → enc y = (enc x).set j v → (flat enc xs).set (k * sz + j) v = flat enc (xs.set k y)
  | [], k, x, y, hk, _ => by simp at hk
  | z :: r, 0, x, y, hk, hy => by
    simp only [List.getElem?_cons_zero, Option.some.injEq] at hk
    subst hk
    simp only [flat, List.flatMap_cons, List.set_cons_zero, Nat.zero_mul, Nat.zero_add]
    rw [List.set_append, if_pos (by rw [h]; exact hj), hy]
  | z :: r, k + 1, x, y, hk, hy => by
    simp only [List.getElem?_cons_succ] at hk
    have := flat_put h hj r k x y hk hy
    simp only [flat, List.flatMap_cons, List.set_cons_succ] at this ⊢
    rw [List.set_append, if_neg (by rw [h, Nat.add_mul]; omega), h, ← this]
    congr 2
    rw [Nat.add_mul]
    omega
theorem run_bs0 {T e : TypeId} {zv : Value} {sz bytes : Nat} (E : ElemOk P T e zv sz bytes) (w : World) :
    (Instr.buildSlice T 0 #[]).run P w = .ok (.slice (some ⟨w.heap.size, 0, none⟩) 0 0) (w.alloc (.cells #[] e)) := by
  obtain ⟨i, hi, h1, h2, h3⟩ := E.get
  have h0 : Array.range 0 = #[] := by simp
  simp [Instr.buildSlice, run_underlying E.sl, sizeOf, typeInfo, hi, newRow, Instr.fill, h0]
theorem Mem.row0 (M : Mem w0 w L) (e : TypeId) (sz : Nat) : Mem w0 (w.alloc (.cells #[] e)) (L ++ [.row (.slice (some ⟨w.heap.size, 0, none⟩) 0 0) e sz 0 []]) :=
  M.push _ ((Below.refl _ _).alloc (Nat.le_refl _) _) ⟨by simp, .inr ⟨w.heap.size, 0, #[], rfl, M.size, heap_alloc_new w _, Nat.le_refl _, by unfold maxLen; omega, by simp, by simp⟩⟩ (fun k hk => by
    simp only [Ent.place, Value.ownBlock, Option.some.injEq] at hk; omega)
/-- []T{}. -/
theorem Mem.ev_bs0 (M : Mem w0 w L) {T e : TypeId} {zv : Value} {sz bytes : Nat} (E : ElemOk P T e zv sz bytes) (hgd : o.guard = none) (ho : o.op = .buildSlice T 0 #[])
    (h : ∀ g w1, Mem w0 w1 (L ++ [.row (.slice (some ⟨g, 0, none⟩) 0 0) e sz 0 []]) → wpList P ops Q rest (a.put o.dst (.slice (some ⟨g, 0, none⟩) 0 0)) w1) : wpList P ops Q (o :: rest) a w := by
  refine wpList_plain hgd fun K hK => ?_
  unfold Oper.wp execOp
  have hm : (#[] : Array (Nat × Operand)).map (fun (i, x) => (i, a.eval x)) = #[] := by simp
  simp only [ho, hm, Sem.run_bind, run_bs0 E, Result.andThen_ok]
  exact hK _ _ (h _ _ (M.row0 e sz))
/-- []T{x}. -/
theorem Mem.ev_bs1 (M : Mem w0 w L) {T e : TypeId} {zv : Value} {sz bytes : Nat} (E : ElemOk P T e zv sz bytes) (hgd : o.guard = none) (x : Operand) (ho : o.op = .buildSlice T 1 #[(0, x)])
    (cs : Array Value) (hx : (a.eval x).cells = cs) (hl : cs.size = sz) (hsz : sz ≤ 2 ^ 24)
    (h : ∀ g w1, Mem w0 w1 (L ++ [.blk g e cs]) → wpList P ops Q rest (a.put o.dst (.slice (some ⟨g, 0, none⟩) 1 1)) w1) : wpList P ops Q (o :: rest) a w := by
  obtain ⟨i, hi, h1, h2, h3⟩ := E.get
  have hp := E.pos
  refine wpList_buildSlice hgd T e 1 _ ho cs i zv E.sl hi h1 (by rw [h2]; omega) (by rw [h2]; omega) ?_ ?_
  · have hc : (a.eval x).cells.size = i.size := by rw [hx, hl, h2]
    have hz : zv.cells.size = i.size := by rw [E.zs, h2]
    have := Great.fill_whole (s := i.size) (by omega) [a.eval x] ((Array.range (1 * i.size)).map (zv.cells[· % zv.cells.size]!)) (by simpa using hc) (by simp)
    simpa [hx] using this
  · exact h _ _ (M.new (Nat.le_refl _) (Blk.new w e cs) ((Below.refl _ _).alloc (Nat.le_refl _) _))
/-- append of a slice that lies somewhere, or is none. -/
theorem Mem.ev_appends (M : Mem w0 w L) (i : Nat) {T e : TypeId} {zv : Value} {sz bytes : Nat} (E : ElemOk P T e zv sz bytes) (hgd : o.guard = none) (s x : Operand)
    (ho : o.op = .call { callee := .builtin .append, args := #[s, x], argTypes := #[T, T] }) {v : Value} {n : Nat} {cs : List Value} (hL : L[i]? = some (.row v e sz n cs)) (hs : a.eval s = v)
    {A : Option Addr} {m c : Nat} (hx : a.eval x = .slice A m c) {news : List Value} (hN : Sl w sz A m news) (hA : A = none → c = 0) (hmc : m ≤ c) (h1 : ∀ u ∈ news, u.oneCell' = true)
    (hbytes : (n + m) * bytes ≤ 140737488355328) (hb0 : 0 < bytes)
    (h : ∀ v' w1, Mem w0 w1 (L.set i (.row v' e sz (n + m) (cs ++ news))) → wpList P ops Q rest (a.put o.dst v') w1) : wpList P ops Q (o :: rest) a w := by
  cases A with
  | some ad =>
    rcases Nat.eq_zero_or_pos m with hm | hm
    · subst hm
      have hn0 : news = [] := by have := hN.1; simpa using this
      subst hn0
      exact M.ev_append i E hgd s x ho hL hs hx (news := []) (by simp) (fun j u hj => by simp at hj) (by simp) hbytes hb0 h
    · obtain ⟨b, off, he, hr⟩ := hN.2 hm
      injection he with he
      subst he
      exact M.ev_append i E hgd s x ho hL hs hx (news := news) hN.1 (fun j u hj => by
        rw [show (⟨b, off, none⟩ : Addr).add j = ⟨b, off + j, none⟩ by exact Addr.add_mid _ _ _]
        exact hr j u hj) h1 hbytes hb0 h
  | none =>
    obtain rfl := hA rfl
    obtain rfl : m = 0 := by omega
    have hn0 : news = [] := by have := hN.1; simpa using this
    subst hn0
    obtain ⟨inf, hi, hz1, hz2, hz3⟩ := E.get
    have hrun := run_append_owned_none (P := P) w w0.heap.size T o.type e inf sz E.sl hi v n cs (M.row i hL)
    refine wpList_plain hgd fun K hK => ?_
    unfold Oper.wp execOp
    simp only [ho, resolve, invoke, builtin, Sem.run_bind, Sem.run_pure, Result.andThen_ok, List.map_toArray, List.map_cons, List.map_nil, hs, hx, hrun]
    refine hK _ _ (h v w ?_)
    rw [List.append_nil, Nat.add_zero, set_same hL]
    exact M
end
end Go.Proofs.YtoacnfofijikmaaGreatDoor
namespace Go.Proofs.YtoacnfofijikmaaGreatDoor
set_option linter.unusedSimpArgs false
set_option linter.unusedVariables false
open Go.RowKit

theorem Mem.row_range {w0 w : World} {L : List Ent} (M : Mem w0 w L) (i : Nat) {g cap : Nat} {e : TypeId} {sz n : Nat} {cs : List Value} (h : L[i]? = some (.row (.slice (some ⟨g, 0, none⟩) n cap) e sz n cs)) : w.rangeAt g 0 cs :=
  fun j u hu => by rw [Nat.zero_add]; exact M.row_cell i h hu
theorem Mem.nilrow {w0 w : World} {L : List Ent} (M : Mem w0 w L) (e : TypeId) (sz : Nat) : Mem w0 w (L ++ [.row (.slice none 0 0) e sz 0 []]) :=
  M.push _ (Below.refl _ _) ⟨by simp, .inl ⟨rfl, rfl⟩⟩ (fun k hk => by simp [Ent.place, Value.ownBlock] at hk)
theorem flat_one {α : Type} {enc : α → List Value} (h : ∀ x, ∀ v ∈ enc x, v.oneCell' = true) (xs : List α) : ∀ v ∈ flat enc xs, v.oneCell' = true := by
  intro v hv
  obtain ⟨x, _, hx⟩ := List.mem_flatMap.1 hv
  exact h x v hx
/-- The first ones already turned. -/
def partly {α : Type} (f : α → α) (xs : List α) (k : Nat) : List α := (xs.take k).map f ++ xs.drop k
theorem partly_0 {α : Type} (f : α → α) (xs : List α) : partly f xs 0 = xs := by simp [partly]
theorem partly_all {α : Type} (f : α → α) (xs : List α) : partly f xs xs.length = xs.map f := by simp [partly]
theorem partly_at {α : Type} (f : α → α) {xs : List α} {k : Nat} (hk : k < xs.length) : (partly f xs k)[k]? = some xs[k] := by
  rw [partly, List.getElem?_append_right (by rw [List.length_map, List.length_take]; omega), List.length_map, List.length_take, Nat.min_eq_left (by omega), Nat.sub_self, List.getElem?_drop]
  simp [hk]
theorem partly_set {α : Type} (f : α → α) {xs : List α} {k : Nat} (hk : k < xs.length) : (partly f xs k).set k (f xs[k]) = partly f xs (k + 1) := by
  rw [partly, partly, List.set_append, if_neg (by rw [List.length_map, List.length_take]; omega), List.length_map, List.length_take, Nat.min_eq_left (by omega), Nat.sub_self, List.take_succ_eq_append_getElem hk]
  rw [List.drop_eq_getElem_cons hk]
  simp only [List.map_append, List.map_cons, List.map_nil, List.set_cons_zero, List.append_assoc, List.cons_append, List.nil_append]
theorem partly_len {α : Type} (f : α → α) (xs : List α) (k : Nat) : (partly f xs k).length = xs.length := by
  simp only [partly, List.length_append, List.length_map, List.length_take, List.length_drop]
  omega
theorem calls_args {P : Program} {f : FuncId} {args args' : Array Value} {w : World} {Q : Ending → World → Prop} (h : args = args') (H : Calls P f args w Q) : Calls P f args' w Q := h ▸ H
/-- A call hands back a row of its own, and a code. -/
def RetRowC (w : World) (T : TypeId) (sz n : Nat) (cs : List Value) (code : Int) (e : Ending) (w' : World) : Prop :=
  ∃ A c, e = .returned (.tuple #[.slice A n c, .int .i64 code]) ∧ n ≤ c ∧ Mem w w' [.row (.slice A n c) T sz n cs]
theorem Mem.row_none {w0 w : World} {L : List Ent} (M : Mem w0 w L) (i : Nat) {A : Option Addr} {m c : Nat} {e : TypeId} {sz n : Nat} {cs : List Value} (h : L[i]? = some (.row (.slice A m c) e sz n cs)) : A = none → c = 0 := by
  rintro rfl
  rcases (M.row i h).2 with ⟨h1, _⟩ | ⟨g, cap, cur, h1, _⟩
  · injection h1
  · injection h1 with h1; cases h1
theorem calls_caps {P : Program} {f : FuncId} {x : Value} {caps : List Value} {w : World} {Q : Ending → World → Prop} (h : Calls P f (x :: caps).toArray w Q) : Calls P f (#[x] ++ caps.toArray) w Q := by simpa using h
end Go.Proofs.YtoacnfofijikmaaGreatDoor
namespace Go.Proofs.YtoacnfofijikmaaGreatDoor
set_option linter.unusedSimpArgs false
set_option linter.unusedVariables false
open Go.RowKit
attribute [local go_sem] cell?_mk frozen?_mk

def Scarecrow.older (d : Int) (x : Scarecrow) : Scarecrow := { x with age := min 30 (x.age + d) }
theorem Scarecrow.older_plain {x : Scarecrow} (h : x.plain = true) {d : Int} (d0 : 0 ≤ d) : (x.older d).plain = true := by
  rw [Scarecrow.plain_iff] at h ⊢
  refine ⟨h.1, h.2.1, ?_⟩
  show 0 ≤ min 30 (x.age + d) ∧ min 30 (x.age + d) ≤ 30
  omega
theorem Scarecrow.ones (x : Scarecrow) : ∀ v ∈ x.vals, v.oneCell' = true := by
  intro v hv
  simp only [Scarecrow.vals, List.mem_cons, List.not_mem_nil, or_false] at hv
  rcases hv with rfl | rfl | rfl <;> rfl

set_option maxRecDepth 100000 in
set_option maxHeartbeats 1000000 in
theorem cloneS_any (A : Option Addr) (n : Nat) (xs : List Scarecrow) (hl : xs.length ≤ 1048576) (hc : xs.length ≤ n) (hA : A = none → n = 0) (w : World) (hs : Sl w 3 A xs.length (flat Scarecrow.vals xs)) :
    Calls Tryz.prog 73 #[.slice A xs.length n] w (RetRow w 60 3 xs.length (flat Scarecrow.vals xs)) := by
  have M := Lib.hid (Mem.start w)
  have HS := Lib.hid hs
  clear hs
  cases A with
  | none =>
    obtain rfl := hA rfl
    obtain rfl : xs = [] := List.length_eq_zero_iff.1 (by omega)
    have he : ∀ w : World, (binOp .eql 31 (.slice none 0 0) (.slice none 0 0)).run Tryz.prog w = .ok (.bool true) w := fun _ => rfl
    go_enter Tryz.func73, Tryz.ntmps73
    go_wp2
    go_ret
    exact ⟨none, 0, rfl, by simp, M.out.nilrow _ _⟩
  | some a =>
    have he : ∀ w : World, (binOp .eql 31 (.slice (some a) xs.length n) (.slice none 0 0)).run Tryz.prog w = .ok (.bool false) w := fun _ => rfl
    go_enter Tryz.func73, Tryz.ntmps73
    go_wp2_with (first
      | ((with_reducible refine gate_dst (N := 5) rfl ?_); go_must (refine M.out.ev_bs0 elem_Scarecrow rfl rfl ?_); intro g5 w5 m; simp only [List.nil_append] at m; have M := Lib.hid m; clear m)
      | ((with_reducible refine gate_dst (N := 7) rfl ?_); go_must (refine M.out.ev_appends 0 elem_Scarecrow rfl _ _ rfl rfl rfl rfl (M.out.sl HS.out) (fun h => by cases h) hc (flat_one Scarecrow.ones xs) (by omega) (by decide) ?_); intro v7 w7 m; simp only [List.set_cons_zero, List.nil_append, Nat.zero_add] at m; have M := Lib.hid m; clear m)
      )
    obtain ⟨B, c, rfl, hc1, _⟩ := M.out.row_slice 0 rfl
    go_ret
    exact ⟨B, c, rfl, hc1, M.out⟩

set_option maxRecDepth 100000 in
set_option maxHeartbeats 1000000 in
theorem aged_any (A : Option Addr) (n : Nat) (xs : List Scarecrow) (hx : ∀ x ∈ xs, x.plain = true) (hl : xs.length ≤ 1048576) (hc : xs.length ≤ n) (hA : A = none → n = 0) (d : Int) (d0 : 0 ≤ d) (d1 : d ≤ 1000) (w : World) (hs : Sl w 3 A xs.length (flat Scarecrow.vals xs)) :
    Calls Tryz.prog 60 #[.slice A xs.length n, .int .i64 d] w (RetRow w 60 3 xs.length (flat Scarecrow.vals (xs.map (Scarecrow.older d)))) := by
  have M := Lib.hid (Mem.start w)
  have HX := Lib.hid hx
  have HS := Lib.hid hs
  clear hs hx
  go_enter Tryz.func60, Tryz.ntmps60
  go_wp2_with (first
    | (go_at_call 73; go_must (refine (cloneS_any A n xs hl hc hA _ (M.out.sl HS.out)).mono ?_); rintro e w_ ⟨A_, c_, rfl, hc_, N_⟩; have m := M.out.join N_; clear N_; simp only [List.cons_append, List.nil_append, List.append_nil] at m; have M := Lib.hid m; clear m)
    )
  go_loopw [12] (fun v wr => ∃ k : Nat, k ≤ xs.length ∧ v = .int .i64 k ∧ Mem w wr [.row (.slice A_ xs.length c_) 60 3 xs.length (flat Scarecrow.vals (partly (Scarecrow.older d) xs k))])
    (fun v _ => xs.length - (intOf v).toNat)
  case atStart => exact ⟨0, by omega, rfl, by rw [partly_0]; exact M.out⟩
  case round =>
    clear M
    obtain ⟨k, hk, rfl, m⟩ := hrel
    have M := Lib.hid m
    clear m
    by_cases hlt : k < xs.length
    · obtain ⟨g, cap, he, _⟩ := M.out.row_form 0 rfl (by omega)
      obtain ⟨rfl, rfl⟩ : A_ = some ⟨g, 0, none⟩ ∧ c_ = cap := by injection he with e1 _ e2; exact ⟨e1, e2⟩
      clear he
      have hk1 := partly_at (Scarecrow.older d) hlt
      have r0 := range_at Scarecrow.vl (M.out.row_range 0 rfl) hk1
      rw [Nat.zero_add] at r0
      have R := Lib.hid r0
      have O1 := Lib.hid (Scarecrow.one xs[k])
      have q2 : xs[k].vals.toArray[2]? = some (.int .i8 xs[k].age) := rfl
      obtain ⟨_, _, a0, a1⟩ := Scarecrow.plain_iff.1 (HX.out xs[k] (List.getElem_mem hlt))
      have e1 : IntKind.i64.wrap (xs[k].age + d) = xs[k].age + d := IntWalk.i64_in _ (by omega)
      have hln : k * 3 + 2 < (flat Scarecrow.vals (partly (Scarecrow.older d) xs k)).length := by rw [flat_len Scarecrow.vl, partly_len]; omega
      have HK := Lib.hid hk1
      have HL := Lib.hid hln
      clear hk1 r0 hln
      rcases Int.lt_trichotomy (xs[k].age + d) 30 with h | h | h <;>
      · try have hw : IntKind.i8.wrap (xs[k].age + d) = xs[k].age + d := IntWalk.i8_in _ (by omega)
        go_wp2_with (first
          | ((with_reducible refine gate_dst (N := 16) rfl ?_); go_must (refine ev_ldr _ _ rfl rfl (R.out) Tryz.underlying60 rfl (by first | exact sz60 | (rw [S1.out]; exact sz60)) rfl ?_))
          | ((with_reducible refine gate_dst (N := 7) rfl ?_); go_must (refine M.out.ev_new rfl (by first | (go_simp; done) | (go_simp; rfl)) ?_); intro g7 w7 m; simp only [List.cons_append, List.nil_append] at m; have M := Lib.hid m; clear m)
          | ((with_reducible refine gate_store (x := .tmp 7) rfl ?_); go_must (refine M.out.ev_stw 1 _ _ _ rfl rfl rfl rfl _ rfl (by first | rfl | (simp only [S1.out]; rfl) | (simp only [S1.out, S2.out]; rfl) | (simp only [S3.out]; rfl) | (simp only [S1.out, S2.out, S3.out]; rfl)) (by first | exact sz60 | (rw [S1.out]; exact sz60) | (rw [S2.out]; exact sz60) | (rw [S3.out]; exact sz60)) (by first | exact ints_one _ _ | exact Fld.one _ | exact O1.out | rfl | (simp [Value.oneCell']; done)) rfl ?_); intro wn m; simp only [List.set_cons_succ, List.set_cons_zero, List.setIfInBounds_toArray] at m; have M := Lib.hid m; clear m)
          | ((with_reducible refine gate_dst (N := 20) rfl ?_); go_must (refine M.out.ev_ld 1 _ _ rfl rfl rfl Tryz.underlying24 rfl rfl (by first | assumption | rfl) ?_))
          | ((with_reducible refine gate_store (x := .tmp 27) rfl ?_); go_must (first | (refine M.out.ev_rput1 0 _ _ _ rfl rfl rfl rfl (.int .i8 30) rfl HL.out sz24 rfl rfl ?_) | (refine M.out.ev_rput1 0 _ _ _ rfl rfl rfl rfl (.int .i8 (xs[k].age + d)) rfl HL.out sz24 rfl rfl ?_)); intro wn m; simp only [List.set_cons_succ, List.set_cons_zero] at m; have M := Lib.hid m; clear m)
          )
        refine ⟨⟨k + 1, by omega, by go_num, ?_⟩, by simp [intOf]; omega⟩
        have m := M.out.take 1
        rw [← partly_set (Scarecrow.older d) hlt, ← flat_put Scarecrow.vl (by decide : 2 < 3) (v := .int .i8 (xs[k].older d).age) _ k _ (xs[k].older d) HK.out rfl]
        rw [show (xs[k].older d).age = min 30 (xs[k].age + d) from rfl]
        first
          | (rw [show min 30 (xs[k].age + d) = 30 by omega]; exact m)
          | (rw [show min 30 (xs[k].age + d) = xs[k].age + d by omega]; exact m)
    · obtain rfl : k = xs.length := by omega
      go_wp2
      go_ret
      exact ⟨A_, c_, rfl, hc_, by have m := M.out; rw [partly_all] at m; exact m⟩
set_option maxRecDepth 100000 in
set_option maxHeartbeats 1000000 in
theorem l03Older_any (A : Option Addr) (n : Nat) (xs : List Scarecrow) (hx : ∀ x ∈ xs, x.plain = true) (hl : xs.length ≤ 1048576) (hc : xs.length ≤ n) (hA : A = none → n = 0) (d : Int) (d0 : 0 ≤ d) (d1 : d ≤ 1000) (w : World) (hs : Sl w 3 A xs.length (flat Scarecrow.vals xs)) :
    Calls Tryz.prog 62 #[.slice A xs.length n, .int .i64 d] w (RetRow w 60 3 xs.length (flat Scarecrow.vals (xs.map (Scarecrow.older d)))) := by
  have M := Lib.hid (Mem.start w)
  have HX := Lib.hid hx
  have HS := Lib.hid hs
  clear hs hx
  go_enter Tryz.func62, Tryz.ntmps62
  go_wp2_with (first
    | ((with_reducible refine gate_dst (N := 7) rfl ?_); go_must (refine M.out.ev_bs0 elem_Scarecrow rfl rfl ?_); intro g7 w7 m; simp only [List.nil_append] at m; have M := Lib.hid m; clear m)
    | ((with_reducible refine gate_dst (N := 9) rfl ?_); go_must (refine M.out.ev_appends 0 elem_Scarecrow rfl _ _ rfl rfl rfl rfl (M.out.sl HS.out) hA hc (flat_one Scarecrow.ones xs) (by omega) (by decide) ?_); intro v9 w9 m; simp only [List.set_cons_zero, List.nil_append, Nat.zero_add] at m; have M := Lib.hid m; clear m)
    )
  obtain ⟨A_, c_, rfl, hc_, _⟩ := M.out.row_slice 0 rfl
  go_wp2
  go_loopw [6] (fun v wr => ∃ k : Nat, k ≤ xs.length ∧ v = .int .i64 k ∧ Mem w wr [.row (.slice A_ xs.length c_) 60 3 xs.length (flat Scarecrow.vals (partly (Scarecrow.older d) xs k))])
    (fun v _ => xs.length - (intOf v).toNat)
  case atStart => exact ⟨0, by omega, rfl, by rw [partly_0]; exact M.out⟩
  case round =>
    clear M
    obtain ⟨k, hk, rfl, m⟩ := hrel
    have M := Lib.hid m
    clear m
    by_cases hlt : k < xs.length
    · obtain ⟨g, cap, he, _⟩ := M.out.row_form 0 rfl (by omega)
      obtain ⟨rfl, rfl⟩ : A_ = some ⟨g, 0, none⟩ ∧ c_ = cap := by injection he with e1 _ e2; exact ⟨e1, e2⟩
      clear he
      have hk1 := partly_at (Scarecrow.older d) hlt
      have r0 := range_at Scarecrow.vl (M.out.row_range 0 rfl) hk1
      rw [Nat.zero_add] at r0
      have x2 : wr.cell? ⟨g, k * 3 + 2, none⟩ = some (.int .i8 xs[k].age) := r0 2 _ rfl
      obtain ⟨_, _, a0, a1⟩ := Scarecrow.plain_iff.1 (HX.out xs[k] (List.getElem_mem hlt))
      have e0 : IntKind.i64.wrap xs[k].age = xs[k].age := IntWalk.i64_in _ (by omega)
      have e1 : IntKind.i64.wrap (xs[k].age + d) = xs[k].age + d := IntWalk.i64_in _ (by omega)
      have e2 : IntKind.i8.wrap (min 30 (xs[k].age + d)) = min 30 (xs[k].age + d) := IntWalk.i8_in _ (by omega)
      have hln : k * 3 + 2 < (flat Scarecrow.vals (partly (Scarecrow.older d) xs k)).length := by rw [flat_len Scarecrow.vl, partly_len]; omega
      have HK := Lib.hid hk1
      have HL := Lib.hid hln
      clear hk1 r0 hln
      go_wp2_with (first
        | (go_at_call 100; go_must (refine (l00Min_any _ _ _).mono ?_); rintro e w_ ⟨rfl, rfl⟩)
        | ((with_reducible refine gate_store (x := .tmp 29) rfl ?_); go_must (refine M.out.ev_rput1 0 _ _ _ rfl rfl rfl rfl (.int .i8 (min 30 (xs[k].age + d))) rfl HL.out sz24 rfl rfl ?_); intro wn m; simp only [List.set_cons_succ, List.set_cons_zero] at m; have M := Lib.hid m; clear m)
        )
      refine ⟨⟨k + 1, by omega, by go_num, ?_⟩, by simp [intOf]; omega⟩
      have m := M.out.take 1
      rw [← partly_set (Scarecrow.older d) hlt, ← flat_put Scarecrow.vl (by decide : 2 < 3) (v := .int .i8 (xs[k].older d).age) _ k _ (xs[k].older d) HK.out rfl]
      exact m
    · obtain rfl : k = xs.length := by omega
      go_wp2
      go_ret
      exact ⟨A_, c_, rfl, hc_, by have m := M.out; rw [partly_all] at m; exact m⟩
end Go.Proofs.YtoacnfofijikmaaGreatDoor
namespace Go.Proofs.YtoacnfofijikmaaGreatDoor
set_option linter.unusedSimpArgs false
set_option linter.unusedVariables false
open Go.RowKit
attribute [local go_sem] cell?_mk frozen?_mk

/-- The mark of the i-th scarecrow. -/
def markS (k : Int) (i : Nat) : Scarecrow := ⟨IntKind.i16.wrap (k + 3 * i), IntKind.i16.wrap (k + 3 * i + 1), IntKind.i8.wrap (k + 3 * i + 2)⟩
def marksS (k : Int) (n : Nat) : List Scarecrow := (List.range n).map (markS k)
/-- Some marked, the others not yet. -/
def mixS (k : Int) (xs : List Scarecrow) (i : Nat) : List Scarecrow := (List.range i).map (markS k) ++ xs.drop i
end Go.Proofs.YtoacnfofijikmaaGreatDoor
