/- Scarecrows: what they are, what they make. The smaller walks. -/
import Derived.Test.YteecfclccfhdhaaScarecrow
namespace Go.Proofs.Yteecfclccfhdhaa
set_option linter.unusedSimpArgs false
set_option linter.unusedVariables false
open Go.RowKit
attribute [local go_sem] cell?_mk frozen?_mk

def Scarecrow.plain (x : Scarecrow) : Bool := inB x.cell 0 99 && (inB x.power 1 1000 && inB x.age 0 30)
def Fld.place (F : Fld) (c : Int) : Bool := F.has c && (F.kind c.toNat != 3)
theorem mul9 (x : Int) (hx : -9 ≤ x ∧ x ≤ 9) : 0 ≤ x * x ∧ x * x ≤ 81 := by
  have h : ((x.natAbs * x.natAbs : Nat) : Int) = x * x := Int.natAbs_mul_self
  have : x.natAbs * x.natAbs ≤ 9 * 9 := Nat.mul_le_mul (by omega) (by omega)
  omega
def sq (a b : Int) : Int := (a % 10 - b % 10) * (a % 10 - b % 10) + (a / 10 - b / 10) * (a / 10 - b / 10)
theorem sq_small {a b : Int} (a0 : 0 ≤ a) (a1 : a ≤ 99) (b0 : 0 ≤ b) (b1 : b ≤ 99) : 0 ≤ sq a b ∧ sq a b ≤ 162 := by
  have h1 : -9 ≤ a % 10 - b % 10 ∧ a % 10 - b % 10 ≤ 9 := by omega
  have h2 : -9 ≤ a / 10 - b / 10 ∧ a / 10 - b / 10 ≤ 9 := by omega
  have k1 := mul9 _ h1
  have k2 := mul9 _ h2
  unfold sq
  omega
theorem age3 {c : Int} (c0 : 0 ≤ c) (c1 : c ≤ 30) : IntKind.i8.wrap (c.tdiv 3) = c / 3 := by
  rw [Int.tdiv_eq_ediv_of_nonneg c0]
  exact IntWalk.i8_in _ (by omega)
theorem age3u {c : Int} (c0 : 0 ≤ c) (c1 : c ≤ 30) : min (IntKind.u64.wrap (IntKind.i8.wrap (c.tdiv 3))).toNat 64 = (c / 3).toNat := by
  rw [age3 c0 c1, IntWalk.u64_in _ (by omega)]
  omega
def Scarecrow.fear (x : Scarecrow) (c : Int) : Int := (x.power / 2 ^ (x.age / 3).toNat) / (1 + sq x.cell c)
theorem Scarecrow.plain_iff {x : Scarecrow} : x.plain = true ↔ (0 ≤ x.cell ∧ x.cell ≤ 99) ∧ (1 ≤ x.power ∧ x.power ≤ 1000) ∧ (0 ≤ x.age ∧ x.age ≤ 30) := by
  simp [Scarecrow.plain, inB_iff]

set_option maxRecDepth 100000 in
set_option maxHeartbeats 1000000 in
theorem isPower_any (n : Int) (w : World) :
    Calls Try.prog 78 #[.int .i64 n] w fun e w' => e = .returned (.bool (inB n 1 1000)) ∧ w = w' := by
  go_enter Try.func78, Try.ntmps78
  go_wp2_with (first
    | (go_at_call 73; go_must (refine (within_any _ _ _ _).mono ?_); rintro e w_ ⟨rfl, rfl⟩)
    )
  go_ret
  exact ⟨rfl, rfl⟩

set_option maxRecDepth 100000 in
set_option maxHeartbeats 1000000 in
theorem isPlainS_any (x : Scarecrow) (hx : x.ok) (w : World) :
    Calls Try.prog 139 #[.agg x.vals.toArray] w fun e w' => e = .returned (.bool x.plain) ∧ Mem w w' [] := by
  have M := Lib.hid (Mem.start w)
  obtain ⟨a0, a1⟩ := hx.cell
  obtain ⟨b0, b1⟩ := hx.power
  obtain ⟨c0, c1⟩ := hx.age
  obtain ⟨a, b, c⟩ := x
  simp only [Scarecrow.vals] at *
  cases h1 : inB a 0 99 <;> cases h2 : inB b 1 1000 <;>
  · have H1 := Lib.hid h1
    have H2 := Lib.hid h2
    clear h1 h2
    go_enter Try.func139, Try.ntmps139
    go_wp2_with (first
      | ((with_reducible refine gate_dst (N := 1) rfl ?_); go_must (refine M.out.ev_new rfl (by first | (go_simp; done) | (go_simp; rfl)) ?_); intro g1 w1 m; simp only [List.cons_append, List.nil_append] at m; have M := Lib.hid m; clear m; try have q0_1 := M.out.cell (j := 1) 0 rfl (by first | assumption | rfl); try have q0_2 := M.out.cell (j := 2) 0 rfl (by first | assumption | rfl))
      | ((with_reducible refine gate_dst (N := 4) rfl ?_); go_must (refine M.out.ev_ld 0 _ _ rfl rfl rfl Try.underlying24 rfl rfl (by first | assumption | rfl) ?_))
      | (go_at_call 73; refine (within_any _ _ _ _).mono ?_; rintro e w' ⟨rfl, rfl⟩; first | rw [H1.out] | skip)
      | (go_at_call 78; refine (isPower_any _ _).mono ?_; rintro e w' ⟨rfl, rfl⟩; rw [H2.out])
      )
    go_ret
    exact ⟨ret_bool (by simp [Scarecrow.plain, H1.out, H2.out]), M.out.take 0⟩

set_option maxRecDepth 100000 in
set_option maxHeartbeats 1000000 in
theorem l03Shape_any (x : Scarecrow) (hx : x.ok) (w : World) :
    Calls Try.prog 138 #[.agg x.vals.toArray] w fun e w' => e = .returned (.bool x.plain) ∧ Mem w w' [] := by
  have M := Lib.hid (Mem.start w)
  obtain ⟨a0, a1⟩ := hx.cell
  obtain ⟨b0, b1⟩ := hx.power
  obtain ⟨c0, c1⟩ := hx.age
  obtain ⟨a, b, c⟩ := x
  simp only [Scarecrow.vals] at *
  cases h1 : inB a 0 99 <;> cases h2 : inB b 1 1000 <;>
  · have H1 := Lib.hid h1
    have H2 := Lib.hid h2
    clear h1 h2
    go_enter Try.func138, Try.ntmps138
    go_wp2_with (first
      | ((with_reducible refine gate_dst (N := 1) rfl ?_); go_must (refine M.out.ev_new rfl (by first | (go_simp; done) | (go_simp; rfl)) ?_); intro g1 w1 m; simp only [List.cons_append, List.nil_append] at m; have M := Lib.hid m; clear m; try have q0_1 := M.out.cell (j := 1) 0 rfl (by first | assumption | rfl); try have q0_2 := M.out.cell (j := 2) 0 rfl (by first | assumption | rfl))
      | ((with_reducible refine gate_dst (N := 4) rfl ?_); go_must (refine M.out.ev_ld 0 _ _ rfl rfl rfl Try.underlying24 rfl rfl (by first | assumption | rfl) ?_))
      | (go_at_call 70; refine (l00In_any _ _ _ _).mono ?_; rintro e w' ⟨rfl, rfl⟩; first | rw [H1.out] | rw [H2.out] | skip)
      )
    go_ret
    exact ⟨ret_bool (by simp [Scarecrow.plain, H1.out, H2.out]), M.out.take 0⟩

set_option maxRecDepth 100000 in
set_option maxHeartbeats 1000000 in
theorem isPlace_any (b : Nat) {t : TypeId} (F : Fld) (hF : F.ok) (c : Int) (w : World) (hb : Blk w b t F.cells) :
    Calls Try.prog 79 #[.pointer (some ⟨b, 0, none⟩), .int .i64 c] w fun e w' => e = .returned (.bool (F.place c)) ∧ w = w' := by
  cases h : F.has c
  · have H := Lib.hid h
    have HB := Lib.hid hb
    clear h hb
    go_enter Try.func79, Try.ntmps79
    go_wp2_with (first
      | (go_at_call 65; refine (has_any b F hF c _ HB.out).mono ?_; rintro e w' ⟨rfl, rfl⟩; rw [H.out])
      )
    go_ret
    exact ⟨ret_bool (by simp [Fld.place, H.out]), rfl⟩
  · obtain ⟨⟨c0, c1⟩, _⟩ := Fld.has_iff.1 h
    obtain ⟨k, rfl⟩ : ∃ k : Nat, c = k := ⟨c.toNat, by omega⟩
    have H := Lib.hid h
    have HB := Lib.hid hb
    have hc := hb.cellv (Fld.cellK hF.toLen (k := k) (by omega))
    have kb := hF.kb k
    clear h hb
    go_enter Try.func79, Try.ntmps79
    go_wp2_with (first
      | (go_at_call 65; refine (has_any b F hF k _ HB.out).mono ?_; rintro e w' ⟨rfl, rfl⟩; rw [H.out])
      )
    go_ret
    exact ⟨ret_bool (by simp [Fld.place, H.out]), rfl⟩

set_option maxRecDepth 100000 in
set_option maxHeartbeats 1000000 in
theorem square_any (a b : Int) (a0 : 0 ≤ a) (a1 : a ≤ 99) (b0 : 0 ≤ b) (b1 : b ≤ 99) (w : World) :
    Calls Try.prog 131 #[.int .i64 a, .int .i64 b] w fun e w' => e = .returned (.int .i64 (sq a b)) ∧ w = w' := by
  go_enter Try.func131, Try.ntmps131
  go_wp2
  go_ret
  refine ⟨ret_int ?_, rfl⟩
  have k1 := mul9 (a % 10 - b % 10) (by omega)
  have k2 := mul9 (a / 10 - b / 10) (by omega)
  unfold sq
  rw [IntWalk.wrap64_in ((a % 10 - b % 10) * (a % 10 - b % 10)) (by omega), IntWalk.wrap64_in ((a / 10 - b / 10) * (a / 10 - b / 10)) (by omega)]
  exact IntWalk.wrap64_in _ (by omega)

set_option maxRecDepth 100000 in
set_option maxHeartbeats 1000000 in
theorem l01Square_any (a b : Int) (a0 : 0 ≤ a) (a1 : a ≤ 99) (b0 : 0 ≤ b) (b1 : b ≤ 99) (w : World) :
    Calls Try.prog 115 #[.int .i64 a, .int .i64 b] w fun e w' => e = .returned (.int .i64 (sq a b)) ∧ w = w' := by
  go_enter Try.func115, Try.ntmps115
  go_wp2
  go_ret
  refine ⟨ret_int ?_, rfl⟩
  have k1 := mul9 (a % 10 - b % 10) (by omega)
  have k2 := mul9 (a / 10 - b / 10) (by omega)
  unfold sq
  rw [IntWalk.wrap64_in ((a % 10 - b % 10) * (a % 10 - b % 10)) (by omega), IntWalk.wrap64_in ((a / 10 - b / 10) * (a / 10 - b / 10)) (by omega)]
  exact IntWalk.wrap64_in _ (by omega)

set_option maxRecDepth 100000 in
set_option maxHeartbeats 1000000 in
theorem l03Counts_any (x : Scarecrow) (hx : x.plain = true) (w : World) :
    Calls Try.prog 114 #[.agg x.vals.toArray] w fun e w' => e = .returned (.int .i64 (x.power / 2 ^ (x.age / 3).toNat)) ∧ Mem w w' [] := by
  have M := Lib.hid (Mem.start w)
  obtain ⟨⟨a0, a1⟩, ⟨b0, b1⟩, c0, c1⟩ := Scarecrow.plain_iff.1 hx
  obtain ⟨a, b, c⟩ := x
  simp only [Scarecrow.vals] at *
  go_enter Try.func114, Try.ntmps114
  go_wp2_with (first
    | ((with_reducible refine gate_dst (N := 1) rfl ?_); go_must (refine M.out.ev_new rfl (by first | (go_simp; done) | (go_simp; rfl)) ?_); intro g1 w1 m; simp only [List.cons_append, List.nil_append] at m; have M := Lib.hid m; clear m)
    | ((with_reducible refine gate_dst (N := 4) rfl ?_); go_must (refine M.out.ev_ld 0 _ _ rfl rfl rfl Try.underlying24 rfl rfl (by first | assumption | rfl) ?_))
    | ((with_reducible refine gate_dst (N := 7) rfl ?_); go_must (refine M.out.ev_ld 0 _ _ rfl rfl rfl Try.underlying22 rfl rfl (by first | assumption | rfl) ?_))
    )
  go_ret
  exact ⟨ret_int (by rw [age3u c0 c1]), M.out.take 0⟩

set_option maxRecDepth 100000 in
set_option maxHeartbeats 1000000 in
theorem fear_any (x : Scarecrow) (hx : x.plain = true) (c : Int) (d0 : 0 ≤ c) (d1 : c ≤ 99) (w : World) :
    Calls Try.prog 116 #[.agg x.vals.toArray, .int .i64 c] w fun e w' => e = .returned (.int .i64 (x.fear c)) ∧ Mem w w' [] := by
  have M := Lib.hid (Mem.start w)
  obtain ⟨⟨a0, a1⟩, ⟨b0, b1⟩, c0, c1⟩ := Scarecrow.plain_iff.1 hx
  obtain ⟨a, b, g⟩ := x
  simp only [Scarecrow.vals] at *
  have hs := sq_small a0 a1 d0 d1
  have e1 := age3 c0 c1
  have e2 : IntKind.i64.wrap (1 + sq a c) = 1 + sq a c := IntWalk.i64_in _ (by omega)
  have e3 : ¬ (1 + sq a c = 0) := by omega
  have e4 : ¬ (g / 3 < 0) := by omega
  have ea : IntKind.i64.wrap a = a := IntWalk.i64_in _ (by omega)
  have eb : IntKind.i64.wrap b = b := IntWalk.i64_in _ (by omega)
  go_enter Try.func116, Try.ntmps116
  go_wp2_with (first
    | ((with_reducible refine gate_dst (N := 2) rfl ?_); go_must (refine M.out.ev_new rfl (by first | (go_simp; done) | (go_simp; rfl)) ?_); intro g2 w2 m; simp only [List.cons_append, List.nil_append] at m; have M := Lib.hid m; clear m; try have q0_1 := M.out.cell (j := 1) 0 rfl (by first | assumption | rfl); try have q0_2 := M.out.cell (j := 2) 0 rfl (by first | assumption | rfl); try have q0_0 := M.out.cell (j := 0) 0 rfl (by first | assumption | rfl))
    | ((with_reducible refine gate_dst (N := 6) rfl ?_); go_must (refine M.out.ev_ld 0 _ _ rfl rfl rfl Try.underlying24 rfl rfl (by first | assumption | rfl) ?_))
    | ((with_reducible refine gate_dst (N := 9) rfl ?_); go_must (refine M.out.ev_ld 0 _ _ rfl rfl rfl Try.underlying22 rfl rfl (by first | assumption | rfl) ?_))
    | ((with_reducible refine gate_dst (N := 13) rfl ?_); go_must (refine M.out.ev_ld 0 _ _ rfl rfl rfl Try.underlying24 rfl rfl (by first | assumption | rfl) ?_))
    )
  go_quiet ((refine Calls.quiet_of_same (v := .int .i64 (sq a c)) ?_; exact (square_any _ _ a0 a1 d0 d1 _).mono fun _ _ h => ⟨h.1, h.2.symm⟩))
  have m := M.out.drewN nq
  go_wp2
  go_ret
  refine ⟨ret_int ?_, m.take 0⟩
  have p0 : 0 ≤ b / 2 ^ (g / 3).toNat ∧ b / 2 ^ (g / 3).toNat ≤ 1000 := by
    have hp : (1 : Int) ≤ 2 ^ (g / 3).toNat := by
      have := Int.pow_pos (n := (2 : Int)) (m := (g / 3).toNat) (by omega)
      omega
    exact ⟨Int.ediv_nonneg (by omega) (by omega), Int.le_trans (Int.ediv_le_self _ (by omega)) (by omega)⟩
  have p1 : 0 ≤ b / 2 ^ (g / 3).toNat / (1 + sq a c) ∧ b / 2 ^ (g / 3).toNat / (1 + sq a c) ≤ 1000 :=
    ⟨Int.ediv_nonneg p0.1 (by omega), Int.le_trans (Int.ediv_le_self _ p0.1) p0.2⟩
  rw [Int.tdiv_eq_ediv_of_nonneg p0.1]
  exact IntWalk.wrap64_in _ (by omega)
theorem fear_small {x : Scarecrow} (hx : x.plain = true) {c : Int} (d0 : 0 ≤ c) (d1 : c ≤ 99) : 0 ≤ x.fear c ∧ x.fear c ≤ 1000 := by
  obtain ⟨⟨a0, a1⟩, ⟨b0, b1⟩, c0, c1⟩ := Scarecrow.plain_iff.1 hx
  have hs := sq_small a0 a1 d0 d1
  have p0 : 0 ≤ x.power / 2 ^ (x.age / 3).toNat ∧ x.power / 2 ^ (x.age / 3).toNat ≤ 1000 := by
    have hp : (1 : Int) ≤ 2 ^ (x.age / 3).toNat := by
      have := Int.pow_pos (n := (2 : Int)) (m := (x.age / 3).toNat) (by omega)
      omega
    exact ⟨Int.ediv_nonneg (by omega) (by omega), Int.le_trans (Int.ediv_le_self _ (by omega)) (by omega)⟩
  exact ⟨Int.ediv_nonneg p0.1 (by omega), Int.le_trans (Int.ediv_le_self _ p0.1) p0.2⟩
end Go.Proofs.Yteecfclccfhdhaa
