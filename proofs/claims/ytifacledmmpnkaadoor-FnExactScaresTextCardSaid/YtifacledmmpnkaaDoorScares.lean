/- Scarecrows: what they are, what they make. The smaller walks. -/
import Derived.Test.YtifacledmmpnkaaDoorScarecrow
namespace Go.Proofs.YtifacledmmpnkaaDoor
set_option linter.unusedSimpArgs false
set_option linter.unusedVariables false
open Go.RowKit
attribute [local go_sem] cell?_mk frozen?_mk

def Scarecrow.plain (x : Scarecrow) : Bool := inB x.cell 0 99 && (inB x.power 1 1000 && inB x.age 0 30)
def Fld.place (F : Fld) (c : Int) : Bool := F.has c && (F.kind c.toNat != 3)
theorem mul9 (x : Int) (hx : -9 ≤ x ∧ x ≤ 9) : 0 ≤ x * x ∧ x * x ≤ 81 := by
  have h : ((x.natAbs * x.natAbs : Nat) : Int) = x * x := Int.natAbs_mul_self
  have : x.natAbs * x.natAbs ≤ 9 * 9 := Nat.mul_le_mul (by omega) (by omega)
  omega
def sq (a b : Int) : Int := (a % 10 - b % 10) * (a % 10 - b % 10) + (a / 10 - b / 10) * (a / 10 - b / 10)
theorem sq_small {a b : Int} (a0 : 0 ≤ a) (a1 : a ≤ 99) (b0 : 0 ≤ b) (b1 : b ≤ 99) : 0 ≤ sq a b ∧ sq a b ≤ 162 := by
  have h1 : -9 ≤ a % 10 - b % 10 ∧ a % 10 - b % 10 ≤ 9 := by omega
  have h2 : -9 ≤ a / 10 - b / 10 ∧ a / 10 - b / 10 ≤ 9 := by omega
  have k1 := mul9 _ h1
  have k2 := mul9 _ h2
  unfold sq
  omega
theorem age3 {c : Int} (c0 : 0 ≤ c) (c1 : c ≤ 30) : IntKind.i8.wrap (c.tdiv 3) = c / 3 := by
  rw [Int.tdiv_eq_ediv_of_nonneg c0]
  exact IntWalk.i8_in _ (by omega)
theorem age3u {c : Int} (c0 : 0 ≤ c) (c1 : c ≤ 30) : min (IntKind.u64.wrap (IntKind.i8.wrap (c.tdiv 3))).toNat 64 = (c / 3).toNat := by
  rw [age3 c0 c1, IntWalk.u64_in _ (by omega)]
  omega
def Scarecrow.fear (x : Scarecrow) (c : Int) : Int := (x.power / 2 ^ (x.age / 3).toNat) / (1 + sq x.cell c)
theorem Scarecrow.plain_iff {x : Scarecrow} : x.plain = true ↔ (0 ≤ x.cell ∧ x.cell ≤ 99) ∧ (1 ≤ x.power ∧ x.power ≤ 1000) ∧ (0 ≤ x.age ∧ x.age ≤ 30) := by
  simp [Scarecrow.plain, inB_iff]

set_option maxRecDepth 100000 in
set_option maxHeartbeats 1000000 in
theorem isPower_any (n : Int) (w : World) :
    Calls Tryd.prog 72 #[.int .i64 n] w fun e w' => e = .returned (.bool (inB n 1 1000)) ∧ w = w' := by
  go_enter Tryd.func72, Tryd.ntmps72
  go_wp2_with (first
    | (go_at_call 69; go_must (refine (within_any _ _ _ _).mono ?_); rintro e w_ ⟨rfl, rfl⟩)
    )
  go_ret
  exact ⟨rfl, rfl⟩

set_option maxRecDepth 100000 in
set_option maxHeartbeats 1000000 in
theorem isPlainS_any (x : Scarecrow) (hx : x.ok) (w : World) :
    Calls Tryd.prog 44 #[.agg x.vals.toArray] w fun e w' => e = .returned (.bool x.plain) ∧ Mem w w' [] := by
  have M := Lib.hid (Mem.start w)
  obtain ⟨a0, a1⟩ := hx.cell
  obtain ⟨b0, b1⟩ := hx.power
  obtain ⟨c0, c1⟩ := hx.age
  obtain ⟨a, b, c⟩ := x
  simp only [Scarecrow.vals] at *
  cases h1 : inB a 0 99 <;> cases h2 : inB b 1 1000 <;>
  · have H1 := Lib.hid h1
    have H2 := Lib.hid h2
    clear h1 h2
    go_enter Tryd.func44, Tryd.ntmps44
    go_wp2_with (first
      | ((with_reducible refine gate_dst (N := 1) rfl ?_); go_must (refine M.out.ev_new rfl (by first | (go_simp; done) | (go_simp; rfl)) ?_); intro g1 w1 m; simp only [List.cons_append, List.nil_append] at m; have M := Lib.hid m; clear m; try have q0_1 := M.out.cell (j := 1) 0 rfl (by first | assumption | rfl); try have q0_2 := M.out.cell (j := 2) 0 rfl (by first | assumption | rfl))
      | ((with_reducible refine gate_dst (N := 4) rfl ?_); go_must (refine M.out.ev_ld 0 _ _ rfl rfl rfl Tryd.underlying56 rfl rfl (by first | assumption | rfl) ?_))
      | (go_at_call 69; refine (within_any _ _ _ _).mono ?_; rintro e w' ⟨rfl, rfl⟩; first | rw [H1.out] | skip)
      | (go_at_call 72; refine (isPower_any _ _).mono ?_; rintro e w' ⟨rfl, rfl⟩; rw [H2.out])
      )
    go_ret
    exact ⟨ret_bool (by simp [Scarecrow.plain, H1.out, H2.out]), M.out.take 0⟩

set_option maxRecDepth 100000 in
set_option maxHeartbeats 1000000 in
theorem l03Shape_any (x : Scarecrow) (hx : x.ok) (w : World) :
    Calls Tryd.prog 41 #[.agg x.vals.toArray] w fun e w' => e = .returned (.bool x.plain) ∧ Mem w w' [] := by
  have M := Lib.hid (Mem.start w)
  obtain ⟨a0, a1⟩ := hx.cell
  obtain ⟨b0, b1⟩ := hx.power
  obtain ⟨c0, c1⟩ := hx.age
  obtain ⟨a, b, c⟩ := x
  simp only [Scarecrow.vals] at *
  cases h1 : inB a 0 99 <;> cases h2 : inB b 1 1000 <;>
  · have H1 := Lib.hid h1
    have H2 := Lib.hid h2
    clear h1 h2
    go_enter Tryd.func41, Tryd.ntmps41
    go_wp2_with (first
      | ((with_reducible refine gate_dst (N := 1) rfl ?_); go_must (refine M.out.ev_new rfl (by first | (go_simp; done) | (go_simp; rfl)) ?_); intro g1 w1 m; simp only [List.cons_append, List.nil_append] at m; have M := Lib.hid m; clear m; try have q0_1 := M.out.cell (j := 1) 0 rfl (by first | assumption | rfl); try have q0_2 := M.out.cell (j := 2) 0 rfl (by first | assumption | rfl))
      | ((with_reducible refine gate_dst (N := 4) rfl ?_); go_must (refine M.out.ev_ld 0 _ _ rfl rfl rfl Tryd.underlying56 rfl rfl (by first | assumption | rfl) ?_))
      | (go_at_call 63; refine (l00In_any _ _ _ _).mono ?_; rintro e w' ⟨rfl, rfl⟩; first | rw [H1.out] | rw [H2.out] | skip)
      )
    go_ret
    exact ⟨ret_bool (by simp [Scarecrow.plain, H1.out, H2.out]), M.out.take 0⟩

theorem fear_small {x : Scarecrow} (hx : x.plain = true) {c : Int} (d0 : 0 ≤ c) (d1 : c ≤ 99) : 0 ≤ x.fear c ∧ x.fear c ≤ 1000 := by
  obtain ⟨⟨a0, a1⟩, ⟨b0, b1⟩, c0, c1⟩ := Scarecrow.plain_iff.1 hx
  have hs := sq_small a0 a1 d0 d1
  have p0 : 0 ≤ x.power / 2 ^ (x.age / 3).toNat ∧ x.power / 2 ^ (x.age / 3).toNat ≤ 1000 := by
    have hp : (1 : Int) ≤ 2 ^ (x.age / 3).toNat := by
      have := Int.pow_pos (n := (2 : Int)) (m := (x.age / 3).toNat) (by omega)
      omega
    exact ⟨Int.ediv_nonneg (by omega) (by omega), Int.le_trans (Int.ediv_le_self _ (by omega)) (by omega)⟩
  exact ⟨Int.ediv_nonneg p0.1 (by omega), Int.le_trans (Int.ediv_le_self _ p0.1) p0.2⟩
end Go.Proofs.YtifacledmmpnkaaDoor
