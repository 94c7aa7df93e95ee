/- Texts of a proof, laid together: FedA, Net, NetSets, NetM, Kinds, Nets, EqC, NetOk, NetSpec, Ones, Count, NetCode, Under, Prices, Cost, DrawA. -/
import Derived.Test.YtlonbgomdabmmaaZF17
import Derived.Test.YtlonbgomdabmmaaZF01
import Derived.Test.YtlonbgomdabmmaaZF02
import Derived.Test.YtlonbgomdabmmaaZF05
import Derived.Test.YtlonbgomdabmmaaZF09
import Derived.Laws.StructEq
import Derived.Laws.Bits128
import Derived.Test.YtlonbgomdabmmaaZF16
namespace Go.Proofs.Ytlonbgomdabmmaa
set_option linter.unusedSimpArgs false
set_option linter.unusedVariables false
open Go.RowKit
attribute [local go_sem] cell?_mk frozen?_mk
--ONES exact Fld.one _ | exact Flock.one _ | exact ints_one _ _

set_option maxRecDepth 100000 in
set_option maxHeartbeats 1000000 in
theorem impl_SeedsIn_any (F : Fld) (hF : F.ok) (hv : F.valid = true) (w : World) :
    Calls Try.prog 10 #[.agg F.cells] w fun e w' => e = .returned (.tuple #[.int .i64 (seedSum F 100), .int .i64 0]) ∧ Mem w w' [] := by
  have M := Lib.hid (Mem.start w)
  have S1 := Lib.hid (Fld.size hF.toLen)
  go_enter Try.func10, Try.ntmps10
  go_wp2_with (first
    | ((with_reducible refine gate_dst (N := 1) rfl ?_); go_must (refine M.out.ev_new rfl (by first | (go_simp; done) | (go_simp; rfl)) ?_); intro g1 w1 m; simp only [List.cons_append, List.nil_append] at m; have M := Lib.hid m; clear m)
    | ((with_reducible refine gate_dst (N := 4) rfl ?_); go_must (refine M.out.ev_ldw 0 _ _ rfl rfl rfl Try.underlying29 rfl (by first | exact sz29 | (rw [S1.out]; exact sz29) | (rw [S2.out]; exact sz29) | (rw [S3.out]; exact sz29)) rfl ?_))
    | (go_at_call 14; go_must (refine (ValidField_any F hF _).mono ?_); rintro e w_ ⟨rfl, N_⟩; have m := M.out.join N_; clear N_; simp only [List.cons_append, List.nil_append, List.append_nil] at m; have M := Lib.hid m; clear m; rw [hv])
    | (go_at_call 37; go_must (refine (seedsIn_any g1 F hF _ (M.out.blk 0 rfl)).mono ?_); rintro e w_ ⟨rfl, rfl⟩)
    )
  go_ret2
  exact ⟨rfl, M.out.take 0⟩
set_option maxRecDepth 100000 in
set_option maxHeartbeats 1000000 in
theorem spec_SeedsIn_any (F : Fld) (hF : F.ok) (hv : F.valid = true) (w : World) :
    Calls Try.prog 22 #[.agg F.cells] w fun e w' => e = .returned (.tuple #[.int .i64 (seedSum F 100), .int .i64 0]) ∧ Mem w w' [] := by
  have M := Lib.hid (Mem.start w)
  have S1 := Lib.hid (Fld.size hF.toLen)
  go_enter Try.func22, Try.ntmps22
  go_wp2_with (first
    | ((with_reducible refine gate_dst (N := 1) rfl ?_); go_must (refine M.out.ev_new rfl (by first | (go_simp; done) | (go_simp; rfl)) ?_); intro g1 w1 m; simp only [List.cons_append, List.nil_append] at m; have M := Lib.hid m; clear m)
    | (go_at_call 51; go_must (refine (l01Ok_any g1 F hF _ (M.out.blk 0 rfl)).mono ?_); rintro e w_ ⟨rfl, rfl⟩; rw [hv])
    | (go_at_call 52; go_must (refine (l01Sum_any g1 F hF _ (M.out.blk 0 rfl)).mono ?_); rintro e w_ ⟨rfl, rfl⟩)
    )
  go_ret2
  exact ⟨rfl, M.out.take 0⟩
set_option maxRecDepth 100000 in
set_option maxHeartbeats 2000000 in
theorem HungerOf_any (F : Fld) (hF : F.ok) (hv : F.valid = true) (x : Flock) (hx : x.ok) (hf : x.fine F = true) (w : World) :
    Calls Try.prog 15 #[.agg F.cells, .agg x.vals.toArray] w fun e w' => e = .returned (.tuple #[.int .i64 x.hunger, .int .i64 0]) ∧ Mem w w' [] := by
  have M := Lib.hid (Mem.start w)
  have S1 := Lib.hid (Fld.size hF.toLen)
  have hvf : (F.valid && flocksOk F [x]) = true := by
    rw [hv, flocksOk, show ([x].all fun y => y.fine F) = true from List.all_eq_true.2 fun y hy => by rw [List.mem_singleton.1 hy]; exact hf]
    rfl
  go_enter Try.func15, Try.ntmps15
  go_wp2_with (first
    | ((with_reducible refine gate_dst (N := 2) rfl ?_); go_must (refine M.out.ev_new rfl (by first | (go_simp; done) | (go_simp; rfl)) ?_); intro g2 w2 m; simp only [List.cons_append, List.nil_append] at m; have M := Lib.hid m; clear m)
    | ((with_reducible refine gate_dst (N := 3) rfl ?_); go_must (refine M.out.ev_new rfl (by first | (go_simp; done) | (go_simp; rfl)) ?_); intro g3 w3 m; simp only [List.cons_append, List.nil_append] at m; have M := Lib.hid m; clear m)
    | ((with_reducible refine gate_dst (N := 6) rfl ?_); go_must (refine M.out.ev_ldw 0 _ _ rfl rfl rfl Try.underlying29 rfl (by first | exact sz29 | (rw [S1.out]; exact sz29) | (rw [S2.out]; exact sz29) | (rw [S3.out]; exact sz29)) rfl ?_))
    | ((with_reducible refine gate_dst (N := 7) rfl ?_); go_must (refine M.out.ev_ldw 1 _ _ rfl rfl rfl Try.underlying48 rfl (by first | exact sz48 | (rw [S1.out]; exact sz48) | (rw [S2.out]; exact sz48) | (rw [S3.out]; exact sz48)) rfl ?_))
    | ((with_reducible refine gate_dst (N := 8) rfl ?_); go_must (refine M.out.ev_bs1 elem_Flock rfl _ rfl x.vals.toArray rfl rfl (by decide) ?_); intro g8 w8 m; simp only [List.cons_append, List.nil_append] at m; have M := Lib.hid m; clear m)
    | (go_at_call 38; go_must (refine (ValidFlocks_any F hF (some ⟨g8, 0, none⟩) 1 [x] (fun y hy => by rw [List.mem_singleton.1 hy]; exact hx) (by simp) _ (sl_blk (M.out.blk 2 rfl))).mono ?_); rintro e w_ ⟨rfl, N_⟩; have m := M.out.join N_; clear N_; simp only [List.cons_append, List.nil_append, List.append_nil] at m; have M := Lib.hid m; clear m; rw [hvf])
    | (go_at_call 44; go_must (refine (hunger_any g3 0 x (fine_plain hf) _ ((M.out.blk 1 rfl).range)).mono ?_); rintro e w_ ⟨rfl, N_⟩; have m := M.out.join N_; clear N_; simp only [List.cons_append, List.nil_append, List.append_nil] at m; have M := Lib.hid m; clear m)
    )
  go_ret2
  exact ⟨rfl, M.out.take 0⟩
set_option maxRecDepth 100000 in
set_option maxHeartbeats 4000000 in
theorem BirdsIn_any (F : Fld) (hF : F.ok) (hv : F.valid = true) (A : Option Addr) (n : Nat) (xs : List Flock) (hx : ∀ x ∈ xs, x.ok) (hf : ∀ x ∈ xs, x.fine F = true) (hl : xs.length ≤ 12) (w : World) (hs : Sl w 6 A xs.length (flat Flock.vals xs)) :
    Calls Try.prog 23 #[.agg F.cells, .slice A xs.length n] w fun e w' => e = .returned (.tuple #[.int .i64 (birdsTo xs xs.length), .int .i64 0]) ∧ Mem w w' [] := by
  have M := Lib.hid (Mem.start w)
  have S1 := Lib.hid (Fld.size hF.toLen)
  have HS := Lib.hid hs
  have HB := Lib.hid (birdsTo_b (xs := xs) fun x h => fine_plain (hf x h))
  have hvf : (F.valid && flocksOk F xs) = true := by
    rw [hv, flocksOk, show (xs.all fun y => y.fine F) = true from List.all_eq_true.2 hf, decide_eq_true hl]
    rfl
  clear hs
  go_enter Try.func23, Try.ntmps23
  go_wp2_with (first
    | ((with_reducible refine gate_dst (N := 2) rfl ?_); go_must (refine M.out.ev_new rfl (by first | (go_simp; done) | (go_simp; rfl)) ?_); intro g2 w2 m; simp only [List.cons_append, List.nil_append] at m; have M := Lib.hid m; clear m)
    | ((with_reducible refine gate_dst (N := 9) rfl ?_); go_must (refine M.out.ev_ldw 0 _ _ rfl rfl rfl Try.underlying29 rfl (by first | exact sz29 | (rw [S1.out]; exact sz29) | (rw [S2.out]; exact sz29) | (rw [S3.out]; exact sz29)) rfl ?_))
    | ((with_reducible refine gate_dst (N := 8) rfl ?_); go_must (refine M.out.ev_new rfl (by first | (go_simp; done) | (go_simp; rfl)) ?_); intro g8 w8 m; simp only [List.cons_append, List.nil_append] at m; have M := Lib.hid m; clear m)
    | ((with_reducible refine gate_store (x := .tmp 8) rfl ?_); go_must (refine M.out.ev_stw 1 _ _ _ rfl rfl rfl rfl _ rfl (by first | rfl | (simp only [S1.out]; rfl) | (simp only [S1.out, S2.out]; rfl) | (simp only [S3.out]; rfl) | (simp only [S1.out, S2.out, S3.out]; rfl)) (by first | exact sz48 | (rw [S1.out]; exact sz48) | (rw [S2.out]; exact sz48) | (rw [S3.out]; exact sz48)) (by first | exact ints_one _ _ | exact Fld.one _ | exact O1.out | exact Fld.one _ | exact Flock.one _ | exact ints_one _ _ | rfl | (simp [Value.oneCell']; done)) rfl ?_); intro wn m; simp only [List.set_cons_succ, List.set_cons_zero, List.setIfInBounds_toArray] at m; have M := Lib.hid m; clear m)
    | ((with_reducible refine gate_dst (N := 21) rfl ?_); go_must (refine M.out.ev_ld 1 _ _ rfl rfl rfl Try.underlying26 rfl rfl (by first | assumption | rfl) ?_))
    | (go_at_call 38; go_must (refine (ValidFlocks_any F hF A n xs hx (by omega) _ (M.out.sl HS.out)).mono ?_); rintro e w_ ⟨rfl, N_⟩; have m := M.out.join N_; clear N_; simp only [List.cons_append, List.nil_append, List.append_nil] at m; have M := Lib.hid m; clear m; rw [hvf])
    )
  go_loopw [6, 15] (fun u v wr => ∃ k : Nat, k ≤ xs.length ∧ v = .int .i64 k ∧ u = .int .i64 (birdsTo xs k) ∧ Mem w wr [])
    (fun _ v _ => xs.length - (intOf v).toNat)
  case atStart => exact ⟨0, by omega, rfl, rfl, M.out.take 0⟩
  case round =>
    clear M
    obtain ⟨k, hk, rfl, rfl, m⟩ := hrel
    have M := Lib.hid m
    clear m
    by_cases hlt : k < xs.length
    · obtain ⟨b, off, rfl, _⟩ := HS.out.2 (by omega)
      have HXK := Lib.hid (show xs[k]? = some xs[k] from List.getElem?_eq_getElem hlt)
      have E1 := Lib.hid (show birdsTo xs (k + 1) = birdsTo xs k + xs[k].birds by rw [birdsTo, HXK.out])
      have hb1 := HB.out k
      have hb2 := HB.out (k + 1)
      have hok := (hx xs[k] (List.getElem_mem hlt)).birds
      have i0 : (0 : Int) ≤ (k : Int) := by omega
      have i1 : (k : Int) < (xs.length : Int) := by omega
      obtain ⟨x, hxx⟩ : ∃ x, x = xs[k] := ⟨_, rfl⟩
      rw [← hxx] at HXK E1 hok
      obtain ⟨s, hs⟩ : ∃ s, s = birdsTo xs k := ⟨_, rfl⟩
      rw [← hs] at E1 hb1 ⊢
      rw [E1.out] at hb2
      have w1 : IntKind.i64.wrap x.birds = x.birds := IntWalk.i64_in _ (by omega)
      have w2 : IntKind.i64.wrap (s + x.birds) = s + x.birds := IntWalk.i64_in _ (by omega)
      clear hxx hs
      go_wp2_with (first
        | ((with_reducible refine gate_dst (N := 18) rfl ?_); go_must (refine ev_ldr _ _ rfl rfl (range_at Flock.vl (sl_rangeFlock (M.out.sl HS.out) hlt) HXK.out) Try.underlying48 rfl (by first | exact sz48 | (rw [S1.out]; exact sz48)) rfl ?_))
        | ((with_reducible refine gate_dst (N := 21) rfl ?_); go_must (refine M.out.ev_ld 0 _ _ rfl rfl rfl Try.underlying26 rfl rfl (show x.vals.toArray[1]? = some (.int .i16 x.birds) from rfl) ?_))
        | ((with_reducible refine gate_dst (N := 2) rfl ?_); go_must (refine M.out.ev_new rfl (by first | (go_simp; done) | (go_simp; rfl)) ?_); intro g2 w2 m; simp only [List.cons_append, List.nil_append] at m; have M := Lib.hid m; clear m)
        | ((with_reducible refine gate_dst (N := 9) rfl ?_); go_must (refine M.out.ev_ldw 0 _ _ rfl rfl rfl Try.underlying29 rfl (by first | exact sz29 | (rw [S1.out]; exact sz29) | (rw [S2.out]; exact sz29) | (rw [S3.out]; exact sz29)) rfl ?_))
        | ((with_reducible refine gate_dst (N := 8) rfl ?_); go_must (refine M.out.ev_new rfl (by first | (go_simp; done) | (go_simp; rfl)) ?_); intro g8 w8 m; simp only [List.cons_append, List.nil_append] at m; have M := Lib.hid m; clear m)
        | ((with_reducible refine gate_store (x := .tmp 8) rfl ?_); go_must (refine M.out.ev_stw 0 _ _ _ rfl rfl rfl rfl _ rfl (by first | rfl | (simp only [S1.out]; rfl) | (simp only [S1.out, S2.out]; rfl) | (simp only [S3.out]; rfl) | (simp only [S1.out, S2.out, S3.out]; rfl)) (by first | exact sz48 | (rw [S1.out]; exact sz48) | (rw [S2.out]; exact sz48) | (rw [S3.out]; exact sz48)) (by first | exact ints_one _ _ | exact Fld.one _ | exact O1.out | exact Fld.one _ | exact Flock.one _ | exact ints_one _ _ | rfl | (simp [Value.oneCell']; done)) rfl ?_); intro wn m; simp only [List.set_cons_succ, List.set_cons_zero, List.setIfInBounds_toArray] at m; have M := Lib.hid m; clear m)
        | ((with_reducible refine gate_dst (N := 21) rfl ?_); go_must (refine M.out.ev_ld 0 _ _ rfl rfl rfl Try.underlying26 rfl rfl (by first | assumption | rfl) ?_))
        )
      exact ⟨⟨k + 1, by omega, by go_num, by rw [E1.out], M.out.take 0⟩, by simp [intOf]; try omega⟩
    · obtain rfl : k = xs.length := by omega
      go_wp2
      go_ret2
      exact ⟨rfl, M.out⟩
set_option maxRecDepth 100000 in
set_option maxHeartbeats 1000000 in
theorem l00Has_any (A : Option Addr) (n : Nat) (ks : List Int) (hl : ks.length ≤ 1048576) (x : Int) (w : World) (hs : Sl w 1 A ks.length (flat oneI ks)) :
    Calls Try.prog 45 #[.slice A ks.length n, .int .i64 x] w fun e w' => e = .returned (.bool (ks.any fun z => z == x)) ∧ w = w' := by
  have HS := Lib.hid hs
  clear hs
  go_enter Try.func45, Try.ntmps45
  go_wp2
  go_loopw [5] (fun v wr => ∃ k : Nat, k ≤ ks.length ∧ v = .int .i64 k ∧ (ks.take k).any (fun z => z == x) = false ∧ w = wr)
    (fun v _ => ks.length - (intOf v).toNat)
  case atStart => exact ⟨0, by omega, rfl, rfl, by first | rfl | trivial⟩
  case round =>
    obtain ⟨k, hk, rfl, he, rfl⟩ := hrel
    have HE := Lib.hid he
    clear he
    by_cases hlt : k < ks.length
    · obtain ⟨b, off, rfl, _⟩ := HS.out.2 (by omega)
      have x0 := HS.out.atF (List.getElem?_eq_getElem hlt)
      have HTK := Lib.hid (show (ks.take (k + 1)).any (fun z => z == x) = (ks[k] == x) by rw [List.take_succ_eq_append_getElem hlt, List.any_append, HE.out]; simp)
      have HMM := Lib.hid (show (ks[k] == x) = true → ks.any (fun z => z == x) = true from fun h => List.any_eq_true.2 ⟨ks[k], List.getElem_mem hlt, h⟩)
      have i0 : (0 : Int) ≤ (k : Int) := by omega
      have i1 : (k : Int) < (ks.length : Int) := by omega
      obtain ⟨y, hy⟩ : ∃ y, y = ks[k] := ⟨_, rfl⟩
      rw [← hy] at x0 HTK HMM
      clear hy
      cases hq : y == x
      · have HQ := Lib.hid hq
        rw [hq] at HTK
        go_wp2
        exact ⟨⟨k + 1, by omega, by go_num, HTK.out, by first | rfl | trivial⟩, by simp [intOf]; omega⟩
      · have HR := Lib.hid (HMM.out hq)
        go_wp2
        go_ret
        exact ⟨by rw [HR.out]; rfl, rfl⟩
    · obtain rfl : k = ks.length := by omega
      have he := HE.out
      rw [List.take_length] at he
      have HE2 := Lib.hid he
      clear he
      go_wp2
      go_ret
      exact ⟨by rw [HE2.out]; rfl, rfl⟩
set_option maxRecDepth 100000 in
set_option maxHeartbeats 1000000 in
theorem A2Has_any (A : Option Addr) (n : Nat) (ks : List Int) (hl : ks.length ≤ 1048576) (x : Int) (w : World) (hs : Sl w 1 A ks.length (flat oneI ks)) :
    Calls Try.prog 16 #[.slice A ks.length n, .int .i64 x] w fun e w' => e = .returned (.bool (ks.any fun z => z == x)) ∧ w = w' := by
  go_enter Try.func16, Try.ntmps16
  go_wp2_with (first
    | (go_at_call 45; go_must (refine (l00Has_any A n ks hl x _ hs).mono ?_); rintro e w_ ⟨rfl, rfl⟩)
    )
  go_ret
  exact ⟨rfl, rfl⟩
set_option maxRecDepth 100000 in
set_option maxHeartbeats 1000000 in
theorem A2Is_any (F : Fld) (hF : F.ok) (c : Int) (w : World) :
    Calls Try.prog 17 #[.agg F.cells, .int .i64 c] w fun e w' => e = .returned (.bool (F.has c)) ∧ Mem w w' [] := by
  have M := Lib.hid (Mem.start w)
  have S1 := Lib.hid (Fld.size hF.toLen)
  go_enter Try.func17, Try.ntmps17
  go_wp2_with (first
    | ((with_reducible refine gate_dst (N := 2) rfl ?_); go_must (refine M.out.ev_new rfl (by first | (go_simp; done) | (go_simp; rfl)) ?_); intro g2 w2 m; simp only [List.cons_append, List.nil_append] at m; have M := Lib.hid m; clear m)
    | (go_at_call 46; go_must (refine (l01Is_any g2 F hF c _ (M.out.blk 0 rfl)).mono ?_); rintro e w_ ⟨rfl, rfl⟩)
    )
  go_ret
  exact ⟨rfl, M.out.take 0⟩
end Go.Proofs.Ytlonbgomdabmmaa
namespace Go.Proofs.Ytlonbgomdabmmaa
set_option linter.unusedSimpArgs false
set_option linter.unusedVariables false
--GONE Net
end Go.Proofs.Ytlonbgomdabmmaa
namespace Go.Proofs.Ytlonbgomdabmmaa
set_option linter.unusedSimpArgs false
set_option linter.unusedVariables false
open Go.RowKit

/-- The cells below 100 for which something holds. -/
def pset (p : Nat → Bool) : Cs := setOf ((List.range 100).filter p)
def Cs.or (a b : Cs) : Cs := ⟨a.lo ||| b.lo, a.hi ||| b.hi⟩
def Cs.and (a b : Cs) : Cs := ⟨a.lo &&& b.lo, a.hi &&& b.hi⟩
def Cs.less (a b : Cs) : Cs := ⟨andn a.lo b.lo, andn a.hi b.hi⟩
end Go.Proofs.Ytlonbgomdabmmaa
namespace Go.Proofs.Ytlonbgomdabmmaa
set_option linter.unusedSimpArgs false
set_option linter.unusedVariables false
open Go.RowKit
attribute [local go_sem] cell?_mk frozen?_mk

end Go.Proofs.Ytlonbgomdabmmaa
namespace Go.Proofs.Ytlonbgomdabmmaa
set_option linter.unusedSimpArgs false
set_option linter.unusedVariables false
open Go.RowKit
attribute [local go_sem] cell?_mk frozen?_mk

def ofKd (F : Fld) (q : Int) : Cs := setOf (F.all.filter fun k => F.kind k == q)
end Go.Proofs.Ytlonbgomdabmmaa
namespace Go.Proofs.Ytlonbgomdabmmaa
set_option linter.unusedSimpArgs false
set_option linter.unusedVariables false
open Go.RowKit
attribute [local go_sem] cell?_mk frozen?_mk

end Go.Proofs.Ytlonbgomdabmmaa
namespace Go.Proofs.Ytlonbgomdabmmaa
set_option linter.unusedSimpArgs false
set_option linter.unusedVariables false
open Go.RowKit
attribute [local go_sem] cell?_mk frozen?_mk

def Cs.same (a b : Cs) : Bool := decide (a.lo = b.lo) && decide (a.hi = b.hi)
end Go.Proofs.Ytlonbgomdabmmaa
namespace Go.Proofs.Ytlonbgomdabmmaa
set_option linter.unusedSimpArgs false
set_option linter.unusedVariables false
open Go.RowKit
attribute [local go_sem] cell?_mk frozen?_mk

end Go.Proofs.Ytlonbgomdabmmaa
namespace Go.Proofs.Ytlonbgomdabmmaa
set_option linter.unusedSimpArgs false
set_option linter.unusedVariables false
open Go.RowKit
attribute [local go_sem] cell?_mk frozen?_mk

end Go.Proofs.Ytlonbgomdabmmaa
namespace Go.Proofs.Ytlonbgomdabmmaa
set_option linter.unusedSimpArgs false
set_option linter.unusedVariables false
open Go.RowKit

/-- The bits of a number below a place. -/
def popN (x n : Nat) : Nat := (List.range n).countP x.testBit
def ofB : List Nat → Nat
  | [] => 0
  | b :: r => b + 256 * ofB r
def rep (c : Nat) : Nat → Nat
  | 0 => 0
  | n + 1 => c + 256 * rep c n
def s1 (m x : Nat) : Nat := ((x >>> 1) &&& m) + (x &&& m)
def s2 (m x : Nat) : Nat := ((x >>> 2) &&& m) + (x &&& m)
def s3 (m x : Nat) : Nat := ((x >>> 4) + x) &&& m
/-- A byte both of whose halves are at most 4. -/
def low (b : Nat) : Prop := b % 16 ≤ 4 ∧ b / 16 ≤ 4
/-- A word, counted as Go's library does. -/
def onesGo (x : Nat) : Nat :=
  let y := s3 (rep 15 8) (s2 (rep 51 8) (s1 (rep 85 8) x))
  let y := y + y >>> 8
  let y := y + y >>> 16
  let y := y + y >>> 32
  y &&& 127
end Go.Proofs.Ytlonbgomdabmmaa
namespace Go.Proofs.Ytlonbgomdabmmaa
set_option linter.unusedSimpArgs false
set_option linter.unusedVariables false
open Go.RowKit
attribute [local go_sem] cell?_mk frozen?_mk

theorem reps : rep 85 8 = 6148914691236517205 ∧ rep 51 8 = 3689348814741910323 ∧ rep 15 8 = 1085102592571150095 := by decide
end Go.Proofs.Ytlonbgomdabmmaa
namespace Go.Proofs.Ytlonbgomdabmmaa
set_option linter.unusedSimpArgs false
set_option linter.unusedVariables false
open Go.RowKit
attribute [local go_sem] cell?_mk frozen?_mk

end Go.Proofs.Ytlonbgomdabmmaa
namespace Go.Proofs.Ytlonbgomdabmmaa
set_option linter.unusedSimpArgs false
set_option linter.unusedVariables false
open Go.RowKit
attribute [local go_sem] cell?_mk frozen?_mk
--ONES exact Cs.one _ | exact Net.one _
end Go.Proofs.Ytlonbgomdabmmaa
namespace Go.Proofs.Ytlonbgomdabmmaa
set_option linter.unusedSimpArgs false
set_option linter.unusedVariables false
--GONE Prices
end Go.Proofs.Ytlonbgomdabmmaa
namespace Go.Proofs.Ytlonbgomdabmmaa
set_option linter.unusedSimpArgs false
set_option linter.unusedVariables false
open Go.RowKit
attribute [local go_sem] cell?_mk frozen?_mk
--ONES exact Net.one _ | exact Prices.one _

section
variable {P : Program} {ops : Array Oper} {rest : List Oper} {o : Oper} {a : Act} {w0 w : World} {Q : Exit → Act → World → Prop} {L : List Ent}
end
end Go.Proofs.Ytlonbgomdabmmaa
namespace Go.Proofs.Ytlonbgomdabmmaa
set_option linter.unusedSimpArgs false
set_option linter.unusedVariables false
open Go.RowKit
attribute [local go_sem] cell?_mk frozen?_mk
--ONES exact Fld.one _ | exact Prices.one _ | exact Cs.one _

section
variable {P : Program} {ops : Array Oper} {rest : List Oper} {o : Oper} {a : Act} {w0 w : World} {Q : Exit → Act → World → Prop} {L : List Ent}
theorem Mem.ev_bs4 (M : Mem w0 w L) {T e : TypeId} {zv : Value} {bytes : Nat} (E : ElemOk P T e zv 1 bytes) (hgd : o.guard = none) (x y z s : Operand) (ho : o.op = .buildSlice T 4 #[(0, x), (1, y), (2, z), (3, s)])
    (u v t r : Value) (hx : a.eval x = u) (hy : a.eval y = v) (hz : a.eval z = t) (hs : a.eval s = r) (hu : u.cells = #[u]) (hv : v.cells = #[v]) (ht : t.cells = #[t]) (hr : r.cells = #[r])
    (h : ∀ g w1, Mem w0 w1 (L ++ [.blk g e #[u, v, t, r]]) → wpList P ops Q rest (a.put o.dst (.slice (some ⟨g, 0, none⟩) 4 4)) w1) : wpList P ops Q (o :: rest) a w := by
  obtain ⟨i, hi, h1, h2, h3⟩ := E.get
  refine wpList_buildSlice hgd T e 4 _ ho #[u, v, t, r] i zv E.sl hi h1 (by rw [h2]; decide) (by rw [h2]; decide) ?_ ?_
  · have := Great.fill_whole (s := i.size) (by omega) [u, v, t, r] ((Array.range (4 * i.size)).map (zv.cells[· % zv.cells.size]!)) (by simp [hu, hv, ht, hr, h2]) (by simp)
    simpa [hx, hy, hz, hs, hu, hv, ht, hr] using this
  · exact h _ _ (M.new (Nat.le_refl _) (Blk.new w e #[u, v, t, r]) ((Below.refl _ _).alloc (Nat.le_refl _) _))
end
/-- A field with a tree, as it is drawn. -/
structure Wood (F : Fld) : Prop where
  ok : F.ok
  w : 1 ≤ F.wide ∧ F.wide ≤ 5
  h : 1 ≤ F.high ∧ F.high ≤ 5
  at_ : ∀ j, j < 100 → F.okAt j = true
  s : ∀ j, F.seed j ≤ 11
  t : ∃ q : Nat, q < 100 ∧ F.has q = true ∧ F.kind q = 3
theorem Wood.valid {F : Fld} (h : Wood F) : F.valid = true :=
  Fld.valid_of (inB_iff.2 ⟨by have := h.w; omega, by have := h.w; omega⟩) (inB_iff.2 ⟨by have := h.h; omega, by have := h.h; omega⟩) h.at_
theorem FDr.wood {F : Fld} (h : FDr F 100) {q : Nat} (hq : q < 100) (hh : F.has q = true) : Wood ((F.withKind q 3).withSeed q 0) := by
  have l1 : (F.withKind q 3).ok := Fld.withKind_ok h.ok q 3 (by omega)
  have e1 : ∀ j, ((F.withKind q 3).withSeed q 0).kind j = if j = q then 3 else F.kind j := fun j => Fld.kind_wk h.ok.toLen hq 3 j
  have e2 : ∀ j, ((F.withKind q 3).withSeed q 0).seed j = if j = q then 0 else F.seed j := fun j => Fld.seed_ws l1.toLen hq 0 j
  refine ⟨Fld.withSeed_okF l1 q 0 (by omega), h.w, h.h, fun j hj => ?_, fun j => ?_, q, hq, hh, ?_⟩
  · have h1 := Fld.okAt_iff.1 (h.at_ j hj)
    refine Fld.okAt_iff.2 ?_
    rw [e1, e2, show ((F.withKind q 3).withSeed q 0).has j = F.has j from rfl]
    by_cases hjk : j = q
    · subst hjk
      rw [if_pos rfl, if_pos rfl, hh]
      exact ⟨by omega, by omega, by omega, by omega, fun _ => rfl, fun e => by cases e⟩
    · rw [if_neg hjk, if_neg hjk]
      exact h1
  · rw [e2]
    split
    · decide
    · exact h.s j
  · rw [e1, if_pos rfl]
theorem cell_of {F : Fld} {x y : Int} (hx : 0 ≤ x ∧ x < F.wide) (hy : 0 ≤ y ∧ y < F.high) (hw : F.wide ≤ 10) (hh : F.high ≤ 10) : ∃ q : Nat, x + 10 * y = (q : Int) ∧ q < 100 ∧ F.has q = true := by
  obtain ⟨q, hq⟩ := Int.eq_ofNat_of_zero_le (show 0 ≤ x + 10 * y by omega)
  exact ⟨q, hq, by omega, Fld.has_iff.2 ⟨by omega, by omega, by omega⟩⟩
set_option maxRecDepth 100000 in
set_option maxHeartbeats 8000000 in
theorem l02Wooded_any {w0 w : World} {L : List Ent} (i : Nat) (M0 : Mem w0 w L) (g : Nat) (A : Option Addr) (c : Nat) (bs : List Int) (hb : Bytes bs) (k : Nat) (hk : k ≤ 900000) (sd : Int) (hL : L[i]? = some (.blk g 96 (srcCells A bs.length c k sd))) (hs : Sl w0 1 A bs.length (flat oneB bs)) :
    Calls Try.prog 28 #[.pointer (some ⟨g, 0, none⟩)] w fun e w' => ∃ F : Fld, e = .returned (.agg F.cells) ∧ Wood F ∧ ∃ k' sd', k' ≤ k + 1004 ∧ Mem w0 w' (L.set i (.blk g 96 (srcCells A bs.length c k' sd'))) := by
  have M := Lib.hid M0
  have HS := Lib.hid hs
  have HL := Lib.hid hL
  have HB := Lib.hid hb
  have HSET := Lib.hid (fun (e : Ent) => set_at hL e)
  clear M0 hs hL hb
  go_enter Try.func28, Try.ntmps28
  go_wp2_with (first
    | ((with_reducible refine gate_dst (N := 2) rfl ?_); go_must (refine M.out.ev_new rfl (by first | (go_simp; done) | (go_simp; rfl)) ?_); intro g2 w2 m; have M := Lib.hid m.front; clear m)
    | (go_at_call 57; go_must (refine (l01Drawn_any (i + 1) M.out g A c bs HB.out k (by omega) sd HL.out HS.out).mono ?_); rintro e w_ ⟨F, rfl, hF, kd, sdd, hkd, m⟩; simp only [List.set_cons_succ, List.set_cons_zero, List.set_set] at m; have M := Lib.hid m; clear m; have FD := Lib.hid hF; have S1 := Lib.hid (Fld.size hF.ok.toLen); have O1 := Lib.hid (Fld.one F); have hw := hF.w; have hh := hF.h; have ew : IntKind.i64.wrap F.wide = F.wide := IntWalk.i64_in _ (by omega); have eh : IntKind.i64.wrap F.high = F.high := IntWalk.i64_in _ (by omega); clear hF)
    | ((with_reducible refine gate_dst (N := 3) rfl ?_); go_must (refine M.out.ev_new rfl (by first | (go_simp; done) | (go_simp; rfl)) ?_); intro g3 w3 m; have M := Lib.hid m.front; clear m)
    | ((with_reducible refine gate_store (x := .tmp 3) rfl ?_); go_must (refine M.out.ev_stw 0 _ _ _ rfl rfl rfl rfl _ rfl (by rw [S1.out]; exact szZ) (by rw [S1.out]; exact sz29) O1.out rfl ?_); intro wn m; simp only [List.set_cons_zero] at m; have M := Lib.hid m; clear m)
    | ((with_reducible refine gate_dst (N := 10) rfl ?_); go_must (refine M.out.ev_ld 0 _ _ rfl rfl rfl Try.underlying24 rfl rfl (by first | exact F.cell0 | exact F.cell1) ?_))
    | ((with_reducible refine gate_dst (N := 16) rfl ?_); go_must (refine M.out.ev_ld 0 _ _ rfl rfl rfl Try.underlying24 rfl rfl (by first | exact F.cell0 | exact F.cell1) ?_))
    | (go_at_call 32; go_must (first | (refine Calls.mono (calls_args (by with_reducible rfl) (pick_any (i + 2) M.out g A c bs HB.out _ (by omega) _ (HSET.out _) (M.out.sl HS.out) F.wide (by omega))) ?_; rintro e w_ ⟨x, rfl, x0, x1, k1, sd1, hk1, m⟩; simp only [List.set_cons_succ, List.set_cons_zero, List.set_set] at m; have M := Lib.hid m; clear m) | (refine Calls.mono (calls_args (by with_reducible rfl) (pick_any (i + 2) M.out g A c bs HB.out _ (by omega) _ (HSET.out _) (M.out.sl HS.out) F.high (by omega))) ?_; rintro e w_ ⟨y, rfl, y0, y1, k2, sd2, hk2, m⟩; simp only [List.set_cons_succ, List.set_cons_zero, List.set_set] at m; have M := Lib.hid m; clear m; obtain ⟨q, hq, hq1, hq2⟩ := cell_of (F := F) ⟨x0, by omega⟩ ⟨y0, by omega⟩ (by omega) (by omega); have e1 : IntKind.i64.wrap (10 * y) = 10 * y := IntWalk.i64_in _ (by omega); have e2 : IntKind.i64.wrap (x + 10 * y) = (q : Int) := (by rw [hq]; exact IntWalk.i64_in _ (by omega)); have HH := Lib.hid hq2; clear hq hq2 y0 y1; have SZ1 := Lib.hid (show 2 + q < F.cells.size by rw [S1.out]; omega); have SZ2 := Lib.hid (show 102 + q < (F.withKind q 3).cells.size by rw [Fld.size (Fld.withKind_ok FD.out.ok q 3 (by omega)).toLen]; omega); have K1 := Lib.hid (Fld.setKind FD.out.ok.toLen hq1 3); have K2 := Lib.hid (Fld.setSeed (Fld.withKind_ok FD.out.ok q 3 (by omega)).toLen q 0); have WD := Lib.hid (FD.out.wood hq1 HH.out); have S2 := Lib.hid (Fld.size WD.out.ok.toLen); have O2 := Lib.hid (Fld.one ((F.withKind q 3).withSeed q 0)); have i0 : (0 : Int) ≤ (q : Int) := (by omega); have i1 : (q : Int) < 100 := (by omega))))
    | ((with_reducible refine gate_store (x := .tmp 23) rfl ?_); go_must (refine M.out.ev_put 0 _ _ _ rfl rfl rfl rfl (.int .u8 3) rfl SZ1.out sz5 rfl rfl ?_); intro wn m; simp only [List.set_cons_zero, List.set_cons_succ, K1.out] at m; have M := Lib.hid m; clear m)
    | ((with_reducible refine gate_store (x := .tmp 26) rfl ?_); go_must (refine M.out.ev_put 0 _ _ _ rfl rfl rfl rfl (.int .i16 0) rfl SZ2.out sz26 rfl rfl ?_); intro wn m; simp only [List.set_cons_zero, List.set_cons_succ, K2.out] at m; have M := Lib.hid m; clear m)
    | ((with_reducible refine gate_dst (N := 27) rfl ?_); go_must (refine M.out.ev_ldw 0 _ _ rfl rfl rfl Try.underlying29 rfl (by rw [S2.out]; exact sz29) rfl ?_))
    | ((with_reducible refine gate_store (x := .tmp 2) rfl ?_); go_must (refine M.out.ev_stw 1 _ _ _ rfl rfl rfl rfl _ rfl (by rw [S2.out]; exact szZ) (by rw [S2.out]; exact sz29) O2.out rfl ?_); intro wn m; simp only [List.set_cons_zero, List.set_cons_succ] at m; have M := Lib.hid m; clear m)
    )
  refine ret_cell rfl (M.out.blk 1 rfl) Try.underlying29 rfl (by rw [S2.out]; exact sz29) rfl ⟨_, rfl, WD.out, k2, sd2, by omega, M.out.tail.tail⟩
set_option maxRecDepth 100000 in
set_option maxHeartbeats 4000000 in
theorem A2Field_any (A : Option Addr) (c : Nat) (bs : List Int) (hb : Bytes bs) (w : World) (hs : Sl w 1 A bs.length (flat oneB bs)) :
    Calls Try.prog 5 #[.slice A bs.length c] w fun e w' => ∃ F : Fld, e = .returned (.agg F.cells) ∧ Wood F ∧ Mem w w' [] := by
  have M := Lib.hid (Mem.start w)
  have HS := Lib.hid hs
  clear hs
  go_enter Try.func5, Try.ntmps5
  go_wp2_with (first
    | ((with_reducible refine gate_dst (N := 2) rfl ?_); go_must (refine M.out.ev_new rfl (by first | (go_simp; done) | (go_simp; rfl)) ?_); intro g2 w2 m; simp only [List.cons_append, List.nil_append] at m; have M := Lib.hid m; clear m)
    | (go_at_call 29; go_must (refine (l00From_any A bs.length c _).mono ?_); rintro e w_ ⟨g, rfl, N_⟩; have m := M.out.join N_; clear N_; simp only [List.cons_append, List.nil_append, List.append_nil] at m; have M := Lib.hid m; clear m)
    | (go_at_call 28; go_must (refine (l02Wooded_any 1 M.out g A c bs hb 0 (by omega) 0 rfl HS.out).mono ?_); rintro e w_ ⟨F, rfl, hF, kd, sdd, hkd, m⟩; simp only [List.set_cons_succ, List.set_cons_zero] at m; have M := Lib.hid m; clear m; have FD := Lib.hid hF; have S1 := Lib.hid (Fld.size hF.ok.toLen); have O1 := Lib.hid (Fld.one F); clear hF)
    | ((with_reducible refine gate_store (x := .tmp 2) rfl ?_); go_must (refine M.out.ev_stw 0 _ _ _ rfl rfl rfl rfl _ rfl (by rw [S1.out]; exact szZ) (by rw [S1.out]; exact sz29) O1.out rfl ?_); intro wn m; simp only [List.set_cons_zero, List.set_cons_succ] at m; have M := Lib.hid m; clear m)
    )
  refine ret_cell rfl (M.out.blk 0 rfl) Try.underlying29 rfl (by rw [S1.out]; exact sz29) rfl ⟨F, rfl, FD.out, M.out.take 0⟩
/-- Targets that can be covered, as they are drawn. -/
structure Tgt (F : Fld) (s : Cs) (n : Nat) : Prop where
  ok : s.ok
  len : s.all.length ≤ n
  in_ : ∀ k, s.has k = true → k < 100 ∧ F.has k = true ∧ F.kind k ≠ 3
theorem Tgt.mono {F : Fld} {s : Cs} {n m : Nat} (h : Tgt F s n) (hm : n ≤ m) : Tgt F s m := ⟨h.ok, Nat.le_trans h.len hm, h.in_⟩
theorem filter_or_len {α : Type} (p q : α → Bool) (l : List α) : (l.filter fun x => p x || q x).length ≤ (l.filter p).length + (l.filter q).length := by
  induction l with
  | nil => simp
  | cons x r ih =>
    simp only [List.filter_cons]
    cases p x <;> cases q x <;> simp <;> omega
theorem filter_eq_len (n : Nat) : ∀ m, ((List.range m).filter fun k => decide (n = k)).length ≤ 1
  | 0 => by simp
  | m + 1 => by
    rw [List.range_succ, List.filter_append, List.length_append]
    have ih := filter_eq_len n m
    by_cases h : n = m
    · have h0 : ((List.range m).filter fun k => decide (n = k)) = [] := by
        rw [List.filter_eq_nil_iff]
        intro k hk
        have := List.mem_range.1 hk
        simp
        omega
      rw [h0]
      simp [h]
    · simp [h]
      simpa using ih
theorem put_len (s : Cs) (q : Nat) : (s.put q).all.length ≤ s.all.length + 1 := by
  unfold Cs.all Cs.below
  rw [List.filter_congr fun k _ => Cs.put_has s q]
  have h1 := filter_or_len s.has (fun k => decide (q = k)) (List.range 100)
  have h2 := filter_eq_len q 100
  omega
theorem Tgt.put {F : Fld} {s : Cs} {n q : Nat} (h : Tgt F s n) (hq : q < 100) (h1 : F.has q = true) (h2 : F.kind q ≠ 3) : Tgt F (s.put q) (n + 1) := by
  refine ⟨Cs.put_ok h.ok (by omega), Nat.le_trans (put_len s q) (by have := h.len; omega), fun k hk => ?_⟩
  rw [Cs.put_has, Bool.or_eq_true] at hk
  rcases hk with hk | hk
  · exact h.in_ k hk
  · rw [← of_decide_eq_true hk]
    exact ⟨hq, h1, h2⟩
theorem Tgt.z (F : Fld) : Tgt F Cs.z 0 := ⟨Cs.z_ok, by decide, fun k hk => by
  rw [show Cs.z.has k = false by unfold Cs.has Cs.z; split <;> simp] at hk
  cases hk⟩
theorem a2Long_any (A B : Option Addr) (n m c d : Nat) (w : World) :
    Calls Try.prog 4 #[.slice A n c, .slice B m d] w fun e w' => e = .returned (.bool (decide (3000 < n) || decide (3000 < m))) ∧ w = w' := by
  by_cases h : 3000 < n <;> by_cases h' : 3000 < m
  all_goals
    have h1 : (decide ((3000 : Int) < (n : Int))) = decide (3000 < n) := by simp; omega
    have h2 : (decide ((3000 : Int) < (m : Int))) = decide (3000 < m) := by simp; omega
    first | rw [decide_eq_true h] at h1 ⊢ | rw [decide_eq_false h] at h1 ⊢
    first | rw [decide_eq_true h'] at h2 ⊢ | rw [decide_eq_false h'] at h2 ⊢
    go_enter Try.func4, Try.ntmps4
    go_wp2
    go_ret
    exact ⟨rfl, rfl⟩
set_option maxRecDepth 100000 in
set_option maxHeartbeats 2000000 in
theorem a2At_any (A : Option Addr) (c : Nat) (bs : List Int) (hb : Bytes bs) (n : Int) (hn : 1 ≤ n) (w : World) (hs : Sl w 1 A bs.length (flat oneB bs)) :
    Calls Try.prog 24 #[.slice A bs.length c, .int .i64 0, .int .i64 n] w fun e w' => ∃ r, e = .returned (.int .i64 r) ∧ 0 ≤ r ∧ r < n ∧ w = w' := by
  have HS := Lib.hid hs
  clear hs
  have hn1 : ¬ (n < 1) := by omega
  have hn0 : (n == 0) = false := by rw [beq_eq_false_iff_ne]; omega
  by_cases h : 0 < bs.length
  · obtain ⟨b, off, rfl, hr⟩ := HS.out.2 h
    have hne : ¬ bs = [] := fun e => by rw [e] at h; simp at h
    have hxk : bs[0]? = some bs[0] := List.getElem?_eq_getElem h
    have x0 : w.cell? ⟨b, off + 0, none⟩ = some (.int .u8 bs[0]) := by simpa [oneB] using range_at oneB_len hr hxk 0 _ rfl
    have hbb := hb.byte _ (List.getElem_mem h)
    obtain ⟨y, hy⟩ : ∃ y, y = bs[0] := ⟨_, rfl⟩
    rw [← hy] at x0 hbb
    rw [Nat.add_zero] at x0
    have e1 : IntKind.i64.wrap y = y := IntWalk.i64_in _ (by omega)
    have i1 : (0 : Int) < (bs.length : Int) := by omega
    clear hr hxk hy
    go_enter Try.func24, Try.ntmps24
    go_wp2
    go_ret
    have h1 := Int.emod_nonneg y (show n ≠ 0 by omega)
    have h2 := Int.emod_lt_of_pos y (show 0 < n by omega)
    have h3 : y.tmod n = y % n := Int.tmod_eq_emod_of_nonneg hbb.1
    refine ⟨_, rfl, ?_, ?_, rfl⟩ <;> first | omega | (rw [h3]; omega)
  · obtain rfl : bs = [] := List.length_eq_zero_iff.1 (by omega)
    go_enter Try.func24, Try.ntmps24
    go_wp2
    go_ret
    exact ⟨0, rfl, by omega, by omega, rfl⟩
end Go.Proofs.Ytlonbgomdabmmaa
