/- Texts of a proof, laid together: Eaten, Hungry, MoveF2, SplitF, Src, DrawF, Near, FedP, NeqF, SameV, Same, FedA. -/
import Derived.Test.YtkomhngokcejbaaGreatDoorZV11
import Derived.Test.YtkomhngokcejbaaGreatDoorZV06
import Derived.Test.YtkomhngokcejbaaGreatDoorZV02
import Derived.Test.YtkomhngokcejbaaGreatDoorZV00
import Derived.Test.YtkomhngokcejbaaGreatDoorZV01
import Derived.Test.YtkomhngokcejbaaGreatDoorZV03
import Derived.Laws.StructEq
namespace Go.Proofs.YtkomhngokcejbaaGreatDoor
set_option linter.unusedSimpArgs false
set_option linter.unusedVariables false
open Go.RowKit
attribute [local go_sem] cell?_mk frozen?_mk

end Go.Proofs.YtkomhngokcejbaaGreatDoor
namespace Go.Proofs.YtkomhngokcejbaaGreatDoor
set_option linter.unusedSimpArgs false
set_option linter.unusedVariables false
open Go.RowKit
attribute [local go_sem] cell?_mk frozen?_mk

/-- The first flocks that still want something. -/
def hungryTo (l : List Int) (n : Nat) : List Int := ((List.range n).filter fun i => decide (0 < gi l i)).map fun (i : Nat) => (i : Int)
end Go.Proofs.YtkomhngokcejbaaGreatDoor
namespace Go.Proofs.YtkomhngokcejbaaGreatDoor
set_option linter.unusedSimpArgs false
set_option linter.unusedVariables false
open Go.RowKit
attribute [local go_sem] cell?_mk frozen?_mk

end Go.Proofs.YtkomhngokcejbaaGreatDoor
namespace Go.Proofs.YtkomhngokcejbaaGreatDoor
set_option linter.unusedSimpArgs false
set_option linter.unusedVariables false
open Go.RowKit
attribute [local go_sem] cell?_mk frozen?_mk

def spFine (xs : List Flock) (i b : Int) : Bool := match xs[i.toNat]? with | some x => inB b 0 x.birds | none => false
def spCode (F : Fld) (xs : List Flock) (i b : Int) : Int := if flCode F xs i (spFine xs i b) ≠ 0 then flCode F xs i (spFine xs i b) else if xs.length = 12 then 3 else 0
def spAt (xs : List Flock) (j : Nat) (b : Int) : List Flock := match xs[j]? with | some x => xs.set j { x with birds := x.birds - b } ++ [{ x with birds := b }] | none => []
def spRes (F : Fld) (xs : List Flock) (i b : Int) : List Flock := if spCode F xs i b = 0 then spAt xs i.toNat b else []
end Go.Proofs.YtkomhngokcejbaaGreatDoor
namespace Go.Proofs.YtkomhngokcejbaaGreatDoor
set_option linter.unusedSimpArgs false
set_option linter.unusedVariables false
open Go.RowKit
attribute [local go_sem] cell?_mk frozen?_mk

def oneB (x : Int) : List Value := [.int .u8 x]
theorem oneB_len (x : Int) : (oneB x).length = 1 := rfl
/-- What a source holds behind some draws. -/
def srcCells (A : Option Addr) (n c k : Nat) (sd : Int) : Array Value := #[.slice A n c, .int .i64 k, .int .u64 sd]
structure Bytes (bs : List Int) : Prop where
  byte : ∀ b ∈ bs, 0 ≤ b ∧ b ≤ 255
  len : bs.length ≤ 4096
theorem u64_nat (x : Int) : ∃ s : Nat, s < 18446744073709551616 ∧ IntKind.u64.wrap x = (s : Int) := by
  have h : IntKind.u64.wrap x = x % 18446744073709551616 := by
    unfold IntKind.wrap
    simp [IntKind.signed, IntKind.bits]
  exact ⟨(x % 18446744073709551616).toNat, by omega, by omega⟩
theorem seed_nat {w0 w : World} {L : List Ent} {i g : Nat} {t : TypeId} {cs : Array Value} {z : Int} (M : Mem w0 w (L.set i (.blk g t (cs.setIfInBounds 2 (.int .u64 (IntKind.u64.wrap z)))))) :
    ∃ s : Nat, s < 18446744073709551616 ∧ Mem w0 w (L.set i (.blk g t (cs.setIfInBounds 2 (.int .u64 s)))) := by
  obtain ⟨s, h1, h2⟩ := u64_nat z
  rw [h2] at M
  exact ⟨s, h1, M⟩
set_option maxRecDepth 100000 in
set_option maxHeartbeats 2000000 in
theorem next_any {w0 w : World} {L : List Ent} (i : Nat) (M0 : Mem w0 w L) (g : Nat) (A : Option Addr) (c : Nat) (bs : List Int) (hb : Bytes bs) (k : Nat) (hk : k ≤ 1099511627776) (sd : Int) (hL : L[i]? = some (.blk g 176 (srcCells A bs.length c k sd))) (hs : Sl w 1 A bs.length (flat oneB bs)) :
    Calls Tryz.prog 134 #[.pointer (some ⟨g, 0, none⟩)] w fun e w' => ∃ r sd', e = .returned (.int .i64 r) ∧ 0 ≤ r ∧ r ≤ 255 ∧ Mem w0 w' (L.set i (.blk g 176 (srcCells A bs.length c (k + 1) sd'))) := by
  have M := Lib.hid M0
  have HL := Lib.hid hL
  have HS := Lib.hid hs
  have HB := Lib.hid hb
  have hbl := hb.len
  have HSET := Lib.hid (fun (e : Ent) => show (L.set i e)[i]? = some e from List.getElem?_set_self (List.getElem?_eq_some_iff.1 hL).1)
  clear M0 hL hs hb
  have c0 := M.out.cell i HL.out (j := 0) (v := .slice A bs.length c) rfl
  have c1 := M.out.cell i HL.out (j := 1) (v := .int .i64 k) rfl
  have w1 : IntKind.i64.wrap ((k : Int) + 1) = (k : Int) + 1 := IntWalk.i64_in _ (by omega)
  by_cases hlt : k < bs.length
  · obtain ⟨b, off, rfl, hr⟩ := HS.out.2 (by omega)
    have hxk : bs[k]? = some bs[k] := List.getElem?_eq_getElem hlt
    have x0 : w.cell? ⟨b, off + k, none⟩ = some (.int .u8 bs[k]) := by simpa [oneB] using range_at oneB_len hr hxk 0 _ rfl
    have hbb := HB.out.byte _ (List.getElem_mem hlt)
    obtain ⟨y, hy⟩ : ∃ y, y = bs[k] := ⟨_, rfl⟩
    rw [← hy] at x0 hbb
    have i0 : (0 : Int) ≤ (k : Int) := by omega
    have i1 : (k : Int) < (bs.length : Int) := by omega
    clear hr hxk hy
    go_enter Tryz.func134, Tryz.ntmps134
    go_wp2_with fail
    go_quiet (fail)
    have M := Lib.hid (M.out.drewN nq)
    obtain ⟨wz, hwz⟩ : ∃ wz, wz = w.drewN nq := ⟨_, rfl⟩
    rw [← hwz] at M ⊢
    have x1 : wz.cell? ⟨b, off + k, none⟩ = some (.int .u8 y) := by rw [hwz]; exact x0
    clear hwz
    go_wp2
    have c2 := M.out.cell i HL.out (j := 0) (v := .slice (some ⟨b, off, none⟩) bs.length c) rfl
    have c3 := M.out.cell i HL.out (j := 1) (v := .int .i64 k) rfl
    go_quiet (fail)
    have M := Lib.hid (M.out.drewN nq)
    go_wp2_with (first
      | ((with_reducible refine gate_store (x := .tmp 31) rfl ?_); go_must (refine M.out.ev_put i _ _ _ rfl rfl HL.out rfl (.int .i64 ((k : Int) + 1)) rfl (show 1 < 3 by decide) sz3 rfl rfl ?_); intro w31 m; have M := Lib.hid m; clear m; have c5 := M.out.cell i (HSET.out _) (j := 2) (v := .int .u64 sd) rfl)
      | ((with_reducible refine gate_store (x := .tmp 43) rfl ?_); go_must (refine M.out.ev_put i _ _ _ rfl rfl (HSET.out _) rfl _ rfl (show 2 < 3 by decide) sz38 rfl rfl ?_); intro w43 m; rw [List.set_set] at m; have M := Lib.hid m; clear m; have c6 := M.out.cell i (HSET.out _) (j := 0) (v := .slice (some ⟨b, off, none⟩) bs.length c) rfl; have c7 := M.out.cell i (HSET.out _) (j := 1) (v := .int .i64 ((k : Int) + 1)) rfl)
      )
    go_quiet (fail)
    have M := Lib.hid (M.out.drewN nq)
    go_wp2
    go_ret
    exact ⟨_, _, rfl, hbb.1, hbb.2, M.out⟩
  · have i1 : ¬ ((k : Int) < (bs.length : Int)) := by omega
    have i2 : ¬ ((k : Int) + 1 ≤ (bs.length : Int)) := by omega
    go_enter Tryz.func134, Tryz.ntmps134
    go_wp2_with fail
    go_quiet (fail)
    have M := Lib.hid (M.out.drewN nq)
    obtain ⟨wz, hwz⟩ : ∃ wz, wz = w.drewN nq := ⟨_, rfl⟩
    rw [← hwz] at M ⊢
    clear hwz
    have c3 := M.out.cell i HL.out (j := 1) (v := .int .i64 k) rfl
    go_wp2_with (first
      | ((with_reducible refine gate_store (x := .tmp 31) rfl ?_); go_must (refine M.out.ev_put i _ _ _ rfl rfl HL.out rfl (.int .i64 ((k : Int) + 1)) rfl (show 1 < 3 by decide) sz3 rfl rfl ?_); intro w31 m; have M := Lib.hid m; clear m; have c5 := M.out.cell i (HSET.out _) (j := 2) (v := .int .u64 sd) rfl)
      | ((with_reducible refine gate_store (x := .tmp 43) rfl ?_); go_must (refine M.out.ev_put i _ _ _ rfl rfl (HSET.out _) rfl (.int .u64 _) rfl (show 2 < 3 by decide) sz38 rfl rfl ?_); intro w43 m; rw [List.set_set] at m; obtain ⟨s, hsl, m⟩ := seed_nat m; have M := Lib.hid m; clear m; have c6 := M.out.cell i (HSET.out _) (j := 0) (v := .slice A bs.length c) rfl; have c7 := M.out.cell i (HSET.out _) (j := 1) (v := .int .i64 ((k : Int) + 1)) rfl)
      )
    go_quiet (fail)
    have M := Lib.hid (M.out.drewN nq)
    obtain ⟨wy, hwy⟩ : ∃ wy, wy = w43.drewN nq := ⟨_, rfl⟩
    rw [← hwy] at M ⊢
    clear hwy
    have c8 := M.out.cell i (HSET.out _) (j := 2) (v := .int .u64 s) rfl
    obtain ⟨q, hq⟩ : ∃ q, q = s / 1099511627776 := ⟨_, rfl⟩
    have hqs : q < 18446744073709551616 := by omega
    have s2 : (s : Int).fdiv (2 ^ min (Int.toNat 40) IntKind.u64.bits) = (q : Int) := by
      rw [show min (Int.toNat 40) IntKind.u64.bits = 40 from rfl, show (2 : Int) ^ 40 = 1099511627776 from rfl, Int.fdiv_eq_ediv_of_nonneg _ (by omega)]
      omega
    have b1 : bits .and .u64 ((s : Int) / 1099511627776) 255 = ((q &&& 255 : Nat) : Int) := by
      rw [show (s : Int) / 1099511627776 = (q : Int) by omega]
      exact bits_and_u64_nat q 255 hqs (by decide)
    obtain ⟨r, hr⟩ : ∃ r, r = q &&& 255 := ⟨_, rfl⟩
    have hr2 : r ≤ 255 := by rw [hr]; exact Nat.and_le_right
    rw [← hr] at b1
    have w3 : IntKind.u64.wrap (q : Int) = (q : Int) := IntWalk.u64_in _ (by omega)
    have w4 : IntKind.u64.wrap (r : Int) = (r : Int) := IntWalk.u64_in _ (by omega)
    have B1 := Lib.hid b1
    clear hr hq
    go_wp2
    go_ret
    refine ⟨_, _, rfl, ?_, ?_, M.out⟩
    all_goals
      try rw [B1.out]
      try unfold wrap64
      omega
/-- What a draw leaves: the source, some draws on. -/
def Drew (w0 w' : World) (L : List Ent) (i g : Nat) (A : Option Addr) (n c k : Nat) : Prop := ∃ k' sd', k' ≤ k + 2 ∧ Mem w0 w' (L.set i (.blk g 176 (srcCells A n c k' sd')))
theorem set_id {α : Type} {L : List α} {i : Nat} {x : α} (h : L[i]? = some x) : L.set i x = L := by
  obtain ⟨h1, rfl⟩ := List.getElem?_eq_some_iff.1 h
  exact List.set_getElem_self h1
set_option maxRecDepth 100000 in
set_option maxHeartbeats 2000000 in
theorem pick_any {w0 w : World} {L : List Ent} (i : Nat) (M0 : Mem w0 w L) (g : Nat) (A : Option Addr) (c : Nat) (bs : List Int) (hb : Bytes bs) (k : Nat) (hk : k ≤ 1099511600000) (sd : Int) (hL : L[i]? = some (.blk g 176 (srcCells A bs.length c k sd))) (hs : Sl w 1 A bs.length (flat oneB bs)) (n : Int) (hn : n ≤ 200) :
    Calls Tryz.prog 59 #[.pointer (some ⟨g, 0, none⟩), .int .i64 n] w fun e w' => ∃ r, e = .returned (.int .i64 r) ∧ 0 ≤ r ∧ r < max 1 n ∧ Drew w0 w' L i g A bs.length c k := by
  have M := Lib.hid M0
  have HL := Lib.hid hL
  have NX := Lib.hid (next_any i M0 g A c bs hb k (by omega) sd hL hs)
  clear M0 hL hs
  by_cases hn1 : n ≤ 1
  · go_enter Tryz.func59, Tryz.ntmps59
    go_wp2
    go_ret
    exact ⟨0, rfl, by omega, by omega, k, sd, by omega, by rw [set_id HL.out]; exact M.out⟩
  · have hn2 : ¬ (200 < n) := by omega
    have hn0 : ¬ (n = 0) := by omega
    have q0 : (n == 0) = false := by rw [beq_eq_false_iff_ne]; exact hn0
    go_enter Tryz.func59, Tryz.ntmps59
    go_wp2_with (first
      | (go_at_call 134; go_must (refine NX.out.mono ?_); rintro e w_ ⟨r, sd1, rfl, hr0, hr1, m⟩; have M := Lib.hid m; clear m; have ht : r.tmod n = r % n := Int.tmod_eq_emod_of_nonneg hr0)
      )
    go_ret
    refine ⟨_, rfl, ?_, ?_, k + 1, sd1, by omega, M.out⟩
    · first
        | exact Int.emod_nonneg _ hn0
        | (rw [ht]; exact Int.emod_nonneg _ hn0)
    · have := Int.emod_lt_of_pos r (by omega : 0 < n)
      first
        | omega
        | (rw [ht]; omega)
set_option maxRecDepth 100000 in
set_option maxHeartbeats 2000000 in
theorem l00From_any (A : Option Addr) (n c : Nat) (w : World) :
    Calls Tryz.prog 56 #[.slice A n c] w fun e w' => ∃ g, e = .returned (.pointer (some ⟨g, 0, none⟩)) ∧ Mem w w' [.blk g 176 (srcCells A n c 0 0)] := by
  have M := Lib.hid (Mem.start w)
  go_enter Tryz.func56, Tryz.ntmps56
  go_wp2_with (first
    | ((with_reducible refine gate_dst (N := 5) rfl ?_); go_must (refine M.out.ev_new rfl (by first | (go_simp; done) | (go_simp; rfl)) ?_); intro g5 w5 m; simp only [List.cons_append, List.nil_append] at m; have M := Lib.hid m; clear m)
    )
  go_ret
  exact ⟨_, rfl, M.out⟩
end Go.Proofs.YtkomhngokcejbaaGreatDoor
namespace Go.Proofs.YtkomhngokcejbaaGreatDoor
set_option linter.unusedSimpArgs false
set_option linter.unusedVariables false
open Go.RowKit
attribute [local go_sem] cell?_mk frozen?_mk
--ONES exact Fld.one _

section
variable {w0 w : World} {L : List Ent} {x : Ent}
/-- What was made last comes first. -/
theorem Mem.front (M : Mem w0 w (L ++ [x])) : Mem w0 w (x :: L) := by
  have key : ∀ (i : Nat) (y : Ent), (x :: L)[i]? = some y → ∃ j, (L ++ [x])[j]? = some y ∧ ((i = 0 ∧ j = L.length) ∨ (i = j + 1 ∧ j < L.length)) := by
    intro i y h
    cases i with
    | zero => exact ⟨L.length, by simpa using h, .inl ⟨rfl, rfl⟩⟩
    | succ i =>
      have h1 : L[i]? = some y := by simpa using h
      have h2 := (List.getElem?_eq_some_iff.1 h1).1
      exact ⟨i, by rw [List.getElem?_append_left h2]; exact h1, .inr ⟨rfl, h2⟩⟩
  refine ⟨M.below, fun i y h => ?_, fun i j y z hij hy hz => ?_⟩
  · obtain ⟨j, h1, _⟩ := key i y h
    exact M.all j y h1
  · obtain ⟨a, ha, ca⟩ := key i y hy
    obtain ⟨b, hb, cb⟩ := key j z hz
    exact M.sep a b y z (by omega) ha hb
theorem Mem.tail (M : Mem w0 w (x :: L)) : Mem w0 w L :=
  ⟨M.below, fun i y h => M.all (i + 1) y (by simpa using h), fun i j y z hij hy hz => M.sep (i + 1) (j + 1) y z (by omega) (by simpa using hy) (by simpa using hz)⟩
end
theorem Sl.atF {w : World} {b off : Nat} {ks : List Int} (h : Sl w 1 (some ⟨b, off, none⟩) ks.length (flat oneI ks)) {i : Nat} {j : Int} (hi : ks[i]? = some j) : w.cell? ⟨b, off + i, none⟩ = some (.int .i64 j) := by
  have hlt := (List.getElem?_eq_some_iff.1 hi).1
  obtain ⟨b1, o1, hB, hr⟩ := h.2 (by omega)
  cases hB
  have R := range_at oneI_len hr hi
  simpa using R 0 _ rfl
theorem among_nat {r : Int} {n : Nat} (h0 : 0 ≤ r) (h1 : r < (n : Int)) : ∃ q : Nat, r = (q : Int) ∧ q < n := by
  obtain ⟨q, hq⟩ := Int.eq_ofNat_of_zero_le h0
  exact ⟨q, hq, by omega⟩
theorem among_at {w : World} {B : Option Addr} {ks : List Int} (h : Sl w 1 B ks.length (flat oneI ks)) {i : Nat} (hi : i < ks.length) : ∃ b off y, B = some ⟨b, off, none⟩ ∧ w.cell? ⟨b, off + i, none⟩ = some (.int .i64 y) ∧ y ∈ ks := by
  obtain ⟨b, off, rfl, _⟩ := h.2 (by omega)
  exact ⟨b, off, _, rfl, h.atF (List.getElem?_eq_getElem hi), List.getElem_mem hi⟩
theorem sl_blkI {w : World} {g : Nat} {t : TypeId} {ys : List Int} (h : Blk w g t (flat oneI ys).toArray) : Sl w 1 (some ⟨g, 0, none⟩) ys.length (flat oneI ys) := by
  refine ⟨by rw [flat_len oneI_len, Nat.mul_one], fun _ => ⟨g, 0, rfl, fun j v hj => ?_⟩⟩
  rw [Nat.zero_add]
  exact h.cellv (by rw [List.getElem?_toArray]; exact hj)
theorem set_at {α : Type} {L : List α} {i : Nat} {x : α} (h : L[i]? = some x) (y : α) : (L.set i y)[i]? = some y := List.getElem?_set_self (List.getElem?_eq_some_iff.1 h).1
def Fld.withKind (F : Fld) (k : Nat) (x : Int) : Fld := { F with kinds := F.kinds.set k x }
theorem Fld.setKind {F : Fld} (h : F.len) {k : Nat} (hk : k < 100) (x : Int) : F.cells.setIfInBounds (2 + k) (.int .u8 x) = (F.withKind k x).cells := by
  have hl := h.kl
  rw [show 2 + k = k + 1 + 1 by omega]
  simp only [Fld.cells, Fld.list, Fld.withKind, List.setIfInBounds_toArray, List.set_cons_succ]
  rw [List.set_append, if_pos (by simp; omega), List.map_set]
theorem Fld.withKind_ok {F : Fld} (h : F.ok) (k : Nat) (x : Int) (hx : 0 ≤ x ∧ x ≤ 255) : (F.withKind k x).ok :=
  { toLen := ⟨by simp [Fld.withKind, h.kl], h.sl⟩, w0 := h.w0, w1 := h.w1, h0 := h.h0, h1 := h.h1, s0 := h.s0,
    k0 := fun y hy => by
      rcases List.mem_or_eq_of_mem_set hy with h1 | h1
      · exact h.k0 y h1
      · rw [h1]; exact hx }
theorem Fld.withSeed_okF {F : Fld} (h : F.ok) (k : Nat) (x : Int) (hx : -32768 ≤ x ∧ x ≤ 32767) : (F.withSeed k x).ok :=
  { toLen := Fld.withSeed_len h.toLen k x, w0 := h.w0, w1 := h.w1, h0 := h.h0, h1 := h.h1, k0 := h.k0,
    s0 := fun y hy => by
      rcases List.mem_or_eq_of_mem_set hy with h1 | h1
      · exact h.s0 y h1
      · rw [h1]; exact hx }
theorem Fld.kind_wk {F : Fld} (h : F.len) {k : Nat} (hk : k < 100) (x : Int) (j : Nat) : (F.withKind k x).kind j = if j = k then x else F.kind j := by
  have hl := h.kl
  show gi (F.kinds.set k x) j = _
  by_cases hjk : j = k
  · rw [if_pos hjk, hjk, gi_set_self (by omega)]
  · rw [if_neg hjk, gi_set_ne (fun e => hjk e.symm)]
    rfl
theorem Fld.seed_ws {F : Fld} (h : F.len) {k : Nat} (hk : k < 100) (x : Int) (j : Nat) : (F.withSeed k x).seed j = if j = k then x else F.seed j := by
  have hl := h.sl
  show gi (F.seeds.set k x) j = _
  by_cases hjk : j = k
  · rw [if_pos hjk, hjk, gi_set_self (by omega)]
  · rw [if_neg hjk, gi_set_ne (fun e => hjk e.symm)]
    rfl
theorem Fld.okAt_iff {F : Fld} {k : Nat} : F.okAt k = true ↔ (0 ≤ F.kind k ∧ F.kind k ≤ 3 ∧ 0 ≤ F.seed k ∧ F.seed k ≤ 1000 ∧ (F.kind k ≠ 0 → F.seed k = 0) ∧ (F.has k = false → F.kind k = 0 ∧ F.seed k = 0)) := by
  unfold Fld.okAt
  exact decide_eq_true_iff
/-- A field under way: the cells from k on are bare soil. -/
structure FDr (F : Fld) (k : Nat) : Prop where
  ok : F.ok
  w : 1 ≤ F.wide ∧ F.wide ≤ 5
  h : 1 ≤ F.high ∧ F.high ≤ 5
  at_ : ∀ j, j < 100 → F.okAt j = true
  s : ∀ j, F.seed j ≤ 11
  z : ∀ j, k ≤ j → F.kind j = 0 ∧ F.seed j = 0
theorem cell_of {F : Fld} {x y : Int} (hx : 0 ≤ x ∧ x < F.wide) (hy : 0 ≤ y ∧ y < F.high) (hw : F.wide ≤ 10) (hh : F.high ≤ 10) : ∃ q : Nat, x + 10 * y = (q : Int) ∧ q < 100 ∧ F.has q = true := by
  obtain ⟨q, hq⟩ := Int.eq_ofNat_of_zero_le (show 0 ≤ x + 10 * y by omega)
  exact ⟨q, hq, by omega, Fld.has_iff.2 ⟨by omega, by omega, by omega⟩⟩
theorem zs_gi (n j : Nat) : gi (zs n) j = 0 := by
  unfold gi zs
  rw [List.getD_eq_getElem?_getD]
  by_cases h : j < n
  · simp [h]
  · rw [List.getElem?_eq_none (by simp; omega)]
    rfl
theorem FDr.start {a b : Int} (ha : 0 ≤ a ∧ a < 5) (hb : 0 ≤ b ∧ b < 5) : FDr ⟨1 + a, 1 + b, zs 100, zs 100⟩ 0 := by
  have hz : ∀ y ∈ zs 100, y = 0 := fun y hy => by
    unfold zs at hy
    exact (List.mem_replicate.1 hy).2
  refine ⟨⟨⟨zs_len 100, zs_len 100⟩, ?_, ?_, ?_, ?_, fun y hy => by rw [hz y hy]; decide, fun y hy => by rw [hz y hy]; decide⟩, ⟨?_, ?_⟩, ⟨?_, ?_⟩, fun j _ => Fld.okAt_iff.2 ?_, fun j => ?_, fun j _ => ⟨zs_gi 100 j, zs_gi 100 j⟩⟩
  iterate 8 (first | (show _ ≤ 1 + _; omega) | (show 1 + _ ≤ _; omega))
  · rw [show Fld.kind ⟨1 + a, 1 + b, zs 100, zs 100⟩ j = 0 from zs_gi 100 j, show Fld.seed ⟨1 + a, 1 + b, zs 100, zs 100⟩ j = 0 from zs_gi 100 j]
    simp
  · rw [show Fld.seed ⟨1 + a, 1 + b, zs 100, zs 100⟩ j = 0 from zs_gi 100 j]
    decide
theorem FDr.valid {F : Fld} {k : Nat} (h : FDr F k) : F.valid = true :=
  Fld.valid_of (inB_iff.2 ⟨by have := h.w; omega, by have := h.w; omega⟩) (inB_iff.2 ⟨by have := h.h; omega, by have := h.h; omega⟩) h.at_
theorem FDr.skip {F : Fld} {k : Nat} (h : FDr F k) : FDr F (k + 1) := ⟨h.ok, h.w, h.h, h.at_, h.s, fun j hj => h.z j (by omega)⟩
theorem FDr.kind {F : Fld} {k : Nat} (h : FDr F k) (hk : k < 100) (hh : F.has k = true) {x : Int} (hx : 1 ≤ x ∧ x ≤ 3) : FDr (F.withKind k x) (k + 1) := by
  refine ⟨Fld.withKind_ok h.ok k x (by omega), h.w, h.h, fun j hj => ?_, h.s, fun j hj => ?_⟩
  · have h1 := Fld.okAt_iff.1 (h.at_ j hj)
    refine Fld.okAt_iff.2 ?_
    rw [Fld.kind_wk h.ok.toLen hk, show (F.withKind k x).seed j = F.seed j from rfl, show (F.withKind k x).has j = F.has j from rfl]
    by_cases hjk : j = k
    · subst hjk
      rw [if_pos rfl, (h.z j (Nat.le_refl _)).2, hh]
      exact ⟨by omega, by omega, by omega, by omega, fun _ => rfl, fun e => by cases e⟩
    · rw [if_neg hjk]
      exact h1
  · rw [Fld.kind_wk h.ok.toLen hk, if_neg (by omega)]
    exact h.z j (by omega)
theorem FDr.seed {F : Fld} {k : Nat} (h : FDr F k) (hk : k < 100) (hh : F.has k = true) {x : Int} (hx : 0 ≤ x ∧ x < 12) : FDr (F.withSeed k x) (k + 1) := by
  refine ⟨Fld.withSeed_okF h.ok k x (by omega), h.w, h.h, fun j hj => ?_, fun j => ?_, fun j hj => ?_⟩
  · have h1 := Fld.okAt_iff.1 (h.at_ j hj)
    refine Fld.okAt_iff.2 ?_
    rw [Fld.seed_ws h.ok.toLen hk, show (F.withSeed k x).kind j = F.kind j from rfl, show (F.withSeed k x).has j = F.has j from rfl]
    by_cases hjk : j = k
    · subst hjk
      rw [if_pos rfl, (h.z j (Nat.le_refl _)).1, hh]
      exact ⟨by omega, by omega, by omega, by omega, fun e => absurd rfl e, fun e => by cases e⟩
    · rw [if_neg hjk]
      exact h1
  · rw [Fld.seed_ws h.ok.toLen hk]
    split
    · omega
    · exact h.s j
  · rw [Fld.seed_ws h.ok.toLen hk, if_neg (by omega)]
    exact h.z j (by omega)
set_option maxRecDepth 100000 in
set_option maxHeartbeats 2000000 in
theorem one_any {w0 w : World} {L : List Ent} (i : Nat) (M0 : Mem w0 w L) (g : Nat) (A : Option Addr) (c : Nat) (bs : List Int) (hb : Bytes bs) (k : Nat) (hk : k ≤ 1000000000) (sd : Int) (hL : L[i]? = some (.blk g 176 (srcCells A bs.length c k sd))) (hs : Sl w0 1 A bs.length (flat oneB bs)) (n : Int) (hn : n ≤ 200) :
    Calls Tryz.prog 131 #[.pointer (some ⟨g, 0, none⟩), .int .i64 n] w fun e w' => ∃ b, e = .returned (.bool b) ∧ Drew w0 w' L i g A bs.length c k := by
  have M := Lib.hid M0
  have HS := Lib.hid hs
  have HL := Lib.hid hL
  have HB := Lib.hid hb
  have HSET := Lib.hid (fun (e : Ent) => set_at hL e)
  clear M0 hs hL hb
  go_enter Tryz.func131, Tryz.ntmps131
  go_wp2_with (first
    | (go_at_call 59; go_must (refine (pick_any i M.out g A c bs HB.out k (by omega) sd HL.out (M.out.sl HS.out) n hn).mono ?_); rintro e w_ ⟨r, rfl, hr0, hr1, k1, sd1, hk1, m⟩; have M := Lib.hid m; clear m)
    )
  all_goals
    go_ret
    exact ⟨_, rfl, k1, sd1, hk1, M.out⟩
set_option maxRecDepth 100000 in
set_option maxHeartbeats 2000000 in
theorem among_any {w0 w : World} {L : List Ent} (i : Nat) (M0 : Mem w0 w L) (g : Nat) (A : Option Addr) (c : Nat) (bs : List Int) (hb : Bytes bs) (k : Nat) (hk : k ≤ 1000000000) (sd : Int) (hL : L[i]? = some (.blk g 176 (srcCells A bs.length c k sd))) (hs : Sl w0 1 A bs.length (flat oneB bs)) (B : Option Addr) (nb : Nat) (ys : List Int) (h1 : 1 ≤ ys.length) (h2 : ys.length ≤ 200) (hR : ∀ (x : Ent) (w1 : World), Mem w0 w1 (L.set i x) → Sl w1 1 B ys.length (flat oneI ys)) :
    Calls Tryz.prog 92 #[.pointer (some ⟨g, 0, none⟩), .slice B ys.length nb] w fun e w' => ∃ y, e = .returned (.int .i64 y) ∧ y ∈ ys ∧ Drew w0 w' L i g A bs.length c k := by
  have M := Lib.hid M0
  have HS := Lib.hid hs
  have HL := Lib.hid hL
  have HB := Lib.hid hb
  have HSET := Lib.hid (fun (e : Ent) => set_at hL e)
  clear M0 hs hL hb
  have HR := Lib.hid hR
  have hmx : max (1 : Int) (ys.length : Int) = (ys.length : Int) := by omega
  clear hR
  go_enter Tryz.func92, Tryz.ntmps92
  go_wp2_with (first
    | (go_at_call 59; go_must (refine (pick_any i M.out g A c bs HB.out k (by omega) sd HL.out (M.out.sl HS.out) (ys.length : Int) (by omega)).mono ?_); rintro e w_ ⟨r, rfl, hr0, hr1, k1, sd1, hk1, m⟩; have M := Lib.hid m; clear m; rw [hmx] at hr1; obtain ⟨q, hq, hql⟩ := among_nat hr0 hr1; subst hq; obtain ⟨ob, ooff, y, rfl, x1, hy⟩ := among_at (HR.out _ _ M.out) hql; have YM := Lib.hid hy; clear hy)
    )
  go_ret
  exact ⟨_, rfl, YM.out, k1, sd1, hk1, M.out⟩
theorem szZ : Tryz.zeroCells29.size = 202 := by kernel_rfl
theorem drawn0 (x : Int) : (Tryz.zeroCells29).setIfInBounds 0 (.int .i8 x) = Fld.cells ⟨x, 0, zs 100, zs 100⟩ := by
  rw [zeroFld, Fld.set0]
  rfl
theorem drawn1 (x y : Int) : (Fld.cells ⟨x, 0, zs 100, zs 100⟩).setIfInBounds 1 (.int .i8 y) = Fld.cells ⟨x, y, zs 100, zs 100⟩ := by
  rw [Fld.set1]
set_option maxRecDepth 100000 in
set_option maxHeartbeats 8000000 in
theorem l01Drawn_any {w0 w : World} {L : List Ent} (i : Nat) (M0 : Mem w0 w L) (g : Nat) (A : Option Addr) (c : Nat) (bs : List Int) (hb : Bytes bs) (k : Nat) (hk : k ≤ 1000000) (sd : Int) (hL : L[i]? = some (.blk g 176 (srcCells A bs.length c k sd))) (hs : Sl w0 1 A bs.length (flat oneB bs)) :
    Calls Tryz.prog 132 #[.pointer (some ⟨g, 0, none⟩)] w fun e w' => ∃ F : Fld, e = .returned (.agg F.cells) ∧ FDr F 100 ∧ ∃ k' sd', k' ≤ k + 1000 ∧ Mem w0 w' (L.set i (.blk g 176 (srcCells A bs.length c k' sd'))) := by
  have M := Lib.hid M0
  have HS := Lib.hid hs
  have HL := Lib.hid hL
  have HB := Lib.hid hb
  have HSET := Lib.hid (fun (e : Ent) => set_at hL e)
  clear M0 hs hL hb
  go_enter Tryz.func132, Tryz.ntmps132
  go_wp2_with (first
    | ((with_reducible refine gate_dst (N := 2) rfl ?_); go_must (refine M.out.ev_new rfl (by first | (go_simp; done) | (go_simp; rfl)) ?_); intro g2 w2 m; have M := Lib.hid m.front; clear m)
    | (go_at_call 59; go_must (first | (refine Calls.mono (calls_args (by with_reducible rfl) (pick_any (i + 1) M.out g A c bs HB.out _ (by omega) _ HL.out (M.out.sl HS.out) 5 (by first | decide | omega))) ?_; rintro e w_ ⟨a, rfl, h0a, h1a, ka, sda, hka, m⟩; simp only [List.set_cons_succ, List.set_cons_zero, List.set_set] at m; have M := Lib.hid m; clear m; have ea : IntKind.i8.wrap (1 + a) = 1 + a := IntWalk.i8_in _ (by omega); have eb : IntKind.i64.wrap (1 + a) = 1 + a := IntWalk.i64_in _ (by omega)) | (refine Calls.mono (calls_args (by with_reducible rfl) (pick_any (i + 2) M.out g A c bs HB.out _ (by omega) _ (HSET.out _) (M.out.sl HS.out) 5 (by first | decide | omega))) ?_; rintro e w_ ⟨b, rfl, h0b, h1b, kb, sdb, hkb, m⟩; simp only [List.set_cons_succ, List.set_cons_zero, List.set_set] at m; have M := Lib.hid m; clear m; have ec : IntKind.i8.wrap (1 + b) = 1 + b := IntWalk.i8_in _ (by omega); have ed : IntKind.i64.wrap (1 + b) = 1 + b := IntWalk.i64_in _ (by omega))))
    | ((with_reducible refine gate_dst (N := 3) rfl ?_); go_must (refine M.out.ev_new rfl (by first | (go_simp; done) | (go_simp; rfl)) ?_); intro g3 w3 m; have M := Lib.hid m.front; clear m)
    | ((with_reducible refine gate_store (x := .tmp 3) rfl ?_); go_must (refine M.out.ev_stw 0 _ _ _ rfl rfl rfl rfl _ rfl (by rfl) sz29 (by rw [drawn0]; exact Fld.one _) rfl ?_); intro w3n m; rw [List.set_cons_zero, drawn0] at m; have M := Lib.hid m; clear m)
    | ((with_reducible refine gate_store (x := .tmp 14) rfl ?_); go_must (refine M.out.ev_put 0 _ _ _ rfl rfl rfl rfl (.int .i8 (1 + b)) rfl (Fld.lt1 _) sz24 rfl rfl ?_); intro wn m; simp only [List.set_cons_zero, drawn1] at m; have M := Lib.hid m; clear m)
    )
  go_loopw [4] (fun v wr => ∃ (n : Nat) (F : Fld) (k' : Nat) (sd' : Int), n ≤ 100 ∧ v = .int .i64 n ∧ FDr F n ∧ k' ≤ k + 4 + 4 * n ∧ Mem w0 wr (.blk g3 29 F.cells :: .blk g2 29 Tryz.zeroCells29 :: L.set i (.blk g 176 (srcCells A bs.length c k' sd'))))
    (fun v _ => 100 - (intOf v).toNat)
  case atStart => exact ⟨0, ⟨1 + a, 1 + b, zs 100, zs 100⟩, kb, sdb, by omega, rfl, FDr.start ⟨h0a, by omega⟩ ⟨h0b, by omega⟩, by omega, M.out⟩
  case round =>
    clear M ea eb ec ed
    obtain ⟨n, F, k', sd', hn, rfl, hF, hk', m⟩ := hrel
    have M := Lib.hid m
    have FD := Lib.hid hF
    have S1 := Lib.hid (Fld.size hF.ok.toLen)
    clear m hF
    by_cases hlt : n < 100
    · have i0 : (0 : Int) ≤ (n : Int) := by omega
      have i1 : (n : Int) < 100 := by omega
      have SZ1 := Lib.hid (show 2 + n < F.cells.size by rw [S1.out]; omega)
      have SZ2 := Lib.hid (show 102 + n < F.cells.size by rw [S1.out]; omega)
      cases hh : F.has n
      · have HH := Lib.hid hh
        clear hh
        go_wp2_with (first
          | (go_at_call 71; go_must (refine (l01Is_any g3 F FD.out.ok (n : Int) _ (M.out.blk 0 rfl)).mono ?_); rintro e w_ ⟨rfl, rfl⟩; rw [HH.out])
          )
        exact ⟨⟨n + 1, F, k', sd', by omega, by go_num, FD.out.skip, by omega, M.out⟩, by simp [intOf]; try omega⟩
      · have HH := Lib.hid hh
        have K1 := Lib.hid (fun x => Fld.setKind FD.out.ok.toLen hlt x)
        have K2 := Lib.hid (fun x => Fld.setSeed FD.out.ok.toLen n x)
        have KC := Lib.hid (Fld.cellK FD.out.ok.toLen hlt)
        have KS := Lib.hid (Fld.cellS FD.out.ok.toLen hlt)
        clear hh
        go_wp2_with (first
          | (go_at_call 71; go_must (refine (l01Is_any g3 F FD.out.ok (n : Int) _ (M.out.blk 0 rfl)).mono ?_); rintro e w_ ⟨rfl, rfl⟩; rw [HH.out])
          | (go_at_call 131; go_must (refine (one_any (i + 2) M.out g A c bs HB.out _ (by omega) _ (HSET.out _) HS.out 4 (by decide)).mono ?_); rintro e w_ ⟨bb, rfl, k5, sd5, hk5, m⟩; simp only [List.set_cons_succ, List.set_cons_zero, List.set_set] at m; have M := Lib.hid m; clear m; cases bb)
          | (go_at_call 59; go_must (first | (refine Calls.mono (calls_args (by with_reducible rfl) (pick_any (i + 2) M.out g A c bs HB.out _ (by omega) _ (HSET.out _) (M.out.sl HS.out) 3 (by first | decide | omega))) ?_; rintro e w_ ⟨q, rfl, h0q, h1q, kq, sdq, hkq, m⟩; simp only [List.set_cons_succ, List.set_cons_zero, List.set_set] at m; have M := Lib.hid m; clear m; have ea : IntKind.u8.wrap (1 + q) = 1 + q := IntWalk.u8_in _ (by omega); have eb : IntKind.i64.wrap (1 + q) = 1 + q := IntWalk.i64_in _ (by omega)) | (refine Calls.mono (calls_args (by with_reducible rfl) (pick_any (i + 2) M.out g A c bs HB.out _ (by omega) _ (HSET.out _) (M.out.sl HS.out) 12 (by first | decide | omega))) ?_; rintro e w_ ⟨d, rfl, h0d, h1d, kd, sdd, hkd, m⟩; simp only [List.set_cons_succ, List.set_cons_zero, List.set_set] at m; have M := Lib.hid m; clear m; have ec : IntKind.i16.wrap d = d := IntWalk.i16_in _ (by omega))))
          | ((with_reducible refine gate_store (x := .tmp 30) rfl ?_); go_must (refine M.out.ev_put 0 _ _ _ rfl rfl rfl rfl (.int .u8 (1 + q)) rfl SZ1.out sz5 rfl rfl ?_); intro wn m; simp only [List.set_cons_zero, K1.out] at m; have M := Lib.hid m; clear m)
          | ((with_reducible refine gate_store (x := .tmp 36) rfl ?_); go_must (refine M.out.ev_put 0 _ _ _ rfl rfl rfl rfl (.int .i16 d) rfl SZ2.out sz26 rfl rfl ?_); intro wn m; simp only [List.set_cons_zero, K2.out] at m; have M := Lib.hid m; clear m)
          )
        · exact ⟨⟨n + 1, _, _, _, by omega, by go_num, FD.out.seed hlt HH.out ⟨h0d, by omega⟩, by omega, M.out⟩, by simp [intOf]; try omega⟩
        · exact ⟨⟨n + 1, _, _, _, by omega, by go_num, FD.out.kind hlt HH.out ⟨by omega, by omega⟩, by omega, M.out⟩, by simp [intOf]; try omega⟩
    · obtain rfl : n = 100 := by omega
      have O1 := Lib.hid (Fld.one F)
      go_wp2_with (first
        | ((with_reducible refine gate_dst (N := 37) rfl ?_); go_must (refine M.out.ev_ldw 0 _ _ rfl rfl rfl Tryz.underlying29 rfl (by rw [S1.out]; exact sz29) rfl ?_))
        | ((with_reducible refine gate_store (x := .tmp 2) rfl ?_); go_must (refine M.out.ev_stw 1 _ _ _ rfl rfl rfl rfl _ rfl (by rw [S1.out]; exact szZ) (by rw [S1.out]; exact sz29) O1.out rfl ?_); intro wn m; simp only [List.set_cons_zero, List.set_cons_succ] at m; have M := Lib.hid m; clear m)
        )
      refine ret_cell rfl (M.out.blk 1 rfl) Tryz.underlying29 rfl (by rw [S1.out]; exact sz29) rfl ⟨F, rfl, FD.out, k', sd', by omega, M.out.tail.tail⟩
end Go.Proofs.YtkomhngokcejbaaGreatDoor
namespace Go.Proofs.YtkomhngokcejbaaGreatDoor
set_option linter.unusedSimpArgs false
set_option linter.unusedVariables false
open Go.RowKit

/-- The same field but for its seeds. -/
structure Near (F G : Fld) : Prop where
  w : G.wide = F.wide
  h : G.high = F.high
  k : G.kinds = F.kinds
theorem Near.refl (F : Fld) : Near F F := ⟨rfl, rfl, rfl⟩
theorem Near.trans {F G H : Fld} (a : Near F G) (b : Near G H) : Near F H := ⟨b.w.trans a.w, b.h.trans a.h, b.k.trans a.k⟩
theorem Near.has {F G : Fld} (n : Near F G) (c : Int) : G.has c = F.has c := by unfold Fld.has; rw [n.w, n.h]
theorem Near.kind {F G : Fld} (n : Near F G) (k : Nat) : G.kind k = F.kind k := by unfold Fld.kind; rw [n.k]
theorem Near.seed {F G : Fld} (n : Near F G) (k : Nat) (x : Int) : Near F (G.withSeed k x) := ⟨n.w, n.h, n.k⟩
end Go.Proofs.YtkomhngokcejbaaGreatDoor
namespace Go.Proofs.YtkomhngokcejbaaGreatDoor
set_option linter.unusedSimpArgs false
set_option linter.unusedVariables false
open Go.RowKit

theorem Near.fine {F G : Fld} (n : Near F G) (x : Flock) : x.fine G = x.fine F := by unfold Flock.fine Fld.tree; rw [n.has, n.kind]
theorem Near.fears {F G : Fld} (n : Near F G) (fs : List Int) : fearsOk G fs = fearsOk F fs := by
  unfold fearsOk
  refine congrArg (List.all _) (funext fun k => ?_)
  unfold fearAtOk
  rw [n.has]
theorem Near.birds {F G : Fld} (n : Near F G) (hv : F.valid = true) (hg : G.valid = true) (fs : List Int) (xs : List Flock) : birdsOk G fs xs = birdsOk F fs xs := by
  unfold birdsOk flocksOk
  rw [hv, hg, n.fears, show (xs.all fun x => x.fine G) = xs.all fun x => x.fine F from congrArg (List.all xs) (funext fun x => n.fine x)]
section
variable {fs : List Int} {xs : List Flock}
end
/-! ### A flock, and a day -/
def fedS (f : Nat → Int) : Nat → Int
  | 0 => 0
  | i + 1 => fedS f i + f i
def hgr (xs : List Flock) (i : Nat) : Int := match xs[i]? with | some x => x.hunger | none => 0
/-! ### The whole -/
theorem birds_fine {F : Fld} {fs : List Int} {xs : List Flock} (hv : F.valid = true) (hf : fearsOk F fs = true) (hx : ∀ x ∈ xs, x.fine F = true) (hl : xs.length ≤ 12) : birdsOk F fs xs = true := by
  rw [birdsOk, hv, hf, flocksOk, decide_eq_true hl, show (xs.all fun x => x.fine F) = true from List.all_eq_true.2 hx]
  rfl
/-- All birds. -/
def birdsTo (xs : List Flock) : Nat → Int
  | 0 => 0
  | i + 1 => birdsTo xs i + (match xs[i]? with | some x => x.birds | none => 0)
end Go.Proofs.YtkomhngokcejbaaGreatDoor
namespace Go.Proofs.YtkomhngokcejbaaGreatDoor
set_option linter.unusedSimpArgs false
set_option linter.unusedVariables false
open Go.RowKit
theorem run_eqArr {P : Program} (d : Nat) (t e : TypeId) (n : Nat) (k : IntKind) (l : List Int) (hl : l.length = n) (hu : P.underlying t = some (.array n e)) (he : P.underlying e = some (.int k)) (ha : ∀ w, Sem.run P (isAgg e) w = .ok false w) (hz : ∀ w, Sem.run P (sizeOf e) w = .ok 1 w) (w : World) :
    (Op.equalIn (d + 2) t (.agg (ints k l)) (.agg (ints k l))).run P w = .ok true w := by
  have key : ∀ m s, s + m ≤ n → Sem.run P (forIn (List.range' s m) ((none, ()) : Option Bool × Unit) fun i _ => do
      let a ← part e (ints k l) (i * 1)
      let b ← part e (ints k l) (i * 1)
      let c ← Op.equalIn (d + 1) e a b
      if (!c) = true then pure (ForInStep.done (some false, ())) else pure (ForInStep.yield (none, ()))) w = .ok (none, ()) w := by
    intro m
    induction m with
    | zero => intro s _; simp
    | succ m ih =>
      intro s hs
      have x0 : (ints k l)[s * 1]? = some (.int k (gi l s)) := by rw [Nat.mul_one]; exact ints_at (by omega)
      rw [List.range'_succ, List.forIn_cons]
      have hp : Sem.run P (part e (ints k l) (s * 1)) w = .ok (.int k (gi l s)) w := by
        unfold part
        simp only [Sem.run_bind, ha, Result.andThen_ok, Bool.false_eq_true, if_false, x0, Sem.run_pure]
      simp only [Sem.run_bind, hp, Result.andThen_ok, run_equalIn_int _ d e k k _ _ he, beq_self_eq_true, Bool.not_true, Bool.false_eq_true, if_false, Sem.run_pure]
      exact ih (s + 1) (by omega)
  rw [Op.equalIn]
  simp only [Sem.run_bind, run_underlying hu, Result.andThen_ok]
  simp only [Std.Legacy.Range.forIn_eq_forIn_range', Std.Legacy.Range.size, Nat.sub_zero, Nat.add_sub_cancel, Nat.div_one, hz, Result.andThen_ok]
  rw [key n 0 (by omega)]
  rfl
end Go.Proofs.YtkomhngokcejbaaGreatDoor
namespace Go.Proofs.YtkomhngokcejbaaGreatDoor
set_option linter.unusedSimpArgs false
set_option linter.unusedVariables false
open Go.RowKit
attribute [local go_sem] cell?_mk frozen?_mk
--ONES exact Visit.one _

end Go.Proofs.YtkomhngokcejbaaGreatDoor
namespace Go.Proofs.YtkomhngokcejbaaGreatDoor
set_option linter.unusedSimpArgs false
set_option linter.unusedVariables false
open Go.RowKit
attribute [local go_sem] cell?_mk frozen?_mk

end Go.Proofs.YtkomhngokcejbaaGreatDoor
namespace Go.Proofs.YtkomhngokcejbaaGreatDoor
set_option linter.unusedSimpArgs false
set_option linter.unusedVariables false
open Go.RowKit
attribute [local go_sem] cell?_mk frozen?_mk
--ONES exact Fld.one _ | exact Flock.one _ | exact ints_one _ _

set_option maxRecDepth 100000 in
set_option maxHeartbeats 1000000 in
theorem A2Is_any (F : Fld) (hF : F.ok) (c : Int) (w : World) :
    Calls Tryz.prog 23 #[.agg F.cells, .int .i64 c] w fun e w' => e = .returned (.bool (F.has c)) ∧ Mem w w' [] := by
  have M := Lib.hid (Mem.start w)
  have S1 := Lib.hid (Fld.size hF.toLen)
  go_enter Tryz.func23, Tryz.ntmps23
  go_wp2_with (first
    | ((with_reducible refine gate_dst (N := 2) rfl ?_); go_must (refine M.out.ev_new rfl (by first | (go_simp; done) | (go_simp; rfl)) ?_); intro g2 w2 m; simp only [List.cons_append, List.nil_append] at m; have M := Lib.hid m; clear m)
    | (go_at_call 71; go_must (refine (l01Is_any g2 F hF c _ (M.out.blk 0 rfl)).mono ?_); rintro e w_ ⟨rfl, rfl⟩)
    )
  go_ret
  exact ⟨rfl, M.out.take 0⟩
end Go.Proofs.YtkomhngokcejbaaGreatDoor
