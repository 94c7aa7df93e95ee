/- Texts of a proof, laid together: Sets, Src, Mark64, RowI0, DrawF, Drawn3, Held, Held3. -/
import Derived.Test.YtoacnfofijikmaaGreatDoorZR05
import Derived.Test.YtoacnfofijikmaaGreatDoorZR03
import Derived.Laws.Bits64b
import Derived.Test.YtoacnfofijikmaaGreatDoorZR01
import Derived.Test.YtoacnfofijikmaaGreatDoorZR02
import Derived.OrdersHeld
namespace Go.Proofs.YtoacnfofijikmaaGreatDoor
set_option linter.unusedSimpArgs false
set_option linter.unusedVariables false
open Go.RowKit
attribute [local go_sem] cell?_mk frozen?_mk

structure Cs where
  lo : Nat
  hi : Nat
structure Cs.ok (c : Cs) : Prop where
  l : c.lo < 18446744073709551616
  h : c.hi < 18446744073709551616
def Cs.vals (c : Cs) : List Value := [.int .u64 c.lo, .int .u64 c.hi]
def Cs.cells (c : Cs) : Array Value := c.vals.toArray
theorem Cs.size (c : Cs) : c.cells.size = 2 := rfl
theorem Cs.one (c : Cs) : c.cells.all (·.oneCell') = true := by simp [Cs.cells, Cs.vals, Value.oneCell']
def Cs.z : Cs := ⟨0, 0⟩
theorem Cs.z_ok : Cs.z.ok := ⟨by decide, by decide⟩
def Cs.put (c : Cs) (n : Nat) : Cs := if n < 64 then ⟨c.lo ||| 2 ^ n, c.hi⟩ else ⟨c.lo, c.hi ||| 2 ^ (n - 64)⟩
def Cs.has (c : Cs) (n : Nat) : Bool := if n < 64 then c.lo.testBit n else c.hi.testBit (n - 64)
def setOf (ks : List Nat) : Cs := ks.foldl Cs.put Cs.z
theorem setOf_snoc (ks : List Nat) (k : Nat) : setOf (ks ++ [k]) = (setOf ks).put k := by simp [setOf]
theorem pow64 {n : Nat} (h : n < 64) : 2 ^ n < 18446744073709551616 := Nat.pow_lt_pow_right (a := 2) (by omega) h
theorem or64 {a b : Nat} (ha : a < 18446744073709551616) (hb : b < 18446744073709551616) : a ||| b < 18446744073709551616 := Nat.or_lt_two_pow (n := 64) ha hb
theorem Cs.put_ok {c : Cs} (h : c.ok) {n : Nat} (hn : n < 128) : (c.put n).ok := by
  unfold Cs.put
  split
  · rename_i h1; exact ⟨or64 h.l (pow64 h1), h.h⟩
  · exact ⟨h.l, or64 h.h (pow64 (by omega))⟩
theorem setOf_ok (ks : List Nat) (h : ∀ k ∈ ks, k < 128) : (setOf ks).ok := by
  have key : ∀ (ks : List Nat) (c : Cs), c.ok → (∀ k ∈ ks, k < 128) → (ks.foldl Cs.put c).ok := by
    intro ks
    induction ks with
    | nil => intro c hc _; exact hc
    | cons k r ih => intro c hc h; exact ih _ (Cs.put_ok hc (h k (by simp))) (fun j hj => h j (by simp [hj]))
  exact key ks _ Cs.z_ok h
theorem or_pow (a n : Nat) (ha : a < 18446744073709551616) (hn : n < 64) : bits .or .u64 (a : Int) (IntKind.u64.wrap (2 ^ n)) = ((a ||| 2 ^ n : Nat) : Int) := by
  have hp := pow64 hn
  have : IntKind.u64.wrap ((2 : Int) ^ n) = ((2 ^ n : Nat) : Int) := by
    rw [IntKind.wrap_u64]
    have : ((2 : Int) ^ n) = ((2 ^ n : Nat) : Int) := by simp
    rw [this]
    generalize 2 ^ n = m at hp ⊢
    omega
  rw [this, bits_or_u64_nat a _ ha hp]

set_option maxRecDepth 100000 in
set_option maxHeartbeats 1000000 in
theorem put_any {w0 w : World} {L : List Ent} (i : Nat) (M0 : Mem w0 w L) (b : Nat) {t : TypeId} (c : Cs) (hc : c.ok) (hL : L[i]? = some (.blk b t c.cells)) (n : Nat) (hn : n < 100) :
    Calls Tryz.prog 118 #[.pointer (some ⟨b, 0, none⟩), .int .i64 n] w fun e w' => e = .returned (.tuple #[]) ∧ Mem w0 w' (L.set i (.blk b t (c.put n).cells)) := by
  have M := Lib.hid M0
  have HL := Lib.hid hL
  have i0 : (0 : Int) ≤ (n : Int) := by omega
  have v0 : IntKind.i64.wrap 0 = 0 := by decide
  have v1 : IntKind.i64.wrap 1 = 1 := by decide
  clear M0 hL
  by_cases h : n < 64
  · have hq : (n : Int) / 64 = 0 := by omega
    have hr : (n : Int).tmod 64 = n := by rw [Int.tmod_eq_emod_of_nonneg i0]; omega
    have c0 := M.out.cell i HL.out (j := 0) (v := .int .u64 c.lo) rfl
    have hb := or_pow c.lo n hc.l h
    have HP := Lib.hid (show c.put n = ⟨c.lo ||| 2 ^ n, c.hi⟩ by rw [Cs.put, if_pos h])
    clear h
    go_enter Tryz.func118, Tryz.ntmps118
    go_still_tail 12, (by kernel_rfl)
    have M := Lib.hid M.out.drew
    go_wp2_with (first
      | ((with_reducible refine gate_store (x := .tmp 15) rfl ?_); go_must (refine M.out.ev_put i _ _ _ rfl rfl HL.out rfl (.int .u64 ((c.lo ||| 2 ^ n : Nat) : Int)) rfl (show 0 < c.cells.size by rw [Cs.size]; omega) sz42 rfl rfl ?_); intro wn m; have M := Lib.hid m; clear m)
      )
    refine bodyPost_end (results_none rfl _ _ _) rfl ?_
    exact ⟨rfl, by rw [HP.out]; exact M.out⟩
  · obtain ⟨j, hj⟩ : ∃ j, n = 64 + j := ⟨n - 64, by omega⟩
    have hq : (n : Int) / 64 = 1 := by omega
    have hr : (n : Int).tmod 64 = (j : Int) := by rw [Int.tmod_eq_emod_of_nonneg i0]; omega
    have j0 : (0 : Int) ≤ (j : Int) := by omega
    have hm : min j 64 = j := by omega
    have c0 := M.out.cell i HL.out (j := 1) (v := .int .u64 c.hi) rfl
    have hb := or_pow c.hi j hc.h (by omega)
    have HP := Lib.hid (show c.put n = ⟨c.lo, c.hi ||| 2 ^ j⟩ by rw [Cs.put, if_neg h, hj, Nat.add_sub_cancel_left])
    clear h hj
    go_enter Tryz.func118, Tryz.ntmps118
    go_still_tail 12, (by kernel_rfl)
    have M := Lib.hid M.out.drew
    go_wp2_with (first
      | ((with_reducible refine gate_store (x := .tmp 15) rfl ?_); go_must (refine M.out.ev_put i _ _ _ rfl rfl HL.out rfl (.int .u64 ((c.hi ||| 2 ^ j : Nat) : Int)) rfl (show 1 < c.cells.size by rw [Cs.size]; omega) sz42 rfl rfl ?_); intro wn m; have M := Lib.hid m; clear m)
      )
    refine bodyPost_end (results_none rfl _ _ _) rfl ?_
    exact ⟨rfl, by rw [HP.out]; exact M.out⟩
set_option maxRecDepth 100000 in
set_option maxHeartbeats 1000000 in
theorem l01Put_any {w0 w : World} {L : List Ent} (i : Nat) (M0 : Mem w0 w L) (b : Nat) {t : TypeId} (c : Cs) (hc : c.ok) (hL : L[i]? = some (.blk b t c.cells)) (n : Nat) (hn : n < 100) :
    Calls Tryz.prog 99 #[.pointer (some ⟨b, 0, none⟩), .int .i64 n] w fun e w' => e = .returned (.tuple #[]) ∧ Mem w0 w' (L.set i (.blk b t (c.put n).cells)) := by
  have M := Lib.hid M0
  have HL := Lib.hid hL
  have i0 : (0 : Int) ≤ (n : Int) := by omega
  have v0 : IntKind.i64.wrap 0 = 0 := by decide
  have v1 : IntKind.i64.wrap 1 = 1 := by decide
  clear M0 hL
  by_cases h : n < 64
  · have hq : (n : Int) / 64 = 0 := by omega
    have hr : (n : Int).tmod 64 = n := by rw [Int.tmod_eq_emod_of_nonneg i0]; omega
    have hu : IntKind.u64.wrap (n : Int) = n := IntWalk.u64_in _ (by omega)
    have hm : min n 64 = n := by omega
    have c0 := M.out.cell i HL.out (j := 0) (v := .int .u64 c.lo) rfl
    have hb := or_pow c.lo n hc.l h
    have HP := Lib.hid (show c.put n = ⟨c.lo ||| 2 ^ n, c.hi⟩ by rw [Cs.put, if_pos h])
    clear h
    go_enter Tryz.func99, Tryz.ntmps99
    go_still_tail 13, (by kernel_rfl)
    have M := Lib.hid M.out.drew
    go_wp2_with (first
      | ((with_reducible refine gate_store (x := .tmp 16) rfl ?_); go_must (refine M.out.ev_put i _ _ _ rfl rfl HL.out rfl (.int .u64 ((c.lo ||| 2 ^ n : Nat) : Int)) rfl (show 0 < c.cells.size by rw [Cs.size]; omega) sz42 rfl rfl ?_); intro wn m; have M := Lib.hid m; clear m)
      )
    refine bodyPost_end (results_none rfl _ _ _) rfl ?_
    exact ⟨rfl, by rw [HP.out]; exact M.out⟩
  · obtain ⟨j, hj⟩ : ∃ j, n = 64 + j := ⟨n - 64, by omega⟩
    have hq : (n : Int) / 64 = 1 := by omega
    have hr : (n : Int).tmod 64 = (j : Int) := by rw [Int.tmod_eq_emod_of_nonneg i0]; omega
    have j0 : (0 : Int) ≤ (j : Int) := by omega
    have hm : min j 64 = j := by omega
    have hu : IntKind.u64.wrap (j : Int) = j := IntWalk.u64_in _ (by omega)
    have c0 := M.out.cell i HL.out (j := 1) (v := .int .u64 c.hi) rfl
    have hb := or_pow c.hi j hc.h (by omega)
    have HP := Lib.hid (show c.put n = ⟨c.lo, c.hi ||| 2 ^ j⟩ by rw [Cs.put, if_neg h, hj, Nat.add_sub_cancel_left])
    clear h hj
    go_enter Tryz.func99, Tryz.ntmps99
    go_still_tail 13, (by kernel_rfl)
    have M := Lib.hid M.out.drew
    go_wp2_with (first
      | ((with_reducible refine gate_store (x := .tmp 16) rfl ?_); go_must (refine M.out.ev_put i _ _ _ rfl rfl HL.out rfl (.int .u64 ((c.hi ||| 2 ^ j : Nat) : Int)) rfl (show 1 < c.cells.size by rw [Cs.size]; omega) sz42 rfl rfl ?_); intro wn m; have M := Lib.hid m; clear m)
      )
    refine bodyPost_end (results_none rfl _ _ _) rfl ?_
    exact ⟨rfl, by rw [HP.out]; exact M.out⟩
end Go.Proofs.YtoacnfofijikmaaGreatDoor
namespace Go.Proofs.YtoacnfofijikmaaGreatDoor
set_option linter.unusedSimpArgs false
set_option linter.unusedVariables false
open Go.RowKit
attribute [local go_sem] cell?_mk frozen?_mk

def oneB (x : Int) : List Value := [.int .u8 x]
theorem oneB_len (x : Int) : (oneB x).length = 1 := rfl
/-- What a source holds behind some draws. -/
def srcCells (A : Option Addr) (n c k : Nat) (sd : Int) : Array Value := #[.slice A n c, .int .i64 k, .int .u64 sd]
structure Bytes (bs : List Int) : Prop where
  byte : ∀ b ∈ bs, 0 ≤ b ∧ b ≤ 255
  len : bs.length ≤ 4096
theorem u64_nat (x : Int) : ∃ s : Nat, s < 18446744073709551616 ∧ IntKind.u64.wrap x = (s : Int) := by
  have h : IntKind.u64.wrap x = x % 18446744073709551616 := by
    unfold IntKind.wrap
    simp [IntKind.signed, IntKind.bits]
  exact ⟨(x % 18446744073709551616).toNat, by omega, by omega⟩
theorem seed_nat {w0 w : World} {L : List Ent} {i g : Nat} {t : TypeId} {cs : Array Value} {z : Int} (M : Mem w0 w (L.set i (.blk g t (cs.setIfInBounds 2 (.int .u64 (IntKind.u64.wrap z)))))) :
    ∃ s : Nat, s < 18446744073709551616 ∧ Mem w0 w (L.set i (.blk g t (cs.setIfInBounds 2 (.int .u64 s)))) := by
  obtain ⟨s, h1, h2⟩ := u64_nat z
  rw [h2] at M
  exact ⟨s, h1, M⟩
set_option maxRecDepth 100000 in
set_option maxHeartbeats 2000000 in
theorem next_any {w0 w : World} {L : List Ent} (i : Nat) (M0 : Mem w0 w L) (g : Nat) (A : Option Addr) (c : Nat) (bs : List Int) (hb : Bytes bs) (k : Nat) (hk : k ≤ 1099511627776) (sd : Int) (hL : L[i]? = some (.blk g 100 (srcCells A bs.length c k sd))) (hs : Sl w 1 A bs.length (flat oneB bs)) :
    Calls Tryz.prog 84 #[.pointer (some ⟨g, 0, none⟩)] w fun e w' => ∃ r sd', e = .returned (.int .i64 r) ∧ 0 ≤ r ∧ r ≤ 255 ∧ Mem w0 w' (L.set i (.blk g 100 (srcCells A bs.length c (k + 1) sd'))) := by
  have M := Lib.hid M0
  have HL := Lib.hid hL
  have HS := Lib.hid hs
  have HB := Lib.hid hb
  have hbl := hb.len
  have HSET := Lib.hid (fun (e : Ent) => show (L.set i e)[i]? = some e from List.getElem?_set_self (List.getElem?_eq_some_iff.1 hL).1)
  clear M0 hL hs hb
  have c0 := M.out.cell i HL.out (j := 0) (v := .slice A bs.length c) rfl
  have c1 := M.out.cell i HL.out (j := 1) (v := .int .i64 k) rfl
  have w1 : IntKind.i64.wrap ((k : Int) + 1) = (k : Int) + 1 := IntWalk.i64_in _ (by omega)
  by_cases hlt : k < bs.length
  · obtain ⟨b, off, rfl, hr⟩ := HS.out.2 (by omega)
    have hxk : bs[k]? = some bs[k] := List.getElem?_eq_getElem hlt
    have x0 : w.cell? ⟨b, off + k, none⟩ = some (.int .u8 bs[k]) := by simpa [oneB] using range_at oneB_len hr hxk 0 _ rfl
    have hbb := HB.out.byte _ (List.getElem_mem hlt)
    obtain ⟨y, hy⟩ : ∃ y, y = bs[k] := ⟨_, rfl⟩
    rw [← hy] at x0 hbb
    have i0 : (0 : Int) ≤ (k : Int) := by omega
    have i1 : (k : Int) < (bs.length : Int) := by omega
    clear hr hxk hy
    go_enter Tryz.func84, Tryz.ntmps84
    go_wp2_with fail
    go_quiet (fail)
    have M := Lib.hid (M.out.drewN nq)
    obtain ⟨wz, hwz⟩ : ∃ wz, wz = w.drewN nq := ⟨_, rfl⟩
    rw [← hwz] at M ⊢
    have x1 : wz.cell? ⟨b, off + k, none⟩ = some (.int .u8 y) := by rw [hwz]; exact x0
    clear hwz
    go_wp2
    have c2 := M.out.cell i HL.out (j := 0) (v := .slice (some ⟨b, off, none⟩) bs.length c) rfl
    have c3 := M.out.cell i HL.out (j := 1) (v := .int .i64 k) rfl
    go_quiet (fail)
    have M := Lib.hid (M.out.drewN nq)
    go_wp2_with (first
      | ((with_reducible refine gate_store (x := .tmp 31) rfl ?_); go_must (refine M.out.ev_put i _ _ _ rfl rfl HL.out rfl (.int .i64 ((k : Int) + 1)) rfl (show 1 < 3 by decide) sz3 rfl rfl ?_); intro w31 m; have M := Lib.hid m; clear m; have c5 := M.out.cell i (HSET.out _) (j := 2) (v := .int .u64 sd) rfl)
      | ((with_reducible refine gate_store (x := .tmp 43) rfl ?_); go_must (refine M.out.ev_put i _ _ _ rfl rfl (HSET.out _) rfl _ rfl (show 2 < 3 by decide) sz42 rfl rfl ?_); intro w43 m; rw [List.set_set] at m; have M := Lib.hid m; clear m; have c6 := M.out.cell i (HSET.out _) (j := 0) (v := .slice (some ⟨b, off, none⟩) bs.length c) rfl; have c7 := M.out.cell i (HSET.out _) (j := 1) (v := .int .i64 ((k : Int) + 1)) rfl)
      )
    go_quiet (fail)
    have M := Lib.hid (M.out.drewN nq)
    go_wp2
    go_ret
    exact ⟨_, _, rfl, hbb.1, hbb.2, M.out⟩
  · have i1 : ¬ ((k : Int) < (bs.length : Int)) := by omega
    have i2 : ¬ ((k : Int) + 1 ≤ (bs.length : Int)) := by omega
    go_enter Tryz.func84, Tryz.ntmps84
    go_wp2_with fail
    go_quiet (fail)
    have M := Lib.hid (M.out.drewN nq)
    obtain ⟨wz, hwz⟩ : ∃ wz, wz = w.drewN nq := ⟨_, rfl⟩
    rw [← hwz] at M ⊢
    clear hwz
    have c3 := M.out.cell i HL.out (j := 1) (v := .int .i64 k) rfl
    go_wp2_with (first
      | ((with_reducible refine gate_store (x := .tmp 31) rfl ?_); go_must (refine M.out.ev_put i _ _ _ rfl rfl HL.out rfl (.int .i64 ((k : Int) + 1)) rfl (show 1 < 3 by decide) sz3 rfl rfl ?_); intro w31 m; have M := Lib.hid m; clear m; have c5 := M.out.cell i (HSET.out _) (j := 2) (v := .int .u64 sd) rfl)
      | ((with_reducible refine gate_store (x := .tmp 43) rfl ?_); go_must (refine M.out.ev_put i _ _ _ rfl rfl (HSET.out _) rfl (.int .u64 _) rfl (show 2 < 3 by decide) sz42 rfl rfl ?_); intro w43 m; rw [List.set_set] at m; obtain ⟨s, hsl, m⟩ := seed_nat m; have M := Lib.hid m; clear m; have c6 := M.out.cell i (HSET.out _) (j := 0) (v := .slice A bs.length c) rfl; have c7 := M.out.cell i (HSET.out _) (j := 1) (v := .int .i64 ((k : Int) + 1)) rfl)
      )
    go_quiet (fail)
    have M := Lib.hid (M.out.drewN nq)
    obtain ⟨wy, hwy⟩ : ∃ wy, wy = w43.drewN nq := ⟨_, rfl⟩
    rw [← hwy] at M ⊢
    clear hwy
    have c8 := M.out.cell i (HSET.out _) (j := 2) (v := .int .u64 s) rfl
    obtain ⟨q, hq⟩ : ∃ q, q = s / 1099511627776 := ⟨_, rfl⟩
    have hqs : q < 18446744073709551616 := by omega
    have s2 : (s : Int).fdiv (2 ^ min (Int.toNat 40) IntKind.u64.bits) = (q : Int) := by
      rw [show min (Int.toNat 40) IntKind.u64.bits = 40 from rfl, show (2 : Int) ^ 40 = 1099511627776 from rfl, Int.fdiv_eq_ediv_of_nonneg _ (by omega)]
      omega
    have b1 : bits .and .u64 ((s : Int) / 1099511627776) 255 = ((q &&& 255 : Nat) : Int) := by
      rw [show (s : Int) / 1099511627776 = (q : Int) by omega]
      exact bits_and_u64_nat q 255 hqs (by decide)
    obtain ⟨r, hr⟩ : ∃ r, r = q &&& 255 := ⟨_, rfl⟩
    have hr2 : r ≤ 255 := by rw [hr]; exact Nat.and_le_right
    rw [← hr] at b1
    have w3 : IntKind.u64.wrap (q : Int) = (q : Int) := IntWalk.u64_in _ (by omega)
    have w4 : IntKind.u64.wrap (r : Int) = (r : Int) := IntWalk.u64_in _ (by omega)
    have B1 := Lib.hid b1
    clear hr hq
    go_wp2
    go_ret
    refine ⟨_, _, rfl, ?_, ?_, M.out⟩
    all_goals
      try rw [B1.out]
      try unfold wrap64
      omega
/-- What a draw leaves: the source, some draws on. -/
def Drew (w0 w' : World) (L : List Ent) (i g : Nat) (A : Option Addr) (n c k : Nat) : Prop := ∃ k' sd', k' ≤ k + 2 ∧ Mem w0 w' (L.set i (.blk g 100 (srcCells A n c k' sd')))
theorem set_id {α : Type} {L : List α} {i : Nat} {x : α} (h : L[i]? = some x) : L.set i x = L := by
  obtain ⟨h1, rfl⟩ := List.getElem?_eq_some_iff.1 h
  exact List.set_getElem_self h1
set_option maxRecDepth 100000 in
set_option maxHeartbeats 2000000 in
theorem pick_any {w0 w : World} {L : List Ent} (i : Nat) (M0 : Mem w0 w L) (g : Nat) (A : Option Addr) (c : Nat) (bs : List Int) (hb : Bytes bs) (k : Nat) (hk : k ≤ 1099511600000) (sd : Int) (hL : L[i]? = some (.blk g 100 (srcCells A bs.length c k sd))) (hs : Sl w 1 A bs.length (flat oneB bs)) (n : Int) (hn : n ≤ 200) :
    Calls Tryz.prog 37 #[.pointer (some ⟨g, 0, none⟩), .int .i64 n] w fun e w' => ∃ r, e = .returned (.int .i64 r) ∧ 0 ≤ r ∧ r < max 1 n ∧ Drew w0 w' L i g A bs.length c k := by
  have M := Lib.hid M0
  have HL := Lib.hid hL
  have NX := Lib.hid (next_any i M0 g A c bs hb k (by omega) sd hL hs)
  clear M0 hL hs
  by_cases hn1 : n ≤ 1
  · go_enter Tryz.func37, Tryz.ntmps37
    go_wp2
    go_ret
    exact ⟨0, rfl, by omega, by omega, k, sd, by omega, by rw [set_id HL.out]; exact M.out⟩
  · have hn2 : ¬ (200 < n) := by omega
    have hn0 : ¬ (n = 0) := by omega
    have q0 : (n == 0) = false := by rw [beq_eq_false_iff_ne]; exact hn0
    go_enter Tryz.func37, Tryz.ntmps37
    go_wp2_with (first
      | (go_at_call 84; go_must (refine NX.out.mono ?_); rintro e w_ ⟨r, sd1, rfl, hr0, hr1, m⟩; have M := Lib.hid m; clear m; have ht : r.tmod n = r % n := Int.tmod_eq_emod_of_nonneg hr0)
      )
    go_ret
    refine ⟨_, rfl, ?_, ?_, k + 1, sd1, by omega, M.out⟩
    · first
        | exact Int.emod_nonneg _ hn0
        | (rw [ht]; exact Int.emod_nonneg _ hn0)
    · have := Int.emod_lt_of_pos r (by omega : 0 < n)
      first
        | omega
        | (rw [ht]; omega)
set_option maxRecDepth 100000 in
set_option maxHeartbeats 2000000 in
theorem l00From_any (A : Option Addr) (n c : Nat) (w : World) :
    Calls Tryz.prog 35 #[.slice A n c] w fun e w' => ∃ g, e = .returned (.pointer (some ⟨g, 0, none⟩)) ∧ Mem w w' [.blk g 100 (srcCells A n c 0 0)] := by
  have M := Lib.hid (Mem.start w)
  go_enter Tryz.func35, Tryz.ntmps35
  go_wp2_with (first
    | ((with_reducible refine gate_dst (N := 5) rfl ?_); go_must (refine M.out.ev_new rfl (by first | (go_simp; done) | (go_simp; rfl)) ?_); intro g5 w5 m; simp only [List.cons_append, List.nil_append] at m; have M := Lib.hid m; clear m)
    )
  go_ret
  exact ⟨_, rfl, M.out⟩
set_option maxRecDepth 100000 in
set_option maxHeartbeats 2000000 in
theorem P6Pick_any (A : Option Addr) (c : Nat) (bs : List Int) (hb : Bytes bs) (n : Int) (hn : n ≤ 200) (w : World) (hs : Sl w 1 A bs.length (flat oneB bs)) :
    Calls Tryz.prog 8 #[.slice A bs.length c, .int .i64 n] w fun e w' => ∃ r, e = .returned (.int .i64 r) ∧ 0 ≤ r ∧ r < max 1 n ∧ Mem w w' [] := by
  have M := Lib.hid (Mem.start w)
  have HS := Lib.hid hs
  clear hs
  go_enter Tryz.func8, Tryz.ntmps8
  go_wp2_with (first
    | (go_at_call 35; go_must (refine (l00From_any A bs.length c _).mono ?_); rintro e w_ ⟨g, rfl, N_⟩; have m := M.out.join N_; clear N_; simp only [List.cons_append, List.nil_append, List.append_nil] at m; have M := Lib.hid m; clear m)
    | (go_at_call 37; go_must (refine (pick_any 0 M.out g A c bs hb 0 (by omega) 0 rfl (M.out.sl HS.out) n hn).mono ?_); rintro e w_ ⟨r, rfl, hr0, hr1, k1, sd1, hk1, m⟩; have M := Lib.hid m; clear m)
    )
  go_ret
  exact ⟨_, rfl, hr0, hr1, M.out.take 0⟩
end Go.Proofs.YtoacnfofijikmaaGreatDoor
namespace Go.Proofs.YtoacnfofijikmaaGreatDoor
set_option linter.unusedSimpArgs false
set_option linter.unusedVariables false
open Go.RowKit
attribute [local go_sem] cell?_mk frozen?_mk

/-- The marks 1, 2, .. -/
def marks (n : Nat) : List Nat := (List.range n).map (· + 1)
end Go.Proofs.YtoacnfofijikmaaGreatDoor
namespace Go.Proofs.YtoacnfofijikmaaGreatDoor
set_option linter.unusedSimpArgs false
set_option linter.unusedVariables false
open Go.RowKit
attribute [local go_sem] cell?_mk frozen?_mk

def oneI (x : Int) : List Value := [.int .i64 x]
theorem oneI_len (x : Int) : (oneI x).length = 1 := rfl
theorem flat_oneI (xs : List Int) : flat oneI xs = xs.map (Value.int .i64) := by
  induction xs with
  | nil => rfl
  | cons k r ih => show oneI k ++ flat oneI r = _; rw [ih]; rfl
section
variable {P : Program} {ops : Array Oper} {rest : List Oper} {o : Oper} {a : Act} {w0 w : World} {Q : Exit → Act → World → Prop} {L : List Ent}
end
end Go.Proofs.YtoacnfofijikmaaGreatDoor
namespace Go.Proofs.YtoacnfofijikmaaGreatDoor
set_option linter.unusedSimpArgs false
set_option linter.unusedVariables false
open Go.RowKit
attribute [local go_sem] cell?_mk frozen?_mk
--ONES exact Fld.one _

section
variable {w0 w : World} {L : List Ent} {x : Ent}
/-- What was made last comes first. -/
theorem Mem.front (M : Mem w0 w (L ++ [x])) : Mem w0 w (x :: L) := by
  have key : ∀ (i : Nat) (y : Ent), (x :: L)[i]? = some y → ∃ j, (L ++ [x])[j]? = some y ∧ ((i = 0 ∧ j = L.length) ∨ (i = j + 1 ∧ j < L.length)) := by
    intro i y h
    cases i with
    | zero => exact ⟨L.length, by simpa using h, .inl ⟨rfl, rfl⟩⟩
    | succ i =>
      have h1 : L[i]? = some y := by simpa using h
      have h2 := (List.getElem?_eq_some_iff.1 h1).1
      exact ⟨i, by rw [List.getElem?_append_left h2]; exact h1, .inr ⟨rfl, h2⟩⟩
  refine ⟨M.below, fun i y h => ?_, fun i j y z hij hy hz => ?_⟩
  · obtain ⟨j, h1, _⟩ := key i y h
    exact M.all j y h1
  · obtain ⟨a, ha, ca⟩ := key i y hy
    obtain ⟨b, hb, cb⟩ := key j z hz
    exact M.sep a b y z (by omega) ha hb
theorem Mem.tail (M : Mem w0 w (x :: L)) : Mem w0 w L :=
  ⟨M.below, fun i y h => M.all (i + 1) y (by simpa using h), fun i j y z hij hy hz => M.sep (i + 1) (j + 1) y z (by omega) (by simpa using hy) (by simpa using hz)⟩
end
theorem set_at {α : Type} {L : List α} {i : Nat} {x : α} (h : L[i]? = some x) (y : α) : (L.set i y)[i]? = some y := List.getElem?_set_self (List.getElem?_eq_some_iff.1 h).1
def Fld.withKind (F : Fld) (k : Nat) (x : Int) : Fld := { F with kinds := F.kinds.set k x }
theorem Fld.setKind {F : Fld} (h : F.len) {k : Nat} (hk : k < 100) (x : Int) : F.cells.setIfInBounds (2 + k) (.int .u8 x) = (F.withKind k x).cells := by
  have hl := h.kl
  rw [show 2 + k = k + 1 + 1 by omega]
  simp only [Fld.cells, Fld.list, Fld.withKind, List.setIfInBounds_toArray, List.set_cons_succ]
  rw [List.set_append, if_pos (by simp; omega), List.map_set]
theorem Fld.withKind_ok {F : Fld} (h : F.ok) (k : Nat) (x : Int) (hx : 0 ≤ x ∧ x ≤ 255) : (F.withKind k x).ok :=
  { toLen := ⟨by simp [Fld.withKind, h.kl], h.sl⟩, w0 := h.w0, w1 := h.w1, h0 := h.h0, h1 := h.h1, s0 := h.s0,
    k0 := fun y hy => by
      rcases List.mem_or_eq_of_mem_set hy with h1 | h1
      · exact h.k0 y h1
      · rw [h1]; exact hx }
theorem Fld.withSeed_okF {F : Fld} (h : F.ok) (k : Nat) (x : Int) (hx : -32768 ≤ x ∧ x ≤ 32767) : (F.withSeed k x).ok :=
  { toLen := Fld.withSeed_len h.toLen k x, w0 := h.w0, w1 := h.w1, h0 := h.h0, h1 := h.h1, k0 := h.k0,
    s0 := fun y hy => by
      rcases List.mem_or_eq_of_mem_set hy with h1 | h1
      · exact h.s0 y h1
      · rw [h1]; exact hx }
theorem Fld.kind_wk {F : Fld} (h : F.len) {k : Nat} (hk : k < 100) (x : Int) (j : Nat) : (F.withKind k x).kind j = if j = k then x else F.kind j := by
  have hl := h.kl
  show gi (F.kinds.set k x) j = _
  by_cases hjk : j = k
  · rw [if_pos hjk, hjk, gi_set_self (by omega)]
  · rw [if_neg hjk, gi_set_ne (fun e => hjk e.symm)]
    rfl
theorem Fld.seed_ws {F : Fld} (h : F.len) {k : Nat} (hk : k < 100) (x : Int) (j : Nat) : (F.withSeed k x).seed j = if j = k then x else F.seed j := by
  have hl := h.sl
  show gi (F.seeds.set k x) j = _
  by_cases hjk : j = k
  · rw [if_pos hjk, hjk, gi_set_self (by omega)]
  · rw [if_neg hjk, gi_set_ne (fun e => hjk e.symm)]
    rfl
theorem Fld.okAt_iff {F : Fld} {k : Nat} : F.okAt k = true ↔ (0 ≤ F.kind k ∧ F.kind k ≤ 3 ∧ 0 ≤ F.seed k ∧ F.seed k ≤ 1000 ∧ (F.kind k ≠ 0 → F.seed k = 0) ∧ (F.has k = false → F.kind k = 0 ∧ F.seed k = 0)) := by
  unfold Fld.okAt
  exact decide_eq_true_iff
/-- A field under way: the cells from k on are bare soil. -/
structure FDr (F : Fld) (k : Nat) : Prop where
  ok : F.ok
  w : 1 ≤ F.wide ∧ F.wide ≤ 5
  h : 1 ≤ F.high ∧ F.high ≤ 5
  at_ : ∀ j, j < 100 → F.okAt j = true
  s : ∀ j, F.seed j ≤ 11
  z : ∀ j, k ≤ j → F.kind j = 0 ∧ F.seed j = 0
theorem cell_of {F : Fld} {x y : Int} (hx : 0 ≤ x ∧ x < F.wide) (hy : 0 ≤ y ∧ y < F.high) (hw : F.wide ≤ 10) (hh : F.high ≤ 10) : ∃ q : Nat, x + 10 * y = (q : Int) ∧ q < 100 ∧ F.has q = true := by
  obtain ⟨q, hq⟩ := Int.eq_ofNat_of_zero_le (show 0 ≤ x + 10 * y by omega)
  exact ⟨q, hq, by omega, Fld.has_iff.2 ⟨by omega, by omega, by omega⟩⟩
theorem zs_gi (n j : Nat) : gi (zs n) j = 0 := by
  unfold gi zs
  rw [List.getD_eq_getElem?_getD]
  by_cases h : j < n
  · simp [h]
  · rw [List.getElem?_eq_none (by simp; omega)]
    rfl
theorem FDr.start {a b : Int} (ha : 0 ≤ a ∧ a < 5) (hb : 0 ≤ b ∧ b < 5) : FDr ⟨1 + a, 1 + b, zs 100, zs 100⟩ 0 := by
  have hz : ∀ y ∈ zs 100, y = 0 := fun y hy => by
    unfold zs at hy
    exact (List.mem_replicate.1 hy).2
  refine ⟨⟨⟨zs_len 100, zs_len 100⟩, ?_, ?_, ?_, ?_, fun y hy => by rw [hz y hy]; decide, fun y hy => by rw [hz y hy]; decide⟩, ⟨?_, ?_⟩, ⟨?_, ?_⟩, fun j _ => Fld.okAt_iff.2 ?_, fun j => ?_, fun j _ => ⟨zs_gi 100 j, zs_gi 100 j⟩⟩
  iterate 8 (first | (show _ ≤ 1 + _; omega) | (show 1 + _ ≤ _; omega))
  · rw [show Fld.kind ⟨1 + a, 1 + b, zs 100, zs 100⟩ j = 0 from zs_gi 100 j, show Fld.seed ⟨1 + a, 1 + b, zs 100, zs 100⟩ j = 0 from zs_gi 100 j]
    simp
  · rw [show Fld.seed ⟨1 + a, 1 + b, zs 100, zs 100⟩ j = 0 from zs_gi 100 j]
    decide
theorem FDr.valid {F : Fld} {k : Nat} (h : FDr F k) : F.valid = true :=
  Fld.valid_of (inB_iff.2 ⟨by have := h.w; omega, by have := h.w; omega⟩) (inB_iff.2 ⟨by have := h.h; omega, by have := h.h; omega⟩) h.at_
theorem FDr.skip {F : Fld} {k : Nat} (h : FDr F k) : FDr F (k + 1) := ⟨h.ok, h.w, h.h, h.at_, h.s, fun j hj => h.z j (by omega)⟩
theorem FDr.kind {F : Fld} {k : Nat} (h : FDr F k) (hk : k < 100) (hh : F.has k = true) {x : Int} (hx : 1 ≤ x ∧ x ≤ 3) : FDr (F.withKind k x) (k + 1) := by
  refine ⟨Fld.withKind_ok h.ok k x (by omega), h.w, h.h, fun j hj => ?_, h.s, fun j hj => ?_⟩
  · have h1 := Fld.okAt_iff.1 (h.at_ j hj)
    refine Fld.okAt_iff.2 ?_
    rw [Fld.kind_wk h.ok.toLen hk, show (F.withKind k x).seed j = F.seed j from rfl, show (F.withKind k x).has j = F.has j from rfl]
    by_cases hjk : j = k
    · subst hjk
      rw [if_pos rfl, (h.z j (Nat.le_refl _)).2, hh]
      exact ⟨by omega, by omega, by omega, by omega, fun _ => rfl, fun e => by cases e⟩
    · rw [if_neg hjk]
      exact h1
  · rw [Fld.kind_wk h.ok.toLen hk, if_neg (by omega)]
    exact h.z j (by omega)
theorem FDr.seed {F : Fld} {k : Nat} (h : FDr F k) (hk : k < 100) (hh : F.has k = true) {x : Int} (hx : 0 ≤ x ∧ x < 12) : FDr (F.withSeed k x) (k + 1) := by
  refine ⟨Fld.withSeed_okF h.ok k x (by omega), h.w, h.h, fun j hj => ?_, fun j => ?_, fun j hj => ?_⟩
  · have h1 := Fld.okAt_iff.1 (h.at_ j hj)
    refine Fld.okAt_iff.2 ?_
    rw [Fld.seed_ws h.ok.toLen hk, show (F.withSeed k x).kind j = F.kind j from rfl, show (F.withSeed k x).has j = F.has j from rfl]
    by_cases hjk : j = k
    · subst hjk
      rw [if_pos rfl, (h.z j (Nat.le_refl _)).1, hh]
      exact ⟨by omega, by omega, by omega, by omega, fun e => absurd rfl e, fun e => by cases e⟩
    · rw [if_neg hjk]
      exact h1
  · rw [Fld.seed_ws h.ok.toLen hk]
    split
    · omega
    · exact h.s j
  · rw [Fld.seed_ws h.ok.toLen hk, if_neg (by omega)]
    exact h.z j (by omega)
set_option maxRecDepth 100000 in
set_option maxHeartbeats 2000000 in
theorem one_any {w0 w : World} {L : List Ent} (i : Nat) (M0 : Mem w0 w L) (g : Nat) (A : Option Addr) (c : Nat) (bs : List Int) (hb : Bytes bs) (k : Nat) (hk : k ≤ 1000000000) (sd : Int) (hL : L[i]? = some (.blk g 100 (srcCells A bs.length c k sd))) (hs : Sl w0 1 A bs.length (flat oneB bs)) (n : Int) (hn : n ≤ 200) :
    Calls Tryz.prog 83 #[.pointer (some ⟨g, 0, none⟩), .int .i64 n] w fun e w' => ∃ b, e = .returned (.bool b) ∧ Drew w0 w' L i g A bs.length c k := by
  have M := Lib.hid M0
  have HS := Lib.hid hs
  have HL := Lib.hid hL
  have HB := Lib.hid hb
  have HSET := Lib.hid (fun (e : Ent) => set_at hL e)
  clear M0 hs hL hb
  go_enter Tryz.func83, Tryz.ntmps83
  go_wp2_with (first
    | (go_at_call 37; go_must (refine (pick_any i M.out g A c bs HB.out k (by omega) sd HL.out (M.out.sl HS.out) n hn).mono ?_); rintro e w_ ⟨r, rfl, hr0, hr1, k1, sd1, hk1, m⟩; have M := Lib.hid m; clear m)
    )
  all_goals
    go_ret
    exact ⟨_, rfl, k1, sd1, hk1, M.out⟩
theorem szZ : Tryz.zeroCells29.size = 202 := by kernel_rfl
theorem drawn0 (x : Int) : (Tryz.zeroCells29).setIfInBounds 0 (.int .i8 x) = Fld.cells ⟨x, 0, zs 100, zs 100⟩ := by
  rw [zeroFld, Fld.set0]
  rfl
theorem drawn1 (x y : Int) : (Fld.cells ⟨x, 0, zs 100, zs 100⟩).setIfInBounds 1 (.int .i8 y) = Fld.cells ⟨x, y, zs 100, zs 100⟩ := by
  rw [Fld.set1]
set_option maxRecDepth 100000 in
set_option maxHeartbeats 8000000 in
theorem l01Drawn_any {w0 w : World} {L : List Ent} (i : Nat) (M0 : Mem w0 w L) (g : Nat) (A : Option Addr) (c : Nat) (bs : List Int) (hb : Bytes bs) (k : Nat) (hk : k ≤ 1000000) (sd : Int) (hL : L[i]? = some (.blk g 100 (srcCells A bs.length c k sd))) (hs : Sl w0 1 A bs.length (flat oneB bs)) :
    Calls Tryz.prog 34 #[.pointer (some ⟨g, 0, none⟩)] w fun e w' => ∃ F : Fld, e = .returned (.agg F.cells) ∧ FDr F 100 ∧ ∃ k' sd', k' ≤ k + 1000 ∧ Mem w0 w' (L.set i (.blk g 100 (srcCells A bs.length c k' sd'))) := by
  have M := Lib.hid M0
  have HS := Lib.hid hs
  have HL := Lib.hid hL
  have HB := Lib.hid hb
  have HSET := Lib.hid (fun (e : Ent) => set_at hL e)
  clear M0 hs hL hb
  go_enter Tryz.func34, Tryz.ntmps34
  go_wp2_with (first
    | ((with_reducible refine gate_dst (N := 2) rfl ?_); go_must (refine M.out.ev_new rfl (by first | (go_simp; done) | (go_simp; rfl)) ?_); intro g2 w2 m; have M := Lib.hid m.front; clear m)
    | (go_at_call 37; go_must (first | (refine Calls.mono (calls_args (by with_reducible rfl) (pick_any (i + 1) M.out g A c bs HB.out _ (by omega) _ HL.out (M.out.sl HS.out) 5 (by first | decide | omega))) ?_; rintro e w_ ⟨a, rfl, h0a, h1a, ka, sda, hka, m⟩; simp only [List.set_cons_succ, List.set_cons_zero, List.set_set] at m; have M := Lib.hid m; clear m; have ea : IntKind.i8.wrap (1 + a) = 1 + a := IntWalk.i8_in _ (by omega); have eb : IntKind.i64.wrap (1 + a) = 1 + a := IntWalk.i64_in _ (by omega)) | (refine Calls.mono (calls_args (by with_reducible rfl) (pick_any (i + 2) M.out g A c bs HB.out _ (by omega) _ (HSET.out _) (M.out.sl HS.out) 5 (by first | decide | omega))) ?_; rintro e w_ ⟨b, rfl, h0b, h1b, kb, sdb, hkb, m⟩; simp only [List.set_cons_succ, List.set_cons_zero, List.set_set] at m; have M := Lib.hid m; clear m; have ec : IntKind.i8.wrap (1 + b) = 1 + b := IntWalk.i8_in _ (by omega); have ed : IntKind.i64.wrap (1 + b) = 1 + b := IntWalk.i64_in _ (by omega))))
    | ((with_reducible refine gate_dst (N := 3) rfl ?_); go_must (refine M.out.ev_new rfl (by first | (go_simp; done) | (go_simp; rfl)) ?_); intro g3 w3 m; have M := Lib.hid m.front; clear m)
    | ((with_reducible refine gate_store (x := .tmp 3) rfl ?_); go_must (refine M.out.ev_stw 0 _ _ _ rfl rfl rfl rfl _ rfl (by rfl) sz29 (by rw [drawn0]; exact Fld.one _) rfl ?_); intro w3n m; rw [List.set_cons_zero, drawn0] at m; have M := Lib.hid m; clear m)
    | ((with_reducible refine gate_store (x := .tmp 14) rfl ?_); go_must (refine M.out.ev_put 0 _ _ _ rfl rfl rfl rfl (.int .i8 (1 + b)) rfl (Fld.lt1 _) sz24 rfl rfl ?_); intro wn m; simp only [List.set_cons_zero, drawn1] at m; have M := Lib.hid m; clear m)
    )
  go_loopw [4] (fun v wr => ∃ (n : Nat) (F : Fld) (k' : Nat) (sd' : Int), n ≤ 100 ∧ v = .int .i64 n ∧ FDr F n ∧ k' ≤ k + 4 + 4 * n ∧ Mem w0 wr (.blk g3 29 F.cells :: .blk g2 29 Tryz.zeroCells29 :: L.set i (.blk g 100 (srcCells A bs.length c k' sd'))))
    (fun v _ => 100 - (intOf v).toNat)
  case atStart => exact ⟨0, ⟨1 + a, 1 + b, zs 100, zs 100⟩, kb, sdb, by omega, rfl, FDr.start ⟨h0a, by omega⟩ ⟨h0b, by omega⟩, by omega, M.out⟩
  case round =>
    clear M ea eb ec ed
    obtain ⟨n, F, k', sd', hn, rfl, hF, hk', m⟩ := hrel
    have M := Lib.hid m
    have FD := Lib.hid hF
    have S1 := Lib.hid (Fld.size hF.ok.toLen)
    clear m hF
    by_cases hlt : n < 100
    · have i0 : (0 : Int) ≤ (n : Int) := by omega
      have i1 : (n : Int) < 100 := by omega
      have SZ1 := Lib.hid (show 2 + n < F.cells.size by rw [S1.out]; omega)
      have SZ2 := Lib.hid (show 102 + n < F.cells.size by rw [S1.out]; omega)
      cases hh : F.has n
      · have HH := Lib.hid hh
        clear hh
        go_wp2_with (first
          | (go_at_call 50; go_must (refine (l01Is_any g3 F FD.out.ok (n : Int) _ (M.out.blk 0 rfl)).mono ?_); rintro e w_ ⟨rfl, rfl⟩; rw [HH.out])
          )
        exact ⟨⟨n + 1, F, k', sd', by omega, by go_num, FD.out.skip, by omega, M.out⟩, by simp [intOf]; try omega⟩
      · have HH := Lib.hid hh
        have K1 := Lib.hid (fun x => Fld.setKind FD.out.ok.toLen hlt x)
        have K2 := Lib.hid (fun x => Fld.setSeed FD.out.ok.toLen n x)
        have KC := Lib.hid (Fld.cellK FD.out.ok.toLen hlt)
        have KS := Lib.hid (Fld.cellS FD.out.ok.toLen hlt)
        clear hh
        go_wp2_with (first
          | (go_at_call 50; go_must (refine (l01Is_any g3 F FD.out.ok (n : Int) _ (M.out.blk 0 rfl)).mono ?_); rintro e w_ ⟨rfl, rfl⟩; rw [HH.out])
          | (go_at_call 83; go_must (refine (one_any (i + 2) M.out g A c bs HB.out _ (by omega) _ (HSET.out _) HS.out 4 (by decide)).mono ?_); rintro e w_ ⟨bb, rfl, k5, sd5, hk5, m⟩; simp only [List.set_cons_succ, List.set_cons_zero, List.set_set] at m; have M := Lib.hid m; clear m; cases bb)
          | (go_at_call 37; go_must (first | (refine Calls.mono (calls_args (by with_reducible rfl) (pick_any (i + 2) M.out g A c bs HB.out _ (by omega) _ (HSET.out _) (M.out.sl HS.out) 3 (by first | decide | omega))) ?_; rintro e w_ ⟨q, rfl, h0q, h1q, kq, sdq, hkq, m⟩; simp only [List.set_cons_succ, List.set_cons_zero, List.set_set] at m; have M := Lib.hid m; clear m; have ea : IntKind.u8.wrap (1 + q) = 1 + q := IntWalk.u8_in _ (by omega); have eb : IntKind.i64.wrap (1 + q) = 1 + q := IntWalk.i64_in _ (by omega)) | (refine Calls.mono (calls_args (by with_reducible rfl) (pick_any (i + 2) M.out g A c bs HB.out _ (by omega) _ (HSET.out _) (M.out.sl HS.out) 12 (by first | decide | omega))) ?_; rintro e w_ ⟨d, rfl, h0d, h1d, kd, sdd, hkd, m⟩; simp only [List.set_cons_succ, List.set_cons_zero, List.set_set] at m; have M := Lib.hid m; clear m; have ec : IntKind.i16.wrap d = d := IntWalk.i16_in _ (by omega))))
          | ((with_reducible refine gate_store (x := .tmp 30) rfl ?_); go_must (refine M.out.ev_put 0 _ _ _ rfl rfl rfl rfl (.int .u8 (1 + q)) rfl SZ1.out sz5 rfl rfl ?_); intro wn m; simp only [List.set_cons_zero, K1.out] at m; have M := Lib.hid m; clear m)
          | ((with_reducible refine gate_store (x := .tmp 36) rfl ?_); go_must (refine M.out.ev_put 0 _ _ _ rfl rfl rfl rfl (.int .i16 d) rfl SZ2.out sz26 rfl rfl ?_); intro wn m; simp only [List.set_cons_zero, K2.out] at m; have M := Lib.hid m; clear m)
          )
        · exact ⟨⟨n + 1, _, _, _, by omega, by go_num, FD.out.seed hlt HH.out ⟨h0d, by omega⟩, by omega, M.out⟩, by simp [intOf]; try omega⟩
        · exact ⟨⟨n + 1, _, _, _, by omega, by go_num, FD.out.kind hlt HH.out ⟨by omega, by omega⟩, by omega, M.out⟩, by simp [intOf]; try omega⟩
    · obtain rfl : n = 100 := by omega
      have O1 := Lib.hid (Fld.one F)
      go_wp2_with (first
        | ((with_reducible refine gate_dst (N := 37) rfl ?_); go_must (refine M.out.ev_ldw 0 _ _ rfl rfl rfl Tryz.underlying29 rfl (by rw [S1.out]; exact sz29) rfl ?_))
        | ((with_reducible refine gate_store (x := .tmp 2) rfl ?_); go_must (refine M.out.ev_stw 1 _ _ _ rfl rfl rfl rfl _ rfl (by rw [S1.out]; exact szZ) (by rw [S1.out]; exact sz29) O1.out rfl ?_); intro wn m; simp only [List.set_cons_zero, List.set_cons_succ] at m; have M := Lib.hid m; clear m)
        )
      refine ret_cell rfl (M.out.blk 1 rfl) Tryz.underlying29 rfl (by rw [S1.out]; exact sz29) rfl ⟨F, rfl, FD.out, k', sd', by omega, M.out.tail.tail⟩
end Go.Proofs.YtoacnfofijikmaaGreatDoor
namespace Go.Proofs.YtoacnfofijikmaaGreatDoor
set_option linter.unusedSimpArgs false
set_option linter.unusedVariables false
open Go.RowKit

theorem any3k {P : Program} {md : Region.Mode} {ops : Array Oper} {Q : Exit → Act → World → Prop} {fuel : Nat} {listed : Array Bool} {a : Act} {w : World} (i j l : Nat) {o o' o'' : Oper}
    (hr : Region.ready md ops listed = [i, j, l]) (ho : ops[i]? = some o) (ho' : ops[j]? = some o') (ho'' : ops[l]? = some o'')
    (h : ∀ K : Act → World → Prop, (∀ a w, wpAny P md ops Q fuel (listed.setIfInBounds i true) a w → K a w) → wpList P ops (onward K) [o] a w)
    (h' : ∀ K : Act → World → Prop, (∀ a w, wpAny P md ops Q fuel (listed.setIfInBounds j true) a w → K a w) → wpList P ops (onward K) [o'] a w)
    (h'' : ∀ K : Act → World → Prop, (∀ a w, wpAny P md ops Q fuel (listed.setIfInBounds l true) a w → K a w) → wpList P ops (onward K) [o''] a w) : wpAny P md ops Q (fuel + 1) listed a w :=
  wpAny_all hr (by simp) fun k hk => by
    rcases List.mem_cons.1 hk with rfl | hk
    · exact wpOp_onward ho (h _ fun _ _ h => h)
    · rcases List.mem_cons.1 hk with rfl | hk
      · exact wpOp_onward ho' (h' _ fun _ _ h => h)
      · rw [List.mem_singleton.1 hk]
        exact wpOp_onward ho'' (h'' _ fun _ _ h => h)
/-- A pure operation, its place told. -/
theorem takeD {P : Program} {md : Region.Mode} {ops : Array Oper} {Q : Exit → Act → World → Prop} {i : Nat} {oi : Oper} {v : Value} {fuel : Nat} {listed : Array Bool} {a : Act} {w : World} (d : Tmp) (hi : ops[i]? = some oi)
    (hs : Region.noSelect ops = true) (hf : Region.free md ops listed i = true) (hr : (Region.ready md ops listed).contains i = true)
    (hQ : ∀ c a w, Q (.panic c) (a.put oi.dst v) w → Q (.panic c) a w) (hd : oi.dst = some d) (hy : Yields P ops oi v a)
    (h : wpAny P md ops Q fuel (listed.setIfInBounds i true) (a.put (some d) v) w) : wpAny P md ops Q (fuel + 1) listed a w :=
  wpAny_take hi hs hf hr hQ hy (by rw [hd]; exact h)
end Go.Proofs.YtoacnfofijikmaaGreatDoor
namespace Go.Proofs.YtoacnfofijikmaaGreatDoor
set_option linter.unusedSimpArgs false
set_option linter.unusedVariables false
open Go.RowKit

section
variable {P : Program} {md : Region.Mode} {ops : Array Oper} {Q : Exit → Act → World → Prop} {S : World → Prop} {fuel : Nat} {listed : Array Bool} {a : Act} {w : World}
theorem takeH {i : Nat} {oi : Oper} {v : Value} (d : Tmp) (hi : ops[i]? = some oi)
    (hs : Region.noSelect ops = true) (hf : Region.free md ops listed i = true) (hr : (Region.ready md ops listed).contains i = true)
    (hQ : ∀ c a w, Q (.panic c) (a.put oi.dst v) w → Q (.panic c) a w) (hd : oi.dst = some d) (hS : S w) (hy : YieldsIf P ops S oi v a)
    (h : wpAnyH P md ops Q S fuel (listed.setIfInBounds i true) (a.put (some d) v) w) : wpAnyH P md ops Q S (fuel + 1) listed a w :=
  wpAnyH_take hi hs hf hr hQ hy hS (by rw [hd]; exact h)
theorem ylds {o : Oper} (T : TypeId) (x : Operand) (ho : o.op = .load T x) (hg : o.guard = none) {p : Addr} {v : Value} {d : TypeDesc} (hu : P.underlying T = some d) (hd : TypeDesc_row d = false)
    (hx : a.eval x = .pointer (some p)) (hc : ∀ w, S w → w.cell? p = some v) : YieldsIf P ops S o v a :=
  .inl ⟨by simp [Region.wanted, hg], fun w hS => by
    unfold execOp
    simp only [ho, hx, Sem.run_bind, Result.andThen_ok, run_get T hu hd (hc w hS), Sem.run_pure]⟩
theorem yldsW {o : Oper} (T : TypeId) (x : Operand) (ho : o.op = .load T x) (hw : Region.wanted o (yielded ops a.tmps) = true) {p : Addr} {v : Value} {d : TypeDesc} (hu : P.underlying T = some d) (hd : TypeDesc_row d = false)
    (hx : a.eval x = .pointer (some p)) (hc : ∀ w, S w → w.cell? p = some v) : YieldsIf P ops S o v a :=
  .inl ⟨hw, fun w hS => by
    unfold execOp
    simp only [ho, hx, Sem.run_bind, Result.andThen_ok, run_get T hu hd (hc w hS), Sem.run_pure]⟩
theorem yldw {o : Oper} (T : TypeId) (x : Operand) (ho : o.op = .load T x) (hg : o.guard = none) {g : Nat} {t : TypeId} {cs : Array Value} {d : TypeDesc} (hu : P.underlying T = some d)
    (hd : (match d with | .struct _ | .array _ _ => true | _ => false) = true) (hi : (P.info? T).map (·.size) = some cs.size) (hx : a.eval x = .pointer (some ⟨g, 0, none⟩)) (hb : ∀ w, S w → Blk w g t cs) : YieldsIf P ops S o (.agg cs) a :=
  .inl ⟨by simp [Region.wanted, hg], fun w hS => by
    have hagg : (isAgg T).run P w = .ok true w := by
      unfold isAgg
      rw [Sem.run_bind, run_underlying hu w]
      cases d <;> simp_all
    unfold execOp
    simp only [ho, hx, Instr.loadAt, Instr.sureAddr, Sem.run_bind, Result.andThen_ok, run_loadVar_row w g t T cs (0, 0) d (hb w hS) hu hd hi, Sem.run_pure, hagg]⟩
theorem any1H (i : Nat) {o : Oper} (hr : Region.ready md ops listed = [i]) (ho : ops[i]? = some o)
    (h : ∀ K : Act → World → Prop, (∀ a w, S w ∧ wpAnyH P md ops Q S fuel (listed.setIfInBounds i true) a w → K a w) → wpList P ops (onward K) [o] a w) : wpAnyH P md ops Q S (fuel + 1) listed a w :=
  wpAnyH_all hr (by simp) fun j hj => by
    rw [List.mem_singleton.1 hj]
    exact wpOp_onward ho (h _ fun _ _ h => h)
theorem region_anyH {id : Nat} (S : World → Prop) (hm : P.follows .mixedOrders = true)
    (h : wpAnyH P .any ops Q S ops.size (Array.replicate ops.size false) a w.drew) : (Code.region id ops true).wp P Q a w := wp_region_held hm h
end
end Go.Proofs.YtoacnfofijikmaaGreatDoor
namespace Go.Proofs.YtoacnfofijikmaaGreatDoor
set_option linter.unusedSimpArgs false
set_option linter.unusedVariables false
open Go.RowKit

section
variable {P : Program} {ops : Array Oper} {rest : List Oper} {o : Oper} {a : Act} {w : World} {Q : Exit → Act → World → Prop}
/-- An operation whose guard lets it run. -/
theorem gate_want (hw : Region.wanted o (yielded ops a.tmps) = true) (h : wpList P ops Q ({ o with guard := none } :: rest) a w) : wpList P ops Q (o :: rest) a w := by
  unfold wpList at h ⊢
  rw [if_pos hw]
  rw [if_pos (by simp [Region.wanted])] at h
  exact h
end
section
variable {P : Program} {md : Region.Mode} {ops : Array Oper} {Q : Exit → Act → World → Prop} {S : World → Prop} {fuel : Nat} {listed : Array Bool} {a : Act} {w : World}
end
end Go.Proofs.YtoacnfofijikmaaGreatDoor
