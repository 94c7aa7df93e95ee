/- Texts of a proof, laid together: Src, Same, Sets2, Sets3, NetSets, NetM. -/
import Derived.Test.YtjkclggdaafmaaaZD02
import Derived.Test.YtjkclggdaafmaaaZD01
namespace Go.Proofs.Ytjkclggdaafmaaa
set_option linter.unusedSimpArgs false
set_option linter.unusedVariables false
open Go.RowKit
attribute [local go_sem] cell?_mk frozen?_mk

def oneB (x : Int) : List Value := [.int .u8 x]
theorem oneB_len (x : Int) : (oneB x).length = 1 := rfl
/-- What a source holds behind some draws. -/
def srcCells (A : Option Addr) (n c k : Nat) (sd : Int) : Array Value := #[.slice A n c, .int .i64 k, .int .u64 sd]
structure Bytes (bs : List Int) : Prop where
  byte : ∀ b ∈ bs, 0 ≤ b ∧ b ≤ 255
  len : bs.length ≤ 4096
theorem u64_nat (x : Int) : ∃ s : Nat, s < 18446744073709551616 ∧ IntKind.u64.wrap x = (s : Int) := by
  have h : IntKind.u64.wrap x = x % 18446744073709551616 := by
    unfold IntKind.wrap
    simp [IntKind.signed, IntKind.bits]
  exact ⟨(x % 18446744073709551616).toNat, by omega, by omega⟩
theorem seed_nat {w0 w : World} {L : List Ent} {i g : Nat} {t : TypeId} {cs : Array Value} {z : Int} (M : Mem w0 w (L.set i (.blk g t (cs.setIfInBounds 2 (.int .u64 (IntKind.u64.wrap z)))))) :
    ∃ s : Nat, s < 18446744073709551616 ∧ Mem w0 w (L.set i (.blk g t (cs.setIfInBounds 2 (.int .u64 s)))) := by
  obtain ⟨s, h1, h2⟩ := u64_nat z
  rw [h2] at M
  exact ⟨s, h1, M⟩
set_option maxRecDepth 100000 in
set_option maxHeartbeats 2000000 in
theorem next_any {w0 w : World} {L : List Ent} (i : Nat) (M0 : Mem w0 w L) (g : Nat) (A : Option Addr) (c : Nat) (bs : List Int) (hb : Bytes bs) (k : Nat) (hk : k ≤ 1099511627776) (sd : Int) (hL : L[i]? = some (.blk g 134 (srcCells A bs.length c k sd))) (hs : Sl w 1 A bs.length (flat oneB bs)) :
    Calls Try.prog 86 #[.pointer (some ⟨g, 0, none⟩)] w fun e w' => ∃ r sd', e = .returned (.int .i64 r) ∧ 0 ≤ r ∧ r ≤ 255 ∧ Mem w0 w' (L.set i (.blk g 134 (srcCells A bs.length c (k + 1) sd'))) := by
  have M := Lib.hid M0
  have HL := Lib.hid hL
  have HS := Lib.hid hs
  have HB := Lib.hid hb
  have hbl := hb.len
  have HSET := Lib.hid (fun (e : Ent) => show (L.set i e)[i]? = some e from List.getElem?_set_self (List.getElem?_eq_some_iff.1 hL).1)
  clear M0 hL hs hb
  have c0 := M.out.cell i HL.out (j := 0) (v := .slice A bs.length c) rfl
  have c1 := M.out.cell i HL.out (j := 1) (v := .int .i64 k) rfl
  have w1 : IntKind.i64.wrap ((k : Int) + 1) = (k : Int) + 1 := IntWalk.i64_in _ (by omega)
  by_cases hlt : k < bs.length
  · obtain ⟨b, off, rfl, hr⟩ := HS.out.2 (by omega)
    have hxk : bs[k]? = some bs[k] := List.getElem?_eq_getElem hlt
    have x0 : w.cell? ⟨b, off + k, none⟩ = some (.int .u8 bs[k]) := by simpa [oneB] using range_at oneB_len hr hxk 0 _ rfl
    have hbb := HB.out.byte _ (List.getElem_mem hlt)
    obtain ⟨y, hy⟩ : ∃ y, y = bs[k] := ⟨_, rfl⟩
    rw [← hy] at x0 hbb
    have i0 : (0 : Int) ≤ (k : Int) := by omega
    have i1 : (k : Int) < (bs.length : Int) := by omega
    clear hr hxk hy
    go_enter Try.func86, Try.ntmps86
    go_wp2_with fail
    go_quiet (fail)
    have M := Lib.hid (M.out.drewN nq)
    obtain ⟨wz, hwz⟩ : ∃ wz, wz = w.drewN nq := ⟨_, rfl⟩
    rw [← hwz] at M ⊢
    have x1 : wz.cell? ⟨b, off + k, none⟩ = some (.int .u8 y) := by rw [hwz]; exact x0
    clear hwz
    go_wp2
    have c2 := M.out.cell i HL.out (j := 0) (v := .slice (some ⟨b, off, none⟩) bs.length c) rfl
    have c3 := M.out.cell i HL.out (j := 1) (v := .int .i64 k) rfl
    go_quiet (fail)
    have M := Lib.hid (M.out.drewN nq)
    go_wp2_with (first
      | ((with_reducible refine gate_store (x := .tmp 31) rfl ?_); go_must (refine M.out.ev_put i _ _ _ rfl rfl HL.out rfl (.int .i64 ((k : Int) + 1)) rfl (show 1 < 3 by decide) sz3 rfl rfl ?_); intro w31 m; have M := Lib.hid m; clear m; have c5 := M.out.cell i (HSET.out _) (j := 2) (v := .int .u64 sd) rfl)
      | ((with_reducible refine gate_store (x := .tmp 43) rfl ?_); go_must (refine M.out.ev_put i _ _ _ rfl rfl (HSET.out _) rfl _ rfl (show 2 < 3 by decide) sz30 rfl rfl ?_); intro w43 m; rw [List.set_set] at m; have M := Lib.hid m; clear m; have c6 := M.out.cell i (HSET.out _) (j := 0) (v := .slice (some ⟨b, off, none⟩) bs.length c) rfl; have c7 := M.out.cell i (HSET.out _) (j := 1) (v := .int .i64 ((k : Int) + 1)) rfl)
      )
    go_quiet (fail)
    have M := Lib.hid (M.out.drewN nq)
    go_wp2
    go_ret
    exact ⟨_, _, rfl, hbb.1, hbb.2, M.out⟩
  · have i1 : ¬ ((k : Int) < (bs.length : Int)) := by omega
    have i2 : ¬ ((k : Int) + 1 ≤ (bs.length : Int)) := by omega
    go_enter Try.func86, Try.ntmps86
    go_wp2_with fail
    go_quiet (fail)
    have M := Lib.hid (M.out.drewN nq)
    obtain ⟨wz, hwz⟩ : ∃ wz, wz = w.drewN nq := ⟨_, rfl⟩
    rw [← hwz] at M ⊢
    clear hwz
    have c3 := M.out.cell i HL.out (j := 1) (v := .int .i64 k) rfl
    go_wp2_with (first
      | ((with_reducible refine gate_store (x := .tmp 31) rfl ?_); go_must (refine M.out.ev_put i _ _ _ rfl rfl HL.out rfl (.int .i64 ((k : Int) + 1)) rfl (show 1 < 3 by decide) sz3 rfl rfl ?_); intro w31 m; have M := Lib.hid m; clear m; have c5 := M.out.cell i (HSET.out _) (j := 2) (v := .int .u64 sd) rfl)
      | ((with_reducible refine gate_store (x := .tmp 43) rfl ?_); go_must (refine M.out.ev_put i _ _ _ rfl rfl (HSET.out _) rfl (.int .u64 _) rfl (show 2 < 3 by decide) sz30 rfl rfl ?_); intro w43 m; rw [List.set_set] at m; obtain ⟨s, hsl, m⟩ := seed_nat m; have M := Lib.hid m; clear m; have c6 := M.out.cell i (HSET.out _) (j := 0) (v := .slice A bs.length c) rfl; have c7 := M.out.cell i (HSET.out _) (j := 1) (v := .int .i64 ((k : Int) + 1)) rfl)
      )
    go_quiet (fail)
    have M := Lib.hid (M.out.drewN nq)
    obtain ⟨wy, hwy⟩ : ∃ wy, wy = w43.drewN nq := ⟨_, rfl⟩
    rw [← hwy] at M ⊢
    clear hwy
    have c8 := M.out.cell i (HSET.out _) (j := 2) (v := .int .u64 s) rfl
    obtain ⟨q, hq⟩ : ∃ q, q = s / 1099511627776 := ⟨_, rfl⟩
    have hqs : q < 18446744073709551616 := by omega
    have s2 : (s : Int).fdiv (2 ^ min (Int.toNat 40) IntKind.u64.bits) = (q : Int) := by
      rw [show min (Int.toNat 40) IntKind.u64.bits = 40 from rfl, show (2 : Int) ^ 40 = 1099511627776 from rfl, Int.fdiv_eq_ediv_of_nonneg _ (by omega)]
      omega
    have b1 : bits .and .u64 ((s : Int) / 1099511627776) 255 = ((q &&& 255 : Nat) : Int) := by
      rw [show (s : Int) / 1099511627776 = (q : Int) by omega]
      exact bits_and_u64_nat q 255 hqs (by decide)
    obtain ⟨r, hr⟩ : ∃ r, r = q &&& 255 := ⟨_, rfl⟩
    have hr2 : r ≤ 255 := by rw [hr]; exact Nat.and_le_right
    rw [← hr] at b1
    have w3 : IntKind.u64.wrap (q : Int) = (q : Int) := IntWalk.u64_in _ (by omega)
    have w4 : IntKind.u64.wrap (r : Int) = (r : Int) := IntWalk.u64_in _ (by omega)
    have B1 := Lib.hid b1
    clear hr hq
    go_wp2
    go_ret
    refine ⟨_, _, rfl, ?_, ?_, M.out⟩
    all_goals
      try rw [B1.out]
      try unfold wrap64
      omega
/-- What a draw leaves: the source, some draws on. -/
def Drew (w0 w' : World) (L : List Ent) (i g : Nat) (A : Option Addr) (n c k : Nat) : Prop := ∃ k' sd', k' ≤ k + 2 ∧ Mem w0 w' (L.set i (.blk g 134 (srcCells A n c k' sd')))
theorem set_id {α : Type} {L : List α} {i : Nat} {x : α} (h : L[i]? = some x) : L.set i x = L := by
  obtain ⟨h1, rfl⟩ := List.getElem?_eq_some_iff.1 h
  exact List.set_getElem_self h1
set_option maxRecDepth 100000 in
set_option maxHeartbeats 2000000 in
theorem pick_any {w0 w : World} {L : List Ent} (i : Nat) (M0 : Mem w0 w L) (g : Nat) (A : Option Addr) (c : Nat) (bs : List Int) (hb : Bytes bs) (k : Nat) (hk : k ≤ 1099511600000) (sd : Int) (hL : L[i]? = some (.blk g 134 (srcCells A bs.length c k sd))) (hs : Sl w 1 A bs.length (flat oneB bs)) (n : Int) (hn : n ≤ 200) :
    Calls Try.prog 54 #[.pointer (some ⟨g, 0, none⟩), .int .i64 n] w fun e w' => ∃ r, e = .returned (.int .i64 r) ∧ 0 ≤ r ∧ r < max 1 n ∧ Drew w0 w' L i g A bs.length c k := by
  have M := Lib.hid M0
  have HL := Lib.hid hL
  have NX := Lib.hid (next_any i M0 g A c bs hb k (by omega) sd hL hs)
  clear M0 hL hs
  by_cases hn1 : n ≤ 1
  · go_enter Try.func54, Try.ntmps54
    go_wp2
    go_ret
    exact ⟨0, rfl, by omega, by omega, k, sd, by omega, by rw [set_id HL.out]; exact M.out⟩
  · have hn2 : ¬ (200 < n) := by omega
    have hn0 : ¬ (n = 0) := by omega
    have q0 : (n == 0) = false := by rw [beq_eq_false_iff_ne]; exact hn0
    go_enter Try.func54, Try.ntmps54
    go_wp2_with (first
      | (go_at_call 86; go_must (refine NX.out.mono ?_); rintro e w_ ⟨r, sd1, rfl, hr0, hr1, m⟩; have M := Lib.hid m; clear m; have ht : r.tmod n = r % n := Int.tmod_eq_emod_of_nonneg hr0)
      )
    go_ret
    refine ⟨_, rfl, ?_, ?_, k + 1, sd1, by omega, M.out⟩
    · first
        | exact Int.emod_nonneg _ hn0
        | (rw [ht]; exact Int.emod_nonneg _ hn0)
    · have := Int.emod_lt_of_pos r (by omega : 0 < n)
      first
        | omega
        | (rw [ht]; omega)
set_option maxRecDepth 100000 in
set_option maxHeartbeats 2000000 in
theorem l00From_any (A : Option Addr) (n c : Nat) (w : World) :
    Calls Try.prog 52 #[.slice A n c] w fun e w' => ∃ g, e = .returned (.pointer (some ⟨g, 0, none⟩)) ∧ Mem w w' [.blk g 134 (srcCells A n c 0 0)] := by
  have M := Lib.hid (Mem.start w)
  go_enter Try.func52, Try.ntmps52
  go_wp2_with (first
    | ((with_reducible refine gate_dst (N := 5) rfl ?_); go_must (refine M.out.ev_new rfl (by first | (go_simp; done) | (go_simp; rfl)) ?_); intro g5 w5 m; simp only [List.cons_append, List.nil_append] at m; have M := Lib.hid m; clear m)
    )
  go_ret
  exact ⟨_, rfl, M.out⟩
end Go.Proofs.Ytjkclggdaafmaaa
namespace Go.Proofs.Ytjkclggdaafmaaa
set_option linter.unusedSimpArgs false
set_option linter.unusedVariables false
open Go.RowKit
attribute [local go_sem] cell?_mk frozen?_mk

set_option maxRecDepth 100000 in
set_option maxHeartbeats 1000000 in
theorem l00Same_any (A B : Option Addr) (c d : Nat) (ks : List Int) (w : World) (hl : ks.length ≤ 1048576) (hx : Sl w 1 A ks.length (flat oneI ks)) (hy : Sl w 1 B ks.length (flat oneI ks)) :
    Calls Try.prog 64 #[.slice A ks.length c, .slice B ks.length d] w fun e w' => e = .returned (.bool true) ∧ Mem w w' [] := by
  have M := Lib.hid (Mem.start w)
  have HX := Lib.hid hx
  have HY := Lib.hid hy
  clear hx hy
  go_enter Try.func64, Try.ntmps64
  go_wp2
  go_loopw [5] (fun v wr => ∃ k : Nat, k ≤ ks.length ∧ v = .int .i64 k ∧ Mem w wr [])
    (fun v _ => ks.length - (intOf v).toNat)
  case atStart => exact ⟨0, by omega, rfl, M.out⟩
  case round =>
    clear M
    obtain ⟨k, hk, rfl, m⟩ := hrel
    have M := Lib.hid m
    clear m
    by_cases hlt : k < ks.length
    · obtain ⟨b, off, rfl, hr⟩ := (M.out.sl HX.out).2 (by omega)
      obtain ⟨b2, off2, rfl, hr2⟩ := (M.out.sl HY.out).2 (by omega)
      have hxk : ks[k]? = some ks[k] := List.getElem?_eq_getElem hlt
      have x0 : wr.cell? ⟨b, off + k, none⟩ = some (.int .i64 ks[k]) := by simpa [oneI] using range_at oneI_len hr hxk 0 _ rfl
      have y0 : wr.cell? ⟨b2, off2 + k, none⟩ = some (.int .i64 ks[k]) := by simpa [oneI] using range_at oneI_len hr2 hxk 0 _ rfl
      have i0 : (0 : Int) ≤ (k : Int) := by omega
      have i1 : (k : Int) < (ks.length : Int) := by omega
      clear hr hr2 hxk
      go_wp2_with fail
      go_quiet (fail)
      have M := Lib.hid (M.out.drewN nq)
      go_wp2
      exact ⟨⟨k + 1, by omega, by go_num, M.out⟩, by simp [intOf]; omega⟩
    · obtain rfl : k = ks.length := by omega
      go_wp2
      go_ret
      exact ⟨rfl, M.out⟩
end Go.Proofs.Ytjkclggdaafmaaa
namespace Go.Proofs.Ytjkclggdaafmaaa
set_option linter.unusedSimpArgs false
set_option linter.unusedVariables false
open Go.RowKit
attribute [local go_sem] cell?_mk frozen?_mk

theorem and_bit (a n : Nat) (ha : a < 18446744073709551616) : bits .and .u64 ((a : Int) / 2 ^ n) 1 = if a.testBit n = true then 1 else 0 := by
  have h1 : ((a : Int) / 2 ^ n) = ((a / 2 ^ n : Nat) : Int) := by simp
  have h2 : a / 2 ^ n < 18446744073709551616 := Nat.lt_of_le_of_lt (Nat.div_le_self _ _) ha
  have h3 := bits_and_u64_nat (a / 2 ^ n) 1 h2 (by decide)
  rw [h1]
  rw [show ((1 : Nat) : Int) = 1 from rfl] at h3
  rw [h3, Nat.and_one_is_mod, Nat.testBit_eq_decide_div_mod_eq]
  generalize a / 2 ^ n = m
  by_cases h : m % 2 = 1
  · rw [h]; simp
  · have : m % 2 = 0 := by omega
    rw [this]; simp
def Cs.ks : List IntKind := [.u64, .u64]
theorem bounds_u64 {n : Int} (h : (Lit.int .u64 n).wf = true) : 0 ≤ n ∧ n ≤ 18446744073709551615 := by
  simpa [Lit.wf, IntKind.min, IntKind.max, IntKind.bits, IntKind.signed] using h
theorem Cs.of_conf (cs : List Value) (h : Conf Cs.ks cs) : ∃ c : Cs, c.ok ∧ c.vals = cs := by
  obtain ⟨a, r, rfl, w0, h⟩ := h.cons
  obtain ⟨b, r, rfl, w1, h⟩ := h.cons
  obtain rfl := h.nil_eq
  have h0 := bounds_u64 w0
  have h1 := bounds_u64 w1
  refine ⟨⟨a.toNat, b.toNat⟩, ⟨by show a.toNat < _; omega, by show b.toNat < _; omega⟩, ?_⟩
  show [Value.int .u64 (a.toNat : Int), Value.int .u64 (b.toNat : Int)] = _
  rw [Int.toNat_of_nonneg h0.1, Int.toNat_of_nonneg h1.1]
set_option maxRecDepth 100000 in
set_option maxHeartbeats 1000000 in
theorem HasCell_any (c : Cs) (hc : c.ok) (k : Nat) (hk : k < 100) (w : World) :
    Calls Try.prog 56 #[.agg c.cells, .int .i64 k] w fun e w' => e = .returned (.bool (c.has k)) ∧ Mem w w' [] := by
  have M := Lib.hid (Mem.start w)
  have i0 : (0 : Int) ≤ (k : Int) := by omega
  have v0 : IntKind.i64.wrap 0 = 0 := by decide
  have v1 : IntKind.i64.wrap 1 = 1 := by decide
  have hin : inB (k : Int) 0 99 = true := inB_iff.2 ⟨i0, by omega⟩
  have HIN := Lib.hid hin
  clear hin
  by_cases h : k < 64
  · have hq : (k : Int) / 64 = 0 := by omega
    have hr : (k : Int).tmod 64 = k := by rw [Int.tmod_eq_emod_of_nonneg i0]; omega
    have hm : min k 64 = k := by omega
    have hu : IntKind.u64.wrap (k : Int) = k := IntWalk.u64_in _ (by omega)
    have hb1 := and_bit c.lo k hc.l
    have hh : c.has k = c.lo.testBit k := by rw [Cs.has, if_pos h]
    have HH := Lib.hid hh
    clear hh h
    cases ht : c.lo.testBit k <;>
    · have HT := Lib.hid ht
      rw [ht] at hb1
      simp only [if_true, Bool.false_eq_true, if_false] at hb1
      clear ht
      go_enter Try.func56, Try.ntmps56
      go_wp2_with (first
        | ((with_reducible refine gate_dst (N := 2) rfl ?_); go_must (refine M.out.ev_new rfl (by first | (go_simp; done) | (go_simp; rfl)) ?_); intro g2 w2 m; simp only [List.cons_append, List.nil_append] at m; have M := Lib.hid m; clear m)
        | (go_at_call 42; go_must (refine (within_any _ _ _ _).mono ?_); rintro e w_ ⟨rfl, rfl⟩; rw [HIN.out]; have c0 := M.out.cell (j := 0) (v := .int .u64 c.lo) 0 rfl rfl)
        )
      go_ret
      exact ⟨ret_bool (by rw [HH.out, HT.out]), M.out.take 0⟩
  · obtain ⟨j, hj⟩ : ∃ j, k = 64 + j := ⟨k - 64, by omega⟩
    have hq : (k : Int) / 64 = 1 := by omega
    have hr : (k : Int).tmod 64 = (j : Int) := by rw [Int.tmod_eq_emod_of_nonneg i0]; omega
    have j0 : (0 : Int) ≤ (j : Int) := by omega
    have hm : min j 64 = j := by omega
    have hu : IntKind.u64.wrap (j : Int) = j := IntWalk.u64_in _ (by omega)
    have hb1 := and_bit c.hi j hc.h
    have hh : c.has k = c.hi.testBit j := by rw [Cs.has, if_neg h, hj, Nat.add_sub_cancel_left]
    have HH := Lib.hid hh
    clear hh h hj
    cases ht : c.hi.testBit j <;>
    · have HT := Lib.hid ht
      rw [ht] at hb1
      simp only [if_true, Bool.false_eq_true, if_false] at hb1
      clear ht
      go_enter Try.func56, Try.ntmps56
      go_wp2_with (first
        | ((with_reducible refine gate_dst (N := 2) rfl ?_); go_must (refine M.out.ev_new rfl (by first | (go_simp; done) | (go_simp; rfl)) ?_); intro g2 w2 m; simp only [List.cons_append, List.nil_append] at m; have M := Lib.hid m; clear m)
        | (go_at_call 42; go_must (refine (within_any _ _ _ _).mono ?_); rintro e w_ ⟨rfl, rfl⟩; rw [HIN.out]; have c0 := M.out.cell (j := 1) (v := .int .u64 c.hi) 0 rfl rfl)
        )
      go_ret
      exact ⟨ret_bool (by rw [HH.out, HT.out]), M.out.take 0⟩
set_option maxRecDepth 100000 in
set_option maxHeartbeats 1000000 in
theorem l01Has_any (b : Nat) {t : TypeId} (c : Cs) (hc : c.ok) (k : Nat) (hk : k < 100) (w : World) (hb : Blk w b t c.cells) :
    Calls Try.prog 71 #[.pointer (some ⟨b, 0, none⟩), .int .i64 k] w fun e w' => e = .returned (.bool (c.has k)) ∧ w = w' := by
  have i0 : (0 : Int) ≤ (k : Int) := by omega
  have v0 : IntKind.i64.wrap 0 = 0 := by decide
  have v1 : IntKind.i64.wrap 1 = 1 := by decide
  have hin : inB (k : Int) 0 99 = true := inB_iff.2 ⟨i0, by omega⟩
  have HIN := Lib.hid hin
  clear hin
  by_cases h : k < 64
  · have hq : (k : Int) / 64 = 0 := by omega
    have hr : (k : Int).tmod 64 = k := by rw [Int.tmod_eq_emod_of_nonneg i0]; omega
    have hm : min k 64 = k := by omega
    have hu : IntKind.u64.wrap (k : Int) = k := IntWalk.u64_in _ (by omega)
    have hb1 := and_bit c.lo k hc.l
    have hh : c.has k = c.lo.testBit k := by rw [Cs.has, if_pos h]
    have c0 := hb.cellv (i := 0) (v := .int .u64 c.lo) rfl
    have HH := Lib.hid hh
    clear hh h
    cases ht : c.lo.testBit k <;>
    · have HT := Lib.hid ht
      rw [ht] at hb1
      simp only [if_true, Bool.false_eq_true, if_false] at hb1
      clear ht
      go_enter Try.func71, Try.ntmps71
      go_wp2_with (first
        | (go_at_call 32; go_must (refine (l00In_any _ _ _ _).mono ?_); rintro e w_ ⟨rfl, rfl⟩; rw [HIN.out])
        )
      go_ret
      exact ⟨ret_bool (by rw [HH.out, HT.out]), rfl⟩
  · obtain ⟨j, hj⟩ : ∃ j, k = 64 + j := ⟨k - 64, by omega⟩
    have hq : (k : Int) / 64 = 1 := by omega
    have hr : (k : Int).tmod 64 = (j : Int) := by rw [Int.tmod_eq_emod_of_nonneg i0]; omega
    have j0 : (0 : Int) ≤ (j : Int) := by omega
    have hm : min j 64 = j := by omega
    have hu : IntKind.u64.wrap (j : Int) = j := IntWalk.u64_in _ (by omega)
    have hb1 := and_bit c.hi j hc.h
    have hh : c.has k = c.hi.testBit j := by rw [Cs.has, if_neg h, hj, Nat.add_sub_cancel_left]
    have c0 := hb.cellv (i := 1) (v := .int .u64 c.hi) rfl
    have HH := Lib.hid hh
    clear hh h hj
    cases ht : c.hi.testBit j <;>
    · have HT := Lib.hid ht
      rw [ht] at hb1
      simp only [if_true, Bool.false_eq_true, if_false] at hb1
      clear ht
      go_enter Try.func71, Try.ntmps71
      go_wp2_with (first
        | (go_at_call 32; go_must (refine (l00In_any _ _ _ _).mono ?_); rintro e w_ ⟨rfl, rfl⟩; rw [HIN.out])
        )
      go_ret
      exact ⟨ret_bool (by rw [HH.out, HT.out]), rfl⟩
def Cs.cut (c : Cs) : Cs := ⟨c.lo, c.hi &&& 68719476735⟩
def Cs.both (a b : Cs) : Cs := Cs.cut ⟨a.lo &&& b.lo, a.hi &&& b.hi⟩
theorem and64 {a b : Nat} (ha : a < 18446744073709551616) : a &&& b < 18446744073709551616 := Nat.lt_of_le_of_lt Nat.and_le_left ha
theorem Cs.cut_ok {c : Cs} (h : c.ok) : c.cut.ok := ⟨h.l, and64 h.h⟩
theorem Cs.both_ok {a b : Cs} (h : a.ok) : (a.both b).ok := Cs.cut_ok ⟨and64 h.l, and64 h.h⟩
theorem Cs.cut_has (c : Cs) {k : Nat} (hk : k < 100) : c.cut.has k = c.has k := by
  unfold Cs.has Cs.cut
  split
  · rfl
  · rw [Nat.testBit_and, show (68719476735 : Nat) = 2 ^ 36 - 1 by decide, Nat.testBit_two_pow_sub_one, decide_eq_true (by omega), Bool.and_true]
theorem Cs.both_has (a b : Cs) {k : Nat} (hk : k < 100) : (a.both b).has k = (a.has k && b.has k) := by
  rw [Cs.both, Cs.cut_has _ hk]
  unfold Cs.has
  split
  · rw [Nat.testBit_and]
  · rw [Nat.testBit_and]
theorem Cs.put_has (c : Cs) (n : Nat) {k : Nat} : (c.put n).has k = (c.has k || decide (n = k)) := by
  unfold Cs.put Cs.has
  by_cases h1 : n < 64 <;> by_cases h2 : k < 64
  · rw [if_pos h1, if_pos h2, if_pos h2, Nat.testBit_or, Nat.testBit_two_pow]
  · rw [if_pos h1, if_neg h2, if_neg h2, decide_eq_false (by omega), Bool.or_false]
  · rw [if_neg h1, if_pos h2, if_pos h2, decide_eq_false (by omega), Bool.or_false]
  · rw [if_neg h1, if_neg h2, if_neg h2, Nat.testBit_or, Nat.testBit_two_pow]
    congr 1
    apply decide_eq_decide.2
    omega
theorem setOf_has (ks : List Nat) (k : Nat) : (setOf ks).has k = ks.contains k := by
  have key : ∀ (ks : List Nat) (c : Cs), (ks.foldl Cs.put c).has k = (c.has k || ks.contains k) := by
    intro ks
    induction ks with
    | nil => intro c; simp
    | cons n r ih =>
      intro c
      rw [List.foldl_cons, ih, Cs.put_has, List.contains_cons, Bool.or_assoc]
      congr 2
      simp [eq_comm, Bool.beq_eq_decide_eq]
  rw [setOf, key]
  have : Cs.z.has k = false := by unfold Cs.has Cs.z; split <;> simp
  rw [this, Bool.false_or]
set_option maxRecDepth 100000 in
set_option maxHeartbeats 1000000 in
theorem cut_any (c : Cs) (hc : c.ok) (w : World) :
    Calls Try.prog 49 #[.agg c.cells] w fun e w' => e = .returned (.agg c.cut.cells) ∧ Mem w w' [] := by
  have M := Lib.hid (Mem.start w)
  have hb1 := bits_and_u64_nat c.hi 68719476735 hc.h (by decide)
  have O1 := Lib.hid (Cs.one c.cut)
  have q0 : c.cells[0]? = some (.int .u64 c.lo) := rfl
  have q1 : c.cells[1]? = some (.int .u64 c.hi) := rfl
  rw [show ((68719476735 : Nat) : Int) = 68719476735 from rfl] at hb1
  go_enter Try.func49, Try.ntmps49
  go_wp2_with (first
    | ((with_reducible refine gate_dst (N := 1) rfl ?_); go_must (refine M.out.ev_new rfl (by first | (go_simp; done) | (go_simp; rfl)) ?_); intro g1 w1 m; simp only [List.cons_append, List.nil_append] at m; have M := Lib.hid m; clear m)
    | ((with_reducible refine gate_dst (N := 2) rfl ?_); go_must (refine M.out.ev_new rfl (by first | (go_simp; done) | (go_simp; rfl)) ?_); intro g2 w2 m; simp only [List.cons_append, List.nil_append] at m; have M := Lib.hid m; clear m)
    | ((with_reducible refine gate_dst (N := 4) rfl ?_); go_must (refine M.out.ev_ld 0 _ _ rfl rfl rfl Try.underlying30 rfl rfl (by first | assumption | rfl) ?_))
    | ((with_reducible refine gate_dst (N := 6) rfl ?_); go_must (refine M.out.ev_ld 0 _ _ rfl rfl rfl Try.underlying30 rfl rfl (by first | assumption | rfl) ?_))
    | ((with_reducible refine gate_store (x := .tmp 2) rfl ?_); go_must (refine M.out.ev_stw 1 _ _ _ rfl rfl rfl rfl _ rfl (by first | rfl | (simp only [S1.out]; rfl) | (simp only [S1.out, S2.out]; rfl) | (simp only [S3.out]; rfl) | (simp only [S1.out, S2.out, S3.out]; rfl)) (by first | exact sz39 | (rw [S1.out]; exact sz39) | (rw [S2.out]; exact sz39) | (rw [S3.out]; exact sz39)) (by first | exact ints_one _ _ | exact Fld.one _ | exact O1.out | rfl | (simp [Value.oneCell']; done)) rfl ?_); intro wn m; simp only [List.set_cons_succ, List.set_cons_zero, List.setIfInBounds_toArray] at m; have M := Lib.hid m; clear m)
    )
  exact ret_cell rfl (M.out.blk 1 rfl) Try.underlying39 rfl sz39 rfl ⟨rfl, M.out.take 0⟩
set_option maxRecDepth 100000 in
set_option maxHeartbeats 1000000 in
theorem BothOf_any (a b : Cs) (ha : a.ok) (hb : b.ok) (w : World) :
    Calls Try.prog 78 #[.agg a.cells, .agg b.cells] w fun e w' => e = .returned (.agg (a.both b).cells) ∧ Mem w w' [] := by
  have M := Lib.hid (Mem.start w)
  have hb1 := bits_and_u64_nat a.lo b.lo ha.l hb.l
  have hb2 := bits_and_u64_nat a.hi b.hi ha.h hb.h
  have O1 := Lib.hid (Cs.one (a.both b))
  have q0 : a.cells[0]? = some (.int .u64 a.lo) := rfl
  have q1 : a.cells[1]? = some (.int .u64 a.hi) := rfl
  have q2 : b.cells[0]? = some (.int .u64 b.lo) := rfl
  have q3 : b.cells[1]? = some (.int .u64 b.hi) := rfl
  have CU := Lib.hid (fun w => cut_any ⟨a.lo &&& b.lo, a.hi &&& b.hi⟩ ⟨and64 ha.l, and64 ha.h⟩ w)
  go_enter Try.func78, Try.ntmps78
  go_wp2_with (first
    | ((with_reducible refine gate_dst (N := 2) rfl ?_); go_must (refine M.out.ev_new rfl (by first | (go_simp; done) | (go_simp; rfl)) ?_); intro g2 w2 m; simp only [List.cons_append, List.nil_append] at m; have M := Lib.hid m; clear m)
    | ((with_reducible refine gate_dst (N := 3) rfl ?_); go_must (refine M.out.ev_new rfl (by first | (go_simp; done) | (go_simp; rfl)) ?_); intro g3 w3 m; simp only [List.cons_append, List.nil_append] at m; have M := Lib.hid m; clear m)
    | ((with_reducible refine gate_dst (N := 4) rfl ?_); go_must (refine M.out.ev_new rfl (by first | (go_simp; done) | (go_simp; rfl)) ?_); intro g4 w4 m; simp only [List.cons_append, List.nil_append] at m; have M := Lib.hid m; clear m)
    | ((with_reducible refine gate_dst (N := 6) rfl ?_); go_must (refine M.out.ev_ld 0 _ _ rfl rfl rfl Try.underlying30 rfl rfl (by first | assumption | rfl) ?_))
    | ((with_reducible refine gate_dst (N := 8) rfl ?_); go_must (refine M.out.ev_ld 1 _ _ rfl rfl rfl Try.underlying30 rfl rfl (by first | assumption | rfl) ?_))
    | ((with_reducible refine gate_dst (N := 11) rfl ?_); go_must (refine M.out.ev_ld 0 _ _ rfl rfl rfl Try.underlying30 rfl rfl (by first | assumption | rfl) ?_))
    | ((with_reducible refine gate_dst (N := 13) rfl ?_); go_must (refine M.out.ev_ld 1 _ _ rfl rfl rfl Try.underlying30 rfl rfl (by first | assumption | rfl) ?_))
    | ((with_reducible refine gate_store (x := .tmp 4) rfl ?_); go_must (refine M.out.ev_stw 2 _ _ _ rfl rfl rfl rfl _ rfl (by first | rfl | (simp only [S1.out]; rfl) | (simp only [S1.out, S2.out]; rfl) | (simp only [S3.out]; rfl) | (simp only [S1.out, S2.out, S3.out]; rfl)) (by first | exact sz39 | (rw [S1.out]; exact sz39) | (rw [S2.out]; exact sz39) | (rw [S3.out]; exact sz39)) (by first | exact ints_one _ _ | exact Fld.one _ | exact O1.out | rfl | (simp [Value.oneCell']; done)) rfl ?_); intro wn m; simp only [List.set_cons_succ, List.set_cons_zero, List.setIfInBounds_toArray] at m; have M := Lib.hid m; clear m)
    | (go_at_call 49; go_must (refine (CU.out _).mono ?_); rintro e w_ ⟨rfl, N_⟩; have m := M.out.join N_; clear N_; simp only [List.cons_append, List.nil_append, List.append_nil] at m; have M := Lib.hid m; clear m)
    )
  exact ret_cell rfl (M.out.blk 2 rfl) Try.underlying39 rfl sz39 rfl ⟨rfl, M.out.take 0⟩
/-- The numbers of a set below a number. -/
def Cs.below (c : Cs) (n : Nat) : List Nat := (List.range n).filter c.has
def Cs.all (c : Cs) : List Nat := c.below 100
theorem Cs.below_succ (c : Cs) (n : Nat) : c.below (n + 1) = c.below n ++ if c.has n then [n] else [] := by
  simp only [Cs.below, List.range_succ, List.filter_append]
  congr 1
  cases h : c.has n <;> simp [h]
theorem Cs.below_len (c : Cs) (n : Nat) : (c.below n).length ≤ n := by
  have := List.length_filter_le c.has (List.range n)
  rwa [List.length_range] at this
set_option maxRecDepth 100000 in
set_option maxHeartbeats 1000000 in
theorem ListOf_any (c : Cs) (hc : c.ok) (w : World) :
    Calls Try.prog 44 #[.agg c.cells] w (RetRow w 2 1 c.all.length (flat one64 c.all)) := by
  have M := Lib.hid (Mem.start w)
  go_enter Try.func44, Try.ntmps44
  go_wp2_with (first
    | ((with_reducible refine gate_dst (N := 1) rfl ?_); go_must (refine M.out.ev_new rfl (by first | (go_simp; done) | (go_simp; rfl)) ?_); intro g1 w1 m; simp only [List.cons_append, List.nil_append] at m; have M := Lib.hid m; clear m)
    | ((with_reducible refine gate_dst (N := 9) rfl ?_); go_must (refine M.out.ev_ldw 0 _ _ rfl rfl rfl Try.underlying39 rfl (by first | exact sz39 | (rw [S1.out]; exact sz39) | (rw [S2.out]; exact sz39) | (rw [S3.out]; exact sz39)) rfl ?_))
    | ((with_reducible refine gate_dst (N := 5) rfl ?_); go_must (refine M.out.ev_bs0 elem_int64 rfl rfl ?_); intro g5 w5 m; simp only [List.cons_append, List.nil_append] at m; have M := Lib.hid m; clear m)
    )
  go_loopw [3, 6] (fun s v wr => ∃ k : Nat, k ≤ 100 ∧ v = .int .i64 k ∧ Mem w wr [.blk g1 39 c.cells, .row s 2 1 (c.below k).length (flat one64 (c.below k))])
    (fun _ v _ => 100 - (intOf v).toNat)
  case atStart => exact ⟨0, by omega, rfl, M.out⟩
  case round =>
    clear M
    obtain ⟨k, hk, rfl, m⟩ := hrel
    have M := Lib.hid m
    clear m
    by_cases hlt : k < 100
    · have hkl := c.below_len k
      cases hq : c.has k
      · have HQ := Lib.hid hq
        clear hq
        go_wp2_with (first
          | ((with_reducible refine gate_dst (N := 1) rfl ?_); go_must (refine M.out.ev_new rfl (by first | (go_simp; done) | (go_simp; rfl)) ?_); intro g1 w1 m; simp only [List.cons_append, List.nil_append] at m; have M := Lib.hid m; clear m)
          | ((with_reducible refine gate_dst (N := 9) rfl ?_); go_must (refine M.out.ev_ldw 0 _ _ rfl rfl rfl Try.underlying39 rfl (by first | exact sz39 | (rw [S1.out]; exact sz39) | (rw [S2.out]; exact sz39) | (rw [S3.out]; exact sz39)) rfl ?_))
          | (go_at_call 56; go_must (refine (HasCell_any c hc k hlt _).mono ?_); rintro e w_ ⟨rfl, N_⟩; have m := M.out.join N_; clear N_; simp only [List.cons_append, List.nil_append, List.append_nil] at m; have M := Lib.hid m; clear m; rw [HQ.out])
          )
        refine ⟨⟨k + 1, by omega, by go_num, ?_⟩, by simp [intOf]; omega⟩
        rw [c.below_succ, HQ.out]
        simpa using M.out
      · have HQ := Lib.hid hq
        clear hq
        go_wp2_with (first
          | ((with_reducible refine gate_dst (N := 1) rfl ?_); go_must (refine M.out.ev_new rfl (by first | (go_simp; done) | (go_simp; rfl)) ?_); intro g1 w1 m; simp only [List.cons_append, List.nil_append] at m; have M := Lib.hid m; clear m)
          | ((with_reducible refine gate_dst (N := 9) rfl ?_); go_must (refine M.out.ev_ldw 0 _ _ rfl rfl rfl Try.underlying39 rfl (by first | exact sz39 | (rw [S1.out]; exact sz39) | (rw [S2.out]; exact sz39) | (rw [S3.out]; exact sz39)) rfl ?_))
          | (go_at_call 56; go_must (refine (HasCell_any c hc k hlt _).mono ?_); rintro e w_ ⟨rfl, N_⟩; have m := M.out.join N_; clear N_; simp only [List.cons_append, List.nil_append, List.append_nil] at m; have M := Lib.hid m; clear m; rw [HQ.out])
          | ((with_reducible refine gate_dst (N := 14) rfl ?_); go_must (refine M.out.ev_bs1 elem_int64 rfl _ rfl #[.int .i64 k] rfl rfl (by decide) ?_); intro g14 w14 m; simp only [List.cons_append, List.nil_append] at m; have M := Lib.hid m; clear m)
          | ((with_reducible refine gate_dst (N := 15) rfl ?_); go_must (refine M.out.ev_append1 1 2 elem_int64 rfl _ _ rfl rfl rfl rfl rfl rfl (by simp [Value.oneCell']) (by omega) (by decide) ?_); intro v15 w15 m; simp only [List.set_cons_succ, List.set_cons_zero] at m; have M := Lib.hid m; clear m)
          )
        refine ⟨⟨k + 1, by omega, by go_num, ?_⟩, by simp [intOf]; omega⟩
        have m := M.out.take 2
        rw [c.below_succ, HQ.out]
        simpa [flat_append, flat, one64, nat64] using m
    · obtain rfl : k = 100 := by omega
      go_wp2
      obtain ⟨A, cc, rfl, hcc, _⟩ := M.out.row_slice 1 rfl
      go_ret
      exact ⟨A, cc, rfl, hcc, M.out.only [1] (K := [_]) rfl (by decide)⟩
end Go.Proofs.Ytjkclggdaafmaaa
namespace Go.Proofs.Ytjkclggdaafmaaa
set_option linter.unusedSimpArgs false
set_option linter.unusedVariables false
open Go.RowKit
attribute [local go_sem] cell?_mk frozen?_mk

def andn (a b : Nat) : Nat := (BitVec.ofNat 64 a &&& ~~~BitVec.ofNat 64 b).toNat
theorem andn_lt (a b : Nat) : andn a b < 18446744073709551616 := (BitVec.ofNat 64 a &&& ~~~BitVec.ofNat 64 b).isLt
theorem andn_bit (a b : Nat) {i : Nat} (h : i < 64) : (andn a b).testBit i = (a.testBit i && !b.testBit i) := by
  rw [andn, BitVec.testBit_toNat, BitVec.getLsbD_and, BitVec.getLsbD_not, BitVec.getLsbD_ofNat, BitVec.getLsbD_ofNat]
  simp only [h, decide_true, Bool.true_and]
theorem bits_andn (a b : Nat) : bits .andNot .u64 (a : Int) (b : Int) = (andn a b : Int) := by
  have h := andn_lt a b
  show IntKind.u64.wrap ((BitVec.ofInt 64 (a : Int) &&& ~~~BitVec.ofInt 64 (b : Int)).toNat : Int) = _
  rw [BitVec.ofInt_natCast, BitVec.ofInt_natCast]
  show IntKind.u64.wrap ((andn a b : Nat) : Int) = _
  rw [IntKind.wrap_u64]
  omega
def Cs.without (a b : Cs) : Cs := Cs.cut ⟨andn a.lo b.lo, andn a.hi b.hi⟩
theorem Cs.without_ok (a b : Cs) : (a.without b).ok := Cs.cut_ok ⟨andn_lt _ _, andn_lt _ _⟩
theorem Cs.without_has (a b : Cs) {k : Nat} (hk : k < 100) : (a.without b).has k = (a.has k && !b.has k) := by
  rw [Cs.without, Cs.cut_has _ hk]
  unfold Cs.has
  split
  · rename_i h; rw [andn_bit _ _ h]
  · rw [andn_bit _ _ (by omega)]
theorem Cs.ext_has {a b : Cs} (ha : a.ok) (hb : b.ok) (h : ∀ k, k < 128 → a.has k = b.has k) : a = b := by
  have hi : ∀ {x : Nat} {i : Nat}, x < 18446744073709551616 → 64 ≤ i → x.testBit i = false := fun {x i} hx h64 =>
    Nat.testBit_lt_two_pow (Nat.lt_of_lt_of_le hx (Nat.pow_le_pow_right (n := 2) (by omega) h64))
  have h1 : a.lo = b.lo := Nat.eq_of_testBit_eq fun i => by
    rcases Nat.lt_or_ge i 64 with h64 | h64
    · have := h i (by omega)
      simpa [Cs.has, h64] using this
    · rw [hi ha.l h64, hi hb.l h64]
  have h2 : a.hi = b.hi := Nat.eq_of_testBit_eq fun i => by
    rcases Nat.lt_or_ge i 64 with h64 | h64
    · have := h (64 + i) (by omega)
      simpa [Cs.has, show ¬ (64 + i < 64) by omega] using this
    · rw [hi ha.h h64, hi hb.h h64]
  cases a
  cases b
  simp only at h1 h2
  rw [h1, h2]
theorem Cs.cut_small (c : Cs) {k : Nat} (h1 : 100 ≤ k) (h2 : k < 128) : c.cut.has k = false := by
  unfold Cs.has Cs.cut
  rw [if_neg (by omega), Nat.testBit_and, show (68719476735 : Nat) = 2 ^ 36 - 1 by decide, Nat.testBit_two_pow_sub_one, decide_eq_false (by omega), Bool.and_false]
theorem setOf_small {ks : List Nat} (h : ∀ k ∈ ks, k < 100) {k : Nat} (h1 : 100 ≤ k) : (setOf ks).has k = false := by
  rw [setOf_has, ← Bool.not_eq_true, List.contains_iff_mem]
  intro hk
  have := h k hk
  omega
end Go.Proofs.Ytjkclggdaafmaaa
namespace Go.Proofs.Ytjkclggdaafmaaa
set_option linter.unusedSimpArgs false
set_option linter.unusedVariables false
open Go.RowKit

/-- The cells below 100 for which something holds. -/
def pset (p : Nat → Bool) : Cs := setOf ((List.range 100).filter p)
theorem pset_ok (p : Nat → Bool) : (pset p).ok := setOf_ok _ fun k hk => by
  have := List.mem_range.1 (List.mem_filter.1 hk).1
  omega
theorem pset_has (p : Nat → Bool) {k : Nat} (hk : k < 100) : (pset p).has k = p k := by
  rw [pset, setOf_has, Bool.eq_iff_iff, List.contains_iff_mem, List.mem_filter, List.mem_range]
  exact ⟨fun h => h.2, fun h => ⟨hk, h⟩⟩
theorem pset_small (p : Nat → Bool) {k : Nat} (h1 : 100 ≤ k) : (pset p).has k = false :=
  setOf_small (fun j hj => List.mem_range.1 (List.mem_filter.1 hj).1) h1
/-- A set with no cells beyond 99 is told by its cells. -/
theorem pset_of {c : Cs} (hc : c.ok) (hs : ∀ k, 100 ≤ k → k < 128 → c.has k = false) {p : Nat → Bool} (h : ∀ k, k < 100 → c.has k = p k) : c = pset p :=
  Cs.ext_has hc (pset_ok p) fun k hk => by
    rcases Nat.lt_or_ge k 100 with h1 | h1
    · rw [h k h1, pset_has p h1]
    · rw [hs k h1 hk, pset_small p h1]
theorem pset_congr {p q : Nat → Bool} (h : ∀ k, k < 100 → p k = q k) : pset p = pset q :=
  pset_of (pset_ok p) (fun k h1 _ => pset_small p h1) fun k hk => by rw [pset_has p hk, h k hk]
theorem pset_false : pset (fun _ => false) = Cs.z := by
  unfold pset
  rw [List.filter_eq_nil_iff.2 (fun _ _ => by simp)]
  rfl
theorem pset_z {p : Nat → Bool} : pset p = Cs.z ↔ ∀ k, k < 100 → p k = false := by
  constructor
  · intro h k hk
    rw [← pset_has p hk, h]
    unfold Cs.has Cs.z
    split <;> simp
  · intro h
    rw [pset_congr (q := fun _ => false) h, pset_false]
def Cs.or (a b : Cs) : Cs := ⟨a.lo ||| b.lo, a.hi ||| b.hi⟩
def Cs.and (a b : Cs) : Cs := ⟨a.lo &&& b.lo, a.hi &&& b.hi⟩
def Cs.less (a b : Cs) : Cs := ⟨andn a.lo b.lo, andn a.hi b.hi⟩
theorem Cs.and_ok {a b : Cs} (ha : a.ok) : (a.and b).ok := ⟨and64 ha.l, and64 ha.h⟩
theorem Cs.less_ok (a b : Cs) : (a.less b).ok := ⟨andn_lt _ _, andn_lt _ _⟩
theorem Cs.and_has (a b : Cs) (k : Nat) : (a.and b).has k = (a.has k && b.has k) := by
  unfold Cs.has Cs.and
  split <;> rw [Nat.testBit_and]
theorem Cs.less_has (a b : Cs) {k : Nat} (hk : k < 128) : (a.less b).has k = (a.has k && !b.has k) := by
  unfold Cs.has Cs.less
  split
  · rename_i h; exact andn_bit _ _ h
  · exact andn_bit _ _ (by omega)
theorem pset_cut (p : Nat → Bool) : (pset p).cut = pset p :=
  pset_of (Cs.cut_ok (pset_ok p)) (fun k h1 h2 => Cs.cut_small _ h1 h2) fun k hk => by rw [Cs.cut_has _ hk, pset_has p hk]
theorem pset_and (p : Nat → Bool) (c : Cs) : (pset p).and c = pset fun k => p k && c.has k :=
  pset_of (Cs.and_ok (pset_ok p)) (fun k h1 _ => by rw [Cs.and_has, pset_small p h1]; rfl) fun k hk => by rw [Cs.and_has, pset_has p hk]
theorem pset_both (p : Nat → Bool) (c : Cs) : (pset p).both c = pset fun k => p k && c.has k := by
  show ((pset p).and c).cut = _
  rw [pset_and, pset_cut]
/-- A net as all its numbers must be. -/
def Net.plain (n : Net) : Bool := inB n.x 0 9 && (inB n.y 0 9 && (inB n.wide 1 10 && inB n.high 1 10))
theorem Net.plain_iff {n : Net} : n.plain = true ↔ (0 ≤ n.x ∧ n.x ≤ 9) ∧ (0 ≤ n.y ∧ n.y ≤ 9) ∧ (1 ≤ n.wide ∧ n.wide ≤ 10) ∧ (1 ≤ n.high ∧ n.high ≤ 10) := by
  simp only [Net.plain, Bool.and_eq_true, inB_iff]
def Net.inside (n : Net) (k : Nat) : Bool := inB ((k : Int) % 10) n.x (n.x + n.wide - 1) && inB ((k : Int) / 10) n.y (n.y + n.high - 1)
def netSet (n : Net) : Cs := pset n.inside
/-- Whether a net is within a field, and no tree under it. -/
def Net.fits (F : Fld) (n : Net) : Bool := n.plain && (decide (n.x + n.wide ≤ F.wide) && (decide (n.y + n.high ≤ F.high) && (List.range 100).all fun k => !(n.inside k && (F.kind k == 3))))
theorem Net.fits_plain {F : Fld} {n : Net} (h : n.fits F = true) : n.plain = true := by
  rw [Net.fits, Bool.and_eq_true] at h
  exact h.1
theorem Net.inside_has {F : Fld} {n : Net} (hp : n.plain = true) (h1 : n.x + n.wide ≤ F.wide) (h2 : n.y + n.high ≤ F.high) {k : Nat} (hk : k < 100) (h : n.inside k = true) : F.has k = true := by
  obtain ⟨⟨a0, a1⟩, ⟨b0, b1⟩, _, _⟩ := Net.plain_iff.1 hp
  rw [Net.inside, Bool.and_eq_true, inB_iff, inB_iff] at h
  exact Fld.has_iff.2 ⟨by omega, by omega, by omega⟩
def netsOk (F : Fld) (xs : List Net) : Bool := F.valid && xs.all (·.fits F)
/-- What nets cover, and cover twice. -/
def covP (xs : List Net) (k : Nat) : Bool := decide (1 ≤ xs.countP (·.inside k))
def twP (xs : List Net) (k : Nat) : Bool := decide (2 ≤ xs.countP (·.inside k))
end Go.Proofs.Ytjkclggdaafmaaa
namespace Go.Proofs.Ytjkclggdaafmaaa
set_option linter.unusedSimpArgs false
set_option linter.unusedVariables false
open Go.RowKit
attribute [local go_sem] cell?_mk frozen?_mk

theorem Net.ones (x : Net) : ∀ v ∈ x.vals, v.oneCell' = true := by
  intro v hv
  simp only [Net.vals, List.mem_cons, List.not_mem_nil, or_false] at hv
  rcases hv with rfl | rfl | rfl | rfl <;> rfl
def markNet (k : Int) (i : Nat) : Net := ⟨IntKind.i8.wrap (k + 4 * i), IntKind.i8.wrap (k + 4 * i + 1), IntKind.i8.wrap (k + 4 * i + 1 + 1), IntKind.i8.wrap (k + 4 * i + 1 + 1 + 1)⟩
def marksNet (k : Int) (n : Nat) : List Net := (List.range n).map (markNet k)
def mixNet (k : Int) (xs : List Net) (i : Nat) : List Net := (List.range i).map (markNet k) ++ xs.drop i
end Go.Proofs.Ytjkclggdaafmaaa
