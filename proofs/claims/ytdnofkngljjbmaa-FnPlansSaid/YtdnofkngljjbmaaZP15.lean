/- Texts of a proof, laid together: Sets3, Ones, Held3. -/
import Derived.Test.YtdnofkngljjbmaaZP14
import Derived.Test.YtdnofkngljjbmaaZP10
namespace Go.Proofs.Ytdnofkngljjbmaa
set_option linter.unusedSimpArgs false
set_option linter.unusedVariables false
open Go.RowKit
attribute [local go_sem] cell?_mk frozen?_mk

def andn (a b : Nat) : Nat := (BitVec.ofNat 64 a &&& ~~~BitVec.ofNat 64 b).toNat
theorem andn_lt (a b : Nat) : andn a b < 18446744073709551616 := (BitVec.ofNat 64 a &&& ~~~BitVec.ofNat 64 b).isLt
theorem andn_bit (a b : Nat) {i : Nat} (h : i < 64) : (andn a b).testBit i = (a.testBit i && !b.testBit i) := by
  rw [andn, BitVec.testBit_toNat, BitVec.getLsbD_and, BitVec.getLsbD_not, BitVec.getLsbD_ofNat, BitVec.getLsbD_ofNat]
  simp only [h, decide_true, Bool.true_and]
theorem bits_andn (a b : Nat) : bits .andNot .u64 (a : Int) (b : Int) = (andn a b : Int) := by
  have h := andn_lt a b
  show IntKind.u64.wrap ((BitVec.ofInt 64 (a : Int) &&& ~~~BitVec.ofInt 64 (b : Int)).toNat : Int) = _
  rw [BitVec.ofInt_natCast, BitVec.ofInt_natCast]
  show IntKind.u64.wrap ((andn a b : Nat) : Int) = _
  rw [IntKind.wrap_u64]
  omega
def Cs.without (a b : Cs) : Cs := Cs.cut ⟨andn a.lo b.lo, andn a.hi b.hi⟩
theorem Cs.without_ok (a b : Cs) : (a.without b).ok := Cs.cut_ok ⟨andn_lt _ _, andn_lt _ _⟩
theorem Cs.without_has (a b : Cs) {k : Nat} (hk : k < 100) : (a.without b).has k = (a.has k && !b.has k) := by
  rw [Cs.without, Cs.cut_has _ hk]
  unfold Cs.has
  split
  · rename_i h; rw [andn_bit _ _ h]
  · rw [andn_bit _ _ (by omega)]
set_option maxRecDepth 100000 in
set_option maxHeartbeats 1000000 in
theorem WithoutOf_any (a b : Cs) (w : World) :
    Calls Try.prog 138 #[.agg a.cells, .agg b.cells] w fun e w' => e = .returned (.agg (a.without b).cells) ∧ Mem w w' [] := by
  have M := Lib.hid (Mem.start w)
  have hb1 := bits_andn a.lo b.lo
  have hb2 := bits_andn a.hi b.hi
  have O1 := Lib.hid (Cs.one (a.without b))
  have q0 : a.cells[0]? = some (.int .u64 a.lo) := rfl
  have q1 : a.cells[1]? = some (.int .u64 a.hi) := rfl
  have q2 : b.cells[0]? = some (.int .u64 b.lo) := rfl
  have q3 : b.cells[1]? = some (.int .u64 b.hi) := rfl
  have CU := Lib.hid (fun w => cut_any ⟨andn a.lo b.lo, andn a.hi b.hi⟩ ⟨andn_lt _ _, andn_lt _ _⟩ w)
  go_enter Try.func138, Try.ntmps138
  go_wp2_with (first
    | ((with_reducible refine gate_dst (N := 2) rfl ?_); go_must (refine M.out.ev_new rfl (by first | (go_simp; done) | (go_simp; rfl)) ?_); intro g2 w2 m; simp only [List.cons_append, List.nil_append] at m; have M := Lib.hid m; clear m)
    | ((with_reducible refine gate_dst (N := 3) rfl ?_); go_must (refine M.out.ev_new rfl (by first | (go_simp; done) | (go_simp; rfl)) ?_); intro g3 w3 m; simp only [List.cons_append, List.nil_append] at m; have M := Lib.hid m; clear m)
    | ((with_reducible refine gate_dst (N := 4) rfl ?_); go_must (refine M.out.ev_new rfl (by first | (go_simp; done) | (go_simp; rfl)) ?_); intro g4 w4 m; simp only [List.cons_append, List.nil_append] at m; have M := Lib.hid m; clear m)
    | ((with_reducible refine gate_dst (N := 6) rfl ?_); go_must (refine M.out.ev_ld 0 _ _ rfl rfl rfl Try.underlying54 rfl rfl (by first | assumption | rfl) ?_))
    | ((with_reducible refine gate_dst (N := 8) rfl ?_); go_must (refine M.out.ev_ld 1 _ _ rfl rfl rfl Try.underlying54 rfl rfl (by first | assumption | rfl) ?_))
    | ((with_reducible refine gate_dst (N := 11) rfl ?_); go_must (refine M.out.ev_ld 0 _ _ rfl rfl rfl Try.underlying54 rfl rfl (by first | assumption | rfl) ?_))
    | ((with_reducible refine gate_dst (N := 13) rfl ?_); go_must (refine M.out.ev_ld 1 _ _ rfl rfl rfl Try.underlying54 rfl rfl (by first | assumption | rfl) ?_))
    | ((with_reducible refine gate_store (x := .tmp 4) rfl ?_); go_must (refine M.out.ev_stw 2 _ _ _ rfl rfl rfl rfl _ rfl (by first | rfl | (simp only [S1.out]; rfl) | (simp only [S1.out, S2.out]; rfl) | (simp only [S3.out]; rfl) | (simp only [S1.out, S2.out, S3.out]; rfl)) (by first | exact sz56 | (rw [S1.out]; exact sz56) | (rw [S2.out]; exact sz56) | (rw [S3.out]; exact sz56)) (by first | exact ints_one _ _ | exact Fld.one _ | exact O1.out | rfl | (simp [Value.oneCell']; done)) rfl ?_); intro wn m; simp only [List.set_cons_succ, List.set_cons_zero, List.setIfInBounds_toArray] at m; have M := Lib.hid m; clear m)
    | (go_at_call 110; go_must (refine (CU.out _).mono ?_); rintro e w_ ⟨rfl, N_⟩; have m := M.out.join N_; clear N_; simp only [List.cons_append, List.nil_append, List.append_nil] at m; have M := Lib.hid m; clear m)
    )
  exact ret_cell rfl (M.out.blk 2 rfl) Try.underlying56 rfl sz56 rfl ⟨rfl, M.out.take 0⟩
theorem Cs.ext_has {a b : Cs} (ha : a.ok) (hb : b.ok) (h : ∀ k, k < 128 → a.has k = b.has k) : a = b := by
  have hi : ∀ {x : Nat} {i : Nat}, x < 18446744073709551616 → 64 ≤ i → x.testBit i = false := fun {x i} hx h64 =>
    Nat.testBit_lt_two_pow (Nat.lt_of_lt_of_le hx (Nat.pow_le_pow_right (n := 2) (by omega) h64))
  have h1 : a.lo = b.lo := Nat.eq_of_testBit_eq fun i => by
    rcases Nat.lt_or_ge i 64 with h64 | h64
    · have := h i (by omega)
      simpa [Cs.has, h64] using this
    · rw [hi ha.l h64, hi hb.l h64]
  have h2 : a.hi = b.hi := Nat.eq_of_testBit_eq fun i => by
    rcases Nat.lt_or_ge i 64 with h64 | h64
    · have := h (64 + i) (by omega)
      simpa [Cs.has, show ¬ (64 + i < 64) by omega] using this
    · rw [hi ha.h h64, hi hb.h h64]
  cases a
  cases b
  simp only at h1 h2
  rw [h1, h2]
theorem Cs.cut_small (c : Cs) {k : Nat} (h1 : 100 ≤ k) (h2 : k < 128) : c.cut.has k = false := by
  unfold Cs.has Cs.cut
  rw [if_neg (by omega), Nat.testBit_and, show (68719476735 : Nat) = 2 ^ 36 - 1 by decide, Nat.testBit_two_pow_sub_one, decide_eq_false (by omega), Bool.and_false]
theorem setOf_small {ks : List Nat} (h : ∀ k ∈ ks, k < 100) {k : Nat} (h1 : 100 ≤ k) : (setOf ks).has k = false := by
  rw [setOf_has, ← Bool.not_eq_true, List.contains_iff_mem]
  intro hk
  have := h k hk
  omega
end Go.Proofs.Ytdnofkngljjbmaa
namespace Go.Proofs.Ytdnofkngljjbmaa
set_option linter.unusedSimpArgs false
set_option linter.unusedVariables false
open Go.RowKit

/-- The bits of a number below a place. -/
def popN (x n : Nat) : Nat := (List.range n).countP x.testBit
def ofB : List Nat → Nat
  | [] => 0
  | b :: r => b + 256 * ofB r
theorem tb_split (b h j : Nat) (hb : b < 256) : (b + 256 * h).testBit j = if j < 8 then b.testBit j else h.testBit (j - 8) := by
  rw [show b + 256 * h = 2 ^ 8 * h + b by omega]
  exact Nat.testBit_two_pow_mul_add h (by omega) j
theorem and_split (a c h m : Nat) (ha : a < 256) (hc : c < 256) : (a + 256 * h) &&& (c + 256 * m) = (a &&& c) + 256 * (h &&& m) := by
  have hac : a &&& c < 256 := Nat.lt_of_le_of_lt Nat.and_le_left ha
  refine Nat.eq_of_testBit_eq fun j => ?_
  rw [Nat.testBit_and, tb_split a h j ha, tb_split c m j hc, tb_split _ _ j hac]
  split
  · rw [Nat.testBit_and]
  · rw [Nat.testBit_and]
theorem shr_split (b c h m s : Nat) (hs : s ≤ 8) (hb : b < 256) (hc : c < 2 ^ (8 - s)) : ((b + 256 * h) >>> s) &&& (c + 256 * m) = ((b >>> s) &&& c) + 256 * ((h >>> s) &&& m) := by
  have hc8 : c < 256 := Nat.lt_of_lt_of_le hc (by
    have := Nat.pow_le_pow_right (n := 2) (by omega) (by omega : 8 - s ≤ 8)
    simpa using this)
  have hac : (b >>> s) &&& c < 256 := Nat.lt_of_le_of_lt Nat.and_le_right hc8
  refine Nat.eq_of_testBit_eq fun j => ?_
  rw [Nat.testBit_and, Nat.testBit_shiftRight, tb_split b h (s + j) hb, tb_split c m j hc8, tb_split _ _ j hac]
  by_cases h1 : j < 8
  · rw [if_pos h1, if_pos h1, Nat.testBit_and, Nat.testBit_shiftRight]
    by_cases h2 : s + j < 8
    · rw [if_pos h2]
    · have hz : c.testBit j = false := Nat.testBit_lt_two_pow (Nat.lt_of_lt_of_le hc (Nat.pow_le_pow_right (by omega) (by omega)))
      rw [if_neg h2, hz, Bool.and_false, Bool.and_false]
  · rw [if_neg h1, if_neg h1, if_neg (by omega), Nat.testBit_and, Nat.testBit_shiftRight, show s + (j - 8) = s + j - 8 by omega]
def rep (c : Nat) : Nat → Nat
  | 0 => 0
  | n + 1 => c + 256 * rep c n
def s1 (m x : Nat) : Nat := ((x >>> 1) &&& m) + (x &&& m)
def s2 (m x : Nat) : Nat := ((x >>> 2) &&& m) + (x &&& m)
def s3 (m x : Nat) : Nat := ((x >>> 4) + x) &&& m
theorem s1_of : ∀ bs : List Nat, (∀ b ∈ bs, b < 256) → s1 (rep 85 bs.length) (ofB bs) = ofB (bs.map (s1 85))
  | [], _ => by simp [s1, rep, ofB]
  | b :: r, h => by
    have hb := h b (by simp)
    have ih := s1_of r fun x hx => h x (by simp [hx])
    unfold s1 at ih ⊢
    simp only [List.length_cons, rep, ofB, List.map_cons]
    rw [shr_split b 85 _ _ 1 (by omega) hb (by decide), and_split b 85 _ _ hb (by omega)]
    rw [← ih]
    omega
theorem s2_of : ∀ bs : List Nat, (∀ b ∈ bs, b < 256) → s2 (rep 51 bs.length) (ofB bs) = ofB (bs.map (s2 51))
  | [], _ => by simp [s2, rep, ofB]
  | b :: r, h => by
    have hb := h b (by simp)
    have ih := s2_of r fun x hx => h x (by simp [hx])
    unfold s2 at ih ⊢
    simp only [List.length_cons, rep, ofB, List.map_cons]
    rw [shr_split b 51 _ _ 2 (by omega) hb (by decide), and_split b 51 _ _ hb (by omega)]
    rw [← ih]
    omega
/-- A byte both of whose halves are at most 4. -/
def low (b : Nat) : Prop := b % 16 ≤ 4 ∧ b / 16 ≤ 4
theorem ofB_low : ∀ bs : List Nat, (∀ b ∈ bs, low b) → ofB bs % 16 ≤ 4
  | [], _ => by simp [ofB]
  | b :: r, h => by
    have := (h b (by simp)).1
    rw [ofB]
    omega
theorem s3_of : ∀ bs : List Nat, (∀ b ∈ bs, low b) → s3 (rep 15 bs.length) (ofB bs) = ofB (bs.map fun b => b / 16 + b % 16)
  | [], _ => by simp [s3, rep, ofB]
  | b :: r, h => by
    obtain ⟨l1, l2⟩ := h b (by simp)
    have hr := ofB_low r fun x hx => h x (by simp [hx])
    have ih := s3_of r fun x hx => h x (by simp [hx])
    unfold s3 at ih ⊢
    simp only [List.length_cons, rep, ofB, List.map_cons]
    rw [Nat.shiftRight_eq_div_pow] at ih ⊢
    rw [show (b + 256 * ofB r) / 2 ^ 4 + (b + 256 * ofB r) = (b / 16 + 16 * (ofB r % 16) + b) + 256 * (ofB r / 2 ^ 4 + ofB r) by omega]
    rw [and_split _ 15 _ _ (by omega) (by omega), ih, show (15 : Nat) = 2 ^ 4 - 1 by decide, Nat.and_two_pow_sub_one_eq_mod]
    omega
theorem byte1 : ∀ b : Fin 256, s1 85 b.val < 256 := by decide +kernel
theorem byte2 : ∀ b : Fin 256, s2 51 (s1 85 b.val) % 16 ≤ 4 ∧ s2 51 (s1 85 b.val) / 16 ≤ 4 := by decide +kernel
theorem byte3 : ∀ b : Fin 256, s2 51 (s1 85 b.val) / 16 + s2 51 (s1 85 b.val) % 16 = popN b.val 8 := by decide +kernel
theorem popN_split (b h n : Nat) (hb : b < 256) : popN (b + 256 * h) (8 + n) = popN b 8 + popN h n := by
  unfold popN
  rw [List.range_add, List.countP_append, List.countP_map]
  congr 1
  · refine List.countP_congr fun j hj => ?_
    rw [tb_split b h j hb, if_pos (List.mem_range.1 hj)]
  · refine List.countP_congr fun j _ => ?_
    show (b + 256 * h).testBit (8 + j) = true ↔ _
    rw [tb_split b h _ hb, if_neg (by omega), Nat.add_sub_cancel_left]
/-- A word, counted as Go's library does. -/
def onesGo (x : Nat) : Nat :=
  let y := s3 (rep 15 8) (s2 (rep 51 8) (s1 (rep 85 8) x))
  let y := y + y >>> 8
  let y := y + y >>> 16
  let y := y + y >>> 32
  y &&& 127
theorem bytes_of (x : Nat) (hx : x < 18446744073709551616) : ∃ b0 b1 b2 b3 b4 b5 b6 b7, (b0 < 256 ∧ b1 < 256 ∧ b2 < 256 ∧ b3 < 256 ∧ b4 < 256 ∧ b5 < 256 ∧ b6 < 256 ∧ b7 < 256) ∧ x = ofB [b0, b1, b2, b3, b4, b5, b6, b7] := by
  refine ⟨x % 256, x / 256 % 256, x / 65536 % 256, x / 16777216 % 256, x / 4294967296 % 256, x / 1099511627776 % 256, x / 281474976710656 % 256, x / 72057594037927936, by omega, ?_⟩
  simp only [ofB]
  omega
theorem pop_le (x n : Nat) : popN x n ≤ n := by
  have := List.countP_le_length (p := x.testBit) (l := List.range n)
  rwa [List.length_range] at this
theorem fold_bytes (p0 p1 p2 p3 p4 p5 p6 p7 : Nat) (q0 : p0 ≤ 8) (q1 : p1 ≤ 8) (q2 : p2 ≤ 8) (q3 : p3 ≤ 8) (q4 : p4 ≤ 8) (q5 : p5 ≤ 8) (q6 : p6 ≤ 8) (q7 : p7 ≤ 8) :
    (let y := ofB [p0, p1, p2, p3, p4, p5, p6, p7]
     let y := y + y >>> 8
     let y := y + y >>> 16
     let y := y + y >>> 32
     y &&& 127) = p0 + (p1 + (p2 + (p3 + (p4 + (p5 + (p6 + p7)))))) := by
  have d1 : ofB [p0, p1, p2, p3, p4, p5, p6, p7] >>> 8 = ofB [p1, p2, p3, p4, p5, p6, p7] := by
    rw [Nat.shiftRight_eq_div_pow]
    simp only [ofB]
    omega
  have e1 : ofB [p0, p1, p2, p3, p4, p5, p6, p7] + ofB [p1, p2, p3, p4, p5, p6, p7] = ofB [p0 + p1, p1 + p2, p2 + p3, p3 + p4, p4 + p5, p5 + p6, p6 + p7, p7] := by
    simp only [ofB]
    omega
  have d2 : ofB [p0 + p1, p1 + p2, p2 + p3, p3 + p4, p4 + p5, p5 + p6, p6 + p7, p7] >>> 16 = ofB [p2 + p3, p3 + p4, p4 + p5, p5 + p6, p6 + p7, p7] := by
    rw [Nat.shiftRight_eq_div_pow]
    simp only [ofB]
    omega
  have e2 : ofB [p0 + p1, p1 + p2, p2 + p3, p3 + p4, p4 + p5, p5 + p6, p6 + p7, p7] + ofB [p2 + p3, p3 + p4, p4 + p5, p5 + p6, p6 + p7, p7] = ofB [p0 + p1 + (p2 + p3), p1 + p2 + (p3 + p4), p2 + p3 + (p4 + p5), p3 + p4 + (p5 + p6), p4 + p5 + (p6 + p7), p5 + p6 + p7, p6 + p7, p7] := by
    simp only [ofB]
    omega
  have d3 : ofB [p0 + p1 + (p2 + p3), p1 + p2 + (p3 + p4), p2 + p3 + (p4 + p5), p3 + p4 + (p5 + p6), p4 + p5 + (p6 + p7), p5 + p6 + p7, p6 + p7, p7] >>> 32 = ofB [p4 + p5 + (p6 + p7), p5 + p6 + p7, p6 + p7, p7] := by
    rw [Nat.shiftRight_eq_div_pow]
    simp only [ofB]
    omega
  show (_ + _) &&& 127 = _
  rw [d1, e1, d2, e2, d3, show (127 : Nat) = 2 ^ 7 - 1 by decide, Nat.and_two_pow_sub_one_eq_mod]
  simp only [ofB]
  omega
theorem onesGo_eq (x : Nat) (hx : x < 18446744073709551616) : onesGo x = popN x 64 := by
  obtain ⟨b0, b1, b2, b3, b4, b5, b6, b7, ⟨h0, h1, h2, h3, h4, h5, h6, h7⟩, rfl⟩ := bytes_of x hx
  have hall : ∀ b ∈ [b0, b1, b2, b3, b4, b5, b6, b7], b < 256 := by
    intro b hb
    simp only [List.mem_cons, List.not_mem_nil, or_false] at hb
    rcases hb with rfl | rfl | rfl | rfl | rfl | rfl | rfl | rfl <;> assumption
  have e1 := s1_of _ hall
  have e2 := s2_of ([b0, b1, b2, b3, b4, b5, b6, b7].map (s1 85)) (fun c hc => by
    obtain ⟨b, hb, rfl⟩ := List.mem_map.1 hc
    exact byte1 ⟨b, hall b hb⟩)
  have e3 := s3_of (([b0, b1, b2, b3, b4, b5, b6, b7].map (s1 85)).map (s2 51)) (fun c hc => by
    obtain ⟨d, hd, rfl⟩ := List.mem_map.1 hc
    obtain ⟨b, hb, rfl⟩ := List.mem_map.1 hd
    exact byte2 ⟨b, hall b hb⟩)
  rw [List.length_map] at e2
  rw [List.length_map, List.length_map] at e3
  have hy : s3 (rep 15 8) (s2 (rep 51 8) (s1 (rep 85 8) (ofB [b0, b1, b2, b3, b4, b5, b6, b7]))) = ofB [popN b0 8, popN b1 8, popN b2 8, popN b3 8, popN b4 8, popN b5 8, popN b6 8, popN b7 8] := by
    rw [show (8 : Nat) = [b0, b1, b2, b3, b4, b5, b6, b7].length from rfl, e1, e2, e3]
    simp only [List.map_cons, List.map_nil]
    rw [byte3 ⟨b0, h0⟩, byte3 ⟨b1, h1⟩, byte3 ⟨b2, h2⟩, byte3 ⟨b3, h3⟩, byte3 ⟨b4, h4⟩, byte3 ⟨b5, h5⟩, byte3 ⟨b6, h6⟩, byte3 ⟨b7, h7⟩]
    rfl
  have hp : popN (ofB [b0, b1, b2, b3, b4, b5, b6, b7]) 64 = popN b0 8 + (popN b1 8 + (popN b2 8 + (popN b3 8 + (popN b4 8 + (popN b5 8 + (popN b6 8 + popN b7 8)))))) := by
    simp only [ofB]
    rw [show (64 : Nat) = 8 + (8 + (8 + (8 + (8 + (8 + (8 + 8)))))) by rfl, popN_split _ _ _ h0, popN_split _ _ _ h1, popN_split _ _ _ h2, popN_split _ _ _ h3, popN_split _ _ _ h4, popN_split _ _ _ h5, popN_split _ _ _ h6, show b7 + 256 * 0 = b7 by omega]
  have q0 := pop_le b0 8
  have q1 := pop_le b1 8
  have q2 := pop_le b2 8
  have q3 := pop_le b3 8
  have q4 := pop_le b4 8
  have q5 := pop_le b5 8
  have q6 := pop_le b6 8
  have q7 := pop_le b7 8
  rw [hp]
  unfold onesGo
  rw [hy]
  generalize popN b0 8 = p0 at *
  generalize popN b1 8 = p1 at *
  generalize popN b2 8 = p2 at *
  generalize popN b3 8 = p3 at *
  generalize popN b4 8 = p4 at *
  generalize popN b5 8 = p5 at *
  generalize popN b6 8 = p6 at *
  generalize popN b7 8 = p7 at *
  exact fold_bytes p0 p1 p2 p3 p4 p5 p6 p7 q0 q1 q2 q3 q4 q5 q6 q7
/-- The cells of a set, counted. -/
theorem all_count (c : Cs) : c.all.length = popN c.lo 64 + popN c.hi 36 := by
  unfold Cs.all Cs.below popN
  rw [← List.countP_eq_length_filter, show (100 : Nat) = 64 + 36 by rfl, List.range_add, List.countP_append, List.countP_map]
  have h1 : (List.range 64).countP c.has = (List.range 64).countP c.lo.testBit := List.countP_congr fun j hj => by
    rw [Cs.has, if_pos (List.mem_range.1 hj)]
  have h2 : (List.range 36).countP (c.has ∘ fun j => 64 + j) = (List.range 36).countP c.hi.testBit := List.countP_congr fun j _ => by
    show c.has (64 + j) = true ↔ _
    rw [Cs.has, if_neg (by omega), Nat.add_sub_cancel_left]
  rw [h1, h2]
theorem popN_cut (x : Nat) : popN (x &&& 68719476735) 64 = popN x 36 := by
  unfold popN
  rw [show (64 : Nat) = 36 + 28 by rfl, List.range_add, List.countP_append, List.countP_map]
  have h1 : (List.range 36).countP (x &&& 68719476735).testBit = (List.range 36).countP x.testBit := by
    refine List.countP_congr fun j hj => ?_
    rw [Nat.testBit_and, show (68719476735 : Nat) = 2 ^ 36 - 1 by decide, Nat.testBit_two_pow_sub_one, decide_eq_true (List.mem_range.1 hj), Bool.and_true]
  have h2 : (List.range 28).countP ((x &&& 68719476735).testBit ∘ fun j => 36 + j) = 0 := by
    rw [List.countP_eq_zero]
    intro j _
    show ¬ ((x &&& 68719476735).testBit (36 + j) = true)
    rw [Nat.testBit_and, show (68719476735 : Nat) = 2 ^ 36 - 1 by decide, Nat.testBit_two_pow_sub_one, decide_eq_false (by omega), Bool.and_false]
    simp
  rw [h1, h2, Nat.add_zero]
end Go.Proofs.Ytdnofkngljjbmaa
namespace Go.Proofs.Ytdnofkngljjbmaa
set_option linter.unusedSimpArgs false
set_option linter.unusedVariables false
open Go.RowKit

theorem merge0 {G : Prop} {K T : World → Prop} (hA : (∀ w, K w → T w) → G) (hB : ∀ w, K w → T w) : G := hA hB
theorem merge1 {α : Type} {G : Prop} {K T : α → World → Prop} (hA : (∀ a w, K a w → T a w) → G) (hB : ∀ a w, K a w → T a w) : G := hA hB
theorem merge2 {α β : Type} {G : Prop} {K T : α → β → World → Prop} (hA : (∀ a b w, K a b w → T a b w) → G) (hB : ∀ a b w, K a b w → T a b w) : G := hA hB
theorem merge3 {α β γ : Type} {G : Prop} {K T : α → β → γ → World → Prop} (hA : (∀ a b c w, K a b c w → T a b c w) → G) (hB : ∀ a b c w, K a b c w → T a b c w) : G := hA hB
theorem merge4 {α β γ δ : Type} {G : Prop} {K T : α → β → γ → δ → World → Prop} (hA : (∀ a b c d w, K a b c d w → T a b c d w) → G) (hB : ∀ a b c d w, K a b c d w → T a b c d w) : G := hA hB
theorem merge5 {α β γ δ ε : Type} {G : Prop} {K T : α → β → γ → δ → ε → World → Prop} (hA : (∀ a b c d e w, K a b c d e w → T a b c d e w) → G) (hB : ∀ a b c d e w, K a b c d e w → T a b c d e w) : G := hA hB
theorem merge6 {α β γ δ ε ζ : Type} {G : Prop} {K T : α → β → γ → δ → ε → ζ → World → Prop} (hA : (∀ a b c d e f w, K a b c d e f w → T a b c d e f w) → G) (hB : ∀ a b c d e f w, K a b c d e f w → T a b c d e f w) : G := hA hB
section
variable {P : Program} {ops : Array Oper} {rest : List Oper} {o : Oper} {a : Act} {w : World} {Q : Exit → Act → World → Prop}
/-- An operation whose guard lets it run. -/
theorem gate_want (hw : Region.wanted o (yielded ops a.tmps) = true) (h : wpList P ops Q ({ o with guard := none } :: rest) a w) : wpList P ops Q (o :: rest) a w := by
  unfold wpList at h ⊢
  rw [if_pos hw]
  rw [if_pos (by simp [Region.wanted])] at h
  exact h
end
section
variable {P : Program} {md : Region.Mode} {ops : Array Oper} {Q : Exit → Act → World → Prop} {S : World → Prop} {fuel : Nat} {listed : Array Bool} {a : Act} {w : World}
theorem yldwW {o : Oper} (T : TypeId) (x : Operand) (ho : o.op = .load T x) (hw : Region.wanted o (yielded ops a.tmps) = true) {g : Nat} {t : TypeId} {cs : Array Value} {d : TypeDesc} (hu : P.underlying T = some d)
    (hd : (match d with | .struct _ | .array _ _ => true | _ => false) = true) (hi : (P.info? T).map (·.size) = some cs.size) (hx : a.eval x = .pointer (some ⟨g, 0, none⟩)) (hb : ∀ w, S w → Blk w g t cs) : YieldsIf P ops S o (.agg cs) a :=
  .inl ⟨hw, fun w hS => by
    have hagg : (isAgg T).run P w = .ok true w := by
      unfold isAgg
      rw [Sem.run_bind, run_underlying hu w]
      cases d <;> simp_all
    unfold execOp
    simp only [ho, hx, Instr.loadAt, Instr.sureAddr, Sem.run_bind, Result.andThen_ok, run_loadVar_row w g t T cs (0, 0) d (hb w hS) hu hd hi, Sem.run_pure, hagg]⟩
theorem any3H (i j k : Nat) {o o' o'' : Oper} (hr : Region.ready md ops listed = [i, j, k]) (ho : ops[i]? = some o) (ho' : ops[j]? = some o') (ho'' : ops[k]? = some o'')
    (h : ∀ K : Act → World → Prop, (∀ a w, S w ∧ wpAnyH P md ops Q S fuel (listed.setIfInBounds i true) a w → K a w) → wpList P ops (onward K) [o] a w)
    (h' : ∀ K : Act → World → Prop, (∀ a w, S w ∧ wpAnyH P md ops Q S fuel (listed.setIfInBounds j true) a w → K a w) → wpList P ops (onward K) [o'] a w)
    (h'' : ∀ K : Act → World → Prop, (∀ a w, S w ∧ wpAnyH P md ops Q S fuel (listed.setIfInBounds k true) a w → K a w) → wpList P ops (onward K) [o''] a w) : wpAnyH P md ops Q S (fuel + 1) listed a w :=
  wpAnyH_all hr (by simp) fun l hl => by
    rcases List.mem_cons.1 hl with rfl | hl
    · exact wpOp_onward ho (h _ fun _ _ h => h)
    · rcases List.mem_cons.1 hl with rfl | hl
      · exact wpOp_onward ho' (h' _ fun _ _ h => h)
      · rw [List.mem_singleton.1 hl]
        exact wpOp_onward ho'' (h'' _ fun _ _ h => h)
end
end Go.Proofs.Ytdnofkngljjbmaa
