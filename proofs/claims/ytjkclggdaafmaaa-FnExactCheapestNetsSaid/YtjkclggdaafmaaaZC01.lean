/- Texts of a proof, laid together: Fld, Sl. -/
import Derived.Test.YtjkclggdaafmaaaZC00
namespace Go.Proofs.Ytjkclggdaafmaaa
set_option linter.unusedSimpArgs false
set_option linter.unusedVariables false
open Go.RowKit

structure Fld where
  wide : Int
  high : Int
  kinds : List Int
  seeds : List Int
def Fld.list (F : Fld) : List Value := (.int .i8 F.wide) :: (.int .i8 F.high) :: (F.kinds.map (Value.int .u8) ++ F.seeds.map (Value.int .i16))
def Fld.cells (F : Fld) : Array Value := F.list.toArray
def Fld.z : Fld := ⟨0, 0, zs 100, zs 100⟩
def Fld.kind (F : Fld) (k : Nat) : Int := gi F.kinds k
def Fld.seed (F : Fld) (k : Nat) : Int := gi F.seeds k
structure Fld.len (F : Fld) : Prop where
  kl : F.kinds.length = 100
  sl : F.seeds.length = 100
/-- A field as Go can hold it. -/
structure Fld.ok (F : Fld) : Prop extends toLen : F.len where
  w0 : -128 ≤ F.wide
  w1 : F.wide ≤ 127
  h0 : -128 ≤ F.high
  h1 : F.high ≤ 127
  k0 : ∀ x ∈ F.kinds, 0 ≤ x ∧ x ≤ 255
  s0 : ∀ x ∈ F.seeds, -32768 ≤ x ∧ x ≤ 32767
theorem getD_bound {xs : List Int} {P : Int → Prop} (h : ∀ x ∈ xs, P x) (h0 : P 0) (k : Nat) : P (xs.getD k 0) := by
  rw [List.getD_eq_getElem?_getD]
  rcases Nat.lt_or_ge k xs.length with hk | hk
  · rw [List.getElem?_eq_getElem hk]; exact h _ (List.getElem_mem hk)
  · rw [List.getElem?_eq_none hk]; exact h0
theorem Fld.ok.kb {F : Fld} (h : F.ok) (k : Nat) : 0 ≤ F.kind k ∧ F.kind k ≤ 255 := getD_bound h.k0 (by omega) k
theorem Fld.ok.sb {F : Fld} (h : F.ok) (k : Nat) : -32768 ≤ F.seed k ∧ F.seed k ≤ 32767 := getD_bound h.s0 (by omega) k
theorem Fld.size {F : Fld} (h : F.len) : F.cells.size = 202 := by simp [Fld.cells, Fld.list, h.kl, h.sl]
theorem zeroFld : Try.zeroCells35 = Fld.z.cells := by kernel_rfl
theorem Fld.cell0 (F : Fld) : F.cells[0]? = some (.int .i8 F.wide) := by simp [Fld.cells, Fld.list]
theorem Fld.cell1 (F : Fld) : F.cells[1]? = some (.int .i8 F.high) := by simp [Fld.cells, Fld.list]
theorem Fld.lt0 (F : Fld) : 0 < F.cells.size := by simp [Fld.cells, Fld.list]
theorem Fld.lt1 (F : Fld) : 1 < F.cells.size := by simp [Fld.cells, Fld.list]
theorem Fld.set0 (F : Fld) (x : Int) : F.cells.setIfInBounds 0 (.int .i8 x) = { F with wide := x }.cells := by simp [Fld.cells, Fld.list]
theorem Fld.set1 (F : Fld) (x : Int) : F.cells.setIfInBounds 1 (.int .i8 x) = { F with high := x }.cells := by simp [Fld.cells, Fld.list]
theorem Fld.one (F : Fld) : F.cells.all (·.oneCell') = true := by
  simp [Fld.cells, Fld.list, Value.oneCell']
theorem Fld.cellsK {F : Fld} (h : F.len) (j : Nat) (v : Value) (hv : (F.kinds.map (Value.int .u8))[j]? = some v) : F.cells[2 + j]? = some v := by
  have hl := h.kl
  rw [show 2 + j = j + 1 + 1 by omega]
  simp only [Fld.cells, Fld.list, List.getElem?_toArray, List.getElem?_cons_succ]
  rw [List.getElem?_append_left (List.getElem?_eq_some_iff.1 hv).1]
  exact hv
theorem Fld.cellsS {F : Fld} (h : F.len) (j : Nat) (v : Value) (hv : (F.seeds.map (Value.int .i16))[j]? = some v) : F.cells[102 + j]? = some v := by
  have hl := h.kl
  rw [show 102 + j = 100 + j + 1 + 1 by omega]
  simp only [Fld.cells, Fld.list, List.getElem?_toArray, List.getElem?_cons_succ]
  rw [List.getElem?_append_right (by simp; omega)]
  simpa [hl] using hv
theorem Fld.cellK {F : Fld} (h : F.len) {k : Nat} (hk : k < 100) : F.cells[2 + k]? = some (.int .u8 (F.kind k)) :=
  Fld.cellsK h k _ (by have := h.kl; simp [Fld.kind, gi, hk, this])
theorem Fld.cellS {F : Fld} (h : F.len) {k : Nat} (hk : k < 100) : F.cells[102 + k]? = some (.int .i16 (F.seed k)) :=
  Fld.cellsS h k _ (by have := h.sl; simp [Fld.seed, gi, hk, this])
theorem Fld.setK {F : Fld} (h : F.len) (xs : List Int) (hx : xs.length = 100) : spl F.cells 2 (xs.map (Value.int .u8)) = { F with kinds := xs }.cells := by
  have hl := h.kl
  simp only [spl, Fld.cells, Fld.list, List.length_map, hx]
  congr 1
  rw [show 2 + 100 = 100 + 1 + 1 by omega, List.drop_succ_cons, List.drop_succ_cons, List.drop_append_of_le_length (by simp [hl]), List.drop_of_length_le (by simp [hl])]
  simp
theorem Fld.setS {F : Fld} (h : F.len) (xs : List Int) (hx : xs.length = 100) : spl F.cells 102 (xs.map (Value.int .i16)) = { F with seeds := xs }.cells := by
  have hl := h.kl
  have hs := h.sl
  simp only [spl, Fld.cells, Fld.list, List.length_map, hx]
  congr 1
  rw [List.drop_of_length_le (by simp [hl, hs]), show 102 = 100 + 1 + 1 by omega, List.take_succ_cons, List.take_succ_cons, List.take_append_of_le_length (by simp [hl]), List.take_of_length_le (by simp [hl])]
  simp
/-- One cell's seeds exchanged. -/
def Fld.withSeed (F : Fld) (k : Nat) (x : Int) : Fld := { F with seeds := F.seeds.set k x }
/-! ### The laws' own way to hand a field over -/
theorem zeroK : Try.zeroCells23 = ints .u8 (zs 100) := by kernel_rfl
theorem zeroS : Try.zeroCells25 = ints .i16 (zs 100) := by kernel_rfl
theorem take_drop_len (xs ys : List Int) (k n : Nat) (hx : xs.length = n) (hy : ys.length = n) (hk : k ≤ n) : (xs.take k ++ ys.drop k).length = n := by
  simp; omega
set_option maxRecDepth 100000 in
set_option maxHeartbeats 1000000 in
theorem toByteA100_any (xs : List Int) (hs : xs.length = 100) (w : World) :
    Calls Try.prog 39 #[.agg (ints .u8 xs)] w fun e w' => e = .returned (.agg (ints .u8 xs)) ∧ Below w.heap.size w w' := by
  have M := Lib.hid (Mem.start w)
  have S1 := Lib.hid (show (ints .u8 xs).size = 100 by rw [ints_size, hs])
  have S2 := Lib.hid (show (ints .u8 (zs 100)).size = 100 by rw [ints_size, zs_len])
  have HS := Lib.hid hs
  clear hs
  go_enter Try.func39, Try.ntmps39
  go_wp2_with (first
    | ((with_reducible refine gate_dst (N := 1) rfl ?_); go_must (refine M.out.ev_new rfl (by first | (go_simp; done) | (go_simp; rfl)) ?_); intro g1 w1 m; simp only [List.cons_append, List.nil_append] at m; have M := Lib.hid m; clear m)
    | ((with_reducible refine gate_dst (N := 2) rfl ?_); go_must (refine M.out.ev_new rfl (by first | (go_simp; done) | (go_simp; rfl)) ?_); intro g2 w2 m; simp only [List.cons_append, List.nil_append] at m; have M := Lib.hid m; clear m)
    | ((with_reducible refine gate_dst (N := 3) rfl ?_); go_must (refine M.out.ev_new rfl (by first | (go_simp; done) | (go_simp; rfl)) ?_); intro g3 w3 m; simp only [List.cons_append, List.nil_append] at m; have M := Lib.hid m; clear m)
    | ((with_reducible refine gate_dst (N := 12) rfl ?_); go_must (refine M.out.ev_ld 0 _ _ rfl rfl rfl Try.underlying5 rfl rfl (by first | assumption | rfl) ?_))
    | ((with_reducible refine gate_store (x := .tmp 13) rfl ?_); go_must (refine M.out.ev_put 2 _ _ _ rfl rfl rfl rfl (.int _ _) rfl (by first | assumption | exact Fld.lt0 _ | exact Fld.lt1 _ | (simp; done) | (simp only [ints_size]; omega)) sz5 rfl rfl ?_); intro wn m; simp only [List.set_cons_succ, List.set_cons_zero, List.setIfInBounds_toArray] at m; have M := Lib.hid m; clear m)
    | ((with_reducible refine gate_dst (N := 14) rfl ?_); go_must (refine M.out.ev_ldw 2 _ _ rfl rfl rfl Try.underlying23 rfl (by first | exact sz23 | (rw [S1.out]; exact sz23) | (rw [S2.out]; exact sz23) | (rw [S3.out]; exact sz23)) rfl ?_))
    | ((with_reducible refine gate_store (x := .tmp 2) rfl ?_); go_must (refine M.out.ev_stw 1 _ _ _ rfl rfl rfl rfl _ rfl (by first | rfl | (simp only [S1.out]; rfl) | (simp only [S1.out, S2.out]; rfl) | (simp only [S3.out]; rfl) | (simp only [S1.out, S2.out, S3.out]; rfl)) (by first | exact sz23 | (rw [S1.out]; exact sz23) | (rw [S2.out]; exact sz23) | (rw [S3.out]; exact sz23)) (by first | exact ints_one _ _ | exact Fld.one _ | exact O1.out | rfl | (simp [Value.oneCell']; done)) rfl ?_); intro wn m; simp only [List.set_cons_succ, List.set_cons_zero, List.setIfInBounds_toArray] at m; have M := Lib.hid m; clear m)
    )
  have m := M.out
  rw [zeroK] at m
  go_loopw [4] (fun v wr => ∃ k : Nat, k ≤ 100 ∧ v = .int .i64 k ∧ Mem w wr [.blk g1 23 (ints .u8 xs), .blk g2 23 (ints .u8 (zs 100)), .blk g3 23 (ints .u8 (xs.take k ++ (zs 100).drop k))])
    (fun v _ => 100 - (intOf v).toNat)
  case atStart => exact ⟨0, by omega, rfl, m⟩
  case round =>
    obtain ⟨k, hk, rfl, m⟩ := hrel
    have M := Lib.hid m
    clear m
    by_cases hlt : k < 100
    · have hc : (ints .u8 xs)[k]? = some (.int .u8 (gi xs k)) := ints_at (by rw [HS.out]; omega)
      have hj : k < (ints .u8 (xs.take k ++ (zs 100).drop k)).size := by rw [ints_size, take_drop_len _ _ k 100 HS.out (zs_len 100) (by omega)]; omega
      go_wp2_with (first
        | ((with_reducible refine gate_dst (N := 1) rfl ?_); go_must (refine M.out.ev_new rfl (by first | (go_simp; done) | (go_simp; rfl)) ?_); intro g1 w1 m; simp only [List.cons_append, List.nil_append] at m; have M := Lib.hid m; clear m)
        | ((with_reducible refine gate_dst (N := 2) rfl ?_); go_must (refine M.out.ev_new rfl (by first | (go_simp; done) | (go_simp; rfl)) ?_); intro g2 w2 m; simp only [List.cons_append, List.nil_append] at m; have M := Lib.hid m; clear m)
        | ((with_reducible refine gate_dst (N := 3) rfl ?_); go_must (refine M.out.ev_new rfl (by first | (go_simp; done) | (go_simp; rfl)) ?_); intro g3 w3 m; simp only [List.cons_append, List.nil_append] at m; have M := Lib.hid m; clear m)
        | ((with_reducible refine gate_dst (N := 12) rfl ?_); go_must (refine M.out.ev_ld 0 _ _ rfl rfl rfl Try.underlying5 rfl rfl (by first | assumption | rfl) ?_))
        | ((with_reducible refine gate_store (x := .tmp 13) rfl ?_); go_must (refine M.out.ev_put 2 _ _ _ rfl rfl rfl rfl (.int _ _) rfl (by first | assumption | exact Fld.lt0 _ | exact Fld.lt1 _ | (simp; done) | (simp only [ints_size]; omega)) sz5 rfl rfl ?_); intro wn m; simp only [List.set_cons_succ, List.set_cons_zero, List.setIfInBounds_toArray] at m; have M := Lib.hid m; clear m)
        | ((with_reducible refine gate_dst (N := 14) rfl ?_); go_must (refine M.out.ev_ldw 2 _ _ rfl rfl rfl Try.underlying23 rfl (by first | exact sz23 | (rw [S1.out]; exact sz23) | (rw [S2.out]; exact sz23) | (rw [S3.out]; exact sz23)) rfl ?_))
        | ((with_reducible refine gate_store (x := .tmp 2) rfl ?_); go_must (refine M.out.ev_stw 1 _ _ _ rfl rfl rfl rfl _ rfl (by first | rfl | (simp only [S1.out]; rfl) | (simp only [S1.out, S2.out]; rfl) | (simp only [S3.out]; rfl) | (simp only [S1.out, S2.out, S3.out]; rfl)) (by first | exact sz23 | (rw [S1.out]; exact sz23) | (rw [S2.out]; exact sz23) | (rw [S3.out]; exact sz23)) (by first | exact ints_one _ _ | exact Fld.one _ | exact O1.out | rfl | (simp [Value.oneCell']; done)) rfl ?_); intro wn m; simp only [List.set_cons_succ, List.set_cons_zero, List.setIfInBounds_toArray] at m; have M := Lib.hid m; clear m)
        )
      go_roundw
      case rel =>
        refine ⟨k + 1, by omega, by go_num, ?_⟩
        have m := M.out
        rw [ints_set, take_set_drop _ _ _ _ (getElem?_gi (by rw [HS.out]; omega)) (by rw [zs_len]; omega)] at m
        exact m
      case measure => simp [intOf]; omega
    · obtain rfl : k = 100 := by omega
      have hx : xs.take 100 ++ (zs 100).drop 100 = xs := by
        rw [List.take_of_length_le (by rw [HS.out]; omega), List.drop_of_length_le (by rw [zs_len]; omega), List.append_nil]
      rw [hx] at M
      clear hx
      go_wp2_with (first
        | ((with_reducible refine gate_dst (N := 1) rfl ?_); go_must (refine M.out.ev_new rfl (by first | (go_simp; done) | (go_simp; rfl)) ?_); intro g1 w1 m; simp only [List.cons_append, List.nil_append] at m; have M := Lib.hid m; clear m)
        | ((with_reducible refine gate_dst (N := 2) rfl ?_); go_must (refine M.out.ev_new rfl (by first | (go_simp; done) | (go_simp; rfl)) ?_); intro g2 w2 m; simp only [List.cons_append, List.nil_append] at m; have M := Lib.hid m; clear m)
        | ((with_reducible refine gate_dst (N := 3) rfl ?_); go_must (refine M.out.ev_new rfl (by first | (go_simp; done) | (go_simp; rfl)) ?_); intro g3 w3 m; simp only [List.cons_append, List.nil_append] at m; have M := Lib.hid m; clear m)
        | ((with_reducible refine gate_dst (N := 12) rfl ?_); go_must (refine M.out.ev_ld 0 _ _ rfl rfl rfl Try.underlying5 rfl rfl (by first | assumption | rfl) ?_))
        | ((with_reducible refine gate_store (x := .tmp 13) rfl ?_); go_must (refine M.out.ev_put 2 _ _ _ rfl rfl rfl rfl (.int _ _) rfl (by first | assumption | exact Fld.lt0 _ | exact Fld.lt1 _ | (simp; done) | (simp only [ints_size]; omega)) sz5 rfl rfl ?_); intro wn m; simp only [List.set_cons_succ, List.set_cons_zero, List.setIfInBounds_toArray] at m; have M := Lib.hid m; clear m)
        | ((with_reducible refine gate_dst (N := 14) rfl ?_); go_must (refine M.out.ev_ldw 2 _ _ rfl rfl rfl Try.underlying23 rfl (by first | exact sz23 | (rw [S1.out]; exact sz23) | (rw [S2.out]; exact sz23) | (rw [S3.out]; exact sz23)) rfl ?_))
        | ((with_reducible refine gate_store (x := .tmp 2) rfl ?_); go_must (refine M.out.ev_stw 1 _ _ _ rfl rfl rfl rfl _ rfl (by first | rfl | (simp only [S1.out]; rfl) | (simp only [S1.out, S2.out]; rfl) | (simp only [S3.out]; rfl) | (simp only [S1.out, S2.out, S3.out]; rfl)) (by first | exact sz23 | (rw [S1.out]; exact sz23) | (rw [S2.out]; exact sz23) | (rw [S3.out]; exact sz23)) (by first | exact ints_one _ _ | exact Fld.one _ | exact O1.out | rfl | (simp [Value.oneCell']; done)) rfl ?_); intro wn m; simp only [List.set_cons_succ, List.set_cons_zero, List.setIfInBounds_toArray] at m; have M := Lib.hid m; clear m)
        )
      exact ret_cell rfl (M.out.blk 1 rfl) Try.underlying23 rfl (by rw [S1.out]; exact sz23) rfl ⟨rfl, M.out.below⟩
set_option maxRecDepth 100000 in
set_option maxHeartbeats 1000000 in
theorem toInt16A100_any (xs : List Int) (hs : xs.length = 100) (w : World) :
    Calls Try.prog 40 #[.agg (ints .i16 xs)] w fun e w' => e = .returned (.agg (ints .i16 xs)) ∧ Below w.heap.size w w' := by
  have M := Lib.hid (Mem.start w)
  have S1 := Lib.hid (show (ints .i16 xs).size = 100 by rw [ints_size, hs])
  have S2 := Lib.hid (show (ints .i16 (zs 100)).size = 100 by rw [ints_size, zs_len])
  have HS := Lib.hid hs
  clear hs
  go_enter Try.func40, Try.ntmps40
  go_wp2_with (first
    | ((with_reducible refine gate_dst (N := 1) rfl ?_); go_must (refine M.out.ev_new rfl (by first | (go_simp; done) | (go_simp; rfl)) ?_); intro g1 w1 m; simp only [List.cons_append, List.nil_append] at m; have M := Lib.hid m; clear m)
    | ((with_reducible refine gate_dst (N := 2) rfl ?_); go_must (refine M.out.ev_new rfl (by first | (go_simp; done) | (go_simp; rfl)) ?_); intro g2 w2 m; simp only [List.cons_append, List.nil_append] at m; have M := Lib.hid m; clear m)
    | ((with_reducible refine gate_dst (N := 3) rfl ?_); go_must (refine M.out.ev_new rfl (by first | (go_simp; done) | (go_simp; rfl)) ?_); intro g3 w3 m; simp only [List.cons_append, List.nil_append] at m; have M := Lib.hid m; clear m)
    | ((with_reducible refine gate_dst (N := 12) rfl ?_); go_must (refine M.out.ev_ld 0 _ _ rfl rfl rfl Try.underlying24 rfl rfl (by first | assumption | rfl) ?_))
    | ((with_reducible refine gate_store (x := .tmp 13) rfl ?_); go_must (refine M.out.ev_put 2 _ _ _ rfl rfl rfl rfl (.int _ _) rfl (by first | assumption | exact Fld.lt0 _ | exact Fld.lt1 _ | (simp; done) | (simp only [ints_size]; omega)) sz24 rfl rfl ?_); intro wn m; simp only [List.set_cons_succ, List.set_cons_zero, List.setIfInBounds_toArray] at m; have M := Lib.hid m; clear m)
    | ((with_reducible refine gate_dst (N := 14) rfl ?_); go_must (refine M.out.ev_ldw 2 _ _ rfl rfl rfl Try.underlying25 rfl (by first | exact sz25 | (rw [S1.out]; exact sz25) | (rw [S2.out]; exact sz25) | (rw [S3.out]; exact sz25)) rfl ?_))
    | ((with_reducible refine gate_store (x := .tmp 2) rfl ?_); go_must (refine M.out.ev_stw 1 _ _ _ rfl rfl rfl rfl _ rfl (by first | rfl | (simp only [S1.out]; rfl) | (simp only [S1.out, S2.out]; rfl) | (simp only [S3.out]; rfl) | (simp only [S1.out, S2.out, S3.out]; rfl)) (by first | exact sz25 | (rw [S1.out]; exact sz25) | (rw [S2.out]; exact sz25) | (rw [S3.out]; exact sz25)) (by first | exact ints_one _ _ | exact Fld.one _ | exact O1.out | rfl | (simp [Value.oneCell']; done)) rfl ?_); intro wn m; simp only [List.set_cons_succ, List.set_cons_zero, List.setIfInBounds_toArray] at m; have M := Lib.hid m; clear m)
    )
  have m := M.out
  rw [zeroS] at m
  go_loopw [4] (fun v wr => ∃ k : Nat, k ≤ 100 ∧ v = .int .i64 k ∧ Mem w wr [.blk g1 25 (ints .i16 xs), .blk g2 25 (ints .i16 (zs 100)), .blk g3 25 (ints .i16 (xs.take k ++ (zs 100).drop k))])
    (fun v _ => 100 - (intOf v).toNat)
  case atStart => exact ⟨0, by omega, rfl, m⟩
  case round =>
    obtain ⟨k, hk, rfl, m⟩ := hrel
    have M := Lib.hid m
    clear m
    by_cases hlt : k < 100
    · have hc : (ints .i16 xs)[k]? = some (.int .i16 (gi xs k)) := ints_at (by rw [HS.out]; omega)
      have hj : k < (ints .i16 (xs.take k ++ (zs 100).drop k)).size := by rw [ints_size, take_drop_len _ _ k 100 HS.out (zs_len 100) (by omega)]; omega
      go_wp2_with (first
        | ((with_reducible refine gate_dst (N := 1) rfl ?_); go_must (refine M.out.ev_new rfl (by first | (go_simp; done) | (go_simp; rfl)) ?_); intro g1 w1 m; simp only [List.cons_append, List.nil_append] at m; have M := Lib.hid m; clear m)
        | ((with_reducible refine gate_dst (N := 2) rfl ?_); go_must (refine M.out.ev_new rfl (by first | (go_simp; done) | (go_simp; rfl)) ?_); intro g2 w2 m; simp only [List.cons_append, List.nil_append] at m; have M := Lib.hid m; clear m)
        | ((with_reducible refine gate_dst (N := 3) rfl ?_); go_must (refine M.out.ev_new rfl (by first | (go_simp; done) | (go_simp; rfl)) ?_); intro g3 w3 m; simp only [List.cons_append, List.nil_append] at m; have M := Lib.hid m; clear m)
        | ((with_reducible refine gate_dst (N := 12) rfl ?_); go_must (refine M.out.ev_ld 0 _ _ rfl rfl rfl Try.underlying24 rfl rfl (by first | assumption | rfl) ?_))
        | ((with_reducible refine gate_store (x := .tmp 13) rfl ?_); go_must (refine M.out.ev_put 2 _ _ _ rfl rfl rfl rfl (.int _ _) rfl (by first | assumption | exact Fld.lt0 _ | exact Fld.lt1 _ | (simp; done) | (simp only [ints_size]; omega)) sz24 rfl rfl ?_); intro wn m; simp only [List.set_cons_succ, List.set_cons_zero, List.setIfInBounds_toArray] at m; have M := Lib.hid m; clear m)
        | ((with_reducible refine gate_dst (N := 14) rfl ?_); go_must (refine M.out.ev_ldw 2 _ _ rfl rfl rfl Try.underlying25 rfl (by first | exact sz25 | (rw [S1.out]; exact sz25) | (rw [S2.out]; exact sz25) | (rw [S3.out]; exact sz25)) rfl ?_))
        | ((with_reducible refine gate_store (x := .tmp 2) rfl ?_); go_must (refine M.out.ev_stw 1 _ _ _ rfl rfl rfl rfl _ rfl (by first | rfl | (simp only [S1.out]; rfl) | (simp only [S1.out, S2.out]; rfl) | (simp only [S3.out]; rfl) | (simp only [S1.out, S2.out, S3.out]; rfl)) (by first | exact sz25 | (rw [S1.out]; exact sz25) | (rw [S2.out]; exact sz25) | (rw [S3.out]; exact sz25)) (by first | exact ints_one _ _ | exact Fld.one _ | exact O1.out | rfl | (simp [Value.oneCell']; done)) rfl ?_); intro wn m; simp only [List.set_cons_succ, List.set_cons_zero, List.setIfInBounds_toArray] at m; have M := Lib.hid m; clear m)
        )
      go_roundw
      case rel =>
        refine ⟨k + 1, by omega, by go_num, ?_⟩
        have m := M.out
        rw [ints_set, take_set_drop _ _ _ _ (getElem?_gi (by rw [HS.out]; omega)) (by rw [zs_len]; omega)] at m
        exact m
      case measure => simp [intOf]; omega
    · obtain rfl : k = 100 := by omega
      have hx : xs.take 100 ++ (zs 100).drop 100 = xs := by
        rw [List.take_of_length_le (by rw [HS.out]; omega), List.drop_of_length_le (by rw [zs_len]; omega), List.append_nil]
      rw [hx] at M
      clear hx
      go_wp2_with (first
        | ((with_reducible refine gate_dst (N := 1) rfl ?_); go_must (refine M.out.ev_new rfl (by first | (go_simp; done) | (go_simp; rfl)) ?_); intro g1 w1 m; simp only [List.cons_append, List.nil_append] at m; have M := Lib.hid m; clear m)
        | ((with_reducible refine gate_dst (N := 2) rfl ?_); go_must (refine M.out.ev_new rfl (by first | (go_simp; done) | (go_simp; rfl)) ?_); intro g2 w2 m; simp only [List.cons_append, List.nil_append] at m; have M := Lib.hid m; clear m)
        | ((with_reducible refine gate_dst (N := 3) rfl ?_); go_must (refine M.out.ev_new rfl (by first | (go_simp; done) | (go_simp; rfl)) ?_); intro g3 w3 m; simp only [List.cons_append, List.nil_append] at m; have M := Lib.hid m; clear m)
        | ((with_reducible refine gate_dst (N := 12) rfl ?_); go_must (refine M.out.ev_ld 0 _ _ rfl rfl rfl Try.underlying24 rfl rfl (by first | assumption | rfl) ?_))
        | ((with_reducible refine gate_store (x := .tmp 13) rfl ?_); go_must (refine M.out.ev_put 2 _ _ _ rfl rfl rfl rfl (.int _ _) rfl (by first | assumption | exact Fld.lt0 _ | exact Fld.lt1 _ | (simp; done) | (simp only [ints_size]; omega)) sz24 rfl rfl ?_); intro wn m; simp only [List.set_cons_succ, List.set_cons_zero, List.setIfInBounds_toArray] at m; have M := Lib.hid m; clear m)
        | ((with_reducible refine gate_dst (N := 14) rfl ?_); go_must (refine M.out.ev_ldw 2 _ _ rfl rfl rfl Try.underlying25 rfl (by first | exact sz25 | (rw [S1.out]; exact sz25) | (rw [S2.out]; exact sz25) | (rw [S3.out]; exact sz25)) rfl ?_))
        | ((with_reducible refine gate_store (x := .tmp 2) rfl ?_); go_must (refine M.out.ev_stw 1 _ _ _ rfl rfl rfl rfl _ rfl (by first | rfl | (simp only [S1.out]; rfl) | (simp only [S1.out, S2.out]; rfl) | (simp only [S3.out]; rfl) | (simp only [S1.out, S2.out, S3.out]; rfl)) (by first | exact sz25 | (rw [S1.out]; exact sz25) | (rw [S2.out]; exact sz25) | (rw [S3.out]; exact sz25)) (by first | exact ints_one _ _ | exact Fld.one _ | exact O1.out | rfl | (simp [Value.oneCell']; done)) rfl ?_); intro wn m; simp only [List.set_cons_succ, List.set_cons_zero, List.setIfInBounds_toArray] at m; have M := Lib.hid m; clear m)
        )
      exact ret_cell rfl (M.out.blk 1 rfl) Try.underlying25 rfl (by rw [S1.out]; exact sz25) rfl ⟨rfl, M.out.below⟩
set_option maxRecDepth 100000 in
set_option maxHeartbeats 1000000 in
theorem toField_any (F : Fld) (hF : F.len) (w : World) :
    Calls Try.prog 6 #[.agg F.cells] w fun e w' => e = .returned (.agg F.cells) ∧ Below w.heap.size w w' := by
  have M := Lib.hid (Mem.start w)
  have S1 := Lib.hid (Fld.size hF)
  have LF := Lib.hid hF
  have hj1 : 2 + (F.kinds.map (Value.int .u8)).length ≤ (Fld.cells ⟨F.wide, F.high, Fld.z.kinds, Fld.z.seeds⟩).size := by
    rw [Fld.size ⟨zs_len 100, zs_len 100⟩, List.length_map, hF.kl]; omega
  have hj2 : 102 + (F.seeds.map (Value.int .i16)).length ≤ (Fld.cells ⟨F.wide, F.high, F.kinds, Fld.z.seeds⟩).size := by
    rw [Fld.size (F := ⟨F.wide, F.high, F.kinds, Fld.z.seeds⟩) ⟨hF.kl, zs_len 100⟩, List.length_map, hF.sl]; omega
  have c0 := F.cell0
  have c1 := F.cell1
  have e1 := Lib.hid (Fld.setK (F := ⟨F.wide, F.high, Fld.z.kinds, Fld.z.seeds⟩) ⟨zs_len 100, zs_len 100⟩ _ hF.kl)
  have e2 := Lib.hid (Fld.setS (F := ⟨F.wide, F.high, F.kinds, Fld.z.seeds⟩) ⟨hF.kl, zs_len 100⟩ _ hF.sl)
  go_enter Try.func6, Try.ntmps6
  go_wp2_with (first
    | ((with_reducible refine gate_dst (N := 1) rfl ?_); go_must (refine M.out.ev_new rfl (by first | (go_simp; done) | (go_simp; rfl)) ?_); intro g1 w1 m; simp only [List.cons_append, List.nil_append, zeroFld, Fld.set0, Fld.set1, e1.out, e2.out] at m; have M := Lib.hid m; clear m)
    | ((with_reducible refine gate_dst (N := 2) rfl ?_); go_must (refine M.out.ev_new rfl (by first | (go_simp; done) | (go_simp; rfl)) ?_); intro g2 w2 m; simp only [List.cons_append, List.nil_append, zeroFld, Fld.set0, Fld.set1, e1.out, e2.out] at m; have M := Lib.hid m; clear m)
    | ((with_reducible refine gate_dst (N := 3) rfl ?_); go_must (refine M.out.ev_new rfl (by first | (go_simp; done) | (go_simp; rfl)) ?_); intro g3 w3 m; simp only [List.cons_append, List.nil_append, zeroFld, Fld.set0, Fld.set1, e1.out, e2.out] at m; have M := Lib.hid m; clear m)
    | ((with_reducible refine gate_dst (N := 5) rfl ?_); go_must (refine M.out.ev_ld 0 _ _ rfl rfl rfl Try.underlying22 rfl rfl (by first | assumption | rfl) ?_))
    | ((with_reducible refine gate_store (x := .tmp 6) rfl ?_); go_must (refine M.out.ev_put 2 _ _ _ rfl rfl rfl rfl (.int _ _) rfl (by first | assumption | exact Fld.lt0 _ | exact Fld.lt1 _ | (simp; done) | (simp only [ints_size]; omega)) sz22 rfl rfl ?_); intro wn m; simp only [List.set_cons_succ, List.set_cons_zero, List.setIfInBounds_toArray, zeroFld, Fld.set0, Fld.set1, e1.out, e2.out] at m; have M := Lib.hid m; clear m)
    | ((with_reducible refine gate_dst (N := 8) rfl ?_); go_must (refine M.out.ev_ld 0 _ _ rfl rfl rfl Try.underlying22 rfl rfl (by first | assumption | rfl) ?_))
    | ((with_reducible refine gate_store (x := .tmp 9) rfl ?_); go_must (refine M.out.ev_put 2 _ _ _ rfl rfl rfl rfl (.int _ _) rfl (by first | assumption | exact Fld.lt0 _ | exact Fld.lt1 _ | (simp; done) | (simp only [ints_size]; omega)) sz22 rfl rfl ?_); intro wn m; simp only [List.set_cons_succ, List.set_cons_zero, List.setIfInBounds_toArray, zeroFld, Fld.set0, Fld.set1, e1.out, e2.out] at m; have M := Lib.hid m; clear m)
    | ((with_reducible refine gate_dst (N := 11) rfl ?_); go_must (refine M.out.ev_ldm 0 _ _ rfl rfl rfl _ _ (by first | exact Fld.cellsK LF.out | exact Fld.cellsS LF.out | assumption) Try.underlying23 rfl (by first | (rw [List.length_map, LF.out.kl]; exact sz23) | (rw [List.length_map, LF.out.sl]; exact sz23) | exact sz23) rfl ?_))
    | ((with_reducible refine gate_store (x := .tmp 13) rfl ?_); go_must (refine M.out.ev_stm 2 _ _ _ rfl rfl rfl _ rfl _ rfl (by first | assumption | (simp only [List.length_map, Fld.size LF.out, LF.out.kl, LF.out.sl]; omega)) (by first | (rw [List.length_map, LF.out.kl]; exact sz23) | (rw [List.length_map, LF.out.sl]; exact sz23) | exact sz23) (by first | exact ints_one _ _ | (simp [Value.oneCell']; done)) rfl ?_); intro wn m; simp only [List.set_cons_succ, List.set_cons_zero, List.setIfInBounds_toArray, zeroFld, Fld.set0, Fld.set1, e1.out, e2.out] at m; have M := Lib.hid m; clear m)
    | ((with_reducible refine gate_dst (N := 15) rfl ?_); go_must (refine M.out.ev_ldm 0 _ _ rfl rfl rfl _ _ (by first | exact Fld.cellsK LF.out | exact Fld.cellsS LF.out | assumption) Try.underlying25 rfl (by first | (rw [List.length_map, LF.out.kl]; exact sz25) | (rw [List.length_map, LF.out.sl]; exact sz25) | exact sz25) rfl ?_))
    | ((with_reducible refine gate_store (x := .tmp 17) rfl ?_); go_must (refine M.out.ev_stm 2 _ _ _ rfl rfl rfl _ rfl _ rfl (by first | assumption | (simp only [List.length_map, Fld.size LF.out, LF.out.kl, LF.out.sl]; omega)) (by first | (rw [List.length_map, LF.out.kl]; exact sz25) | (rw [List.length_map, LF.out.sl]; exact sz25) | exact sz25) (by first | exact ints_one _ _ | (simp [Value.oneCell']; done)) rfl ?_); intro wn m; simp only [List.set_cons_succ, List.set_cons_zero, List.setIfInBounds_toArray, zeroFld, Fld.set0, Fld.set1, e1.out, e2.out] at m; have M := Lib.hid m; clear m)
    | ((with_reducible refine gate_dst (N := 18) rfl ?_); go_must (refine M.out.ev_ldw 2 _ _ rfl rfl rfl Try.underlying35 rfl (by first | exact sz35 | (rw [S1.out]; exact sz35) | (rw [S2.out]; exact sz35) | (rw [S3.out]; exact sz35)) rfl ?_))
    | ((with_reducible refine gate_store (x := .tmp 2) rfl ?_); go_must (refine M.out.ev_stw 1 _ _ _ rfl rfl rfl rfl _ rfl (by first | rfl | (simp only [S1.out]; rfl) | (simp only [S1.out, S2.out]; rfl) | (simp only [S3.out]; rfl) | (simp only [S1.out, S2.out, S3.out]; rfl)) (by first | exact sz35 | (rw [S1.out]; exact sz35) | (rw [S2.out]; exact sz35) | (rw [S3.out]; exact sz35)) (by first | exact ints_one _ _ | exact Fld.one _ | exact O1.out | rfl | (simp [Value.oneCell']; done)) rfl ?_); intro wn m; simp only [List.set_cons_succ, List.set_cons_zero, List.setIfInBounds_toArray, zeroFld, Fld.set0, Fld.set1, e1.out, e2.out] at m; have M := Lib.hid m; clear m)
    | (go_at_call 39; go_must (refine (toByteA100_any F.kinds hF.kl _).mono ?_); rintro e w_ ⟨rfl, hB_⟩; have M := Lib.hid (M.out.kept hB_); clear hB_)
    | (go_at_call 40; go_must (refine (toInt16A100_any F.seeds hF.sl _).mono ?_); rintro e w_ ⟨rfl, hB_⟩; have M := Lib.hid (M.out.kept hB_); clear hB_)
    )
  exact ret_cell rfl (M.out.blk 1 rfl) Try.underlying35 rfl (by rw [S1.out]; exact sz35) rfl ⟨rfl, M.out.below⟩
end Go.Proofs.Ytjkclggdaafmaaa
namespace Go.Proofs.Ytjkclggdaafmaaa
set_option linter.unusedSimpArgs false
set_option linter.unusedVariables false
open Go.RowKit

/-- A list's cells, one element behind the other. -/
def flat {α : Type} (enc : α → List Value) (xs : List α) : List Value := xs.flatMap enc
section
variable {α : Type} {enc : α → List Value} {sz : Nat}
theorem flat_len (h : ∀ x, (enc x).length = sz) (xs : List α) : (flat enc xs).length = xs.length * sz := by
  induction xs with
  | nil => simp [flat]
  | cons x xs ih =>
    simp only [flat, List.flatMap_cons, List.length_append, List.length_cons, h x]
    rw [show (xs.flatMap enc).length = xs.length * sz from ih, Nat.add_mul]; omega
theorem flat_snoc (xs : List α) (x : α) : flat enc (xs ++ [x]) = flat enc xs ++ enc x := by simp [flat]
theorem flat_append (xs ys : List α) : flat enc (xs ++ ys) = flat enc xs ++ flat enc ys := by simp [flat]
theorem flat_at (h : ∀ x, (enc x).length = sz) {xs : List α} {k : Nat} {x : α} (hk : xs[k]? = some x) {j : Nat} {v : Value} (hv : (enc x)[j]? = some v) : (flat enc xs)[k * sz + j]? = some v := by
  induction xs generalizing k with
  | nil => simp at hk
  | cons y ys ih =>
    simp only [flat, List.flatMap_cons]
    cases k with
    | zero =>
      simp only [List.getElem?_cons_zero, Option.some.injEq] at hk
      subst hk
      rw [Nat.zero_mul, Nat.zero_add, List.getElem?_append_left (List.getElem?_eq_some_iff.1 hv).1]
      exact hv
    | succ k =>
      simp only [List.getElem?_cons_succ] at hk
      rw [List.getElem?_append_right (by rw [h y, Nat.add_mul]; omega), h y, show (k + 1) * sz + j - sz = k * sz + j by rw [Nat.add_mul]; omega]
      exact ih hk
/-- Some elements of a list of cells, exchanged. -/
def splL (cs : List Value) (o : Nat) (vs : List Value) : List Value := cs.take o ++ vs ++ cs.drop (o + vs.length)
end
/-- A slice value (its address, its length) that reads as these cells, sz of them an element. -/
def Sl (w : World) (sz : Nat) (A : Option Addr) (n : Nat) (cs : List Value) : Prop :=
  cs.length = n * sz ∧ (0 < n → ∃ b off, A = some ⟨b, off, none⟩ ∧ w.rangeAt b off cs)

section
variable {w w0 w1 : World} {sz n : Nat} {A : Option Addr} {cs : List Value} {L : List Ent}
theorem range_kept {b off : Nat} (h : w.rangeAt b off cs) (hb : Below w.heap.size w w1) : w1.rangeAt b off cs := fun j v hv => by
  have hc := h j v hv
  exact (hb.cell (World.block_lt_of_cell? w _ hc)).trans hc
theorem Sl.kept (h : Sl w sz A n cs) (hb : Below w.heap.size w w1) : Sl w1 sz A n cs :=
  ⟨h.1, fun hn => by
    obtain ⟨b, off, e, hr⟩ := h.2 hn
    exact ⟨b, off, e, range_kept hr hb⟩⟩
theorem Sl.nil_ : Sl w sz A 0 [] := ⟨by simp, fun h => absurd h (by omega)⟩
theorem Mem.sl (M : Mem w0 w L) (h : Sl w0 sz A n cs) : Sl w sz A n cs := h.kept M.below
theorem Mem.row_sl (M : Mem w0 w L) (i : Nat) {v : Value} {e : TypeId} (h : L[i]? = some (.row v e sz n cs)) : ∃ A cap, v = .slice A n cap ∧ n ≤ cap ∧ Sl w sz A n cs := by
  obtain ⟨A, cap, rfl, hc, _⟩ := M.row_slice i h
  refine ⟨A, cap, rfl, hc, M.row_len i h, fun hn => ?_⟩
  obtain ⟨g, cap', e1, _⟩ := M.row_form i h hn
  obtain rfl : A = some ⟨g, 0, none⟩ := by injection e1
  refine ⟨g, 0, rfl, fun j u hu => ?_⟩
  rw [Nat.zero_add]
  exact M.row_cell i h hu
theorem Mem.slof (M : Mem w0 w L) (i : Nat) {c : Nat} {e : TypeId} (h : L[i]? = some (.row (.slice A n c) e sz n cs)) : Sl w sz A n cs := by
  obtain ⟨A', c', e1, _, hs⟩ := M.row_sl i h
  injection e1 with e1
  subst e1
  exact hs
theorem range_at {α : Type} {enc : α → List Value} (henc : ∀ x, (enc x).length = sz) {xs : List α} {b off : Nat} (h : w.rangeAt b off (flat enc xs)) {k : Nat} {x : α} (hk : xs[k]? = some x) :
    w.rangeAt b (off + k * sz) (enc x) := fun j v hv => by
  have := h (k * sz + j) v (flat_at henc hk hv)
  rwa [← Nat.add_assoc] at this
end

section
variable {w w0 w1 : World} {L : List Ent}
end

section
variable {P : Program} {ops : Array Oper} {rest : List Oper} {o : Oper} {a : Act} {w0 w : World} {Q : Exit → Act → World → Prop} {L : List Ent}
/-- What the program's table says of an element type. -/
structure ElemOk (P : Program) (T e : TypeId) (z : Value) (sz bytes : Nat) : Prop where
  sl : P.underlying T = some (.slice e)
  info : (P.info? e).map (fun i => (i.zero, i.size, i.bytes)) = some (some z, sz, bytes)
  zs : z.cells.size = sz
  pos : 0 < sz
theorem ElemOk.get {T e : TypeId} {z : Value} {sz bytes : Nat} (E : ElemOk P T e z sz bytes) : ∃ i, P.info? e = some i ∧ i.zero = some z ∧ i.size = sz ∧ i.bytes = bytes := by
  have h := E.info
  cases hq : P.info? e with
  | none => simp [hq] at h
  | some i =>
    simp only [hq, Option.map_some, Option.some.injEq, Prod.mk.injEq] at h
    exact ⟨i, rfl, h.1, h.2.1, h.2.2⟩
/-- append of cells that lie somewhere in memory. -/
theorem Mem.ev_append (M : Mem w0 w L) (i : Nat) {T e : TypeId} {zv : Value} {sz bytes : Nat} (E : ElemOk P T e zv sz bytes) (hgd : o.guard = none) (s x : Operand)
    (ho : o.op = .call { callee := .builtin .append, args := #[s, x], argTypes := #[T, T] }) {v : Value} {n : Nat} {cs : List Value} (hL : L[i]? = some (.row v e sz n cs)) (hs : a.eval s = v)
    {ad : Addr} {m c : Nat} (hx : a.eval x = .slice (some ad) m c) {news : List Value} (hl : news.length = m * sz) (hnews : ∀ j u, news[j]? = some u → w.cell? (ad.add j) = some u) (h1 : ∀ u ∈ news, u.oneCell' = true)
    (hbytes : (n + m) * bytes ≤ 140737488355328) (hb0 : 0 < bytes)
    (h : ∀ v' w1, Mem w0 w1 (L.set i (.row v' e sz (n + m) (cs ++ news))) → wpList P ops Q rest (a.put o.dst v') w1) : wpList P ops Q (o :: rest) a w := by
  obtain ⟨inf, hi, hz1, hz2, hz3⟩ := E.get
  have hml : n + m ≤ maxLen := by
    unfold maxLen
    have : n + m ≤ (n + m) * bytes := Nat.le_mul_of_pos_right _ hb0
    omega
  obtain ⟨v', w', hrun, hown, hg, _, hat⟩ := run_append_own_at (P := P) w w0.heap.size T o.type e inf zv sz bytes E.sl hi hz1 hz2 hz3 E.zs E.pos v n cs (M.row i hL) ad m c news hl hnews h1 hml hbytes M.size
  refine wpList_plain hgd fun K hK => ?_
  unfold Oper.wp execOp
  simp only [ho, resolve, invoke, builtin, Sem.run_bind, Sem.run_pure, Result.andThen_ok, List.map_toArray, List.map_cons, List.map_nil, hs, hx, hrun]
  refine hK _ _ (h v' w' (M.change i hL ?_ hown (fun k hk hne => hg.block k hk (fun e => hne e.symm)) (fun k hk => ?_)))
  · refine M.below.grown hg M.size (fun k hk => ((M.all i _ hL).lt (k := k) hk).1)
  · rcases hat with e1 | e1
    · exact .inl (show v.ownBlock = some k from e1.symm.trans hk)
    · refine .inr ?_
      have hk : v'.ownBlock = some k := hk
      rw [e1] at hk
      injection hk with hk
      omega
/-- .. of one element that has just been laid into a variable of its own. -/
theorem Mem.ev_append1 (M : Mem w0 w L) (i j : Nat) {T e : TypeId} {zv : Value} {sz bytes : Nat} (E : ElemOk P T e zv sz bytes) (hgd : o.guard = none) (s x : Operand)
    (ho : o.op = .call { callee := .builtin .append, args := #[s, x], argTypes := #[T, T] }) {v : Value} {n : Nat} {cs : List Value} (hL : L[i]? = some (.row v e sz n cs)) (hs : a.eval s = v)
    {g c : Nat} {t : TypeId} {news : Array Value} (hx : a.eval x = .slice (some ⟨g, 0, none⟩) 1 c) (hN : L[j]? = some (.blk g t news)) (hl : news.size = sz) (h1 : news.all (·.oneCell') = true)
    (hbytes : (n + 1) * bytes ≤ 140737488355328) (hb0 : 0 < bytes)
    (h : ∀ v' w1, Mem w0 w1 (L.set i (.row v' e sz (n + 1) (cs ++ news.toList))) → wpList P ops Q rest (a.put o.dst v') w1) : wpList P ops Q (o :: rest) a w :=
  M.ev_append i E hgd s x ho hL hs hx (news := news.toList) (by simp [hl]) (fun k u hu => by
    rw [show (⟨g, 0, none⟩ : Addr).add k = ⟨g, k, none⟩ by unfold Addr.add; split <;> simp_all]
    exact (M.blk j hN).cellv (by simpa using hu)) (fun u hu => by
      rw [Array.all_eq_true_iff_forall_mem] at h1
      exact h1 u (by simpa using hu)) hbytes hb0 h
/-- xs[i] = x, x of one cell. -/
theorem Mem.ev_rput1 (M : Mem w0 w L) (i : Nat) (T : TypeId) (x y : Operand) (ho : o.op = .store T x y) (hgd : o.guard = none) {g cap off : Nat} {e : TypeId} {sz n : Nat} {cs : List Value}
    (hL : L[i]? = some (.row (.slice (some ⟨g, 0, none⟩) n cap) e sz n cs)) (hx : a.eval x = .pointer (some ⟨g, off, none⟩)) (v : Value) (hy : a.eval y = v)
    (hl : off < cs.length) (hi : (P.info? T).map (·.size) = some 1) (h1 : v.oneCell' = true) (hdst : o.dst = none)
    (h : ∀ w1, Mem w0 w1 (L.set i (.row (.slice (some ⟨g, 0, none⟩) n cap) e sz n (cs.set off v))) → wpList P ops Q rest a w1) : wpList P ops Q (o :: rest) a w := by
  refine wpList_plain hgd fun K hK => ?_
  unfold Oper.wp execOp
  simp only [ho, hx, hy, Sem.run_bind, Result.andThen_ok, run_put T hi h1 (M.row_cell i hL (List.getElem?_eq_getElem hl)) (M.row_frozen i hL off), Sem.run_pure]
  show K (a.put o.dst undef) _
  rw [hdst]
  exact hK _ _ (h _ (M.row_set i hL off v))
/-- A load of several cells of a slice. -/
theorem ev_ldr (T : TypeId) (x : Operand) (ho : o.op = .load T x) (hgd : o.guard = none) {b off : Nat} {vs : List Value} (hr : w.rangeAt b off vs) {d : TypeDesc} (hu : P.underlying T = some d) (hd : d.isRow = true)
    (hi : (P.info? T).map (·.size) = some vs.length) (hx : a.eval x = .pointer (some ⟨b, off, none⟩)) (h : wpList P ops Q rest (a.put o.dst (.agg vs.toArray)) w) : wpList P ops Q (o :: rest) a w :=
  wpList_load_mid hgd T x ho b off hx vs d hr hu hd hi h
end

/-- A call hands back a row of its own. -/
def RetRow (w : World) (T : TypeId) (sz n : Nat) (cs : List Value) (e : Ending) (w' : World) : Prop :=
  ∃ A c, e = .returned (.slice A n c) ∧ n ≤ c ∧ Mem w w' [.row (.slice A n c) T sz n cs]
end Go.Proofs.Ytjkclggdaafmaaa
