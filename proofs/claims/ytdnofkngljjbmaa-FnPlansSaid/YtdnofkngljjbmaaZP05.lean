/- Texts of a proof, laid together: Fld. -/
import Derived.Test.YtdnofkngljjbmaaZP02
import Derived.Test.YtdnofkngljjbmaaZP03
import Derived.Test.YtdnofkngljjbmaaZP00
namespace Go.Proofs.Ytdnofkngljjbmaa
set_option linter.unusedSimpArgs false
set_option linter.unusedVariables false
open Go.RowKit

structure Fld where
  wide : Int
  high : Int
  kinds : List Int
  seeds : List Int
def Fld.list (F : Fld) : List Value := (.int .i8 F.wide) :: (.int .i8 F.high) :: (F.kinds.map (Value.int .u8) ++ F.seeds.map (Value.int .i16))
def Fld.cells (F : Fld) : Array Value := F.list.toArray
def Fld.z : Fld := ⟨0, 0, zs 100, zs 100⟩
def Fld.kind (F : Fld) (k : Nat) : Int := gi F.kinds k
def Fld.seed (F : Fld) (k : Nat) : Int := gi F.seeds k
structure Fld.len (F : Fld) : Prop where
  kl : F.kinds.length = 100
  sl : F.seeds.length = 100
/-- A field as Go can hold it. -/
structure Fld.ok (F : Fld) : Prop extends toLen : F.len where
  w0 : -128 ≤ F.wide
  w1 : F.wide ≤ 127
  h0 : -128 ≤ F.high
  h1 : F.high ≤ 127
  k0 : ∀ x ∈ F.kinds, 0 ≤ x ∧ x ≤ 255
  s0 : ∀ x ∈ F.seeds, -32768 ≤ x ∧ x ≤ 32767
theorem getD_bound {xs : List Int} {P : Int → Prop} (h : ∀ x ∈ xs, P x) (h0 : P 0) (k : Nat) : P (xs.getD k 0) := by
  rw [List.getD_eq_getElem?_getD]
  rcases Nat.lt_or_ge k xs.length with hk | hk
  · rw [List.getElem?_eq_getElem hk]; exact h _ (List.getElem_mem hk)
  · rw [List.getElem?_eq_none hk]; exact h0
theorem Fld.ok.kb {F : Fld} (h : F.ok) (k : Nat) : 0 ≤ F.kind k ∧ F.kind k ≤ 255 := getD_bound h.k0 (by omega) k
theorem Fld.ok.sb {F : Fld} (h : F.ok) (k : Nat) : -32768 ≤ F.seed k ∧ F.seed k ≤ 32767 := getD_bound h.s0 (by omega) k
theorem Fld.size {F : Fld} (h : F.len) : F.cells.size = 202 := by simp [Fld.cells, Fld.list, h.kl, h.sl]
theorem Fld.z_len : Fld.z.len := ⟨zs_len 100, zs_len 100⟩
theorem zeroFld : Try.zeroCells49 = Fld.z.cells := by kernel_rfl
theorem Fld.cell0 (F : Fld) : F.cells[0]? = some (.int .i8 F.wide) := by simp [Fld.cells, Fld.list]
theorem Fld.cell1 (F : Fld) : F.cells[1]? = some (.int .i8 F.high) := by simp [Fld.cells, Fld.list]
theorem Fld.lt0 (F : Fld) : 0 < F.cells.size := by simp [Fld.cells, Fld.list]
theorem Fld.lt1 (F : Fld) : 1 < F.cells.size := by simp [Fld.cells, Fld.list]
theorem Fld.set0 (F : Fld) (x : Int) : F.cells.setIfInBounds 0 (.int .i8 x) = { F with wide := x }.cells := by simp [Fld.cells, Fld.list]
theorem Fld.set1 (F : Fld) (x : Int) : F.cells.setIfInBounds 1 (.int .i8 x) = { F with high := x }.cells := by simp [Fld.cells, Fld.list]
theorem Fld.one (F : Fld) : F.cells.all (·.oneCell') = true := by
  simp [Fld.cells, Fld.list, Value.oneCell']
theorem Fld.cellsK {F : Fld} (h : F.len) (j : Nat) (v : Value) (hv : (F.kinds.map (Value.int .u8))[j]? = some v) : F.cells[2 + j]? = some v := by
  have hl := h.kl
  rw [show 2 + j = j + 1 + 1 by omega]
  simp only [Fld.cells, Fld.list, List.getElem?_toArray, List.getElem?_cons_succ]
  rw [List.getElem?_append_left (List.getElem?_eq_some_iff.1 hv).1]
  exact hv
theorem Fld.cellsS {F : Fld} (h : F.len) (j : Nat) (v : Value) (hv : (F.seeds.map (Value.int .i16))[j]? = some v) : F.cells[102 + j]? = some v := by
  have hl := h.kl
  rw [show 102 + j = 100 + j + 1 + 1 by omega]
  simp only [Fld.cells, Fld.list, List.getElem?_toArray, List.getElem?_cons_succ]
  rw [List.getElem?_append_right (by simp; omega)]
  simpa [hl] using hv
theorem Fld.cellK {F : Fld} (h : F.len) {k : Nat} (hk : k < 100) : F.cells[2 + k]? = some (.int .u8 (F.kind k)) :=
  Fld.cellsK h k _ (by have := h.kl; simp [Fld.kind, gi, hk, this])
theorem Fld.cellS {F : Fld} (h : F.len) {k : Nat} (hk : k < 100) : F.cells[102 + k]? = some (.int .i16 (F.seed k)) :=
  Fld.cellsS h k _ (by have := h.sl; simp [Fld.seed, gi, hk, this])
theorem Fld.setK {F : Fld} (h : F.len) (xs : List Int) (hx : xs.length = 100) : spl F.cells 2 (xs.map (Value.int .u8)) = { F with kinds := xs }.cells := by
  have hl := h.kl
  simp only [spl, Fld.cells, Fld.list, List.length_map, hx]
  congr 1
  rw [show 2 + 100 = 100 + 1 + 1 by omega, List.drop_succ_cons, List.drop_succ_cons, List.drop_append_of_le_length (by simp [hl]), List.drop_of_length_le (by simp [hl])]
  simp
theorem Fld.setS {F : Fld} (h : F.len) (xs : List Int) (hx : xs.length = 100) : spl F.cells 102 (xs.map (Value.int .i16)) = { F with seeds := xs }.cells := by
  have hl := h.kl
  have hs := h.sl
  simp only [spl, Fld.cells, Fld.list, List.length_map, hx]
  congr 1
  rw [List.drop_of_length_le (by simp [hl, hs]), show 102 = 100 + 1 + 1 by omega, List.take_succ_cons, List.take_succ_cons, List.take_append_of_le_length (by simp [hl]), List.take_of_length_le (by simp [hl])]
  simp
/-- One cell's seeds exchanged. -/
def Fld.withSeed (F : Fld) (k : Nat) (x : Int) : Fld := { F with seeds := F.seeds.set k x }
theorem Fld.setSeed {F : Fld} (h : F.len) (k : Nat) (x : Int) : F.cells.setIfInBounds (102 + k) (.int .i16 x) = (F.withSeed k x).cells := by
  have hl := h.kl
  rw [show 102 + k = 100 + k + 1 + 1 by omega]
  simp only [Fld.cells, Fld.list, Fld.withSeed, List.setIfInBounds_toArray, List.set_cons_succ]
  rw [List.set_append, if_neg (by simp; omega), List.map_set]
  simp [hl]
theorem Fld.withSeed_len {F : Fld} (h : F.len) (k : Nat) (x : Int) : (F.withSeed k x).len := ⟨h.kl, by simp [Fld.withSeed, h.sl]⟩

/-! ### The laws' own way to hand a field over -/
theorem zeroK : Try.zeroCells46 = ints .u8 (zs 100) := by kernel_rfl
theorem zeroS : Try.zeroCells47 = ints .i16 (zs 100) := by kernel_rfl
theorem take_drop_len (xs ys : List Int) (k n : Nat) (hx : xs.length = n) (hy : ys.length = n) (hk : k ≤ n) : (xs.take k ++ ys.drop k).length = n := by
  simp; omega
set_option maxRecDepth 100000 in
set_option maxHeartbeats 1000000 in
theorem toByteA100_any (xs : List Int) (hs : xs.length = 100) (w : World) :
    Calls Try.prog 107 #[.agg (ints .u8 xs)] w fun e w' => e = .returned (.agg (ints .u8 xs)) ∧ Below w.heap.size w w' := by
  have M := Lib.hid (Mem.start w)
  have S1 := Lib.hid (show (ints .u8 xs).size = 100 by rw [ints_size, hs])
  have S2 := Lib.hid (show (ints .u8 (zs 100)).size = 100 by rw [ints_size, zs_len])
  have HS := Lib.hid hs
  clear hs
  go_enter Try.func107, Try.ntmps107
  go_wp2_with (first
    | ((with_reducible refine gate_dst (N := 1) rfl ?_); go_must (refine M.out.ev_new rfl (by first | (go_simp; done) | (go_simp; rfl)) ?_); intro g1 w1 m; simp only [List.cons_append, List.nil_append] at m; have M := Lib.hid m; clear m)
    | ((with_reducible refine gate_dst (N := 2) rfl ?_); go_must (refine M.out.ev_new rfl (by first | (go_simp; done) | (go_simp; rfl)) ?_); intro g2 w2 m; simp only [List.cons_append, List.nil_append] at m; have M := Lib.hid m; clear m)
    | ((with_reducible refine gate_dst (N := 3) rfl ?_); go_must (refine M.out.ev_new rfl (by first | (go_simp; done) | (go_simp; rfl)) ?_); intro g3 w3 m; simp only [List.cons_append, List.nil_append] at m; have M := Lib.hid m; clear m)
    | ((with_reducible refine gate_dst (N := 12) rfl ?_); go_must (refine M.out.ev_ld 0 _ _ rfl rfl rfl Try.underlying5 rfl rfl (by first | assumption | rfl) ?_))
    | ((with_reducible refine gate_store (x := .tmp 13) rfl ?_); go_must (refine M.out.ev_put 2 _ _ _ rfl rfl rfl rfl (.int _ _) rfl (by first | assumption | exact Fld.lt0 _ | exact Fld.lt1 _ | (simp; done) | (simp only [ints_size]; omega)) sz5 rfl rfl ?_); intro wn m; simp only [List.set_cons_succ, List.set_cons_zero, List.setIfInBounds_toArray] at m; have M := Lib.hid m; clear m)
    | ((with_reducible refine gate_dst (N := 14) rfl ?_); go_must (refine M.out.ev_ldw 2 _ _ rfl rfl rfl Try.underlying46 rfl (by first | exact sz46 | (rw [S1.out]; exact sz46) | (rw [S2.out]; exact sz46) | (rw [S3.out]; exact sz46)) rfl ?_))
    | ((with_reducible refine gate_store (x := .tmp 2) rfl ?_); go_must (refine M.out.ev_stw 1 _ _ _ rfl rfl rfl rfl _ rfl (by first | rfl | (simp only [S1.out]; rfl) | (simp only [S1.out, S2.out]; rfl) | (simp only [S3.out]; rfl) | (simp only [S1.out, S2.out, S3.out]; rfl)) (by first | exact sz46 | (rw [S1.out]; exact sz46) | (rw [S2.out]; exact sz46) | (rw [S3.out]; exact sz46)) (by first | exact ints_one _ _ | exact Fld.one _ | exact O1.out | rfl | (simp [Value.oneCell']; done)) rfl ?_); intro wn m; simp only [List.set_cons_succ, List.set_cons_zero, List.setIfInBounds_toArray] at m; have M := Lib.hid m; clear m)
    )
  have m := M.out
  rw [zeroK] at m
  go_loopw [4] (fun v wr => ∃ k : Nat, k ≤ 100 ∧ v = .int .i64 k ∧ Mem w wr [.blk g1 46 (ints .u8 xs), .blk g2 46 (ints .u8 (zs 100)), .blk g3 46 (ints .u8 (xs.take k ++ (zs 100).drop k))])
    (fun v _ => 100 - (intOf v).toNat)
  case atStart => exact ⟨0, by omega, rfl, m⟩
  case round =>
    obtain ⟨k, hk, rfl, m⟩ := hrel
    have M := Lib.hid m
    clear m
    by_cases hlt : k < 100
    · have hc : (ints .u8 xs)[k]? = some (.int .u8 (gi xs k)) := ints_at (by rw [HS.out]; omega)
      have hj : k < (ints .u8 (xs.take k ++ (zs 100).drop k)).size := by rw [ints_size, take_drop_len _ _ k 100 HS.out (zs_len 100) (by omega)]; omega
      go_wp2_with (first
        | ((with_reducible refine gate_dst (N := 1) rfl ?_); go_must (refine M.out.ev_new rfl (by first | (go_simp; done) | (go_simp; rfl)) ?_); intro g1 w1 m; simp only [List.cons_append, List.nil_append] at m; have M := Lib.hid m; clear m)
        | ((with_reducible refine gate_dst (N := 2) rfl ?_); go_must (refine M.out.ev_new rfl (by first | (go_simp; done) | (go_simp; rfl)) ?_); intro g2 w2 m; simp only [List.cons_append, List.nil_append] at m; have M := Lib.hid m; clear m)
        | ((with_reducible refine gate_dst (N := 3) rfl ?_); go_must (refine M.out.ev_new rfl (by first | (go_simp; done) | (go_simp; rfl)) ?_); intro g3 w3 m; simp only [List.cons_append, List.nil_append] at m; have M := Lib.hid m; clear m)
        | ((with_reducible refine gate_dst (N := 12) rfl ?_); go_must (refine M.out.ev_ld 0 _ _ rfl rfl rfl Try.underlying5 rfl rfl (by first | assumption | rfl) ?_))
        | ((with_reducible refine gate_store (x := .tmp 13) rfl ?_); go_must (refine M.out.ev_put 2 _ _ _ rfl rfl rfl rfl (.int _ _) rfl (by first | assumption | exact Fld.lt0 _ | exact Fld.lt1 _ | (simp; done) | (simp only [ints_size]; omega)) sz5 rfl rfl ?_); intro wn m; simp only [List.set_cons_succ, List.set_cons_zero, List.setIfInBounds_toArray] at m; have M := Lib.hid m; clear m)
        | ((with_reducible refine gate_dst (N := 14) rfl ?_); go_must (refine M.out.ev_ldw 2 _ _ rfl rfl rfl Try.underlying46 rfl (by first | exact sz46 | (rw [S1.out]; exact sz46) | (rw [S2.out]; exact sz46) | (rw [S3.out]; exact sz46)) rfl ?_))
        | ((with_reducible refine gate_store (x := .tmp 2) rfl ?_); go_must (refine M.out.ev_stw 1 _ _ _ rfl rfl rfl rfl _ rfl (by first | rfl | (simp only [S1.out]; rfl) | (simp only [S1.out, S2.out]; rfl) | (simp only [S3.out]; rfl) | (simp only [S1.out, S2.out, S3.out]; rfl)) (by first | exact sz46 | (rw [S1.out]; exact sz46) | (rw [S2.out]; exact sz46) | (rw [S3.out]; exact sz46)) (by first | exact ints_one _ _ | exact Fld.one _ | exact O1.out | rfl | (simp [Value.oneCell']; done)) rfl ?_); intro wn m; simp only [List.set_cons_succ, List.set_cons_zero, List.setIfInBounds_toArray] at m; have M := Lib.hid m; clear m)
        )
      go_roundw
      case rel =>
        refine ⟨k + 1, by omega, by go_num, ?_⟩
        have m := M.out
        rw [ints_set, take_set_drop _ _ _ _ (getElem?_gi (by rw [HS.out]; omega)) (by rw [zs_len]; omega)] at m
        exact m
      case measure => simp [intOf]; omega
    · obtain rfl : k = 100 := by omega
      have hx : xs.take 100 ++ (zs 100).drop 100 = xs := by
        rw [List.take_of_length_le (by rw [HS.out]; omega), List.drop_of_length_le (by rw [zs_len]; omega), List.append_nil]
      rw [hx] at M
      clear hx
      go_wp2_with (first
        | ((with_reducible refine gate_dst (N := 1) rfl ?_); go_must (refine M.out.ev_new rfl (by first | (go_simp; done) | (go_simp; rfl)) ?_); intro g1 w1 m; simp only [List.cons_append, List.nil_append] at m; have M := Lib.hid m; clear m)
        | ((with_reducible refine gate_dst (N := 2) rfl ?_); go_must (refine M.out.ev_new rfl (by first | (go_simp; done) | (go_simp; rfl)) ?_); intro g2 w2 m; simp only [List.cons_append, List.nil_append] at m; have M := Lib.hid m; clear m)
        | ((with_reducible refine gate_dst (N := 3) rfl ?_); go_must (refine M.out.ev_new rfl (by first | (go_simp; done) | (go_simp; rfl)) ?_); intro g3 w3 m; simp only [List.cons_append, List.nil_append] at m; have M := Lib.hid m; clear m)
        | ((with_reducible refine gate_dst (N := 12) rfl ?_); go_must (refine M.out.ev_ld 0 _ _ rfl rfl rfl Try.underlying5 rfl rfl (by first | assumption | rfl) ?_))
        | ((with_reducible refine gate_store (x := .tmp 13) rfl ?_); go_must (refine M.out.ev_put 2 _ _ _ rfl rfl rfl rfl (.int _ _) rfl (by first | assumption | exact Fld.lt0 _ | exact Fld.lt1 _ | (simp; done) | (simp only [ints_size]; omega)) sz5 rfl rfl ?_); intro wn m; simp only [List.set_cons_succ, List.set_cons_zero, List.setIfInBounds_toArray] at m; have M := Lib.hid m; clear m)
        | ((with_reducible refine gate_dst (N := 14) rfl ?_); go_must (refine M.out.ev_ldw 2 _ _ rfl rfl rfl Try.underlying46 rfl (by first | exact sz46 | (rw [S1.out]; exact sz46) | (rw [S2.out]; exact sz46) | (rw [S3.out]; exact sz46)) rfl ?_))
        | ((with_reducible refine gate_store (x := .tmp 2) rfl ?_); go_must (refine M.out.ev_stw 1 _ _ _ rfl rfl rfl rfl _ rfl (by first | rfl | (simp only [S1.out]; rfl) | (simp only [S1.out, S2.out]; rfl) | (simp only [S3.out]; rfl) | (simp only [S1.out, S2.out, S3.out]; rfl)) (by first | exact sz46 | (rw [S1.out]; exact sz46) | (rw [S2.out]; exact sz46) | (rw [S3.out]; exact sz46)) (by first | exact ints_one _ _ | exact Fld.one _ | exact O1.out | rfl | (simp [Value.oneCell']; done)) rfl ?_); intro wn m; simp only [List.set_cons_succ, List.set_cons_zero, List.setIfInBounds_toArray] at m; have M := Lib.hid m; clear m)
        )
      exact ret_cell rfl (M.out.blk 1 rfl) Try.underlying46 rfl (by rw [S1.out]; exact sz46) rfl ⟨rfl, M.out.below⟩
set_option maxRecDepth 100000 in
set_option maxHeartbeats 1000000 in
theorem toInt16A100_any (xs : List Int) (hs : xs.length = 100) (w : World) :
    Calls Try.prog 108 #[.agg (ints .i16 xs)] w fun e w' => e = .returned (.agg (ints .i16 xs)) ∧ Below w.heap.size w w' := by
  have M := Lib.hid (Mem.start w)
  have S1 := Lib.hid (show (ints .i16 xs).size = 100 by rw [ints_size, hs])
  have S2 := Lib.hid (show (ints .i16 (zs 100)).size = 100 by rw [ints_size, zs_len])
  have HS := Lib.hid hs
  clear hs
  go_enter Try.func108, Try.ntmps108
  go_wp2_with (first
    | ((with_reducible refine gate_dst (N := 1) rfl ?_); go_must (refine M.out.ev_new rfl (by first | (go_simp; done) | (go_simp; rfl)) ?_); intro g1 w1 m; simp only [List.cons_append, List.nil_append] at m; have M := Lib.hid m; clear m)
    | ((with_reducible refine gate_dst (N := 2) rfl ?_); go_must (refine M.out.ev_new rfl (by first | (go_simp; done) | (go_simp; rfl)) ?_); intro g2 w2 m; simp only [List.cons_append, List.nil_append] at m; have M := Lib.hid m; clear m)
    | ((with_reducible refine gate_dst (N := 3) rfl ?_); go_must (refine M.out.ev_new rfl (by first | (go_simp; done) | (go_simp; rfl)) ?_); intro g3 w3 m; simp only [List.cons_append, List.nil_append] at m; have M := Lib.hid m; clear m)
    | ((with_reducible refine gate_dst (N := 12) rfl ?_); go_must (refine M.out.ev_ld 0 _ _ rfl rfl rfl Try.underlying38 rfl rfl (by first | assumption | rfl) ?_))
    | ((with_reducible refine gate_store (x := .tmp 13) rfl ?_); go_must (refine M.out.ev_put 2 _ _ _ rfl rfl rfl rfl (.int _ _) rfl (by first | assumption | exact Fld.lt0 _ | exact Fld.lt1 _ | (simp; done) | (simp only [ints_size]; omega)) sz38 rfl rfl ?_); intro wn m; simp only [List.set_cons_succ, List.set_cons_zero, List.setIfInBounds_toArray] at m; have M := Lib.hid m; clear m)
    | ((with_reducible refine gate_dst (N := 14) rfl ?_); go_must (refine M.out.ev_ldw 2 _ _ rfl rfl rfl Try.underlying47 rfl (by first | exact sz47 | (rw [S1.out]; exact sz47) | (rw [S2.out]; exact sz47) | (rw [S3.out]; exact sz47)) rfl ?_))
    | ((with_reducible refine gate_store (x := .tmp 2) rfl ?_); go_must (refine M.out.ev_stw 1 _ _ _ rfl rfl rfl rfl _ rfl (by first | rfl | (simp only [S1.out]; rfl) | (simp only [S1.out, S2.out]; rfl) | (simp only [S3.out]; rfl) | (simp only [S1.out, S2.out, S3.out]; rfl)) (by first | exact sz47 | (rw [S1.out]; exact sz47) | (rw [S2.out]; exact sz47) | (rw [S3.out]; exact sz47)) (by first | exact ints_one _ _ | exact Fld.one _ | exact O1.out | rfl | (simp [Value.oneCell']; done)) rfl ?_); intro wn m; simp only [List.set_cons_succ, List.set_cons_zero, List.setIfInBounds_toArray] at m; have M := Lib.hid m; clear m)
    )
  have m := M.out
  rw [zeroS] at m
  go_loopw [4] (fun v wr => ∃ k : Nat, k ≤ 100 ∧ v = .int .i64 k ∧ Mem w wr [.blk g1 47 (ints .i16 xs), .blk g2 47 (ints .i16 (zs 100)), .blk g3 47 (ints .i16 (xs.take k ++ (zs 100).drop k))])
    (fun v _ => 100 - (intOf v).toNat)
  case atStart => exact ⟨0, by omega, rfl, m⟩
  case round =>
    obtain ⟨k, hk, rfl, m⟩ := hrel
    have M := Lib.hid m
    clear m
    by_cases hlt : k < 100
    · have hc : (ints .i16 xs)[k]? = some (.int .i16 (gi xs k)) := ints_at (by rw [HS.out]; omega)
      have hj : k < (ints .i16 (xs.take k ++ (zs 100).drop k)).size := by rw [ints_size, take_drop_len _ _ k 100 HS.out (zs_len 100) (by omega)]; omega
      go_wp2_with (first
        | ((with_reducible refine gate_dst (N := 1) rfl ?_); go_must (refine M.out.ev_new rfl (by first | (go_simp; done) | (go_simp; rfl)) ?_); intro g1 w1 m; simp only [List.cons_append, List.nil_append] at m; have M := Lib.hid m; clear m)
        | ((with_reducible refine gate_dst (N := 2) rfl ?_); go_must (refine M.out.ev_new rfl (by first | (go_simp; done) | (go_simp; rfl)) ?_); intro g2 w2 m; simp only [List.cons_append, List.nil_append] at m; have M := Lib.hid m; clear m)
        | ((with_reducible refine gate_dst (N := 3) rfl ?_); go_must (refine M.out.ev_new rfl (by first | (go_simp; done) | (go_simp; rfl)) ?_); intro g3 w3 m; simp only [List.cons_append, List.nil_append] at m; have M := Lib.hid m; clear m)
        | ((with_reducible refine gate_dst (N := 12) rfl ?_); go_must (refine M.out.ev_ld 0 _ _ rfl rfl rfl Try.underlying38 rfl rfl (by first | assumption | rfl) ?_))
        | ((with_reducible refine gate_store (x := .tmp 13) rfl ?_); go_must (refine M.out.ev_put 2 _ _ _ rfl rfl rfl rfl (.int _ _) rfl (by first | assumption | exact Fld.lt0 _ | exact Fld.lt1 _ | (simp; done) | (simp only [ints_size]; omega)) sz38 rfl rfl ?_); intro wn m; simp only [List.set_cons_succ, List.set_cons_zero, List.setIfInBounds_toArray] at m; have M := Lib.hid m; clear m)
        | ((with_reducible refine gate_dst (N := 14) rfl ?_); go_must (refine M.out.ev_ldw 2 _ _ rfl rfl rfl Try.underlying47 rfl (by first | exact sz47 | (rw [S1.out]; exact sz47) | (rw [S2.out]; exact sz47) | (rw [S3.out]; exact sz47)) rfl ?_))
        | ((with_reducible refine gate_store (x := .tmp 2) rfl ?_); go_must (refine M.out.ev_stw 1 _ _ _ rfl rfl rfl rfl _ rfl (by first | rfl | (simp only [S1.out]; rfl) | (simp only [S1.out, S2.out]; rfl) | (simp only [S3.out]; rfl) | (simp only [S1.out, S2.out, S3.out]; rfl)) (by first | exact sz47 | (rw [S1.out]; exact sz47) | (rw [S2.out]; exact sz47) | (rw [S3.out]; exact sz47)) (by first | exact ints_one _ _ | exact Fld.one _ | exact O1.out | rfl | (simp [Value.oneCell']; done)) rfl ?_); intro wn m; simp only [List.set_cons_succ, List.set_cons_zero, List.setIfInBounds_toArray] at m; have M := Lib.hid m; clear m)
        )
      go_roundw
      case rel =>
        refine ⟨k + 1, by omega, by go_num, ?_⟩
        have m := M.out
        rw [ints_set, take_set_drop _ _ _ _ (getElem?_gi (by rw [HS.out]; omega)) (by rw [zs_len]; omega)] at m
        exact m
      case measure => simp [intOf]; omega
    · obtain rfl : k = 100 := by omega
      have hx : xs.take 100 ++ (zs 100).drop 100 = xs := by
        rw [List.take_of_length_le (by rw [HS.out]; omega), List.drop_of_length_le (by rw [zs_len]; omega), List.append_nil]
      rw [hx] at M
      clear hx
      go_wp2_with (first
        | ((with_reducible refine gate_dst (N := 1) rfl ?_); go_must (refine M.out.ev_new rfl (by first | (go_simp; done) | (go_simp; rfl)) ?_); intro g1 w1 m; simp only [List.cons_append, List.nil_append] at m; have M := Lib.hid m; clear m)
        | ((with_reducible refine gate_dst (N := 2) rfl ?_); go_must (refine M.out.ev_new rfl (by first | (go_simp; done) | (go_simp; rfl)) ?_); intro g2 w2 m; simp only [List.cons_append, List.nil_append] at m; have M := Lib.hid m; clear m)
        | ((with_reducible refine gate_dst (N := 3) rfl ?_); go_must (refine M.out.ev_new rfl (by first | (go_simp; done) | (go_simp; rfl)) ?_); intro g3 w3 m; simp only [List.cons_append, List.nil_append] at m; have M := Lib.hid m; clear m)
        | ((with_reducible refine gate_dst (N := 12) rfl ?_); go_must (refine M.out.ev_ld 0 _ _ rfl rfl rfl Try.underlying38 rfl rfl (by first | assumption | rfl) ?_))
        | ((with_reducible refine gate_store (x := .tmp 13) rfl ?_); go_must (refine M.out.ev_put 2 _ _ _ rfl rfl rfl rfl (.int _ _) rfl (by first | assumption | exact Fld.lt0 _ | exact Fld.lt1 _ | (simp; done) | (simp only [ints_size]; omega)) sz38 rfl rfl ?_); intro wn m; simp only [List.set_cons_succ, List.set_cons_zero, List.setIfInBounds_toArray] at m; have M := Lib.hid m; clear m)
        | ((with_reducible refine gate_dst (N := 14) rfl ?_); go_must (refine M.out.ev_ldw 2 _ _ rfl rfl rfl Try.underlying47 rfl (by first | exact sz47 | (rw [S1.out]; exact sz47) | (rw [S2.out]; exact sz47) | (rw [S3.out]; exact sz47)) rfl ?_))
        | ((with_reducible refine gate_store (x := .tmp 2) rfl ?_); go_must (refine M.out.ev_stw 1 _ _ _ rfl rfl rfl rfl _ rfl (by first | rfl | (simp only [S1.out]; rfl) | (simp only [S1.out, S2.out]; rfl) | (simp only [S3.out]; rfl) | (simp only [S1.out, S2.out, S3.out]; rfl)) (by first | exact sz47 | (rw [S1.out]; exact sz47) | (rw [S2.out]; exact sz47) | (rw [S3.out]; exact sz47)) (by first | exact ints_one _ _ | exact Fld.one _ | exact O1.out | rfl | (simp [Value.oneCell']; done)) rfl ?_); intro wn m; simp only [List.set_cons_succ, List.set_cons_zero, List.setIfInBounds_toArray] at m; have M := Lib.hid m; clear m)
        )
      exact ret_cell rfl (M.out.blk 1 rfl) Try.underlying47 rfl (by rw [S1.out]; exact sz47) rfl ⟨rfl, M.out.below⟩
set_option maxRecDepth 100000 in
set_option maxHeartbeats 1000000 in
theorem toField_any (F : Fld) (hF : F.len) (w : World) :
    Calls Try.prog 43 #[.agg F.cells] w fun e w' => e = .returned (.agg F.cells) ∧ Below w.heap.size w w' := by
  have M := Lib.hid (Mem.start w)
  have S1 := Lib.hid (Fld.size hF)
  have LF := Lib.hid hF
  have hj1 : 2 + (F.kinds.map (Value.int .u8)).length ≤ (Fld.cells ⟨F.wide, F.high, Fld.z.kinds, Fld.z.seeds⟩).size := by
    rw [Fld.size ⟨zs_len 100, zs_len 100⟩, List.length_map, hF.kl]; omega
  have hj2 : 102 + (F.seeds.map (Value.int .i16)).length ≤ (Fld.cells ⟨F.wide, F.high, F.kinds, Fld.z.seeds⟩).size := by
    rw [Fld.size (F := ⟨F.wide, F.high, F.kinds, Fld.z.seeds⟩) ⟨hF.kl, zs_len 100⟩, List.length_map, hF.sl]; omega
  have c0 := F.cell0
  have c1 := F.cell1
  have e1 := Lib.hid (Fld.setK (F := ⟨F.wide, F.high, Fld.z.kinds, Fld.z.seeds⟩) ⟨zs_len 100, zs_len 100⟩ _ hF.kl)
  have e2 := Lib.hid (Fld.setS (F := ⟨F.wide, F.high, F.kinds, Fld.z.seeds⟩) ⟨hF.kl, zs_len 100⟩ _ hF.sl)
  go_enter Try.func43, Try.ntmps43
  go_wp2_with (first
    | ((with_reducible refine gate_dst (N := 1) rfl ?_); go_must (refine M.out.ev_new rfl (by first | (go_simp; done) | (go_simp; rfl)) ?_); intro g1 w1 m; simp only [List.cons_append, List.nil_append, zeroFld, Fld.set0, Fld.set1, e1.out, e2.out] at m; have M := Lib.hid m; clear m)
    | ((with_reducible refine gate_dst (N := 2) rfl ?_); go_must (refine M.out.ev_new rfl (by first | (go_simp; done) | (go_simp; rfl)) ?_); intro g2 w2 m; simp only [List.cons_append, List.nil_append, zeroFld, Fld.set0, Fld.set1, e1.out, e2.out] at m; have M := Lib.hid m; clear m)
    | ((with_reducible refine gate_dst (N := 3) rfl ?_); go_must (refine M.out.ev_new rfl (by first | (go_simp; done) | (go_simp; rfl)) ?_); intro g3 w3 m; simp only [List.cons_append, List.nil_append, zeroFld, Fld.set0, Fld.set1, e1.out, e2.out] at m; have M := Lib.hid m; clear m)
    | ((with_reducible refine gate_dst (N := 5) rfl ?_); go_must (refine M.out.ev_ld 0 _ _ rfl rfl rfl Try.underlying45 rfl rfl (by first | assumption | rfl) ?_))
    | ((with_reducible refine gate_store (x := .tmp 6) rfl ?_); go_must (refine M.out.ev_put 2 _ _ _ rfl rfl rfl rfl (.int _ _) rfl (by first | assumption | exact Fld.lt0 _ | exact Fld.lt1 _ | (simp; done) | (simp only [ints_size]; omega)) sz45 rfl rfl ?_); intro wn m; simp only [List.set_cons_succ, List.set_cons_zero, List.setIfInBounds_toArray, zeroFld, Fld.set0, Fld.set1, e1.out, e2.out] at m; have M := Lib.hid m; clear m)
    | ((with_reducible refine gate_dst (N := 8) rfl ?_); go_must (refine M.out.ev_ld 0 _ _ rfl rfl rfl Try.underlying45 rfl rfl (by first | assumption | rfl) ?_))
    | ((with_reducible refine gate_store (x := .tmp 9) rfl ?_); go_must (refine M.out.ev_put 2 _ _ _ rfl rfl rfl rfl (.int _ _) rfl (by first | assumption | exact Fld.lt0 _ | exact Fld.lt1 _ | (simp; done) | (simp only [ints_size]; omega)) sz45 rfl rfl ?_); intro wn m; simp only [List.set_cons_succ, List.set_cons_zero, List.setIfInBounds_toArray, zeroFld, Fld.set0, Fld.set1, e1.out, e2.out] at m; have M := Lib.hid m; clear m)
    | ((with_reducible refine gate_dst (N := 11) rfl ?_); go_must (refine M.out.ev_ldm 0 _ _ rfl rfl rfl _ _ (by first | exact Fld.cellsK LF.out | exact Fld.cellsS LF.out | assumption) Try.underlying46 rfl (by first | (rw [List.length_map, LF.out.kl]; exact sz46) | (rw [List.length_map, LF.out.sl]; exact sz46) | exact sz46) rfl ?_))
    | ((with_reducible refine gate_store (x := .tmp 13) rfl ?_); go_must (refine M.out.ev_stm 2 _ _ _ rfl rfl rfl _ rfl _ rfl (by first | assumption | (simp only [List.length_map, Fld.size LF.out, LF.out.kl, LF.out.sl]; omega)) (by first | (rw [List.length_map, LF.out.kl]; exact sz46) | (rw [List.length_map, LF.out.sl]; exact sz46) | exact sz46) (by first | exact ints_one _ _ | (simp [Value.oneCell']; done)) rfl ?_); intro wn m; simp only [List.set_cons_succ, List.set_cons_zero, List.setIfInBounds_toArray, zeroFld, Fld.set0, Fld.set1, e1.out, e2.out] at m; have M := Lib.hid m; clear m)
    | ((with_reducible refine gate_dst (N := 15) rfl ?_); go_must (refine M.out.ev_ldm 0 _ _ rfl rfl rfl _ _ (by first | exact Fld.cellsK LF.out | exact Fld.cellsS LF.out | assumption) Try.underlying47 rfl (by first | (rw [List.length_map, LF.out.kl]; exact sz47) | (rw [List.length_map, LF.out.sl]; exact sz47) | exact sz47) rfl ?_))
    | ((with_reducible refine gate_store (x := .tmp 17) rfl ?_); go_must (refine M.out.ev_stm 2 _ _ _ rfl rfl rfl _ rfl _ rfl (by first | assumption | (simp only [List.length_map, Fld.size LF.out, LF.out.kl, LF.out.sl]; omega)) (by first | (rw [List.length_map, LF.out.kl]; exact sz47) | (rw [List.length_map, LF.out.sl]; exact sz47) | exact sz47) (by first | exact ints_one _ _ | (simp [Value.oneCell']; done)) rfl ?_); intro wn m; simp only [List.set_cons_succ, List.set_cons_zero, List.setIfInBounds_toArray, zeroFld, Fld.set0, Fld.set1, e1.out, e2.out] at m; have M := Lib.hid m; clear m)
    | ((with_reducible refine gate_dst (N := 18) rfl ?_); go_must (refine M.out.ev_ldw 2 _ _ rfl rfl rfl Try.underlying49 rfl (by first | exact sz49 | (rw [S1.out]; exact sz49) | (rw [S2.out]; exact sz49) | (rw [S3.out]; exact sz49)) rfl ?_))
    | ((with_reducible refine gate_store (x := .tmp 2) rfl ?_); go_must (refine M.out.ev_stw 1 _ _ _ rfl rfl rfl rfl _ rfl (by first | rfl | (simp only [S1.out]; rfl) | (simp only [S1.out, S2.out]; rfl) | (simp only [S3.out]; rfl) | (simp only [S1.out, S2.out, S3.out]; rfl)) (by first | exact sz49 | (rw [S1.out]; exact sz49) | (rw [S2.out]; exact sz49) | (rw [S3.out]; exact sz49)) (by first | exact ints_one _ _ | exact Fld.one _ | exact O1.out | rfl | (simp [Value.oneCell']; done)) rfl ?_); intro wn m; simp only [List.set_cons_succ, List.set_cons_zero, List.setIfInBounds_toArray, zeroFld, Fld.set0, Fld.set1, e1.out, e2.out] at m; have M := Lib.hid m; clear m)
    | (go_at_call 107; go_must (refine (toByteA100_any F.kinds hF.kl _).mono ?_); rintro e w_ ⟨rfl, hB_⟩; have M := Lib.hid (M.out.kept hB_); clear hB_)
    | (go_at_call 108; go_must (refine (toInt16A100_any F.seeds hF.sl _).mono ?_); rintro e w_ ⟨rfl, hB_⟩; have M := Lib.hid (M.out.kept hB_); clear hB_)
    )
  exact ret_cell rfl (M.out.blk 1 rfl) Try.underlying49 rfl (by rw [S1.out]; exact sz49) rfl ⟨rfl, M.out.below⟩
end Go.Proofs.Ytdnofkngljjbmaa
