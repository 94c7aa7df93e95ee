/- Fields as data, and as they lie in memory. -/
import Derived.Test.YtaepgjjmfopiiaaDoorTy
import Derived.Test.YtaepgjjmfopiiaaDoorEv
import Derived.Test.YtaepgjjmfopiiaaDoorPure
namespace Go.Proofs.YtaepgjjmfopiiaaDoor
set_option linter.unusedSimpArgs false
set_option linter.unusedVariables false
open Go.RowKit

structure Fld where
  wide : Int
  high : Int
  kinds : List Int
  seeds : List Int
def Fld.list (F : Fld) : List Value := (.int .i8 F.wide) :: (.int .i8 F.high) :: (F.kinds.map (Value.int .u8) ++ F.seeds.map (Value.int .i16))
def Fld.cells (F : Fld) : Array Value := F.list.toArray
def Fld.z : Fld := ⟨0, 0, zs 100, zs 100⟩
def Fld.kind (F : Fld) (k : Nat) : Int := gi F.kinds k
def Fld.seed (F : Fld) (k : Nat) : Int := gi F.seeds k
structure Fld.len (F : Fld) : Prop where
  kl : F.kinds.length = 100
  sl : F.seeds.length = 100
/-- A field as Go can hold it. -/
structure Fld.ok (F : Fld) : Prop extends toLen : F.len where
  w0 : -128 ≤ F.wide
  w1 : F.wide ≤ 127
  h0 : -128 ≤ F.high
  h1 : F.high ≤ 127
  k0 : ∀ x ∈ F.kinds, 0 ≤ x ∧ x ≤ 255
  s0 : ∀ x ∈ F.seeds, -32768 ≤ x ∧ x ≤ 32767
theorem getD_bound {xs : List Int} {P : Int → Prop} (h : ∀ x ∈ xs, P x) (h0 : P 0) (k : Nat) : P (xs.getD k 0) := by
  rw [List.getD_eq_getElem?_getD]
  rcases Nat.lt_or_ge k xs.length with hk | hk
  · rw [List.getElem?_eq_getElem hk]; exact h _ (List.getElem_mem hk)
  · rw [List.getElem?_eq_none hk]; exact h0
theorem Fld.ok.kb {F : Fld} (h : F.ok) (k : Nat) : 0 ≤ F.kind k ∧ F.kind k ≤ 255 := getD_bound h.k0 (by omega) k
theorem Fld.ok.sb {F : Fld} (h : F.ok) (k : Nat) : -32768 ≤ F.seed k ∧ F.seed k ≤ 32767 := getD_bound h.s0 (by omega) k
theorem Fld.size {F : Fld} (h : F.len) : F.cells.size = 202 := by simp [Fld.cells, Fld.list, h.kl, h.sl]
theorem Fld.z_len : Fld.z.len := ⟨zs_len 100, zs_len 100⟩
theorem Fld.cell0 (F : Fld) : F.cells[0]? = some (.int .i8 F.wide) := by simp [Fld.cells, Fld.list]
theorem Fld.cell1 (F : Fld) : F.cells[1]? = some (.int .i8 F.high) := by simp [Fld.cells, Fld.list]
theorem Fld.lt0 (F : Fld) : 0 < F.cells.size := by simp [Fld.cells, Fld.list]
theorem Fld.lt1 (F : Fld) : 1 < F.cells.size := by simp [Fld.cells, Fld.list]
theorem Fld.set0 (F : Fld) (x : Int) : F.cells.setIfInBounds 0 (.int .i8 x) = { F with wide := x }.cells := by simp [Fld.cells, Fld.list]
theorem Fld.set1 (F : Fld) (x : Int) : F.cells.setIfInBounds 1 (.int .i8 x) = { F with high := x }.cells := by simp [Fld.cells, Fld.list]
theorem Fld.one (F : Fld) : F.cells.all (·.oneCell') = true := by
  simp [Fld.cells, Fld.list, Value.oneCell']
theorem Fld.cellsK {F : Fld} (h : F.len) (j : Nat) (v : Value) (hv : (F.kinds.map (Value.int .u8))[j]? = some v) : F.cells[2 + j]? = some v := by
  have hl := h.kl
  rw [show 2 + j = j + 1 + 1 by omega]
  simp only [Fld.cells, Fld.list, List.getElem?_toArray, List.getElem?_cons_succ]
  rw [List.getElem?_append_left (List.getElem?_eq_some_iff.1 hv).1]
  exact hv
theorem Fld.cellsS {F : Fld} (h : F.len) (j : Nat) (v : Value) (hv : (F.seeds.map (Value.int .i16))[j]? = some v) : F.cells[102 + j]? = some v := by
  have hl := h.kl
  rw [show 102 + j = 100 + j + 1 + 1 by omega]
  simp only [Fld.cells, Fld.list, List.getElem?_toArray, List.getElem?_cons_succ]
  rw [List.getElem?_append_right (by simp; omega)]
  simpa [hl] using hv
theorem Fld.cellK {F : Fld} (h : F.len) {k : Nat} (hk : k < 100) : F.cells[2 + k]? = some (.int .u8 (F.kind k)) :=
  Fld.cellsK h k _ (by have := h.kl; simp [Fld.kind, gi, hk, this])
theorem Fld.cellS {F : Fld} (h : F.len) {k : Nat} (hk : k < 100) : F.cells[102 + k]? = some (.int .i16 (F.seed k)) :=
  Fld.cellsS h k _ (by have := h.sl; simp [Fld.seed, gi, hk, this])
theorem Fld.setK {F : Fld} (h : F.len) (xs : List Int) (hx : xs.length = 100) : spl F.cells 2 (xs.map (Value.int .u8)) = { F with kinds := xs }.cells := by
  have hl := h.kl
  simp only [spl, Fld.cells, Fld.list, List.length_map, hx]
  congr 1
  rw [show 2 + 100 = 100 + 1 + 1 by omega, List.drop_succ_cons, List.drop_succ_cons, List.drop_append_of_le_length (by simp [hl]), List.drop_of_length_le (by simp [hl])]
  simp
theorem Fld.setS {F : Fld} (h : F.len) (xs : List Int) (hx : xs.length = 100) : spl F.cells 102 (xs.map (Value.int .i16)) = { F with seeds := xs }.cells := by
  have hl := h.kl
  have hs := h.sl
  simp only [spl, Fld.cells, Fld.list, List.length_map, hx]
  congr 1
  rw [List.drop_of_length_le (by simp [hl, hs]), show 102 = 100 + 1 + 1 by omega, List.take_succ_cons, List.take_succ_cons, List.take_append_of_le_length (by simp [hl]), List.take_of_length_le (by simp [hl])]
  simp
/-- One cell's seeds exchanged. -/
def Fld.withSeed (F : Fld) (k : Nat) (x : Int) : Fld := { F with seeds := F.seeds.set k x }
theorem Fld.setSeed {F : Fld} (h : F.len) (k : Nat) (x : Int) : F.cells.setIfInBounds (102 + k) (.int .i16 x) = (F.withSeed k x).cells := by
  have hl := h.kl
  rw [show 102 + k = 100 + k + 1 + 1 by omega]
  simp only [Fld.cells, Fld.list, Fld.withSeed, List.setIfInBounds_toArray, List.set_cons_succ]
  rw [List.set_append, if_neg (by simp; omega), List.map_set]
  simp [hl]
theorem Fld.withSeed_len {F : Fld} (h : F.len) (k : Nat) (x : Int) : (F.withSeed k x).len := ⟨h.kl, by simp [Fld.withSeed, h.sl]⟩

/-! ### The laws' own way to hand a field over -/
theorem take_drop_len (xs ys : List Int) (k n : Nat) (hx : xs.length = n) (hy : ys.length = n) (hk : k ≤ n) : (xs.take k ++ ys.drop k).length = n := by
  simp; omega
end Go.Proofs.YtaepgjjmfopiiaaDoor
