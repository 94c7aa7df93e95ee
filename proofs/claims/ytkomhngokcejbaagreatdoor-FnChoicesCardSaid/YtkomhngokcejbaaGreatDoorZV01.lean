/- Texts of a proof, laid together: Fld, Base, Open, Conf0, Flock, Drawn, Drawn3. -/
import Derived.Test.YtkomhngokcejbaaGreatDoorZV00
import Derived.ProofKit
import Derived.OpenShut
import Derived.ChangeOld
import Derived.Deep.Slices
namespace Go.Proofs.YtkomhngokcejbaaGreatDoor
set_option linter.unusedSimpArgs false
set_option linter.unusedVariables false
open Go.RowKit

structure Fld where
  wide : Int
  high : Int
  kinds : List Int
  seeds : List Int
def Fld.list (F : Fld) : List Value := (.int .i8 F.wide) :: (.int .i8 F.high) :: (F.kinds.map (Value.int .u8) ++ F.seeds.map (Value.int .i16))
def Fld.cells (F : Fld) : Array Value := F.list.toArray
def Fld.z : Fld := ⟨0, 0, zs 100, zs 100⟩
def Fld.kind (F : Fld) (k : Nat) : Int := gi F.kinds k
def Fld.seed (F : Fld) (k : Nat) : Int := gi F.seeds k
structure Fld.len (F : Fld) : Prop where
  kl : F.kinds.length = 100
  sl : F.seeds.length = 100
/-- A field as Go can hold it. -/
structure Fld.ok (F : Fld) : Prop extends toLen : F.len where
  w0 : -128 ≤ F.wide
  w1 : F.wide ≤ 127
  h0 : -128 ≤ F.high
  h1 : F.high ≤ 127
  k0 : ∀ x ∈ F.kinds, 0 ≤ x ∧ x ≤ 255
  s0 : ∀ x ∈ F.seeds, -32768 ≤ x ∧ x ≤ 32767
theorem getD_bound {xs : List Int} {P : Int → Prop} (h : ∀ x ∈ xs, P x) (h0 : P 0) (k : Nat) : P (xs.getD k 0) := by
  rw [List.getD_eq_getElem?_getD]
  rcases Nat.lt_or_ge k xs.length with hk | hk
  · rw [List.getElem?_eq_getElem hk]; exact h _ (List.getElem_mem hk)
  · rw [List.getElem?_eq_none hk]; exact h0
theorem Fld.ok.kb {F : Fld} (h : F.ok) (k : Nat) : 0 ≤ F.kind k ∧ F.kind k ≤ 255 := getD_bound h.k0 (by omega) k
theorem Fld.ok.sb {F : Fld} (h : F.ok) (k : Nat) : -32768 ≤ F.seed k ∧ F.seed k ≤ 32767 := getD_bound h.s0 (by omega) k
theorem Fld.size {F : Fld} (h : F.len) : F.cells.size = 202 := by simp [Fld.cells, Fld.list, h.kl, h.sl]
theorem zeroFld : Tryz.zeroCells29 = Fld.z.cells := by kernel_rfl
theorem Fld.cell0 (F : Fld) : F.cells[0]? = some (.int .i8 F.wide) := by simp [Fld.cells, Fld.list]
theorem Fld.cell1 (F : Fld) : F.cells[1]? = some (.int .i8 F.high) := by simp [Fld.cells, Fld.list]
theorem Fld.lt0 (F : Fld) : 0 < F.cells.size := by simp [Fld.cells, Fld.list]
theorem Fld.lt1 (F : Fld) : 1 < F.cells.size := by simp [Fld.cells, Fld.list]
theorem Fld.set0 (F : Fld) (x : Int) : F.cells.setIfInBounds 0 (.int .i8 x) = { F with wide := x }.cells := by simp [Fld.cells, Fld.list]
theorem Fld.set1 (F : Fld) (x : Int) : F.cells.setIfInBounds 1 (.int .i8 x) = { F with high := x }.cells := by simp [Fld.cells, Fld.list]
theorem Fld.one (F : Fld) : F.cells.all (·.oneCell') = true := by
  simp [Fld.cells, Fld.list, Value.oneCell']
theorem Fld.cellsK {F : Fld} (h : F.len) (j : Nat) (v : Value) (hv : (F.kinds.map (Value.int .u8))[j]? = some v) : F.cells[2 + j]? = some v := by
  have hl := h.kl
  rw [show 2 + j = j + 1 + 1 by omega]
  simp only [Fld.cells, Fld.list, List.getElem?_toArray, List.getElem?_cons_succ]
  rw [List.getElem?_append_left (List.getElem?_eq_some_iff.1 hv).1]
  exact hv
theorem Fld.cellsS {F : Fld} (h : F.len) (j : Nat) (v : Value) (hv : (F.seeds.map (Value.int .i16))[j]? = some v) : F.cells[102 + j]? = some v := by
  have hl := h.kl
  rw [show 102 + j = 100 + j + 1 + 1 by omega]
  simp only [Fld.cells, Fld.list, List.getElem?_toArray, List.getElem?_cons_succ]
  rw [List.getElem?_append_right (by simp; omega)]
  simpa [hl] using hv
theorem Fld.cellK {F : Fld} (h : F.len) {k : Nat} (hk : k < 100) : F.cells[2 + k]? = some (.int .u8 (F.kind k)) :=
  Fld.cellsK h k _ (by have := h.kl; simp [Fld.kind, gi, hk, this])
theorem Fld.cellS {F : Fld} (h : F.len) {k : Nat} (hk : k < 100) : F.cells[102 + k]? = some (.int .i16 (F.seed k)) :=
  Fld.cellsS h k _ (by have := h.sl; simp [Fld.seed, gi, hk, this])
/-- One cell's seeds exchanged. -/
def Fld.withSeed (F : Fld) (k : Nat) (x : Int) : Fld := { F with seeds := F.seeds.set k x }
theorem Fld.setSeed {F : Fld} (h : F.len) (k : Nat) (x : Int) : F.cells.setIfInBounds (102 + k) (.int .i16 x) = (F.withSeed k x).cells := by
  have hl := h.kl
  rw [show 102 + k = 100 + k + 1 + 1 by omega]
  simp only [Fld.cells, Fld.list, Fld.withSeed, List.setIfInBounds_toArray, List.set_cons_succ]
  rw [List.set_append, if_neg (by simp; omega), List.map_set]
  simp [hl]
theorem Fld.withSeed_len {F : Fld} (h : F.len) (k : Nat) (x : Int) : (F.withSeed k x).len := ⟨h.kl, by simp [Fld.withSeed, h.sl]⟩

/-! ### The laws' own way to hand a field over -/
end Go.Proofs.YtkomhngokcejbaaGreatDoor
namespace Go.Proofs.YtkomhngokcejbaaGreatDoor
set_option linter.unusedSimpArgs false
set_option linter.unusedVariables false
open Go.RowKit

/-- Whether a field has a cell. -/
def Fld.has (F : Fld) (c : Int) : Bool := inB c 0 99 && (decide (c % 10 < F.wide) && decide (c / 10 < F.high))
theorem Fld.has_iff {F : Fld} {c : Int} : F.has c = true ↔ (0 ≤ c ∧ c ≤ 99) ∧ c % 10 < F.wide ∧ c / 10 < F.high := by
  simp [Fld.has, inB_iff]
/-- Whether one cell of a field is as it must be. -/
def Fld.okAt (F : Fld) (k : Nat) : Bool :=
  decide (0 ≤ F.kind k ∧ F.kind k ≤ 3 ∧ 0 ≤ F.seed k ∧ F.seed k ≤ 1000 ∧ (F.kind k ≠ 0 → F.seed k = 0) ∧ (F.has k = false → F.kind k = 0 ∧ F.seed k = 0))
def Fld.valid (F : Fld) : Bool := inB F.wide 1 10 && (inB F.high 1 10 && (List.range 100).all F.okAt)
theorem Fld.valid_of {F : Fld} (h1 : inB F.wide 1 10 = true) (h2 : inB F.high 1 10 = true) (h : ∀ j, j < 100 → F.okAt j = true) : F.valid = true := by
  simp only [Fld.valid, h1, h2, Bool.true_and, List.all_eq_true, List.mem_range]
  exact h
theorem Fld.not_valid {F : Fld} {k : Nat} (hk : k < 100) (h : F.okAt k = false) : F.valid = false := by
  rw [← Bool.not_eq_true]
  intro hv
  simp only [Fld.valid, Bool.and_eq_true, List.all_eq_true, List.mem_range] at hv
  rw [hv.2.2 k hk] at h
  cases h

theorem all_succ {p : Nat → Bool} {k : Nat} (h : ∀ j, j < k → p j = true) (hk : p k = true) : ∀ j, j < k + 1 → p j = true := fun j hj => by
  rcases Nat.lt_or_ge j k with h1 | h1
  · exact h j h1
  · obtain rfl : j = k := by omega
    exact hk

set_option maxRecDepth 100000 in
set_option maxHeartbeats 400000 in
theorem within_any (n lo hi : Int) (w : World) :
    Calls Tryz.prog 94 #[.int .i64 n, .int .i64 lo, .int .i64 hi] w fun e w' => e = .returned (.bool (inB n lo hi)) ∧ w = w' := by
  go_enter Tryz.func94, Tryz.ntmps94
  go_wp2
  · go_ret
    exact ⟨ret_bool (by simp [inB, *]), rfl⟩
  · go_ret
    exact ⟨ret_bool (by simp [inB]; omega), rfl⟩
set_option maxRecDepth 100000 in
set_option maxHeartbeats 400000 in
theorem l00In_any (n lo hi : Int) (w : World) :
    Calls Tryz.prog 103 #[.int .i64 n, .int .i64 lo, .int .i64 hi] w fun e w' => e = .returned (.bool (inB n lo hi)) ∧ w = w' := by
  go_enter Tryz.func103, Tryz.ntmps103
  go_wp2
  · go_ret
    exact ⟨ret_bool (by simp [inB, *]), rfl⟩
  · go_ret
    exact ⟨ret_bool (by simp [inB]; omega), rfl⟩
set_option maxRecDepth 100000 in
set_option maxHeartbeats 400000 in
theorem l01Kind_any (n : Int) (w : World) :
    Calls Tryz.prog 178 #[.int .i64 n] w fun e w' => e = .returned (.bool (inB n 0 3)) ∧ w = w' := by
  go_enter Tryz.func178, Tryz.ntmps178
  go_wp2_with (first
    | (go_at_call 103; go_must (refine (l00In_any _ _ _ _).mono ?_); rintro e w_ ⟨rfl, rfl⟩)
    )
  go_ret
  exact ⟨rfl, rfl⟩
set_option maxRecDepth 100000 in
set_option maxHeartbeats 400000 in
theorem l01Seeds_any (n : Int) (w : World) :
    Calls Tryz.prog 179 #[.int .i64 n] w fun e w' => e = .returned (.bool (inB n 0 1000)) ∧ w = w' := by
  go_enter Tryz.func179, Tryz.ntmps179
  go_wp2_with (first
    | (go_at_call 103; go_must (refine (l00In_any _ _ _ _).mono ?_); rintro e w_ ⟨rfl, rfl⟩)
    )
  go_ret
  exact ⟨rfl, rfl⟩

set_option maxRecDepth 100000 in
set_option maxHeartbeats 400000 in
theorem has_any (b : Nat) {t : TypeId} (F : Fld) (hF : F.ok) (c : Int) (w : World) (hb : Blk w b t F.cells) :
    Calls Tryz.prog 86 #[.pointer (some ⟨b, 0, none⟩), .int .i64 c] w fun e w' => e = .returned (.bool (F.has c)) ∧ w = w' := by
  have h0 := hb.cellv F.cell0
  have h1 := hb.cellv F.cell1
  have a0 := hF.w0
  have a1 := hF.w1
  have a2 := hF.h0
  have a3 := hF.h1
  clear hb hF
  cases hc : inB c 0 99
  · have HC := Lib.hid hc
    clear hc
    go_enter Tryz.func86, Tryz.ntmps86
    go_wp2_with (go_at_call 94; refine (within_any _ _ _ _).mono ?_; rintro e w' ⟨rfl, rfl⟩; rw [HC.out])
    go_ret
    exact ⟨ret_bool (by simp [Fld.has, HC.out]), rfl⟩
  · have HC := Lib.hid hc
    have hc2 := inB_iff.1 hc
    have b0 := hc2.1
    have b1 := hc2.2
    clear hc hc2
    go_enter Tryz.func86, Tryz.ntmps86
    go_wp2_with (go_at_call 94; refine (within_any _ _ _ _).mono ?_; rintro e w' ⟨rfl, rfl⟩; rw [HC.out])
    · have hw : c % 10 < F.wide := by assumption
      go_ret
      exact ⟨ret_bool (by simp [Fld.has, HC.out, hw]), rfl⟩
    · have hw : F.wide ≤ c % 10 := by assumption
      go_ret
      exact ⟨ret_bool (by simp [Fld.has, HC.out]; omega), rfl⟩
set_option maxRecDepth 100000 in
set_option maxHeartbeats 400000 in
theorem l01Is_any (b : Nat) {t : TypeId} (F : Fld) (hF : F.ok) (c : Int) (w : World) (hb : Blk w b t F.cells) :
    Calls Tryz.prog 71 #[.pointer (some ⟨b, 0, none⟩), .int .i64 c] w fun e w' => e = .returned (.bool (F.has c)) ∧ w = w' := by
  have h0 := hb.cellv F.cell0
  have h1 := hb.cellv F.cell1
  have a0 := hF.w0
  have a1 := hF.w1
  have a2 := hF.h0
  have a3 := hF.h1
  clear hb hF
  cases hc : inB c 0 99
  · have HC := Lib.hid hc
    clear hc
    go_enter Tryz.func71, Tryz.ntmps71
    go_wp2_with (go_at_call 103; refine (l00In_any _ _ _ _).mono ?_; rintro e w' ⟨rfl, rfl⟩; rw [HC.out])
    go_ret
    exact ⟨ret_bool (by simp [Fld.has, HC.out]), rfl⟩
  · have HC := Lib.hid hc
    have hc2 := inB_iff.1 hc
    have b0 := hc2.1
    have b1 := hc2.2
    clear hc hc2
    go_enter Tryz.func71, Tryz.ntmps71
    go_wp2_with (go_at_call 103; refine (l00In_any _ _ _ _).mono ?_; rintro e w' ⟨rfl, rfl⟩; rw [HC.out])
    · have hw : c % 10 < F.wide := by assumption
      go_ret
      exact ⟨ret_bool (by simp [Fld.has, HC.out, hw]), rfl⟩
    · have hw : F.wide ≤ c % 10 := by assumption
      go_ret
      exact ⟨ret_bool (by simp [Fld.has, HC.out]; omega), rfl⟩
set_option maxRecDepth 100000 in
set_option maxHeartbeats 1000000 in
theorem l01Ok_any (b : Nat) {t : TypeId} (F : Fld) (hF : F.ok) (w : World) (hb : Blk w b t F.cells) :
    Calls Tryz.prog 152 #[.pointer (some ⟨b, 0, none⟩)] w fun e w' => e = .returned (.bool F.valid) ∧ w = w' := by
  have h0 := hb.cellv F.cell0
  have h1 := hb.cellv F.cell1
  have a0 := hF.w0
  have a1 := hF.w1
  have a2 := hF.h0
  have a3 := hF.h1
  have HB := Lib.hid hb
  have HF := Lib.hid hF
  clear hb hF
  cases hw : inB F.wide 1 10
  · have HW := Lib.hid hw
    clear hw
    go_enter Tryz.func152, Tryz.ntmps152
    go_wp2_with (go_at_call 103; refine (l00In_any _ _ _ _).mono ?_; rintro e w' ⟨rfl, rfl⟩; rw [HW.out])
    go_ret
    exact ⟨ret_bool (by simp [Fld.valid, HW.out]), rfl⟩
  have HW := Lib.hid hw
  clear hw
  cases hh : inB F.high 1 10
  · have HH := Lib.hid hh
    clear hh
    go_enter Tryz.func152, Tryz.ntmps152
    go_wp2_with (go_at_call 103; refine (l00In_any _ _ _ _).mono ?_; rintro e w' ⟨rfl, rfl⟩; first | rw [HW.out] | rw [HH.out])
    go_ret
    exact ⟨ret_bool (by simp [Fld.valid, HH.out]), rfl⟩
  have HH := Lib.hid hh
  clear hh
  go_enter Tryz.func152, Tryz.ntmps152
  go_wp2_with (go_at_call 103; refine (l00In_any _ _ _ _).mono ?_; rintro e w' ⟨rfl, rfl⟩; first | rw [HW.out] | rw [HH.out])
  go_loop [3] (fun v => ∃ k : Nat, k ≤ 100 ∧ v = .int .i64 k ∧ ∀ j, j < k → F.okAt j = true) (fun v => 100 - (intOf v).toNat)
  case atStart => exact ⟨0, by omega, rfl, fun j h => by omega⟩
  case round =>
    obtain ⟨k, hk, rfl, ho⟩ := hrel
    have HO := Lib.hid ho
    clear ho
    by_cases hlt : k < 100
    · have hk1 := HB.out.cellv (Fld.cellK HF.out.toLen hlt)
      have hk2 := HB.out.cellv (Fld.cellS HF.out.toLen hlt)
      have b0 := (HF.out.kb k).1
      have b1 := (HF.out.kb k).2
      have b2 := (HF.out.sb k).1
      have b3 := (HF.out.sb k).2
      go_wp2_with (first
        | (go_at_call 178; go_must (refine (l01Kind_any _ _).mono ?_); rintro e w_ ⟨rfl, rfl⟩)
        | (go_at_call 179; go_must (refine (l01Seeds_any _ _).mono ?_); rintro e w_ ⟨rfl, rfl⟩)
        | (go_at_call 71; go_must (refine (l01Is_any b F HF.out _ _ HB.out).mono ?_); rintro e w_ ⟨rfl, rfl⟩)
        )
      all_goals first
        | (go_ret
           refine ⟨ret_bool (Fld.not_valid hlt ?_).symm, rfl⟩
           rw [← Bool.not_eq_true]
           simp only [Fld.okAt, decide_eq_true_eq]
           intro hq
           clear hk1 hk2
           simp_all [inB]
           done)
        | (refine ⟨⟨k + 1, by omega, by go_num, all_succ HO.out ?_⟩, by simp [intOf]; omega⟩
           simp only [Fld.okAt, decide_eq_true_eq]
           clear hk1 hk2
           simp_all [inB]
           done)
    · obtain rfl : k = 100 := by omega
      go_wp2
      go_ret
      exact ⟨ret_bool (Fld.valid_of HW.out HH.out HO.out).symm, rfl⟩

set_option maxRecDepth 100000 in
set_option maxHeartbeats 1000000 in
theorem ValidField_any (F : Fld) (hF : F.ok) (w : World) :
    Calls Tryz.prog 75 #[.agg F.cells] w fun e w' => e = .returned (.bool F.valid) ∧ Mem w w' [] := by
  have M := Lib.hid (Mem.start w)
  have S1 := Lib.hid (Fld.size hF.toLen)
  have c0 := F.cell0
  have c1 := F.cell1
  have a0 := hF.w0
  have a1 := hF.w1
  have a2 := hF.h0
  have a3 := hF.h1
  have HF := Lib.hid hF
  clear hF
  cases hw : inB F.wide 1 10
  · have HW := Lib.hid hw
    clear hw
    go_enter Tryz.func75, Tryz.ntmps75
    go_wp2_with (first
      | ((with_reducible refine gate_dst (N := 1) rfl ?_); go_must (refine M.out.ev_new rfl (by first | (go_simp; done) | (go_simp; rfl)) ?_); intro g1 w1 m; simp only [List.cons_append, List.nil_append] at m; have M := Lib.hid m; clear m; try have q0_1 := M.out.cell (j := 1) 0 rfl (by first | assumption | rfl))
      | ((with_reducible refine gate_dst (N := 7) rfl ?_); go_must (refine M.out.ev_ld 0 _ _ rfl rfl rfl Tryz.underlying24 rfl rfl (by first | assumption | rfl) ?_))
      | ((with_reducible refine gate_dst (N := 24) rfl ?_); go_must (refine M.out.ev_ld 0 _ _ rfl rfl rfl Tryz.underlying5 rfl rfl (by first | assumption | rfl) ?_))
      | ((with_reducible refine gate_dst (N := 28) rfl ?_); go_must (refine M.out.ev_ld 0 _ _ rfl rfl rfl Tryz.underlying26 rfl rfl (by first | assumption | rfl) ?_))
      | (go_at_call 94; refine (within_any _ _ _ _).mono ?_; rintro e w' ⟨rfl, rfl⟩; rw [HW.out]))
    go_ret
    exact ⟨ret_bool (by simp [Fld.valid, HW.out]), M.out.take 0⟩
  have HW := Lib.hid hw
  clear hw
  cases hh : inB F.high 1 10
  · have HH := Lib.hid hh
    clear hh
    go_enter Tryz.func75, Tryz.ntmps75
    go_wp2_with (first
      | ((with_reducible refine gate_dst (N := 13) rfl ?_); have c1b := M.out.cell 0 rfl c1; fail)
      | ((with_reducible refine gate_dst (N := 1) rfl ?_); go_must (refine M.out.ev_new rfl (by first | (go_simp; done) | (go_simp; rfl)) ?_); intro g1 w1 m; simp only [List.cons_append, List.nil_append] at m; have M := Lib.hid m; clear m; try have q0_1 := M.out.cell (j := 1) 0 rfl (by first | assumption | rfl))
      | ((with_reducible refine gate_dst (N := 7) rfl ?_); go_must (refine M.out.ev_ld 0 _ _ rfl rfl rfl Tryz.underlying24 rfl rfl (by first | assumption | rfl) ?_))
      | ((with_reducible refine gate_dst (N := 24) rfl ?_); go_must (refine M.out.ev_ld 0 _ _ rfl rfl rfl Tryz.underlying5 rfl rfl (by first | assumption | rfl) ?_))
      | ((with_reducible refine gate_dst (N := 28) rfl ?_); go_must (refine M.out.ev_ld 0 _ _ rfl rfl rfl Tryz.underlying26 rfl rfl (by first | assumption | rfl) ?_))
      | (go_at_call 94; refine (within_any _ _ _ _).mono ?_; rintro e w' ⟨rfl, rfl⟩; first | rw [HW.out]; have c1b := M.out.cell 0 rfl c1 | rw [HH.out]))
    go_ret
    exact ⟨ret_bool (by simp [Fld.valid, HH.out]), M.out.take 0⟩
  have HH := Lib.hid hh
  clear hh
  go_enter Tryz.func75, Tryz.ntmps75
  go_wp2_with (first
    | ((with_reducible refine gate_dst (N := 1) rfl ?_); go_must (refine M.out.ev_new rfl (by first | (go_simp; done) | (go_simp; rfl)) ?_); intro g1 w1 m; simp only [List.cons_append, List.nil_append] at m; have M := Lib.hid m; clear m; try have q0_1 := M.out.cell (j := 1) 0 rfl (by first | assumption | rfl))
    | ((with_reducible refine gate_dst (N := 7) rfl ?_); go_must (refine M.out.ev_ld 0 _ _ rfl rfl rfl Tryz.underlying24 rfl rfl (by first | assumption | rfl) ?_))
    | ((with_reducible refine gate_dst (N := 24) rfl ?_); go_must (refine M.out.ev_ld 0 _ _ rfl rfl rfl Tryz.underlying5 rfl rfl (by first | assumption | rfl) ?_))
    | ((with_reducible refine gate_dst (N := 28) rfl ?_); go_must (refine M.out.ev_ld 0 _ _ rfl rfl rfl Tryz.underlying26 rfl rfl (by first | assumption | rfl) ?_))
    | (go_at_call 94; refine (within_any _ _ _ _).mono ?_; rintro e w' ⟨rfl, rfl⟩; first | rw [HW.out]; have c1b := M.out.cell 0 rfl c1 | rw [HH.out]))
  go_loopw [18] (fun v wr => ∃ k : Nat, k ≤ 100 ∧ v = .int .i64 k ∧ (∀ j, j < k → F.okAt j = true) ∧ Mem w wr [.blk g1 29 F.cells]) (fun v _ => 100 - (intOf v).toNat)
  case atStart => exact ⟨0, by omega, rfl, fun j h => by omega, M.out⟩
  case round =>
    clear M c1b
    obtain ⟨k, hk, rfl, ho, m⟩ := hrel
    have HO := Lib.hid ho
    have M := Lib.hid m
    clear ho m
    by_cases hlt : k < 100
    · have hk1 := M.out.cell 0 rfl (Fld.cellK HF.out.toLen hlt)
      have hk2 := M.out.cell 0 rfl (Fld.cellS HF.out.toLen hlt)
      have b0 := (HF.out.kb k).1
      have b1 := (HF.out.kb k).2
      have b2 := (HF.out.sb k).1
      have b3 := (HF.out.sb k).2
      have i0 : (0 : Int) ≤ (k : Int) := by omega
      have i1 : (k : Int) < 100 := by omega
      clear c0 c1
      go_wp2_with fail
      go_quiet (fail)
      have M := Lib.hid (M.out.drewN nq)
      go_wp2_with (first
        | (go_at_call 94; go_must (refine (within_any _ _ _ _).mono ?_); rintro e w_ ⟨rfl, rfl⟩)
        | (go_at_call 86; go_must (refine (has_any g1 F HF.out _ _ (M.out.blk 0 rfl)).mono ?_); rintro e w_ ⟨rfl, rfl⟩)
        )
      all_goals first
        | (go_ret
           refine ⟨ret_bool (Fld.not_valid hlt ?_).symm, M.out.take 0⟩
           rw [← Bool.not_eq_true]
           simp only [Fld.okAt, decide_eq_true_eq]
           intro hq
           clear hk1 hk2
           first | (simp_all [inB]; done) | (simp_all [inB]; omega))
        | (refine ⟨⟨k + 1, by omega, by go_num, all_succ HO.out ?_, M.out⟩, by simp [intOf]; omega⟩
           simp only [Fld.okAt, decide_eq_true_eq]
           clear hk1 hk2
           first | (simp_all [inB]; done) | (simp_all [inB]; omega))
    · obtain rfl : k = 100 := by omega
      go_wp2
      go_ret
      exact ⟨ret_bool (Fld.valid_of HW.out HH.out HO.out).symm, M.out.take 0⟩
end Go.Proofs.YtkomhngokcejbaaGreatDoor
namespace Go.Proofs.YtkomhngokcejbaaGreatDoor
set_option linter.unusedSimpArgs false
set_option linter.unusedVariables false
open Go.ChangeShapes Go.WideShapes Go.RowKit Go.Deep

/-- The kinds of the whole numbers that a value of a type is made of, if it is made of nothing else. -/
def leavesGo (cells : TypeId → Nat) (L : TypeId → Option (List IntKind)) : List Field → Nat → Option (List IntKind)
  | [], _ => some []
  | f :: r, off => match L f.type with
    | none => none
    | some l => if f.offset = off ∧ cells f.type = l.length then (leavesGo cells L r (off + l.length)).map (l ++ ·) else none
def leaves (P : Program) : Nat → TypeId → Option (List IntKind)
  | 0, _ => none
  | d + 1, t => match P.underlying t with
    | some (.int k) => some [k]
    | some (.struct fs) => leavesGo P.cellsOf (leaves P d) fs.toList 0
    | some (.array n e) => match leaves P d e with
      | none => none
      | some l => if P.cellsOf e = l.length then some (List.replicate n l).flatten else none
    | _ => none

/-- Cells that are whole numbers of these kinds. -/
def Conf (ks : List IntKind) (cs : List Value) : Prop :=
  cs.length = ks.length ∧ ∀ (i : Nat) (k : IntKind), ks[i]? = some k → ∃ n : Int, cs[i]? = some (Value.int k n) ∧ (Lit.int k n).wf = true

theorem Conf.append {ks ks' : List IntKind} {cs : List Value} (h : Conf ks (cs.take ks.length)) (h' : Conf ks' (cs.drop ks.length)) : Conf (ks ++ ks') cs := by
  have hl := h.1
  have hl' := h'.1
  simp only [List.length_take, List.length_drop] at hl hl'
  refine ⟨by simp; omega, fun i k hk => ?_⟩
  rcases Nat.lt_or_ge i ks.length with hi | hi
  · rw [List.getElem?_append_left hi] at hk
    obtain ⟨n, h1, h2⟩ := h.2 i k hk
    rw [List.getElem?_take_of_lt hi] at h1
    exact ⟨n, h1, h2⟩
  · rw [List.getElem?_append_right hi] at hk
    obtain ⟨n, h1, h2⟩ := h'.2 _ k hk
    rw [List.getElem?_drop, show ks.length + (i - ks.length) = i by omega] at h1
    exact ⟨n, h1, h2⟩
theorem Conf.nil {cs : List Value} (h : cs.length = 0) : Conf [] cs := ⟨by simpa using h, fun i k hk => by simp at hk⟩

section
variable {H : Type} {enc : TypeId × Value → H} {P : Program} {w : World} {base : Nat} {spare : Nat → Bool} {held : Bool}
theorem leavesGo_conf {L : TypeId → Option (List IntKind)} (cs : List Value) : ∀ (fs : List Field) (off : Nat) (ks : List IntKind), leavesGo P.cellsOf L fs off = some ks →
    (∀ f ∈ fs, ∀ l, L f.type = some l → Conf l ((cs.drop f.offset).take (P.cellsOf f.type))) → Conf ks ((cs.drop off).take ks.length)
  | [], off, ks, h, _ => by
    simp only [leavesGo, Option.some.injEq] at h
    subst h
    exact Conf.nil (by simp)
  | f :: r, off, ks, h, hf => by
    simp only [leavesGo] at h
    cases hl : L f.type with
    | none => simp [hl] at h
    | some l =>
      simp only [hl] at h
      split at h
      · rename_i hc
        cases hr : leavesGo P.cellsOf L r (off + l.length) with
        | none => simp [hr] at h
        | some ks' =>
          simp only [hr, Option.map_some, Option.some.injEq] at h
          subst h
          have h1 := hf f (by simp) l hl
          rw [hc.1, hc.2] at h1
          have h2 := leavesGo_conf cs r (off + l.length) ks' hr (fun g hg => hf g (by simp [hg]))
          refine Conf.append ?_ ?_
          · rw [List.take_take, List.length_append, Nat.min_eq_left (by omega)]
            exact h1
          · rw [List.length_append, List.drop_take, List.drop_drop, show l.length + ks'.length - l.length = ks'.length by omega]
            exact h2
      · cases h
theorem replicate_conf {l : List IntKind} (cs : List Value) : ∀ (n off : Nat), (∀ i, i < n → Conf l ((cs.drop (off + i * l.length)).take l.length)) → Conf (List.replicate n l).flatten ((cs.drop off).take (n * l.length))
  | 0, off, _ => by simpa using Conf.nil (by simp)
  | n + 1, off, h => by
    rw [List.replicate_succ, List.flatten_cons]
    have h0 := h 0 (by omega)
    simp only [Nat.zero_mul, Nat.add_zero] at h0
    have h1 := replicate_conf (l := l) cs n (off + l.length) (fun i hi => by
      have := h (i + 1) (by omega)
      rwa [Nat.add_mul, Nat.one_mul, show off + (i * l.length + l.length) = off + l.length + i * l.length by omega] at this)
    refine Conf.append ?_ ?_
    · rw [List.take_take, Nat.min_eq_left (by rw [Nat.add_mul]; omega)]
      exact h0
    · rw [List.drop_take, List.drop_drop, show (n + 1) * l.length - l.length = n * l.length by rw [Nat.add_mul]; omega]
      exact h1
theorem leaves_conf : ∀ (d : Nat) (t : TypeId) (ks : List IntKind), leaves P d t = some ks → ∀ (fuel : Nat) (cs : List Value) (x : DataW H × List MemPlace), DataW.trod enc P w base spare held fuel t cs = some x → P.cellsOf t = ks.length → Conf ks cs
  | 0, t, ks, h => by simp [leaves] at h
  | d + 1, t, ks, h => by
    intro fuel cs x hx hc
    simp only [leaves] at h
    split at h
    · rename_i k ht
      simp only [Option.some.injEq] at h
      subst h
      obtain ⟨n, rfl, _, hw⟩ := DataW.trod_int ht hx
      refine ⟨rfl, fun i k' hk => ?_⟩
      have hi : i = 0 := by
        rcases Nat.eq_zero_or_pos i with h0 | h0
        · exact h0
        · rw [List.getElem?_eq_none (by simp; omega)] at hk; cases hk
      subst hi
      simp only [List.getElem?_cons_zero, Option.some.injEq] at hk
      subst hk
      exact ⟨n, rfl, hw⟩
    · rename_i fs ht
      obtain ⟨xs, n, _, _, hlen, hxl, hf⟩ := DataW.trod_struct ht hx
      have := leavesGo_conf (P := P) (L := leaves P d) cs fs.toList 0 ks h (fun f hfm l hl => by
        obtain ⟨i, hi⟩ := List.getElem?_of_mem hfm
        rw [Array.getElem?_toList] at hi
        have h1 := hf i f hi
        have hil : i < xs.length := by rw [hxl]; exact (Array.getElem?_eq_some_iff.1 hi).1
        rw [List.getElem?_eq_getElem hil] at h1
        have hcl : P.cellsOf f.type = l.length := by
          have key : ∀ (gs : List Field) (off : Nat) (ks : List IntKind), leavesGo P.cellsOf (leaves P d) gs off = some ks → f ∈ gs → P.cellsOf f.type = l.length := by
            intro gs
            induction gs with
            | nil => intro off ks _ hm; simp at hm
            | cons g r ih =>
              intro off ks hg hm
              simp only [leavesGo] at hg
              cases hlg : leaves P d g.type with
              | none => simp [hlg] at hg
              | some lg =>
                simp only [hlg] at hg
                split at hg
                · rename_i hcg
                  cases hr : leavesGo P.cellsOf (leaves P d) r (off + lg.length) with
                  | none => simp [hr] at hg
                  | some ks' =>
                    rcases List.mem_cons.1 hm with rfl | hm'
                    · rw [hl] at hlg
                      injection hlg with hlg
                      rw [hlg]
                      exact hcg.2
                    · exact ih _ _ hr hm'
                · cases hg
          exact key _ _ _ h hfm
        exact leaves_conf d f.type l hl _ _ _ h1 hcl)
      rwa [List.drop_zero, List.take_of_length_le (by omega)] at this
    · rename_i n e ht
      cases hl : leaves P d e with
      | none => simp [hl] at h
      | some l =>
        simp only [hl] at h
        split at h
        · rename_i hce
          simp only [Option.some.injEq] at h
          subst h
          obtain ⟨xs, m, _, _, hlen, hxl, hf⟩ := DataW.trod_array ht hx
          have h2 := replicate_conf (l := l) cs n 0 (fun i hi => by
            have h1 := hf i hi
            rw [List.getElem?_eq_getElem (by omega), hce] at h1
            rw [Nat.zero_add]
            exact leaves_conf d e l hl _ _ _ h1 hce)
          have hn : cs.length = n * l.length := by rw [hlen, hc]; simp
          rwa [List.drop_zero, List.take_of_length_le (by omega)] at h2
        · cases h
    · cases h
end

/-- The number in a cell. -/
def intOf' : Value → Int
  | .int _ n => n
  | _ => 0
/-- Cells that are whole numbers: their kinds, their numbers. -/
theorem Conf.nums {ks : List IntKind} {cs : List Value} (h : Conf ks cs) :
    ∃ ns : List Int, ns.length = ks.length ∧ cs = List.zipWith (fun k n => Value.int k n) ks ns ∧ ∀ (i : Nat) (k : IntKind) (n : Int), ks[i]? = some k → ns[i]? = some n → (Lit.int k n).wf = true := by
  refine ⟨cs.map intOf', by simp [h.1], ?_, ?_⟩
  · apply List.ext_getElem?
    intro i
    rcases Nat.lt_or_ge i ks.length with hi | hi
    · obtain ⟨n, h1, _⟩ := h.2 i ks[i] (List.getElem?_eq_getElem hi)
      rw [List.getElem?_zipWith, List.getElem?_eq_getElem hi, List.getElem?_map, h1]
      rfl
    · rw [List.getElem?_eq_none (by have := h.1; omega), List.getElem?_eq_none (by simp; omega)]
  · intro i k n hk hn
    obtain ⟨m, h1, h2⟩ := h.2 i k hk
    rw [List.getElem?_map, h1] at hn
    simp only [Option.map_some, intOf', Option.some.injEq] at hn
    rw [← hn]
    exact h2

section
variable {H : Type} {enc : TypeId × Value → H} {P : Program} {w : World} {base : Nat} {spare : Nat → Bool} {held : Bool}
/-- An argument that is a slice of whole numbers, or of structs of such. -/
theorem open_sl {r : Reach} {b0 : Nat} {t e : TypeId} {d0 : Nat} {ks : List IntKind} (ht : P.underlying t = some (.slice e)) (hk : leaves P d0 e = some ks) (hC : P.cellsOf e = ks.length) (hp : 0 < ks.length)
    {α : Type} (en : α → List Value) (ok : α → Prop) (hen : ∀ x, (en x).length = ks.length) (hconf : ∀ cs, Conf ks cs → ∃ x, ok x ∧ en x = cs)
    {v : Value} {d : DataW H} {p : List MemPlace} (hv : Value.okWide P w r b0 t v) (h : DataW.Trod enc P w base spare held t v d p) :
    ∃ (A : Option Addr) (c : Nat) (xs : List α), v = .slice A xs.length c ∧ xs.length ≤ c ∧ c ≤ maxLen ∧ (∀ x ∈ xs, ok x) ∧ Sl w ks.length A xs.length (flat en xs) := by
  obtain ⟨a0, len, cap, rfl⟩ := okWide_slice ht hv
  obtain ⟨fuel, hf⟩ := h
  rcases open_slice ht hf with ⟨hcs, _⟩ | ⟨a, len', cap', m, n, D, Pl, hcs, _, hl, hm, hmm, _, hi⟩
  · simp only [Value.cells, List.cons.injEq, Value.slice.injEq, and_true] at hcs
    obtain ⟨rfl, rfl, rfl⟩ := hcs
    exact ⟨none, 0, [], rfl, by simp, by unfold maxLen; omega, by simp, Sl.nil_⟩
  · simp only [Value.cells, List.cons.injEq, Value.slice.injEq, and_true] at hcs
    obtain ⟨rfl, rfl, rfl⟩ := hcs
    have hml : len ≤ m := by
      rw [hmm]
      split <;> omega
    have hel : ∀ i, i < len → ∃ x : α, ok x ∧ ∀ j v, (en x)[j]? = some v → w.cell? ((a.add (i * ks.length)).add j) = some v := by
      intro i hi'
      obtain ⟨cs', hc', hx'⟩ := hi i (by omega)
      rw [hC] at hc'
      obtain ⟨x, hx, hxe⟩ := hconf cs' (leaves_conf d0 e ks hk _ _ _ hx' hC)
      obtain ⟨_, hlen, hcell⟩ := World.cells?_some hc'
      refine ⟨x, hx, fun j v hj => ?_⟩
      rw [hxe] at hj
      rw [hcell j (by have := (List.getElem?_eq_some_iff.1 hj).1; omega), hj]
    obtain ⟨xs, hxl, hxs⟩ : ∃ xs : List α, xs.length = len ∧ ∀ (i : Nat) (x : α), xs[i]? = some x → ok x ∧ ∀ (j : Nat) (v : Value), (en x)[j]? = some v → w.cell? ((a.add (i * ks.length)).add j) = some v := by
      have key : ∀ k, k ≤ len → ∃ xs : List α, xs.length = k ∧ ∀ (i : Nat) (x : α), xs[i]? = some x → ok x ∧ ∀ (j : Nat) (v : Value), (en x)[j]? = some v → w.cell? ((a.add (i * ks.length)).add j) = some v := by
        intro k
        induction k with
        | zero => intro _; exact ⟨[], rfl, fun i x h => by simp at h⟩
        | succ k ih =>
          intro hk'
          obtain ⟨xs, h1, h2⟩ := ih (by omega)
          obtain ⟨x, h3, h4⟩ := hel k (by omega)
          refine ⟨xs ++ [x], by simp [h1], fun i y hy => ?_⟩
          rcases Nat.lt_or_ge i xs.length with hi' | hi'
          · rw [List.getElem?_append_left hi'] at hy
            exact h2 i y hy
          · rw [List.getElem?_append_right hi'] at hy
            have : i - xs.length = 0 := by
              rcases Nat.eq_zero_or_pos (i - xs.length) with h0 | h0
              · exact h0
              · rw [List.getElem?_eq_none (by simp; omega)] at hy; cases hy
            rw [this] at hy
            simp only [List.getElem?_cons_zero, Option.some.injEq] at hy
            subst hy
            obtain rfl : i = k := by omega
            exact ⟨h3, h4⟩
      exact key len (Nat.le_refl _)
    refine ⟨some a, cap, xs, by rw [hxl], by omega, hm, fun x hx => ?_, ?_⟩
    · obtain ⟨i, hi'⟩ := List.getElem?_of_mem hx
      exact (hxs i x hi').1
    · refine ⟨flat_len hen xs, fun hn => ?_⟩
      obtain ⟨x0, hx0⟩ : ∃ x, xs[0]? = some x := ⟨xs[0], List.getElem?_eq_getElem hn⟩
      have hspot : a.spot = none := by
        have hv0 : (en x0)[0]? = some ((en x0)[0]'(by rw [hen]; exact hp)) := List.getElem?_eq_getElem _
        have := (hxs 0 x0 hx0).2 0 _ hv0
        simp only [Nat.zero_mul, Addr.add, if_true] at this
        exact World.cell?_spot this
      obtain ⟨b, off, spot⟩ := a
      simp only at hspot
      subst hspot
      refine ⟨b, off, rfl, fun j v hj => ?_⟩
      have hjl : j < (flat en xs).length := (List.getElem?_eq_some_iff.1 hj).1
      rw [flat_len hen] at hjl
      have hi' : j / ks.length < xs.length := by rw [Nat.div_lt_iff_lt_mul hp]; exact hjl
      have hm' : j % ks.length < ks.length := Nat.mod_lt _ hp
      have hx : xs[j / ks.length]? = some xs[j / ks.length] := List.getElem?_eq_getElem hi'
      have hv' : (en xs[j / ks.length])[j % ks.length]? = some ((en xs[j / ks.length])[j % ks.length]'(by rw [hen]; exact hm')) := List.getElem?_eq_getElem _
      have hjj : j / ks.length * ks.length + j % ks.length = j := by rw [Nat.mul_comm]; exact Nat.div_add_mod j ks.length
      have h1 := flat_at hen hx hv'
      rw [hjj, hj] at h1
      injection h1 with h1
      have h2 := (hxs _ _ hx).2 _ _ hv'
      rw [Addr.add_mid, Addr.add_mid, Nat.add_assoc, hjj] at h2
      rw [h2, h1]
end
end Go.Proofs.YtkomhngokcejbaaGreatDoor
namespace Go.Proofs.YtkomhngokcejbaaGreatDoor
set_option linter.unusedSimpArgs false
set_option linter.unusedVariables false
open Go.ChangeShapes Go.WideShapes Go.RowKit Go.Deep

theorem Conf.cons {k : IntKind} {ks : List IntKind} {cs : List Value} (h : Conf (k :: ks) cs) : ∃ n r, cs = Value.int k n :: r ∧ (Lit.int k n).wf = true ∧ Conf ks r := by
  obtain ⟨n, h1, h2⟩ := h.2 0 k rfl
  cases cs with
  | nil => cases h1
  | cons v r =>
    simp only [List.getElem?_cons_zero, Option.some.injEq] at h1
    subst h1
    refine ⟨n, r, rfl, h2, by simpa using h.1, fun i k' hk => ?_⟩
    obtain ⟨m, h3, h4⟩ := h.2 (i + 1) k' (by simpa using hk)
    exact ⟨m, by simpa using h3, h4⟩
theorem Conf.nil_eq {cs : List Value} (h : Conf [] cs) : cs = [] := List.length_eq_zero_iff.1 (by simpa using h.1)
theorem Conf.reps {k : IntKind} {n : Nat} {ks : List IntKind} {cs : List Value} (h : Conf (List.replicate n k ++ ks) cs) :
    ∃ (xs : List Int) (r : List Value), cs = xs.map (Value.int k) ++ r ∧ xs.length = n ∧ (∀ x ∈ xs, (Lit.int k x).wf = true) ∧ Conf ks r := by
  induction n generalizing cs with
  | zero => exact ⟨[], cs, rfl, rfl, by simp, by simpa using h⟩
  | succ n ih =>
    rw [List.replicate_succ, List.cons_append] at h
    obtain ⟨x, r, rfl, hw, hr⟩ := h.cons
    obtain ⟨xs, r', rfl, hl, hx, hr'⟩ := ih hr
    refine ⟨x :: xs, r', by simp, by simp [hl], fun y hy => ?_, hr'⟩
    rcases List.mem_cons.1 hy with rfl | hy
    · exact hw
    · exact hx y hy
end Go.Proofs.YtkomhngokcejbaaGreatDoor
namespace Go.Proofs.YtkomhngokcejbaaGreatDoor
set_option linter.unusedSimpArgs false
set_option linter.unusedVariables false
open Go.RowKit
structure Flock where
  tree : Int
  birds : Int
  eats : Int
  bold : Int
  reach : Int
  taste : Int
  deriving DecidableEq
def Flock.vals (x : Flock) : List Value := [.int .i16 x.tree, .int .i16 x.birds, .int .i16 x.eats, .int .i16 x.bold, .int .i16 x.reach, .int .i8 x.taste]
theorem Flock.vl (x : Flock) : x.vals.length = 6 := rfl
theorem Flock.one (x : Flock) : x.vals.toArray.all (·.oneCell') = true := by simp [Flock.vals, Value.oneCell']
structure Flock.ok (x : Flock) : Prop where
  tree : -32768 ≤ x.tree ∧ x.tree ≤ 32767
  birds : -32768 ≤ x.birds ∧ x.birds ≤ 32767
  eats : -32768 ≤ x.eats ∧ x.eats ≤ 32767
  bold : -32768 ≤ x.bold ∧ x.bold ≤ 32767
  reach : -32768 ≤ x.reach ∧ x.reach ≤ 32767
  taste : -128 ≤ x.taste ∧ x.taste ≤ 127
def Flock.z : Flock := ⟨0, 0, 0, 0, 0, 0⟩
theorem elem_Flock : ElemOk Tryz.prog 33 48 (.agg Flock.z.vals.toArray) 6 12 := ⟨by kernel_rfl, by kernel_rfl, by kernel_rfl, by decide⟩
def Flock.ks : List IntKind := [.i16, .i16, .i16, .i16, .i16, .i8]
theorem Flock.of_conf (cs : List Value) (h : Conf Flock.ks cs) : ∃ x : Flock, x.ok ∧ x.vals = cs := by
  obtain ⟨e0, r, rfl, w0, h⟩ := h.cons
  obtain ⟨e1, r, rfl, w1, h⟩ := h.cons
  obtain ⟨e2, r, rfl, w2, h⟩ := h.cons
  obtain ⟨e3, r, rfl, w3, h⟩ := h.cons
  obtain ⟨e4, r, rfl, w4, h⟩ := h.cons
  obtain ⟨e5, r, rfl, w5, h⟩ := h.cons
  obtain rfl := h.nil_eq
  exact ⟨⟨e0, e1, e2, e3, e4, e5⟩, ⟨bounds_i16 w0, bounds_i16 w1, bounds_i16 w2, bounds_i16 w3, bounds_i16 w4, bounds_i8 w5⟩, rfl⟩
end Go.Proofs.YtkomhngokcejbaaGreatDoor
namespace Go.Proofs.YtkomhngokcejbaaGreatDoor
set_option linter.unusedSimpArgs false
set_option linter.unusedVariables false
open Go.RowKit

def onward (K : Act → World → Prop) : Exit → Act → World → Prop := fun e a w => match e with | .normal => K a w | _ => False
theorem onward_normal {K : Act → World → Prop} {a : Act} {w : World} (h : K a w) : onward K .normal a w := h
theorem Oper.of_onward {P : Program} {o : Oper} {a : Act} {w : World} {K K' : Act → World → Prop} {Q : Exit → Act → World → Prop} (hk : ∀ a w, K' a w → K a w)
    (hh : o.wp P a w K' (onward K)) : o.wp P a w K Q := by
  unfold Oper.wp at *
  generalize (execOp a.eval o).run P w = r at *
  cases r with
  | ok n w' =>
    cases n <;> simp only [Oper.upon] at hh ⊢ <;>
      first
        | exact hk _ _ hh
        | exact Calls.mono hh (fun e w'' he => by
            cases e
            · exact hk _ _ he
            · exact absurd he id
            · exact absurd (show LetsOut (onward K) from he).choose_spec.choose_spec id)
        | exact Rows.mono hh (fun _ _ he => hk _ _ he)
  | halt x w' => cases x <;> simp only [Oper.upon] at hh ⊢ <;> exact absurd hh id

theorem wpOp_onward {P : Program} {ops : Array Oper} {Q : Exit → Act → World → Prop} {i : Nat} {K : Act → World → Prop} {a : Act} {w : World} {o : Oper} (ho : ops[i]? = some o)
    (h : wpList P ops (onward K) [o] a w) : wpOp P ops Q i K a w := by
  unfold wpOp
  rw [ho]
  show if Region.wanted o (yielded ops a.tmps) = true then _ else _
  unfold wpList at h
  split
  · rename_i hw
    rw [if_pos hw] at h
    rcases h with h | h
    · exact .inl (Oper.of_onward (fun _ _ h => h) h)
    · exact absurd h.2.choose_spec.choose_spec id
  · rename_i hw
    rw [if_neg hw] at h
    exact h

theorem any1 {P : Program} {md : Region.Mode} {ops : Array Oper} {Q : Exit → Act → World → Prop} {fuel : Nat} {listed : Array Bool} {a : Act} {w : World} (i : Nat) {o : Oper}
    (hr : Region.ready md ops listed = [i]) (ho : ops[i]? = some o) (h : wpList P ops (onward (wpAny P md ops Q fuel (listed.setIfInBounds i true))) [o] a w) : wpAny P md ops Q (fuel + 1) listed a w :=
  wpAny_all hr (by simp) fun j hj => by
    rw [List.mem_singleton.1 hj]
    exact wpOp_onward ho h
theorem any2 {P : Program} {md : Region.Mode} {ops : Array Oper} {Q : Exit → Act → World → Prop} {fuel : Nat} {listed : Array Bool} {a : Act} {w : World} (i j : Nat) {o o' : Oper}
    (hr : Region.ready md ops listed = [i, j]) (ho : ops[i]? = some o) (ho' : ops[j]? = some o')
    (h : wpList P ops (onward (wpAny P md ops Q fuel (listed.setIfInBounds i true))) [o] a w)
    (h' : wpList P ops (onward (wpAny P md ops Q fuel (listed.setIfInBounds j true))) [o'] a w) : wpAny P md ops Q (fuel + 1) listed a w :=
  wpAny_all hr (by simp) fun k hk => by
    rcases List.mem_cons.1 hk with rfl | hk
    · exact wpOp_onward ho h
    · rw [List.mem_singleton.1 hk]
      exact wpOp_onward ho' h'
theorem any1k {P : Program} {md : Region.Mode} {ops : Array Oper} {Q : Exit → Act → World → Prop} {fuel : Nat} {listed : Array Bool} {a : Act} {w : World} (i : Nat) {o : Oper}
    (hr : Region.ready md ops listed = [i]) (ho : ops[i]? = some o)
    (h : ∀ K : Act → World → Prop, (∀ a w, wpAny P md ops Q fuel (listed.setIfInBounds i true) a w → K a w) → wpList P ops (onward K) [o] a w) : wpAny P md ops Q (fuel + 1) listed a w :=
  any1 i hr ho (h _ fun _ _ h => h)
theorem any2k {P : Program} {md : Region.Mode} {ops : Array Oper} {Q : Exit → Act → World → Prop} {fuel : Nat} {listed : Array Bool} {a : Act} {w : World} (i j : Nat) {o o' : Oper}
    (hr : Region.ready md ops listed = [i, j]) (ho : ops[i]? = some o) (ho' : ops[j]? = some o')
    (h : ∀ K : Act → World → Prop, (∀ a w, wpAny P md ops Q fuel (listed.setIfInBounds i true) a w → K a w) → wpList P ops (onward K) [o] a w)
    (h' : ∀ K : Act → World → Prop, (∀ a w, wpAny P md ops Q fuel (listed.setIfInBounds j true) a w → K a w) → wpList P ops (onward K) [o'] a w) : wpAny P md ops Q (fuel + 1) listed a w :=
  any2 i j hr ho ho' (h _ fun _ _ h => h) (h' _ fun _ _ h => h)
theorem region_any {P : Program} {ops : Array Oper} {Q : Exit → Act → World → Prop} {id : Nat} {a : Act} {w : World} (hm : P.follows .mixedOrders = true)
    (h : wpAny P .any ops Q ops.size (Array.replicate ops.size false) a w.drew) : (Code.region id ops true).wp P Q a w := wp_region_any hm h
end Go.Proofs.YtkomhngokcejbaaGreatDoor
namespace Go.Proofs.YtkomhngokcejbaaGreatDoor
set_option linter.unusedSimpArgs false
set_option linter.unusedVariables false
open Go.RowKit

/-- A pure operation, its place told. -/
theorem takeD {P : Program} {md : Region.Mode} {ops : Array Oper} {Q : Exit → Act → World → Prop} {i : Nat} {oi : Oper} {v : Value} {fuel : Nat} {listed : Array Bool} {a : Act} {w : World} (d : Tmp) (hi : ops[i]? = some oi)
    (hs : Region.noSelect ops = true) (hf : Region.free md ops listed i = true) (hr : (Region.ready md ops listed).contains i = true)
    (hQ : ∀ c a w, Q (.panic c) (a.put oi.dst v) w → Q (.panic c) a w) (hd : oi.dst = some d) (hy : Yields P ops oi v a)
    (h : wpAny P md ops Q fuel (listed.setIfInBounds i true) (a.put (some d) v) w) : wpAny P md ops Q (fuel + 1) listed a w :=
  wpAny_take hi hs hf hr hQ hy (by rw [hd]; exact h)
end Go.Proofs.YtkomhngokcejbaaGreatDoor
