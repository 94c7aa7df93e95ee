/- Rows of whole numbers; two of them compared as Go's library does. -/
import Derived.Test.YtbjcajhbhicokaaMark64
import Derived.Test.YtbjcajhbhicokaaPick
namespace Go.Proofs.Ytbjcajhbhicokaa
set_option linter.unusedSimpArgs false
set_option linter.unusedVariables false
open Go.RowKit
attribute [local go_sem] cell?_mk frozen?_mk

def oneI (x : Int) : List Value := [.int .i64 x]
theorem oneI_len (x : Int) : (oneI x).length = 1 := rfl
theorem flat_oneI (xs : List Int) : flat oneI xs = xs.map (Value.int .i64) := by
  induction xs with
  | nil => rfl
  | cons k r ih => show oneI k ++ flat oneI r = _; rw [ih]; rfl
theorem oneI_ones (x : Int) : ∀ v ∈ oneI x, v.oneCell' = true := by
  intro v hv
  rw [List.mem_singleton.1 hv]
  rfl
theorem sl_ints {w : World} {g : Nat} {t : TypeId} {xs : List Int} (h : Blk w g t (ints .i64 xs)) : Sl w 1 (some ⟨g, 0, none⟩) xs.length (flat oneI xs) := by
  rw [flat_oneI]
  refine ⟨by simp, fun _ => ⟨g, 0, rfl, fun j v hj => ?_⟩⟩
  rw [Nat.zero_add]
  exact h.cellv (by rw [ints, List.getElem?_toArray]; exact hj)
theorem flat_cells (xs : List Int) : (xs.map (Value.int .i64)).flatMap (fun v => v.cells.toList) = xs.map (Value.int .i64) := by
  induction xs with
  | nil => rfl
  | cons x r ih => rw [List.map_cons, List.flatMap_cons, ih]; rfl
section
variable {P : Program} {ops : Array Oper} {rest : List Oper} {o : Oper} {a : Act} {w0 w : World} {Q : Exit → Act → World → Prop} {L : List Ent}
/-- []int64{x, y, ..}. -/
theorem Mem.ev_bsI (M : Mem w0 w L) {T e : TypeId} {zv : Value} {bytes : Nat} (E : ElemOk P T e zv 1 bytes) (hgd : o.guard = none) (n : Nat) (parts : Array (Nat × Operand)) (ho : o.op = .buildSlice T n parts)
    (xs : List Int) (hn : xs.length = n) (hn0 : 0 < n) (hn2 : n ≤ 2 ^ 24) (hx : (parts.map fun (i, x) => (i, a.eval x)).toList = ((xs.map (Value.int .i64)).zipIdx 0).map fun x => (x.2, x.1))
    (h : ∀ g w1, Mem w0 w1 (L ++ [.blk g e (ints .i64 xs)]) → wpList P ops Q rest (a.put o.dst (.slice (some ⟨g, 0, none⟩) n n)) w1) : wpList P ops Q (o :: rest) a w := by
  obtain ⟨i, hi, h1, h2, h3⟩ := E.get
  refine wpList_buildSlice hgd T e n _ ho (ints .i64 xs) i zv E.sl hi h1 (by rw [h2]; omega) (by rw [h2]; omega) ?_ ?_
  · rw [hx, h2]
    have hz : zv.cells.size = 1 := E.zs
    have := Great.fill_whole (s := 1) (by omega) (xs.map (Value.int .i64)) ((Array.range (n * 1)).map (zv.cells[· % zv.cells.size]!)) (by simp [Value.cells]) (by simp [hn])
    rw [this]
    rw [flat_cells, ints]
  · exact h _ _ (M.new (Nat.le_refl _) (Blk.new w e _) ((Below.refl _ _).alloc (Nat.le_refl _) _))
end
def cmpI (a b : Int) : Int := if a < b then -1 else if b < a then 1 else 0
def lexcmp : List Int → List Int → Int
  | a :: r, b :: q => if cmpI a b = 0 then lexcmp r q else cmpI a b
  | [], _ :: _ => -1
  | _ :: _, [] => 1
  | [], [] => 0
theorem lexcmp_lt : ∀ xs ys : List Int, decide (lexcmp xs ys < 0) = lexlt xs ys
  | [], [] => rfl
  | [], _ :: _ => rfl
  | _ :: _, [] => rfl
  | a :: r, b :: q => by
    rw [lexcmp, lexlt, ← lexcmp_lt r q]
    unfold cmpI
    rcases Int.lt_trichotomy a b with h | rfl | h
    · simp [h]
    · simp
    · have h1 : ¬ (a < b) := by omega
      have h2 : ¬ (a = b) := by omega
      simp [h, h1, h2]
theorem lexcmp_same {xs ys : List Int} {k : Nat} (h1 : k < xs.length) (h2 : k < ys.length) : lexcmp (xs.drop k) (ys.drop k) = if cmpI xs[k] ys[k] = 0 then lexcmp (xs.drop (k + 1)) (ys.drop (k + 1)) else cmpI xs[k] ys[k] := by
  rw [List.drop_eq_getElem_cons h1, List.drop_eq_getElem_cons h2, lexcmp]
set_option maxRecDepth 100000 in
set_option maxHeartbeats 1000000 in
theorem isNaN_any (x : Int) (w : World) :
    Calls Try.prog 151 #[.int .i64 x] w fun e w' => e = .returned (.bool false) ∧ w = w' := by
  go_enter Try.func151, Try.ntmps151
  go_wp2
  go_ret
  exact ⟨ret_bool (by simp), rfl⟩
set_option maxRecDepth 100000 in
set_option maxHeartbeats 1000000 in
theorem cmpC_any (a b : Int) (w : World) :
    Calls Try.prog 147 #[.int .i64 a, .int .i64 b] w fun e w' => e = .returned (.int .i64 (cmpI a b)) ∧ w = w' := by
  have h : cmpI a b = if a < b then -1 else if b < a then 1 else 0 := rfl
  have H := Lib.hid h
  clear h
  rcases Int.lt_trichotomy a b with h | h | h
  · have h1 : decide (a < b) = true := by simp [h]
    have HH := Lib.hid h
    go_enter Try.func147, Try.ntmps147
    go_wp2_with (first | (go_at_call 151; go_must (refine (isNaN_any _ _).mono ?_); rintro e w_ ⟨rfl, rfl⟩))
    go_ret
    exact ⟨ret_int (by rw [H.out, if_pos HH.out]), rfl⟩
  · have h1 : ¬ (a < b) := by omega
    have h2 : ¬ (b < a) := by omega
    have H1 := Lib.hid h1
    have H2 := Lib.hid h2
    clear h
    go_enter Try.func147, Try.ntmps147
    go_wp2_with (first | (go_at_call 151; go_must (refine (isNaN_any _ _).mono ?_); rintro e w_ ⟨rfl, rfl⟩))
    go_ret
    exact ⟨ret_int (by rw [H.out, if_neg (by have := H1.out; omega), if_neg (by have := H2.out; omega)]), rfl⟩
  · have h1 : ¬ (a < b) := by omega
    have H1 := Lib.hid h1
    have HH := Lib.hid h
    go_enter Try.func147, Try.ntmps147
    go_wp2_with (first | (go_at_call 151; go_must (refine (isNaN_any _ _).mono ?_); rintro e w_ ⟨rfl, rfl⟩))
    go_ret
    exact ⟨ret_int (by rw [H.out, if_neg (by have := H1.out; omega), if_pos HH.out]), rfl⟩
set_option maxRecDepth 100000 in
set_option maxHeartbeats 1000000 in
theorem compare_any (A B : Option Addr) (c d : Nat) (xs ys : List Int) (h1 : xs.length ≤ 1048576) (h2 : ys.length ≤ 1048576) (w : World) (hx : Sl w 1 A xs.length (flat oneI xs)) (hy : Sl w 1 B ys.length (flat oneI ys)) :
    Calls Try.prog 135 #[.slice A xs.length c, .slice B ys.length d] w fun e w' => e = .returned (.int .i64 (lexcmp xs ys)) ∧ w = w' := by
  have HX := Lib.hid hx
  have HY := Lib.hid hy
  clear hx hy
  go_enter Try.func135, Try.ntmps135
  go_wp2
  go_loop [11] (fun v => ∃ k : Nat, k ≤ xs.length ∧ k ≤ ys.length ∧ v = .int .i64 k ∧ lexcmp xs ys = lexcmp (xs.drop k) (ys.drop k))
    (fun v => xs.length - (intOf v).toNat)
  case atStart => exact ⟨0, by omega, by omega, rfl, rfl⟩
  case round =>
    obtain ⟨k, hk, hk2, rfl, he⟩ := hrel
    have HE := Lib.hid he
    clear he
    have i0 : (0 : Int) ≤ (k : Int) := by omega
    by_cases hlt : k < xs.length
    · obtain ⟨b, off, rfl, hr⟩ := HX.out.2 (by omega)
      have x0 : w.cell? ⟨b, off + k, none⟩ = some (.int .i64 xs[k]) := by simpa [oneI] using range_at oneI_len hr (List.getElem?_eq_getElem hlt) 0 _ rfl
      clear hr
      by_cases hlt2 : k < ys.length
      · obtain ⟨b2, off2, rfl, hr2⟩ := HY.out.2 (by omega)
        have y0 : w.cell? ⟨b2, off2 + k, none⟩ = some (.int .i64 ys[k]) := by simpa [oneI] using range_at oneI_len hr2 (List.getElem?_eq_getElem hlt2) 0 _ rfl
        have L1 := Lib.hid (lexcmp_same hlt hlt2)
        have i1 : (k : Int) < (xs.length : Int) := by omega
        have i2 : ¬ ((ys.length : Int) ≤ (k : Int)) := by omega
        clear hr2
        obtain ⟨q, hq⟩ : ∃ q, q = cmpI xs[k] ys[k] := ⟨_, rfl⟩
        have HQ := Lib.hid hq
        clear hq
        by_cases hz : q = 0
        · have HZ := Lib.hid hz
          have hz2 : (q != 0) = false := by simp [hz]
          clear hz
          go_wp2_with (first | (go_at_call 147; go_must (refine (cmpC_any _ _ _).mono ?_); rintro e w_ ⟨rfl, rfl⟩; rw [← HQ.out]))
          exact ⟨⟨k + 1, by omega, by omega, by go_num, by rw [HE.out, L1.out, ← HQ.out, if_pos HZ.out]⟩, by simp [intOf]; omega⟩
        · have HZ := Lib.hid hz
          have hz2 : (q != 0) = true := by simp [hz]
          clear hz
          go_wp2_with (first | (go_at_call 147; go_must (refine (cmpC_any _ _ _).mono ?_); rintro e w_ ⟨rfl, rfl⟩; rw [← HQ.out]))
          go_ret
          exact ⟨ret_int (by rw [HE.out, L1.out, ← HQ.out, if_neg HZ.out]), rfl⟩
      · obtain rfl : k = ys.length := by omega
        have i1 : (ys.length : Int) < (xs.length : Int) := by omega
        have HL := Lib.hid (show lexcmp xs ys = 1 by rw [HE.out, List.drop_length, List.drop_eq_getElem_cons hlt]; rfl)
        go_wp2
        go_ret
        exact ⟨ret_int (by rw [HL.out]), rfl⟩
    · obtain rfl : k = xs.length := by omega
      by_cases hlt2 : xs.length < ys.length
      · have i1 : (xs.length : Int) < (ys.length : Int) := by omega
        have HL := Lib.hid (show lexcmp xs ys = -1 by rw [HE.out, List.drop_length, List.drop_eq_getElem_cons hlt2]; rfl)
        go_wp2
        go_ret
        exact ⟨ret_int (by rw [HL.out]), rfl⟩
      · have i1 : ¬ ((xs.length : Int) < (ys.length : Int)) := by omega
        have HL := Lib.hid (show lexcmp xs ys = 0 by rw [HE.out, List.drop_length, List.drop_of_length_le (by omega)]; rfl)
        go_wp2
        go_ret
        exact ⟨ret_int (by rw [HL.out]), rfl⟩
end Go.Proofs.Ytbjcajhbhicokaa
