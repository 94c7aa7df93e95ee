/- The best worth of the plans that begin with some days: the walk of the program. -/
import Derived.Test.YtkodcfnofjkohaaMostP
import Derived.Test.YtkodcfnofjkohaaGreedy
import Derived.Test.YtkodcfnofjkohaaCount
namespace Go.Proofs.Ytkodcfnofjkohaa
set_option linter.unusedSimpArgs false
set_option linter.unusedVariables false
open Go.RowKit
attribute [local go_sem] cell?_mk frozen?_mk

section
variable {P : Program} {ops : Array Oper} {rest : List Oper} {o : Oper} {a : Act} {w0 w : World} {Q : Exit → Act → World → Prop} {L : List Ent}
/-- []T{x}, as a row of one's own. -/
theorem Mem.ev_bs1r (M : Mem w0 w L) {T e : TypeId} {zv : Value} {bytes : Nat} (E : ElemOk P T e zv 1 bytes) (hgd : o.guard = none) (x : Operand) (ho : o.op = .buildSlice T 1 #[(0, x)])
    (u : Value) (hx : a.eval x = u) (hu : u.cells = #[u])
    (h : ∀ g w1, Mem w0 w1 (L ++ [.row (.slice (some ⟨g, 0, none⟩) 1 1) e 1 1 [u]]) → wpList P ops Q rest (a.put o.dst (.slice (some ⟨g, 0, none⟩) 1 1)) w1) : wpList P ops Q (o :: rest) a w := by
  obtain ⟨i, hi, h1, h2, h3⟩ := E.get
  refine wpList_buildSlice hgd T e 1 _ ho #[u] i zv E.sl hi h1 (by rw [h2]; omega) (by rw [h2]; omega) ?_ ?_
  · have hc : (a.eval x).cells.size = i.size := by rw [hx, hu, h2]; rfl
    have := Great.fill_whole (s := i.size) (by omega) [a.eval x] ((Array.range (1 * i.size)).map (zv.cells[· % zv.cells.size]!)) (by simpa using hc) (by simp)
    simpa [hx, hu] using this
  · refine h _ _ (M.push _ ((Below.refl _ _).alloc (Nat.le_refl _) _) ⟨rfl, .inr ⟨w.heap.size, 1, #[u], rfl, M.size, heap_alloc_new w _, Nat.le_refl _, by unfold maxLen; omega, rfl, rfl⟩⟩ fun k hk => ?_)
    simp only [Ent.place, Value.ownBlock, Option.some.injEq] at hk
    omega
end
theorem and6 {a b : Nat} (ha : a < 64) (hb : b < 64) : bits .and .i64 (a : Int) (b : Int) = ((a &&& b : Nat) : Int) := by
  have : ∀ a : Fin 64, ∀ b : Fin 64, bits .and .i64 ((a.val : Nat) : Int) ((b.val : Nat) : Int) = ((a.val &&& b.val : Nat) : Int) := by decide +kernel
  exact this ⟨a, ha⟩ ⟨b, hb⟩
theorem or6 {a b : Nat} (ha : a < 64) (hb : b < 64) : bits .or .i64 (a : Int) (b : Int) = ((a ||| b : Nat) : Int) := by
  have : ∀ a : Fin 64, ∀ b : Fin 64, bits .or .i64 ((a.val : Nat) : Int) ((b.val : Nat) : Int) = ((a.val ||| b.val : Nat) : Int) := by decide +kernel
  exact this ⟨a, ha⟩ ⟨b, hb⟩
theorem bit6 {a i : Nat} (ha : a < 64) (hi : i < 6) : bits .and .i64 ((a : Int) / 2 ^ i) 1 = if a.testBit i = true then 1 else 0 := by
  have : ∀ a : Fin 64, ∀ i : Fin 6, bits .and .i64 (((a.val : Nat) : Int) / 2 ^ i.val) 1 = if a.val.testBit i.val = true then 1 else 0 := by decide +kernel
  exact this ⟨a, ha⟩ ⟨i, hi⟩
theorem pop6 {m s : Nat} (hm : m ≤ 6) (hs : s < 2 ^ m) : popN s 64 = popM m s := by
  have h64 : 2 ^ m ≤ 64 := Nat.le_trans (Nat.pow_le_pow_right (by omega) hm) (by decide : 2 ^ 6 ≤ 64)
  have : ∀ m : Fin 7, ∀ s : Fin 64, s.val < 2 ^ m.val → popN s.val 64 = popM m.val s.val := by decide +kernel
  exact this ⟨m, by omega⟩ ⟨s, by omega⟩ hs
set_option maxRecDepth 100000 in
set_option maxHeartbeats 1000000 in
theorem OnesCount_any (x : Nat) (hx : x < 18446744073709551616) (w : World) :
    Calls Try.prog 75 #[.int .u64 x] w fun e w' => e = .returned (.int .i64 (popN x 64 : Nat)) ∧ w = w' := by
  go_enter Try.func75, Try.ntmps75
  go_wp2_with (first
    | (go_at_call 100; go_must (refine (ones_any x hx _).mono ?_); rintro e w_ ⟨rfl, rfl⟩)
    )
  go_ret
  exact ⟨rfl, rfl⟩
set_option maxRecDepth 100000 in
set_option maxHeartbeats 1000000 in
theorem cloneI_any (A : Option Addr) (n : Nat) (xs : List Int) (hl : xs.length ≤ 1048576) (hc : xs.length ≤ n) (hA : A = none → n = 0) (w : World) (hs : Sl w 1 A xs.length (flat oneI xs)) :
    Calls Try.prog 74 #[.slice A xs.length n] w (RetRow w 2 1 xs.length (flat oneI xs)) := by
  have M := Lib.hid (Mem.start w)
  have HS := Lib.hid hs
  clear hs
  cases A with
  | none =>
    obtain rfl := hA rfl
    obtain rfl : xs = [] := List.length_eq_zero_iff.1 (by omega)
    have he : ∀ w : World, (binOp .eql 30 (.slice none 0 0) (.slice none 0 0)).run Try.prog w = .ok (.bool true) w := fun _ => rfl
    go_enter Try.func74, Try.ntmps74
    go_wp2
    go_ret
    exact ⟨none, 0, rfl, by simp, M.out.nilrow _ _⟩
  | some a =>
    have he : ∀ w : World, (binOp .eql 30 (.slice (some a) xs.length n) (.slice none 0 0)).run Try.prog w = .ok (.bool false) w := fun _ => rfl
    go_enter Try.func74, Try.ntmps74
    go_wp2_with (first
      | ((with_reducible refine gate_dst (N := 5) rfl ?_); go_must (refine M.out.ev_bs0 elem_int64 rfl rfl ?_); intro g5 w5 m; simp only [List.nil_append] at m; have M := Lib.hid m; clear m)
      | ((with_reducible refine gate_dst (N := 7) rfl ?_); go_must (refine M.out.ev_appends 0 elem_int64 rfl _ _ rfl rfl rfl rfl (M.out.sl HS.out) (fun h => by cases h) hc (flat_one oneI_ones xs) (by omega) (by decide) ?_); intro v7 w7 m; simp only [List.set_cons_zero, List.nil_append, Nat.zero_add] at m; have M := Lib.hid m; clear m)
      )
    obtain ⟨B, c, rfl, hc1, _⟩ := M.out.row_slice 0 rfl
    go_ret
    exact ⟨B, c, rfl, hc1, M.out⟩
end Go.Proofs.Ytkodcfnofjkohaa
