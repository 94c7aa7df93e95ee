/- Texts of a proof, laid together: Cost. -/
import Derived.Test.YtjkclggdaafmaaaZD10
import Derived.Laws.StructEq
namespace Go.Proofs.Ytjkclggdaafmaaa
set_option linter.unusedSimpArgs false
set_option linter.unusedVariables false
open Go.RowKit
attribute [local go_sem] cell?_mk frozen?_mk
--ONES exact Net.one _ | exact Prices.one _

section
variable {P : Program} {ops : Array Oper} {rest : List Oper} {o : Oper} {a : Act} {w0 w : World} {Q : Exit → Act → World → Prop} {L : List Ent}
/-- []T{x, y, z} of elements of one cell. -/
theorem Mem.ev_bs3 (M : Mem w0 w L) {T e : TypeId} {zv : Value} {bytes : Nat} (E : ElemOk P T e zv 1 bytes) (hgd : o.guard = none) (x y z : Operand) (ho : o.op = .buildSlice T 3 #[(0, x), (1, y), (2, z)])
    (u v t : Value) (hx : a.eval x = u) (hy : a.eval y = v) (hz : a.eval z = t) (hu : u.cells = #[u]) (hv : v.cells = #[v]) (ht : t.cells = #[t])
    (h : ∀ g w1, Mem w0 w1 (L ++ [.blk g e #[u, v, t]]) → wpList P ops Q rest (a.put o.dst (.slice (some ⟨g, 0, none⟩) 3 3)) w1) : wpList P ops Q (o :: rest) a w := by
  obtain ⟨i, hi, h1, h2, h3⟩ := E.get
  refine wpList_buildSlice hgd T e 3 _ ho #[u, v, t] i zv E.sl hi h1 (by rw [h2]; decide) (by rw [h2]; decide) ?_ ?_
  · have := Great.fill_whole (s := i.size) (by omega) [u, v, t] ((Array.range (3 * i.size)).map (zv.cells[· % zv.cells.size]!)) (by simp [hu, hv, ht, h2]) (by simp)
    simpa [hx, hy, hz, hu, hv, ht] using this
  · exact h _ _ (M.new (Nat.le_refl _) (Blk.new w e #[u, v, t]) ((Below.refl _ _).alloc (Nat.le_refl _) _))
end
theorem Mem.argQ {w0 w : World} {L : List Ent} (M : Mem w0 w L) {b off : Nat} {cs : List Value} (h : w0.rangeAt b off cs) : w.rangeAt b off cs := fun j v hj => M.argcell (h j v hj)
theorem mulB {a b A B : Int} (h1 : 0 ≤ a) (h2 : a ≤ A) (h3 : 0 ≤ b) (h4 : b ≤ B) : 0 ≤ a * b ∧ a * b ≤ A * B :=
  ⟨Int.mul_nonneg h1 h3, Int.mul_le_mul h2 h4 h3 (Int.le_trans h1 h2)⟩
def Prices.free (p : Prices) : Bool := decide (p.base = 0) && (decide (p.cell = 0) && decide (p.edge = 0))
def Prices.good (p : Prices) : Bool := inB p.base 0 100 && (inB p.cell 0 100 && (inB p.edge 0 100 && !p.free))
theorem Prices.good_iff {p : Prices} (h : p.good = true) : (0 ≤ p.base ∧ p.base ≤ 100) ∧ (0 ≤ p.cell ∧ p.cell ≤ 100) ∧ (0 ≤ p.edge ∧ p.edge ≤ 100) := by
  simp only [Prices.good, Bool.and_eq_true, inB_iff] at h
  exact ⟨h.1, h.2.1, h.2.2.1⟩
theorem neqPr (p : Prices) (w : World) : (binOp .neq 37 (.agg p.vals.toArray) (.agg #[.int .i16 0, .int .i16 0, .int .i16 0])).run Try.prog w = .ok (.bool (!p.free)) w := by
  have u3 := Try.underlying24
  have a3 := Try.isAgg24
  have z3 := Try.sizeOf24
  have u4 := Try.underlying37
  unfold Prices.vals Prices.free
  obtain ⟨a, b, c⟩ := p
  go_simp
  by_cases h1 : a = 0 <;> by_cases h2 : b = 0 <;> by_cases h3 : c = 0 <;> simp [h1, h2, h3]
def Prices.nums (p : Prices) : List Int := [p.base, p.cell, p.edge]
def Prices.numOk (p : Prices) (k : Nat) : Bool := inB (gi p.nums k) 0 100
theorem Prices.good_of {p : Prices} (h : ∀ j, j < 3 → p.numOk j = true) : p.good = !p.free := by
  have h0 : inB p.base 0 100 = true := h 0 (by omega)
  have h1 : inB p.cell 0 100 = true := h 1 (by omega)
  have h2 : inB p.edge 0 100 = true := h 2 (by omega)
  rw [Prices.good, h0, h1, h2]
  rfl
theorem Prices.not_good {p : Prices} {k : Nat} (hk : k < 3) (h : p.numOk k = false) : p.good = false := by
  rw [Prices.good]
  match k, hk with
  | 0, _ => rw [show inB p.base 0 100 = false from h]; rfl
  | 1, _ => rw [show inB p.cell 0 100 = false from h]; simp
  | 2, _ => rw [show inB p.edge 0 100 = false from h]; simp
theorem elem_int16 : ElemOk Try.prog 140 24 (.int .i16 0) 1 2 := ⟨by kernel_rfl, by kernel_rfl, by kernel_rfl, by decide⟩
set_option maxRecDepth 100000 in
set_option maxHeartbeats 2000000 in
theorem ValidPrices_any (p : Prices) (hx : p.ok) (w : World) :
    Calls Try.prog 76 #[.agg p.vals.toArray] w fun e w' => e = .returned (.bool p.good) ∧ Mem w w' [] := by
  have M := Lib.hid (Mem.start w)
  have HP : ∀ k, k < 3 → -32768 ≤ gi p.nums k ∧ gi p.nums k ≤ 32767 := fun k hk => by
    match k, hk with
    | 0, _ => exact hx.base
    | 1, _ => exact hx.cell
    | 2, _ => exact hx.edge
  have HPP := Lib.hid HP
  clear HP hx
  go_enter Try.func76, Try.ntmps76
  go_wp2_with (first
    | ((with_reducible refine gate_dst (N := 1) rfl ?_); go_must (refine M.out.ev_new rfl (by first | (go_simp; done) | (go_simp; rfl)) ?_); intro g1 w1 m; simp only [List.cons_append, List.nil_append] at m; have M := Lib.hid m; clear m; have c0 := M.out.cell (j := 0) (v := .int .i16 p.base) 0 rfl rfl; have c1 := M.out.cell (j := 1) (v := .int .i16 p.cell) 0 rfl rfl; have c2 := M.out.cell (j := 2) (v := .int .i16 p.edge) 0 rfl rfl)
    | ((with_reducible refine gate_dst (N := 11) rfl ?_); go_must (refine M.out.ev_bs3 elem_int16 rfl _ _ _ rfl (.int .i16 p.base) (.int .i16 p.cell) (.int .i16 p.edge) rfl rfl rfl rfl rfl rfl ?_); intro g11 w11 m; simp only [List.cons_append, List.nil_append] at m; have M := Lib.hid m; clear m)
    )
  go_loopw [13] (fun v wr => ∃ k : Nat, k ≤ 3 ∧ v = .int .i64 k ∧ (∀ j, j < k → p.numOk j = true) ∧ Mem w wr [.blk g1 37 p.vals.toArray, .blk g11 24 (ints .i16 p.nums)])
    (fun v _ => 3 - (intOf v).toNat)
  case atStart => exact ⟨0, by omega, rfl, fun j hj => by omega, M.out⟩
  case round =>
    clear M
    obtain ⟨k, hk, rfl, he, m⟩ := hrel
    have M := Lib.hid m
    have HE := Lib.hid he
    clear m he
    by_cases hlt : k < 3
    · have x1 := M.out.cell (j := k) 1 rfl (ints_at (by show k < 3; exact hlt))
      have i0 : (0 : Int) ≤ (k : Int) := by omega
      have i1 : (k : Int) < 3 := by omega
      obtain ⟨b0, b1⟩ := HPP.out k hlt
      have e1 : IntKind.i64.wrap (gi p.nums k) = gi p.nums k := IntWalk.i64_in _ (by omega)
      cases hq : p.numOk k
      · have HQ := Lib.hid hq
        have hq2 : inB (gi p.nums k) 0 100 = false := hq
        have HQ2 := Lib.hid hq2
        clear hq hq2
        go_wp2_with (first
          | (go_at_call 42; go_must (refine (within_any _ _ _ _).mono ?_); rintro e w_ ⟨rfl, rfl⟩; rw [HQ2.out])
          )
        go_ret
        exact ⟨ret_bool (Prices.not_good hlt HQ.out).symm, M.out.take 0⟩
      · have HQ := Lib.hid hq
        have hq2 : inB (gi p.nums k) 0 100 = true := hq
        have HQ2 := Lib.hid hq2
        clear hq hq2
        go_wp2_with (first
          | (go_at_call 42; go_must (refine (within_any _ _ _ _).mono ?_); rintro e w_ ⟨rfl, rfl⟩; rw [HQ2.out])
          )
        exact ⟨⟨k + 1, by omega, by go_num, all_succ HE.out HQ.out, M.out⟩, by simp [intOf]; omega⟩
    · obtain rfl : k = 3 := by omega
      have heq := neqPr p
      go_wp2_with (first
        | ((with_reducible refine gate_dst (N := 22) rfl ?_); go_must (refine M.out.ev_ldw 0 _ _ rfl rfl rfl Try.underlying37 rfl sz37 rfl ?_))
        )
      go_ret
      exact ⟨ret_bool (Prices.good_of HE.out).symm, M.out.take 0⟩
set_option maxRecDepth 100000 in
set_option maxHeartbeats 2000000 in
theorem l04Prices_any (p : Prices) (hx : p.ok) (w : World) :
    Calls Try.prog 72 #[.agg p.vals.toArray] w fun e w' => e = .returned (.bool p.good) ∧ Mem w w' [] := by
  have M := Lib.hid (Mem.start w)
  obtain ⟨l0, u0⟩ := hx.base
  obtain ⟨l1, u1⟩ := hx.cell
  obtain ⟨l2, u2⟩ := hx.edge
  have e0 : IntKind.i64.wrap p.base = p.base := IntWalk.i64_in _ (by omega)
  have e1 : IntKind.i64.wrap p.cell = p.cell := IntWalk.i64_in _ (by omega)
  have e2 : IntKind.i64.wrap p.edge = p.edge := IntWalk.i64_in _ (by omega)
  have heq := neqPr p
  cases q0 : inB p.base 0 100 <;> cases q1 : inB p.cell 0 100 <;> cases q2 : inB p.edge 0 100 <;>
  · have H0 := Lib.hid q0
    have H1 := Lib.hid q1
    have H2 := Lib.hid q2
    clear q0 q1 q2
    go_enter Try.func72, Try.ntmps72
    go_wp2_with (first
      | ((with_reducible refine gate_dst (N := 1) rfl ?_); go_must (refine M.out.ev_new rfl (by first | (go_simp; done) | (go_simp; rfl)) ?_); intro g1 w1 m; simp only [List.cons_append, List.nil_append] at m; have M := Lib.hid m; clear m; have c0 := M.out.cell (j := 0) (v := .int .i16 p.base) 0 rfl rfl; have c1 := M.out.cell (j := 1) (v := .int .i16 p.cell) 0 rfl rfl; have c2 := M.out.cell (j := 2) (v := .int .i16 p.edge) 0 rfl rfl)
      | (go_at_call 32; go_must (refine (l00In_any _ _ _ _).mono ?_); rintro e w_ ⟨rfl, rfl⟩; first | rw [H0.out] | rw [H1.out] | rw [H2.out])
      | ((with_reducible refine gate_dst (N := 20) rfl ?_); refine gate_want rfl ?_; go_must (refine M.out.ev_ldw 0 _ _ rfl rfl rfl Try.underlying37 rfl sz37 rfl ?_))
      )
    go_ret
    exact ⟨ret_bool (by rw [Prices.good, H0.out, H1.out, H2.out]; simp), M.out.take 0⟩
def Net.rim (n : Net) : Int := 2 * (n.wide + n.high)
theorem Net.rim_b {n : Net} (h : n.plain = true) : 0 ≤ n.rim ∧ n.rim ≤ 40 := by
  obtain ⟨_, _, ⟨c0, c1⟩, ⟨d0, d1⟩⟩ := Net.plain_iff.1 h
  unfold Net.rim
  omega
set_option maxRecDepth 100000 in
set_option maxHeartbeats 1000000 in
theorem edgeN_any (n : Net) (hp : n.plain = true) (w : World) :
    Calls Try.prog 82 #[.agg n.vals.toArray] w fun e w' => e = .returned (.int .i64 n.rim) ∧ Mem w w' [] := by
  have M := Lib.hid (Mem.start w)
  obtain ⟨_, _, ⟨c0, c1⟩, ⟨d0, d1⟩⟩ := Net.plain_iff.1 hp
  have e0 : IntKind.i64.wrap n.wide = n.wide := IntWalk.i64_in _ (by omega)
  have e1 : IntKind.i64.wrap n.high = n.high := IntWalk.i64_in _ (by omega)
  have e2 : IntKind.i64.wrap (n.wide + n.high) = n.wide + n.high := IntWalk.i64_in _ (by omega)
  have e3 : IntKind.i64.wrap (2 * (n.wide + n.high)) = n.rim := IntWalk.i64_in _ (by omega)
  clear hp
  go_enter Try.func82, Try.ntmps82
  go_wp2_with (first
    | ((with_reducible refine gate_dst (N := 1) rfl ?_); go_must (refine M.out.ev_new rfl (by first | (go_simp; done) | (go_simp; rfl)) ?_); intro g1 w1 m; simp only [List.cons_append, List.nil_append] at m; have M := Lib.hid m; clear m; have q2 := M.out.cell (j := 2) (v := .int .i8 n.wide) 0 rfl rfl; have q3 := M.out.cell (j := 3) (v := .int .i8 n.high) 0 rfl rfl)
    )
  go_ret
  exact ⟨rfl, M.out.take 0⟩
set_option maxRecDepth 100000 in
set_option maxHeartbeats 1000000 in
theorem l04Edge_any (n : Net) (hp : n.plain = true) (w : World) :
    Calls Try.prog 75 #[.agg n.vals.toArray] w fun e w' => e = .returned (.int .i64 n.rim) ∧ Mem w w' [] := by
  have M := Lib.hid (Mem.start w)
  obtain ⟨_, _, ⟨c0, c1⟩, ⟨d0, d1⟩⟩ := Net.plain_iff.1 hp
  have e0 : IntKind.i64.wrap n.wide = n.wide := IntWalk.i64_in _ (by omega)
  have e1 : IntKind.i64.wrap n.high = n.high := IntWalk.i64_in _ (by omega)
  have e2 : IntKind.i64.wrap (n.wide + n.high) = n.wide + n.high := IntWalk.i64_in _ (by omega)
  have e3 : IntKind.i64.wrap (2 * (n.wide + n.high)) = n.rim := IntWalk.i64_in _ (by omega)
  clear hp
  go_enter Try.func75, Try.ntmps75
  go_wp2_with (first
    | ((with_reducible refine gate_dst (N := 1) rfl ?_); go_must (refine M.out.ev_new rfl (by first | (go_simp; done) | (go_simp; rfl)) ?_); intro g1 w1 m; simp only [List.cons_append, List.nil_append] at m; have M := Lib.hid m; clear m; have q2 := M.out.cell (j := 2) (v := .int .i8 n.wide) 0 rfl rfl; have q3 := M.out.cell (j := 3) (v := .int .i8 n.high) 0 rfl rfl)
    )
  go_ret
  exact ⟨rfl, M.out.take 0⟩
/-- What a net costs. -/
def netCost (p : Prices) (n : Net) : Int := p.base + p.cell * n.wide * n.high + p.edge * n.rim
/-- What all that is reckoned for a cost fits. -/
structure CostOk (p : Prices) (n : Net) : Prop where
  a : IntKind.i64.wrap p.base = p.base
  b : IntKind.i64.wrap p.cell = p.cell
  c : IntKind.i64.wrap p.edge = p.edge
  d : IntKind.i64.wrap n.wide = n.wide
  e : IntKind.i64.wrap n.high = n.high
  f : IntKind.i64.wrap (p.cell * n.wide) = p.cell * n.wide
  g : IntKind.i64.wrap (p.cell * n.wide * n.high) = p.cell * n.wide * n.high
  h : IntKind.i64.wrap (p.base + p.cell * n.wide * n.high) = p.base + p.cell * n.wide * n.high
  i : IntKind.i64.wrap (p.edge * n.rim) = p.edge * n.rim
  j : IntKind.i64.wrap (p.base + p.cell * n.wide * n.high + p.edge * n.rim) = netCost p n
  k : 0 ≤ netCost p n ∧ netCost p n ≤ 14100
theorem costOk {p : Prices} {n : Net} (hg : p.good = true) (hp : n.plain = true) : CostOk p n := by
  obtain ⟨⟨a0, a1⟩, ⟨b0, b1⟩, ⟨c0, c1⟩⟩ := Prices.good_iff hg
  obtain ⟨_, _, ⟨d0, d1⟩, ⟨e0, e1⟩⟩ := Net.plain_iff.1 hp
  obtain ⟨r0, r1⟩ := Net.rim_b hp
  obtain ⟨m0, m1⟩ := mulB b0 b1 (by omega : 0 ≤ n.wide) d1
  obtain ⟨k0, k1⟩ := mulB m0 m1 (by omega : 0 ≤ n.high) e1
  obtain ⟨l0, l1⟩ := mulB c0 c1 r0 r1
  have hc : netCost p n = p.base + p.cell * n.wide * n.high + p.edge * n.rim := rfl
  refine ⟨?_, ?_, ?_, ?_, ?_, ?_, ?_, ?_, ?_, ?_, ?_⟩
  · exact IntWalk.i64_in _ (by omega)
  · exact IntWalk.i64_in _ (by omega)
  · exact IntWalk.i64_in _ (by omega)
  · exact IntWalk.i64_in _ (by omega)
  · exact IntWalk.i64_in _ (by omega)
  · exact IntWalk.i64_in _ (by omega)
  · exact IntWalk.i64_in _ (by omega)
  · exact IntWalk.i64_in _ (by omega)
  · exact IntWalk.i64_in _ (by omega)
  · exact IntWalk.i64_in _ (by omega)
  · rw [hc]; omega
def costs (p : Prices) (xs : List Net) : Int := (xs.map (netCost p)).sum
theorem costs_snoc (p : Prices) (xs : List Net) (n : Net) : costs p (xs ++ [n]) = costs p xs + netCost p n := by
  simp [costs]
theorem costs_b {p : Prices} (hg : p.good = true) : ∀ xs : List Net, (∀ x ∈ xs, x.plain = true) → 0 ≤ costs p xs ∧ costs p xs ≤ 14100 * (xs.length : Int)
  | [], _ => by simp [costs]
  | x :: r, h => by
    have ih := costs_b hg r fun y hy => h y (by simp [hy])
    have hk := (costOk hg (h x (by simp))).k
    have : costs p (x :: r) = netCost p x + costs p r := by simp [costs]
    rw [this]
    simp only [List.length_cons, Int.natCast_add]
    omega
set_option maxRecDepth 100000 in
set_option maxHeartbeats 4000000 in
theorem l04Cost_any (p : Prices) (hg : p.good = true) (n : Net) (hp : n.plain = true) (w : World) :
    Calls Try.prog 37 #[.agg p.vals.toArray, .agg n.vals.toArray] w fun e w' => e = .returned (.int .i64 (netCost p n)) ∧ Mem w w' [] := by
  have M := Lib.hid (Mem.start w)
  have HP := Lib.hid hp
  obtain ⟨k0, k1, k2, k3, k4, k5, k6, k7, k8, k9, _⟩ := costOk hg hp
  clear hg hp
  go_enter Try.func37, Try.ntmps37
  go_wp2_with (first
    | ((with_reducible refine gate_dst (N := 2) rfl ?_); go_must (refine M.out.ev_new rfl (by first | (go_simp; done) | (go_simp; rfl)) ?_); intro g2 w2 m; simp only [List.cons_append, List.nil_append] at m; have M := Lib.hid m; clear m; try have q0_0 := M.out.cell (j := 0) 0 rfl (by first | assumption | rfl); try have q0_1 := M.out.cell (j := 1) 0 rfl (by first | assumption | rfl); try have q1_2 := M.out.cell (j := 2) 1 rfl (by first | assumption | rfl); try have q1_3 := M.out.cell (j := 3) 1 rfl (by first | assumption | rfl); try have q0_2 := M.out.cell (j := 2) 0 rfl (by first | assumption | rfl))
    | ((with_reducible refine gate_dst (N := 3) rfl ?_); go_must (refine M.out.ev_new rfl (by first | (go_simp; done) | (go_simp; rfl)) ?_); intro g3 w3 m; simp only [List.cons_append, List.nil_append] at m; have M := Lib.hid m; clear m; try have q0_0 := M.out.cell (j := 0) 0 rfl (by first | assumption | rfl); try have q0_1 := M.out.cell (j := 1) 0 rfl (by first | assumption | rfl); try have q1_2 := M.out.cell (j := 2) 1 rfl (by first | assumption | rfl); try have q1_3 := M.out.cell (j := 3) 1 rfl (by first | assumption | rfl); try have q0_2 := M.out.cell (j := 2) 0 rfl (by first | assumption | rfl))
    | ((with_reducible refine gate_dst (N := 6) rfl ?_); go_must (refine M.out.ev_ld 0 _ _ rfl rfl rfl Try.underlying24 rfl rfl (by first | assumption | rfl) ?_))
    | ((with_reducible refine gate_dst (N := 9) rfl ?_); go_must (refine M.out.ev_ld 0 _ _ rfl rfl rfl Try.underlying24 rfl rfl (by first | assumption | rfl) ?_))
    | ((with_reducible refine gate_dst (N := 12) rfl ?_); go_must (refine M.out.ev_ld 1 _ _ rfl rfl rfl Try.underlying22 rfl rfl (by first | assumption | rfl) ?_))
    | ((with_reducible refine gate_dst (N := 16) rfl ?_); go_must (refine M.out.ev_ld 1 _ _ rfl rfl rfl Try.underlying22 rfl rfl (by first | assumption | rfl) ?_))
    | ((with_reducible refine gate_dst (N := 21) rfl ?_); go_must (refine M.out.ev_ld 0 _ _ rfl rfl rfl Try.underlying24 rfl rfl (by first | assumption | rfl) ?_))
    | ((with_reducible refine gate_dst (N := 23) rfl ?_); go_must (refine M.out.ev_ldw 1 _ _ rfl rfl rfl Try.underlying65 rfl (by first | exact sz65 | (rw [S1.out]; exact sz65) | (rw [S2.out]; exact sz65) | (rw [S3.out]; exact sz65)) rfl ?_))
    )
  refine region_anyH (fun w' => Mem w w' [.blk g2 37 p.vals.toArray, .blk g3 65 n.vals.toArray]) (by kernel_rfl) ?_
  have m := M.out.drew
  clear M
  have M := Lib.hid m
  clear m
  apply takeH (i := 0) 5 rfl (by kernel_rfl) (by kernel_rfl) (by kernel_rfl) (fun _ _ _ h => h) rfl (by first | exact M.out | exact M.out.take 2)
  case' hy =>
    refine Or.inl ⟨by first | rfl | (go_simp; done), ?_⟩
    intro w hS
    clear hS
    go_simp
    try with_reducible rfl
  try simp only [Act.put, List.getElem_toArray, List.getElem_cons_succ, List.getElem_cons_zero, List.setIfInBounds_toArray, List.set_cons_succ, List.set_cons_zero]
  apply takeH (i := 1) 6 rfl (by kernel_rfl) (by kernel_rfl) (by kernel_rfl) (fun _ _ _ h => h) rfl (by first | exact M.out | exact M.out.take 2)
  case' hy => exact ylds _ _ rfl rfl Try.underlying24 rfl rfl (fun w' hS => hS.cell (j := 0) (v := .int .i16 p.base) 0 rfl rfl)
  try simp only [Act.put, List.getElem_toArray, List.getElem_cons_succ, List.getElem_cons_zero, List.setIfInBounds_toArray, List.set_cons_succ, List.set_cons_zero]
  apply takeH (i := 2) 7 rfl (by kernel_rfl) (by kernel_rfl) (by kernel_rfl) (fun _ _ _ h => h) rfl (by first | exact M.out | exact M.out.take 2)
  case' hy =>
    refine Or.inl ⟨by first | rfl | (go_simp; done), ?_⟩
    intro w hS
    clear hS
    go_simp
    try with_reducible rfl
  try simp only [Act.put, List.getElem_toArray, List.getElem_cons_succ, List.getElem_cons_zero, List.setIfInBounds_toArray, List.set_cons_succ, List.set_cons_zero]
  apply takeH (i := 3) 8 rfl (by kernel_rfl) (by kernel_rfl) (by kernel_rfl) (fun _ _ _ h => h) rfl (by first | exact M.out | exact M.out.take 2)
  case' hy =>
    refine Or.inl ⟨by first | rfl | (go_simp; done), ?_⟩
    intro w hS
    clear hS
    go_simp
    try with_reducible rfl
  try simp only [Act.put, List.getElem_toArray, List.getElem_cons_succ, List.getElem_cons_zero, List.setIfInBounds_toArray, List.set_cons_succ, List.set_cons_zero]
  apply takeH (i := 4) 9 rfl (by kernel_rfl) (by kernel_rfl) (by kernel_rfl) (fun _ _ _ h => h) rfl (by first | exact M.out | exact M.out.take 2)
  case' hy => exact ylds _ _ rfl rfl Try.underlying24 rfl rfl (fun w' hS => hS.cell (j := 1) (v := .int .i16 p.cell) 0 rfl rfl)
  try simp only [Act.put, List.getElem_toArray, List.getElem_cons_succ, List.getElem_cons_zero, List.setIfInBounds_toArray, List.set_cons_succ, List.set_cons_zero]
  apply takeH (i := 5) 10 rfl (by kernel_rfl) (by kernel_rfl) (by kernel_rfl) (fun _ _ _ h => h) rfl (by first | exact M.out | exact M.out.take 2)
  case' hy =>
    refine Or.inl ⟨by first | rfl | (go_simp; done), ?_⟩
    intro w hS
    clear hS
    go_simp
    try with_reducible rfl
  try simp only [Act.put, List.getElem_toArray, List.getElem_cons_succ, List.getElem_cons_zero, List.setIfInBounds_toArray, List.set_cons_succ, List.set_cons_zero]
  apply takeH (i := 6) 11 rfl (by kernel_rfl) (by kernel_rfl) (by kernel_rfl) (fun _ _ _ h => h) rfl (by first | exact M.out | exact M.out.take 2)
  case' hy =>
    refine Or.inl ⟨by first | rfl | (go_simp; done), ?_⟩
    intro w hS
    clear hS
    go_simp
    try with_reducible rfl
  try simp only [Act.put, List.getElem_toArray, List.getElem_cons_succ, List.getElem_cons_zero, List.setIfInBounds_toArray, List.set_cons_succ, List.set_cons_zero]
  apply takeH (i := 7) 12 rfl (by kernel_rfl) (by kernel_rfl) (by kernel_rfl) (fun _ _ _ h => h) rfl (by first | exact M.out | exact M.out.take 2)
  case' hy => exact ylds _ _ rfl rfl Try.underlying22 rfl rfl (fun w' hS => hS.cell (j := 2) (v := .int .i8 n.wide) 1 rfl rfl)
  try simp only [Act.put, List.getElem_toArray, List.getElem_cons_succ, List.getElem_cons_zero, List.setIfInBounds_toArray, List.set_cons_succ, List.set_cons_zero]
  apply takeH (i := 8) 13 rfl (by kernel_rfl) (by kernel_rfl) (by kernel_rfl) (fun _ _ _ h => h) rfl (by first | exact M.out | exact M.out.take 2)
  case' hy =>
    refine Or.inl ⟨by first | rfl | (go_simp; done), ?_⟩
    intro w hS
    clear hS
    go_simp
    try with_reducible rfl
  try simp only [Act.put, List.getElem_toArray, List.getElem_cons_succ, List.getElem_cons_zero, List.setIfInBounds_toArray, List.set_cons_succ, List.set_cons_zero]
  apply takeH (i := 9) 14 rfl (by kernel_rfl) (by kernel_rfl) (by kernel_rfl) (fun _ _ _ h => h) rfl (by first | exact M.out | exact M.out.take 2)
  case' hy =>
    refine Or.inl ⟨by first | rfl | (go_simp; done), ?_⟩
    intro w hS
    clear hS
    go_simp
    try with_reducible rfl
  try simp only [Act.put, List.getElem_toArray, List.getElem_cons_succ, List.getElem_cons_zero, List.setIfInBounds_toArray, List.set_cons_succ, List.set_cons_zero]
  apply takeH (i := 10) 15 rfl (by kernel_rfl) (by kernel_rfl) (by kernel_rfl) (fun _ _ _ h => h) rfl (by first | exact M.out | exact M.out.take 2)
  case' hy =>
    refine Or.inl ⟨by first | rfl | (go_simp; done), ?_⟩
    intro w hS
    clear hS
    go_simp
    try with_reducible rfl
  try simp only [Act.put, List.getElem_toArray, List.getElem_cons_succ, List.getElem_cons_zero, List.setIfInBounds_toArray, List.set_cons_succ, List.set_cons_zero]
  apply takeH (i := 11) 16 rfl (by kernel_rfl) (by kernel_rfl) (by kernel_rfl) (fun _ _ _ h => h) rfl (by first | exact M.out | exact M.out.take 2)
  case' hy => exact ylds _ _ rfl rfl Try.underlying22 rfl rfl (fun w' hS => hS.cell (j := 3) (v := .int .i8 n.high) 1 rfl rfl)
  try simp only [Act.put, List.getElem_toArray, List.getElem_cons_succ, List.getElem_cons_zero, List.setIfInBounds_toArray, List.set_cons_succ, List.set_cons_zero]
  apply takeH (i := 12) 17 rfl (by kernel_rfl) (by kernel_rfl) (by kernel_rfl) (fun _ _ _ h => h) rfl (by first | exact M.out | exact M.out.take 2)
  case' hy =>
    refine Or.inl ⟨by first | rfl | (go_simp; done), ?_⟩
    intro w hS
    clear hS
    go_simp
    try with_reducible rfl
  try simp only [Act.put, List.getElem_toArray, List.getElem_cons_succ, List.getElem_cons_zero, List.setIfInBounds_toArray, List.set_cons_succ, List.set_cons_zero]
  apply takeH (i := 13) 18 rfl (by kernel_rfl) (by kernel_rfl) (by kernel_rfl) (fun _ _ _ h => h) rfl (by first | exact M.out | exact M.out.take 2)
  case' hy =>
    refine Or.inl ⟨by first | rfl | (go_simp; done), ?_⟩
    intro w hS
    clear hS
    go_simp
    try with_reducible rfl
  try simp only [Act.put, List.getElem_toArray, List.getElem_cons_succ, List.getElem_cons_zero, List.setIfInBounds_toArray, List.set_cons_succ, List.set_cons_zero]
  apply takeH (i := 14) 19 rfl (by kernel_rfl) (by kernel_rfl) (by kernel_rfl) (fun _ _ _ h => h) rfl (by first | exact M.out | exact M.out.take 2)
  case' hy =>
    refine Or.inl ⟨by first | rfl | (go_simp; done), ?_⟩
    intro w hS
    clear hS
    go_simp
    try with_reducible rfl
  try simp only [Act.put, List.getElem_toArray, List.getElem_cons_succ, List.getElem_cons_zero, List.setIfInBounds_toArray, List.set_cons_succ, List.set_cons_zero]
  apply takeH (i := 15) 20 rfl (by kernel_rfl) (by kernel_rfl) (by kernel_rfl) (fun _ _ _ h => h) rfl (by first | exact M.out | exact M.out.take 2)
  case' hy =>
    refine Or.inl ⟨by first | rfl | (go_simp; done), ?_⟩
    intro w hS
    clear hS
    go_simp
    try with_reducible rfl
  try simp only [Act.put, List.getElem_toArray, List.getElem_cons_succ, List.getElem_cons_zero, List.setIfInBounds_toArray, List.set_cons_succ, List.set_cons_zero]
  apply takeH (i := 16) 21 rfl (by kernel_rfl) (by kernel_rfl) (by kernel_rfl) (fun _ _ _ h => h) rfl (by first | exact M.out | exact M.out.take 2)
  case' hy => exact ylds _ _ rfl rfl Try.underlying24 rfl rfl (fun w' hS => hS.cell (j := 2) (v := .int .i16 p.edge) 0 rfl rfl)
  try simp only [Act.put, List.getElem_toArray, List.getElem_cons_succ, List.getElem_cons_zero, List.setIfInBounds_toArray, List.set_cons_succ, List.set_cons_zero]
  apply takeH (i := 17) 22 rfl (by kernel_rfl) (by kernel_rfl) (by kernel_rfl) (fun _ _ _ h => h) rfl (by first | exact M.out | exact M.out.take 2)
  case' hy =>
    refine Or.inl ⟨by first | rfl | (go_simp; done), ?_⟩
    intro w hS
    clear hS
    go_simp
    try with_reducible rfl
  try simp only [Act.put, List.getElem_toArray, List.getElem_cons_succ, List.getElem_cons_zero, List.setIfInBounds_toArray, List.set_cons_succ, List.set_cons_zero]
  apply takeH (i := 18) 23 rfl (by kernel_rfl) (by kernel_rfl) (by kernel_rfl) (fun _ _ _ h => h) rfl (by first | exact M.out | exact M.out.take 2)
  case' hy => exact yldw _ _ rfl rfl Try.underlying65 rfl (by first | exact sz65 | (rw [S1.out]; exact sz65) | (rw [S2.out]; exact sz65) | (rw [S3.out]; exact sz65)) rfl (fun w' hS => hS.blk 1 rfl)
  try simp only [Act.put, List.getElem_toArray, List.getElem_cons_succ, List.getElem_cons_zero, List.setIfInBounds_toArray, List.set_cons_succ, List.set_cons_zero]
  refine any1H 19 (by kernel_rfl) rfl (fun K hK => ?_)
  go_wp2_with (first | ((with_reducible refine gate_dst (N := 6) rfl ?_); go_must (refine M.out.ev_ld 0 _ _ rfl rfl rfl Try.underlying24 rfl rfl (by first | assumption | rfl) ?_)) | ((with_reducible refine gate_dst (N := 9) rfl ?_); go_must (refine M.out.ev_ld 0 _ _ rfl rfl rfl Try.underlying24 rfl rfl (by first | assumption | rfl) ?_)) | ((with_reducible refine gate_dst (N := 12) rfl ?_); go_must (refine M.out.ev_ld 1 _ _ rfl rfl rfl Try.underlying22 rfl rfl (by first | assumption | rfl) ?_)) | ((with_reducible refine gate_dst (N := 16) rfl ?_); go_must (refine M.out.ev_ld 1 _ _ rfl rfl rfl Try.underlying22 rfl rfl (by first | assumption | rfl) ?_)) | ((with_reducible refine gate_dst (N := 21) rfl ?_); go_must (refine M.out.ev_ld 0 _ _ rfl rfl rfl Try.underlying24 rfl rfl (by first | assumption | rfl) ?_)) | ((with_reducible refine gate_dst (N := 23) rfl ?_); go_must (refine M.out.ev_ldw 1 _ _ rfl rfl rfl Try.underlying65 rfl (by first | exact sz65 | (rw [S1.out]; exact sz65) | (rw [S2.out]; exact sz65) | (rw [S3.out]; exact sz65)) rfl ?_)) | (go_at_call 75; go_must (refine (l04Edge_any n HP.out _).mono ?_); rintro e w_ ⟨rfl, N_⟩; have m := M.out.join N_; clear N_; simp only [List.cons_append, List.nil_append, List.append_nil] at m; have M := Lib.hid m; clear m))
  refine onward_normal (hK _ _ ⟨(by first | exact M.out | exact M.out.take 2), ?_⟩)
  clear hK K
  try simp only [Act.put, List.getElem_toArray, List.getElem_cons_succ, List.getElem_cons_zero, List.setIfInBounds_toArray, List.set_cons_succ, List.set_cons_zero]
  apply takeH (i := 20) 25 rfl (by kernel_rfl) (by kernel_rfl) (by kernel_rfl) (fun _ _ _ h => h) rfl (by first | exact M.out | exact M.out.take 2)
  case' hy =>
    refine Or.inl ⟨by first | rfl | (go_simp; done), ?_⟩
    intro w hS
    clear hS
    go_simp
    try with_reducible rfl
  try simp only [Act.put, List.getElem_toArray, List.getElem_cons_succ, List.getElem_cons_zero, List.setIfInBounds_toArray, List.set_cons_succ, List.set_cons_zero]
  apply takeH (i := 21) 26 rfl (by kernel_rfl) (by kernel_rfl) (by kernel_rfl) (fun _ _ _ h => h) rfl (by first | exact M.out | exact M.out.take 2)
  case' hy =>
    refine Or.inl ⟨by first | rfl | (go_simp; done), ?_⟩
    intro w hS
    clear hS
    go_simp
    try with_reducible rfl
  try simp only [Act.put, List.getElem_toArray, List.getElem_cons_succ, List.getElem_cons_zero, List.setIfInBounds_toArray, List.set_cons_succ, List.set_cons_zero]
  apply takeH (i := 22) 4 rfl (by kernel_rfl) (by kernel_rfl) (by kernel_rfl) (fun _ _ _ h => h) rfl (by first | exact M.out | exact M.out.take 2)
  case' hy =>
    refine Or.inl ⟨by first | rfl | (go_simp; done), ?_⟩
    intro w hS
    clear hS
    go_simp
    try with_reducible rfl
  try simp only [Act.put, List.getElem_toArray, List.getElem_cons_succ, List.getElem_cons_zero, List.setIfInBounds_toArray, List.set_cons_succ, List.set_cons_zero]
  refine wpAnyH_done (by kernel_rfl) ?_ _
  all_goals
    go_wp2
    go_ret
    exact ⟨rfl, M.out.take 0⟩
set_option maxRecDepth 100000 in
set_option maxHeartbeats 4000000 in
theorem costP_any (p : Prices) (hg : p.good = true) (A : Option Addr) (n : Nat) (xs : List Net) (hx : ∀ x ∈ xs, x.plain = true) (hl : xs.length ≤ 1048576) (w : World) (hs : Sl w 4 A xs.length (flat Net.vals xs)) :
    Calls Try.prog 47 #[.agg p.vals.toArray, .slice A xs.length n] w fun e w' => e = .returned (.int .i64 (costs p xs)) ∧ Mem w w' [] := by
  have M := Lib.hid (Mem.start w)
  have HX := Lib.hid hx
  have HS := Lib.hid hs
  have HG := Lib.hid hg
  clear hx hs hg
  go_enter Try.func47, Try.ntmps47
  go_wp2_with (first
    | ((with_reducible refine gate_dst (N := 2) rfl ?_); go_must (refine M.out.ev_new rfl (by first | (go_simp; done) | (go_simp; rfl)) ?_); intro g2 w2 m; simp only [List.cons_append, List.nil_append] at m; have M := Lib.hid m; clear m; try have q0_0 := M.out.cell (j := 0) 0 rfl (by first | assumption | rfl); try have q0_1 := M.out.cell (j := 1) 0 rfl (by first | assumption | rfl); try have q1_2 := M.out.cell (j := 2) 1 rfl (by first | assumption | rfl); try have q1_3 := M.out.cell (j := 3) 1 rfl (by first | assumption | rfl); try have q0_2 := M.out.cell (j := 2) 0 rfl (by first | assumption | rfl))
    | ((with_reducible refine gate_dst (N := 7) rfl ?_); go_must (refine M.out.ev_new rfl (by first | (go_simp; done) | (go_simp; rfl)) ?_); intro g7 w7 m; simp only [List.cons_append, List.nil_append] at m; have M := Lib.hid m; clear m; try have q0_0 := M.out.cell (j := 0) 0 rfl (by first | assumption | rfl); try have q0_1 := M.out.cell (j := 1) 0 rfl (by first | assumption | rfl); try have q1_2 := M.out.cell (j := 2) 1 rfl (by first | assumption | rfl); try have q1_3 := M.out.cell (j := 3) 1 rfl (by first | assumption | rfl); try have q0_2 := M.out.cell (j := 2) 0 rfl (by first | assumption | rfl))
    | ((with_reducible refine gate_store (x := .tmp 7) rfl ?_); go_must (refine M.out.ev_stw 1 _ _ _ rfl rfl rfl rfl _ rfl (by first | rfl | (simp only [S1.out]; rfl) | (simp only [S1.out, S2.out]; rfl) | (simp only [S3.out]; rfl) | (simp only [S1.out, S2.out, S3.out]; rfl)) (by first | exact sz65 | (rw [S1.out]; exact sz65) | (rw [S2.out]; exact sz65) | (rw [S3.out]; exact sz65)) (by first | exact ints_one _ _ | exact Fld.one _ | exact O1.out | exact Net.one _ | exact Prices.one _ | rfl | (simp [Value.oneCell']; done)) rfl ?_); intro wn m; simp only [List.set_cons_succ, List.set_cons_zero, List.setIfInBounds_toArray] at m; have M := Lib.hid m; clear m; try have q0_0 := M.out.cell (j := 0) 0 rfl (by first | assumption | rfl); try have q0_1 := M.out.cell (j := 1) 0 rfl (by first | assumption | rfl); try have q1_2 := M.out.cell (j := 2) 1 rfl (by first | assumption | rfl); try have q1_3 := M.out.cell (j := 3) 1 rfl (by first | assumption | rfl); try have q0_2 := M.out.cell (j := 2) 0 rfl (by first | assumption | rfl))
    | ((with_reducible refine gate_dst (N := 16) rfl ?_); go_must (refine M.out.ev_ld 0 _ _ rfl rfl rfl Try.underlying24 rfl rfl (by first | assumption | rfl) ?_))
    | ((with_reducible refine gate_dst (N := 19) rfl ?_); go_must (refine M.out.ev_ld 0 _ _ rfl rfl rfl Try.underlying24 rfl rfl (by first | assumption | rfl) ?_))
    | ((with_reducible refine gate_dst (N := 22) rfl ?_); go_must (refine M.out.ev_ld 1 _ _ rfl rfl rfl Try.underlying22 rfl rfl (by first | assumption | rfl) ?_))
    | ((with_reducible refine gate_dst (N := 26) rfl ?_); go_must (refine M.out.ev_ld 1 _ _ rfl rfl rfl Try.underlying22 rfl rfl (by first | assumption | rfl) ?_))
    | ((with_reducible refine gate_dst (N := 31) rfl ?_); go_must (refine M.out.ev_ld 0 _ _ rfl rfl rfl Try.underlying24 rfl rfl (by first | assumption | rfl) ?_))
    | ((with_reducible refine gate_dst (N := 33) rfl ?_); go_must (refine M.out.ev_ldw 1 _ _ rfl rfl rfl Try.underlying65 rfl (by first | exact sz65 | (rw [S1.out]; exact sz65) | (rw [S2.out]; exact sz65) | (rw [S3.out]; exact sz65)) rfl ?_))
    )
  go_loopw [5, 10] (fun u v wr => ∃ k : Nat, k ≤ xs.length ∧ v = .int .i64 k ∧ u = .int .i64 (costs p (xs.take k)) ∧ Mem w wr [.blk g2 37 p.vals.toArray])
    (fun _ v _ => xs.length - (intOf v).toNat)
  case atStart => exact ⟨0, by omega, rfl, rfl, M.out⟩
  case round =>
    clear M
    obtain ⟨k, hk, rfl, rfl, mm⟩ := hrel
    have M := Lib.hid mm
    clear mm
    by_cases hlt : k < xs.length
    · obtain ⟨b, off, rfl, hr⟩ := (M.out.sl HS.out).2 (by omega)
      have R := Lib.hid (range_at Net.vl hr (List.getElem?_eq_getElem hlt))
      have HP := Lib.hid (HX.out _ (List.getElem_mem hlt))
      have CB := costs_b HG.out (xs.take k) fun x hx => HX.out x (List.mem_of_mem_take hx)
      have hlk : (xs.take k).length = k := List.length_take_of_le hk
      have HTK := costs_snoc p (xs.take k) xs[k]
      rw [← List.take_succ_eq_append_getElem hlt] at HTK
      obtain ⟨k0, k1, k2, k3, k4, k5, k6, k7, k8, k9, k10⟩ := costOk HG.out HP.out
      obtain ⟨c, hc⟩ : ∃ c, c = costs p (xs.take k) := ⟨_, rfl⟩
      rw [← hc] at CB HTK ⊢
      rw [hlk] at CB
      have e1 : IntKind.i64.wrap (c + netCost p xs[k]) = costs p (xs.take (k + 1)) := by
        rw [HTK]; exact IntWalk.i64_in _ (by omega)
      have i0 : (0 : Int) ≤ (k : Int) := by omega
      have i1 : (k : Int) < (xs.length : Int) := by omega
      clear hr hc CB hlk HTK k10
      go_wp2_with (first
        | ((with_reducible refine gate_dst (N := 2) rfl ?_); go_must (refine M.out.ev_new rfl (by first | (go_simp; done) | (go_simp; rfl)) ?_); intro g2 w2 m; simp only [List.cons_append, List.nil_append] at m; have M := Lib.hid m; clear m; try have q0_0 := M.out.cell (j := 0) 0 rfl (by first | assumption | rfl); try have q0_1 := M.out.cell (j := 1) 0 rfl (by first | assumption | rfl); try have q1_2 := M.out.cell (j := 2) 1 rfl (by first | assumption | rfl); try have q1_3 := M.out.cell (j := 3) 1 rfl (by first | assumption | rfl); try have q0_2 := M.out.cell (j := 2) 0 rfl (by first | assumption | rfl))
        | ((with_reducible refine gate_dst (N := 7) rfl ?_); go_must (refine M.out.ev_new rfl (by first | (go_simp; done) | (go_simp; rfl)) ?_); intro g7 w7 m; simp only [List.cons_append, List.nil_append] at m; have M := Lib.hid m; clear m; try have q0_0 := M.out.cell (j := 0) 0 rfl (by first | assumption | rfl); try have q0_1 := M.out.cell (j := 1) 0 rfl (by first | assumption | rfl); try have q1_2 := M.out.cell (j := 2) 1 rfl (by first | assumption | rfl); try have q1_3 := M.out.cell (j := 3) 1 rfl (by first | assumption | rfl); try have q0_2 := M.out.cell (j := 2) 0 rfl (by first | assumption | rfl))
        | ((with_reducible refine gate_store (x := .tmp 7) rfl ?_); go_must (refine M.out.ev_stw 1 _ _ _ rfl rfl rfl rfl _ rfl (by first | rfl | (simp only [S1.out]; rfl) | (simp only [S1.out, S2.out]; rfl) | (simp only [S3.out]; rfl) | (simp only [S1.out, S2.out, S3.out]; rfl)) (by first | exact sz65 | (rw [S1.out]; exact sz65) | (rw [S2.out]; exact sz65) | (rw [S3.out]; exact sz65)) (by first | exact ints_one _ _ | exact Fld.one _ | exact O1.out | exact Net.one _ | exact Prices.one _ | rfl | (simp [Value.oneCell']; done)) rfl ?_); intro wn m; simp only [List.set_cons_succ, List.set_cons_zero, List.setIfInBounds_toArray] at m; have M := Lib.hid m; clear m; try have q0_0 := M.out.cell (j := 0) 0 rfl (by first | assumption | rfl); try have q0_1 := M.out.cell (j := 1) 0 rfl (by first | assumption | rfl); try have q1_2 := M.out.cell (j := 2) 1 rfl (by first | assumption | rfl); try have q1_3 := M.out.cell (j := 3) 1 rfl (by first | assumption | rfl); try have q0_2 := M.out.cell (j := 2) 0 rfl (by first | assumption | rfl))
        | ((with_reducible refine gate_dst (N := 16) rfl ?_); go_must (refine M.out.ev_ld 0 _ _ rfl rfl rfl Try.underlying24 rfl rfl (by first | assumption | rfl) ?_))
        | ((with_reducible refine gate_dst (N := 19) rfl ?_); go_must (refine M.out.ev_ld 0 _ _ rfl rfl rfl Try.underlying24 rfl rfl (by first | assumption | rfl) ?_))
        | ((with_reducible refine gate_dst (N := 22) rfl ?_); go_must (refine M.out.ev_ld 1 _ _ rfl rfl rfl Try.underlying22 rfl rfl (by first | assumption | rfl) ?_))
        | ((with_reducible refine gate_dst (N := 26) rfl ?_); go_must (refine M.out.ev_ld 1 _ _ rfl rfl rfl Try.underlying22 rfl rfl (by first | assumption | rfl) ?_))
        | ((with_reducible refine gate_dst (N := 31) rfl ?_); go_must (refine M.out.ev_ld 0 _ _ rfl rfl rfl Try.underlying24 rfl rfl (by first | assumption | rfl) ?_))
        | ((with_reducible refine gate_dst (N := 33) rfl ?_); go_must (refine M.out.ev_ldw 1 _ _ rfl rfl rfl Try.underlying65 rfl (by first | exact sz65 | (rw [S1.out]; exact sz65) | (rw [S2.out]; exact sz65) | (rw [S3.out]; exact sz65)) rfl ?_))
        | ((with_reducible refine gate_dst (N := 13) rfl ?_); go_must (refine ev_ldr _ _ rfl rfl (R.out) Try.underlying65 rfl (by first | exact sz65 | (rw [S1.out]; exact sz65)) rfl ?_))
        )
      refine region_anyH (fun w' => Mem w w' [.blk g2 37 p.vals.toArray, .blk g7 65 xs[k].vals.toArray]) (by kernel_rfl) ?_
      have m := M.out.drew
      clear M
      have M := Lib.hid m
      clear m
      apply takeH (i := 0) 14 rfl (by kernel_rfl) (by kernel_rfl) (by kernel_rfl) (fun _ _ _ h => h) rfl (by first | exact M.out | exact M.out.take 2)
      case' hy =>
        refine Or.inl ⟨by first | rfl | (go_simp; done), ?_⟩
        intro w hS
        clear hS
        go_simp
        try with_reducible rfl
      try simp only [Act.put, List.getElem_toArray, List.getElem_cons_succ, List.getElem_cons_zero, List.setIfInBounds_toArray, List.set_cons_succ, List.set_cons_zero]
      apply takeH (i := 1) 15 rfl (by kernel_rfl) (by kernel_rfl) (by kernel_rfl) (fun _ _ _ h => h) rfl (by first | exact M.out | exact M.out.take 2)
      case' hy =>
        refine Or.inl ⟨by first | rfl | (go_simp; done), ?_⟩
        intro w hS
        clear hS
        go_simp
        try with_reducible rfl
      try simp only [Act.put, List.getElem_toArray, List.getElem_cons_succ, List.getElem_cons_zero, List.setIfInBounds_toArray, List.set_cons_succ, List.set_cons_zero]
      apply takeH (i := 2) 16 rfl (by kernel_rfl) (by kernel_rfl) (by kernel_rfl) (fun _ _ _ h => h) rfl (by first | exact M.out | exact M.out.take 2)
      case' hy => exact ylds _ _ rfl rfl Try.underlying24 rfl rfl (fun w' hS => hS.cell (j := 0) (v := .int .i16 p.base) 0 rfl rfl)
      try simp only [Act.put, List.getElem_toArray, List.getElem_cons_succ, List.getElem_cons_zero, List.setIfInBounds_toArray, List.set_cons_succ, List.set_cons_zero]
      apply takeH (i := 3) 17 rfl (by kernel_rfl) (by kernel_rfl) (by kernel_rfl) (fun _ _ _ h => h) rfl (by first | exact M.out | exact M.out.take 2)
      case' hy =>
        refine Or.inl ⟨by first | rfl | (go_simp; done), ?_⟩
        intro w hS
        clear hS
        go_simp
        try with_reducible rfl
      try simp only [Act.put, List.getElem_toArray, List.getElem_cons_succ, List.getElem_cons_zero, List.setIfInBounds_toArray, List.set_cons_succ, List.set_cons_zero]
      apply takeH (i := 4) 18 rfl (by kernel_rfl) (by kernel_rfl) (by kernel_rfl) (fun _ _ _ h => h) rfl (by first | exact M.out | exact M.out.take 2)
      case' hy =>
        refine Or.inl ⟨by first | rfl | (go_simp; done), ?_⟩
        intro w hS
        clear hS
        go_simp
        try with_reducible rfl
      try simp only [Act.put, List.getElem_toArray, List.getElem_cons_succ, List.getElem_cons_zero, List.setIfInBounds_toArray, List.set_cons_succ, List.set_cons_zero]
      apply takeH (i := 5) 19 rfl (by kernel_rfl) (by kernel_rfl) (by kernel_rfl) (fun _ _ _ h => h) rfl (by first | exact M.out | exact M.out.take 2)
      case' hy => exact ylds _ _ rfl rfl Try.underlying24 rfl rfl (fun w' hS => hS.cell (j := 1) (v := .int .i16 p.cell) 0 rfl rfl)
      try simp only [Act.put, List.getElem_toArray, List.getElem_cons_succ, List.getElem_cons_zero, List.setIfInBounds_toArray, List.set_cons_succ, List.set_cons_zero]
      apply takeH (i := 6) 20 rfl (by kernel_rfl) (by kernel_rfl) (by kernel_rfl) (fun _ _ _ h => h) rfl (by first | exact M.out | exact M.out.take 2)
      case' hy =>
        refine Or.inl ⟨by first | rfl | (go_simp; done), ?_⟩
        intro w hS
        clear hS
        go_simp
        try with_reducible rfl
      try simp only [Act.put, List.getElem_toArray, List.getElem_cons_succ, List.getElem_cons_zero, List.setIfInBounds_toArray, List.set_cons_succ, List.set_cons_zero]
      apply takeH (i := 7) 21 rfl (by kernel_rfl) (by kernel_rfl) (by kernel_rfl) (fun _ _ _ h => h) rfl (by first | exact M.out | exact M.out.take 2)
      case' hy =>
        refine Or.inl ⟨by first | rfl | (go_simp; done), ?_⟩
        intro w hS
        clear hS
        go_simp
        try with_reducible rfl
      try simp only [Act.put, List.getElem_toArray, List.getElem_cons_succ, List.getElem_cons_zero, List.setIfInBounds_toArray, List.set_cons_succ, List.set_cons_zero]
      apply takeH (i := 8) 22 rfl (by kernel_rfl) (by kernel_rfl) (by kernel_rfl) (fun _ _ _ h => h) rfl (by first | exact M.out | exact M.out.take 2)
      case' hy => exact ylds _ _ rfl rfl Try.underlying22 rfl rfl (fun w' hS => hS.cell (j := 2) (v := .int .i8 xs[k].wide) 1 rfl rfl)
      try simp only [Act.put, List.getElem_toArray, List.getElem_cons_succ, List.getElem_cons_zero, List.setIfInBounds_toArray, List.set_cons_succ, List.set_cons_zero]
      apply takeH (i := 9) 23 rfl (by kernel_rfl) (by kernel_rfl) (by kernel_rfl) (fun _ _ _ h => h) rfl (by first | exact M.out | exact M.out.take 2)
      case' hy =>
        refine Or.inl ⟨by first | rfl | (go_simp; done), ?_⟩
        intro w hS
        clear hS
        go_simp
        try with_reducible rfl
      try simp only [Act.put, List.getElem_toArray, List.getElem_cons_succ, List.getElem_cons_zero, List.setIfInBounds_toArray, List.set_cons_succ, List.set_cons_zero]
      apply takeH (i := 10) 24 rfl (by kernel_rfl) (by kernel_rfl) (by kernel_rfl) (fun _ _ _ h => h) rfl (by first | exact M.out | exact M.out.take 2)
      case' hy =>
        refine Or.inl ⟨by first | rfl | (go_simp; done), ?_⟩
        intro w hS
        clear hS
        go_simp
        try with_reducible rfl
      try simp only [Act.put, List.getElem_toArray, List.getElem_cons_succ, List.getElem_cons_zero, List.setIfInBounds_toArray, List.set_cons_succ, List.set_cons_zero]
      apply takeH (i := 11) 25 rfl (by kernel_rfl) (by kernel_rfl) (by kernel_rfl) (fun _ _ _ h => h) rfl (by first | exact M.out | exact M.out.take 2)
      case' hy =>
        refine Or.inl ⟨by first | rfl | (go_simp; done), ?_⟩
        intro w hS
        clear hS
        go_simp
        try with_reducible rfl
      try simp only [Act.put, List.getElem_toArray, List.getElem_cons_succ, List.getElem_cons_zero, List.setIfInBounds_toArray, List.set_cons_succ, List.set_cons_zero]
      apply takeH (i := 12) 26 rfl (by kernel_rfl) (by kernel_rfl) (by kernel_rfl) (fun _ _ _ h => h) rfl (by first | exact M.out | exact M.out.take 2)
      case' hy => exact ylds _ _ rfl rfl Try.underlying22 rfl rfl (fun w' hS => hS.cell (j := 3) (v := .int .i8 xs[k].high) 1 rfl rfl)
      try simp only [Act.put, List.getElem_toArray, List.getElem_cons_succ, List.getElem_cons_zero, List.setIfInBounds_toArray, List.set_cons_succ, List.set_cons_zero]
      apply takeH (i := 13) 27 rfl (by kernel_rfl) (by kernel_rfl) (by kernel_rfl) (fun _ _ _ h => h) rfl (by first | exact M.out | exact M.out.take 2)
      case' hy =>
        refine Or.inl ⟨by first | rfl | (go_simp; done), ?_⟩
        intro w hS
        clear hS
        go_simp
        try with_reducible rfl
      try simp only [Act.put, List.getElem_toArray, List.getElem_cons_succ, List.getElem_cons_zero, List.setIfInBounds_toArray, List.set_cons_succ, List.set_cons_zero]
      apply takeH (i := 14) 28 rfl (by kernel_rfl) (by kernel_rfl) (by kernel_rfl) (fun _ _ _ h => h) rfl (by first | exact M.out | exact M.out.take 2)
      case' hy =>
        refine Or.inl ⟨by first | rfl | (go_simp; done), ?_⟩
        intro w hS
        clear hS
        go_simp
        try with_reducible rfl
      try simp only [Act.put, List.getElem_toArray, List.getElem_cons_succ, List.getElem_cons_zero, List.setIfInBounds_toArray, List.set_cons_succ, List.set_cons_zero]
      apply takeH (i := 15) 29 rfl (by kernel_rfl) (by kernel_rfl) (by kernel_rfl) (fun _ _ _ h => h) rfl (by first | exact M.out | exact M.out.take 2)
      case' hy =>
        refine Or.inl ⟨by first | rfl | (go_simp; done), ?_⟩
        intro w hS
        clear hS
        go_simp
        try with_reducible rfl
      try simp only [Act.put, List.getElem_toArray, List.getElem_cons_succ, List.getElem_cons_zero, List.setIfInBounds_toArray, List.set_cons_succ, List.set_cons_zero]
      apply takeH (i := 16) 30 rfl (by kernel_rfl) (by kernel_rfl) (by kernel_rfl) (fun _ _ _ h => h) rfl (by first | exact M.out | exact M.out.take 2)
      case' hy =>
        refine Or.inl ⟨by first | rfl | (go_simp; done), ?_⟩
        intro w hS
        clear hS
        go_simp
        try with_reducible rfl
      try simp only [Act.put, List.getElem_toArray, List.getElem_cons_succ, List.getElem_cons_zero, List.setIfInBounds_toArray, List.set_cons_succ, List.set_cons_zero]
      apply takeH (i := 17) 31 rfl (by kernel_rfl) (by kernel_rfl) (by kernel_rfl) (fun _ _ _ h => h) rfl (by first | exact M.out | exact M.out.take 2)
      case' hy => exact ylds _ _ rfl rfl Try.underlying24 rfl rfl (fun w' hS => hS.cell (j := 2) (v := .int .i16 p.edge) 0 rfl rfl)
      try simp only [Act.put, List.getElem_toArray, List.getElem_cons_succ, List.getElem_cons_zero, List.setIfInBounds_toArray, List.set_cons_succ, List.set_cons_zero]
      apply takeH (i := 18) 32 rfl (by kernel_rfl) (by kernel_rfl) (by kernel_rfl) (fun _ _ _ h => h) rfl (by first | exact M.out | exact M.out.take 2)
      case' hy =>
        refine Or.inl ⟨by first | rfl | (go_simp; done), ?_⟩
        intro w hS
        clear hS
        go_simp
        try with_reducible rfl
      try simp only [Act.put, List.getElem_toArray, List.getElem_cons_succ, List.getElem_cons_zero, List.setIfInBounds_toArray, List.set_cons_succ, List.set_cons_zero]
      apply takeH (i := 19) 33 rfl (by kernel_rfl) (by kernel_rfl) (by kernel_rfl) (fun _ _ _ h => h) rfl (by first | exact M.out | exact M.out.take 2)
      case' hy => exact yldw _ _ rfl rfl Try.underlying65 rfl (by first | exact sz65 | (rw [S1.out]; exact sz65) | (rw [S2.out]; exact sz65) | (rw [S3.out]; exact sz65)) rfl (fun w' hS => hS.blk 1 rfl)
      try simp only [Act.put, List.getElem_toArray, List.getElem_cons_succ, List.getElem_cons_zero, List.setIfInBounds_toArray, List.set_cons_succ, List.set_cons_zero]
      refine any1H 20 (by kernel_rfl) rfl (fun K hK => ?_)
      go_wp2_with (first | ((with_reducible refine gate_dst (N := 16) rfl ?_); go_must (refine M.out.ev_ld 0 _ _ rfl rfl rfl Try.underlying24 rfl rfl (by first | assumption | rfl) ?_)) | ((with_reducible refine gate_dst (N := 19) rfl ?_); go_must (refine M.out.ev_ld 0 _ _ rfl rfl rfl Try.underlying24 rfl rfl (by first | assumption | rfl) ?_)) | ((with_reducible refine gate_dst (N := 22) rfl ?_); go_must (refine M.out.ev_ld 1 _ _ rfl rfl rfl Try.underlying22 rfl rfl (by first | assumption | rfl) ?_)) | ((with_reducible refine gate_dst (N := 26) rfl ?_); go_must (refine M.out.ev_ld 1 _ _ rfl rfl rfl Try.underlying22 rfl rfl (by first | assumption | rfl) ?_)) | ((with_reducible refine gate_dst (N := 31) rfl ?_); go_must (refine M.out.ev_ld 0 _ _ rfl rfl rfl Try.underlying24 rfl rfl (by first | assumption | rfl) ?_)) | ((with_reducible refine gate_dst (N := 33) rfl ?_); go_must (refine M.out.ev_ldw 1 _ _ rfl rfl rfl Try.underlying65 rfl (by first | exact sz65 | (rw [S1.out]; exact sz65) | (rw [S2.out]; exact sz65) | (rw [S3.out]; exact sz65)) rfl ?_)) | (go_at_call 82; go_must (refine (edgeN_any xs[k] HP.out _).mono ?_); rintro e w_ ⟨rfl, N_⟩; have m := M.out.join N_; clear N_; simp only [List.cons_append, List.nil_append, List.append_nil] at m; have M := Lib.hid m; clear m))
      refine onward_normal (hK _ _ ⟨(by first | exact M.out | exact M.out.take 2), ?_⟩)
      clear hK K
      try simp only [Act.put, List.getElem_toArray, List.getElem_cons_succ, List.getElem_cons_zero, List.setIfInBounds_toArray, List.set_cons_succ, List.set_cons_zero]
      apply takeH (i := 21) 35 rfl (by kernel_rfl) (by kernel_rfl) (by kernel_rfl) (fun _ _ _ h => h) rfl (by first | exact M.out | exact M.out.take 2)
      case' hy =>
        refine Or.inl ⟨by first | rfl | (go_simp; done), ?_⟩
        intro w hS
        clear hS
        go_simp
        try with_reducible rfl
      try simp only [Act.put, List.getElem_toArray, List.getElem_cons_succ, List.getElem_cons_zero, List.setIfInBounds_toArray, List.set_cons_succ, List.set_cons_zero]
      apply takeH (i := 22) 36 rfl (by kernel_rfl) (by kernel_rfl) (by kernel_rfl) (fun _ _ _ h => h) rfl (by first | exact M.out | exact M.out.take 2)
      case' hy =>
        refine Or.inl ⟨by first | rfl | (go_simp; done), ?_⟩
        intro w hS
        clear hS
        go_simp
        try with_reducible rfl
      try simp only [Act.put, List.getElem_toArray, List.getElem_cons_succ, List.getElem_cons_zero, List.setIfInBounds_toArray, List.set_cons_succ, List.set_cons_zero]
      apply takeH (i := 23) 37 rfl (by kernel_rfl) (by kernel_rfl) (by kernel_rfl) (fun _ _ _ h => h) rfl (by first | exact M.out | exact M.out.take 2)
      case' hy =>
        refine Or.inl ⟨by first | rfl | (go_simp; done), ?_⟩
        intro w hS
        clear hS
        go_simp
        try with_reducible rfl
      try simp only [Act.put, List.getElem_toArray, List.getElem_cons_succ, List.getElem_cons_zero, List.setIfInBounds_toArray, List.set_cons_succ, List.set_cons_zero]
      apply takeH (i := 24) 5 rfl (by kernel_rfl) (by kernel_rfl) (by kernel_rfl) (fun _ _ _ h => h) rfl (by first | exact M.out | exact M.out.take 2)
      case' hy =>
        refine Or.inl ⟨by first | rfl | (go_simp; done), ?_⟩
        intro w hS
        clear hS
        go_simp
        try with_reducible rfl
      try simp only [Act.put, List.getElem_toArray, List.getElem_cons_succ, List.getElem_cons_zero, List.setIfInBounds_toArray, List.set_cons_succ, List.set_cons_zero]
      refine wpAnyH_done (by kernel_rfl) ?_ _
      all_goals
        go_wp2
        exact ⟨⟨k + 1, by omega, by go_num, rfl, M.out.take 1⟩, by simp [intOf]; omega⟩
    · obtain rfl : k = xs.length := by omega
      go_wp2
      go_ret
      exact ⟨ret_int (by rw [List.take_length]), M.out.take 0⟩
set_option maxRecDepth 100000 in
set_option maxHeartbeats 4000000 in
theorem l04Sum_any (p : Prices) (hg : p.good = true) (A : Option Addr) (n : Nat) (xs : List Net) (hx : ∀ x ∈ xs, x.plain = true) (hl : xs.length ≤ 1048576) (w : World) (hs : Sl w 4 A xs.length (flat Net.vals xs)) :
    Calls Try.prog 63 #[.agg p.vals.toArray, .slice A xs.length n] w fun e w' => e = .returned (.int .i64 (costs p xs)) ∧ Mem w w' [] := by
  have M := Lib.hid (Mem.start w)
  have HX := Lib.hid hx
  have HS := Lib.hid hs
  have HG := Lib.hid hg
  clear hx hs hg
  go_enter Try.func63, Try.ntmps63
  go_wp2_with (first
    | ((with_reducible refine gate_dst (N := 2) rfl ?_); go_must (refine M.out.ev_new rfl (by first | (go_simp; done) | (go_simp; rfl)) ?_); intro g2 w2 m; simp only [List.cons_append, List.nil_append] at m; have M := Lib.hid m; clear m)
    | ((with_reducible refine gate_dst (N := 14) rfl ?_); go_must (refine M.out.ev_ldw 0 _ _ rfl rfl rfl Try.underlying37 rfl (by first | exact sz37 | (rw [S1.out]; exact sz37) | (rw [S2.out]; exact sz37) | (rw [S3.out]; exact sz37)) rfl ?_))
    )
  go_loopw [5, 6] (fun u v wr => ∃ k : Nat, k ≤ xs.length ∧ v = .int .i64 k ∧ u = .int .i64 (costs p (xs.take k)) ∧ Mem w wr [.blk g2 37 p.vals.toArray])
    (fun _ v _ => xs.length - (intOf v).toNat)
  case atStart => exact ⟨0, by omega, rfl, rfl, M.out⟩
  case round =>
    clear M
    obtain ⟨k, hk, rfl, rfl, mm⟩ := hrel
    have M := Lib.hid mm
    clear mm
    by_cases hlt : k < xs.length
    · obtain ⟨b, off, rfl, hr⟩ := HS.out.2 (by omega)
      have R := Lib.hid (range_at Net.vl hr (List.getElem?_eq_getElem hlt))
      have HP := Lib.hid (HX.out _ (List.getElem_mem hlt))
      have CB := costs_b HG.out (xs.take k) fun x hx => HX.out x (List.mem_of_mem_take hx)
      have hlk : (xs.take k).length = k := List.length_take_of_le hk
      have HTK := costs_snoc p (xs.take k) xs[k]
      rw [← List.take_succ_eq_append_getElem hlt] at HTK
      have k10 := (costOk HG.out HP.out).k
      obtain ⟨c, hc⟩ : ∃ c, c = costs p (xs.take k) := ⟨_, rfl⟩
      rw [← hc] at CB HTK ⊢
      rw [hlk] at CB
      have e1 : IntKind.i64.wrap (c + netCost p xs[k]) = costs p (xs.take (k + 1)) := by
        rw [HTK]; exact IntWalk.i64_in _ (by omega)
      have i0 : (0 : Int) ≤ (k : Int) := by omega
      have i1 : (k : Int) < (xs.length : Int) := by omega
      clear hr hc CB hlk HTK k10
      go_wp2
      refine region_anyH (fun w' => Mem w w' [.blk g2 37 p.vals.toArray]) (by kernel_rfl) ?_
      have m := M.out.drew
      clear M
      have M := Lib.hid m
      clear m
      apply takeH (i := 0) 13 rfl (by kernel_rfl) (by kernel_rfl) (by kernel_rfl) (fun _ _ _ h => h) rfl (by first | exact M.out | exact M.out.take 1)
      case' hy =>
        refine Or.inl ⟨by first | rfl | (go_simp; done), ?_⟩
        intro w hS
        clear hS
        go_simp
        try with_reducible rfl
      try simp only [Act.put, List.getElem_toArray, List.getElem_cons_succ, List.getElem_cons_zero, List.setIfInBounds_toArray, List.set_cons_succ, List.set_cons_zero]
      apply takeH (i := 1) 14 rfl (by kernel_rfl) (by kernel_rfl) (by kernel_rfl) (fun _ _ _ h => h) rfl (by first | exact M.out | exact M.out.take 1)
      case' hy => exact yldw _ _ rfl rfl Try.underlying37 rfl (by first | exact sz37 | (rw [S1.out]; exact sz37) | (rw [S2.out]; exact sz37) | (rw [S3.out]; exact sz37)) rfl (fun w' hS => hS.blk 0 rfl)
      try simp only [Act.put, List.getElem_toArray, List.getElem_cons_succ, List.getElem_cons_zero, List.setIfInBounds_toArray, List.set_cons_succ, List.set_cons_zero]
      apply takeH (i := 2) 15 rfl (by kernel_rfl) (by kernel_rfl) (by kernel_rfl) (fun _ _ _ h => h) rfl (by first | exact M.out | exact M.out.take 1)
      case' hy =>
        refine Or.inl ⟨by first | rfl | (go_simp; done), ?_⟩
        intro w hS
        clear hS
        go_simp
        try with_reducible rfl
      try simp only [Act.put, List.getElem_toArray, List.getElem_cons_succ, List.getElem_cons_zero, List.setIfInBounds_toArray, List.set_cons_succ, List.set_cons_zero]
      apply takeH (i := 3) 16 rfl (by kernel_rfl) (by kernel_rfl) (by kernel_rfl) (fun _ _ _ h => h) rfl (by first | exact M.out | exact M.out.take 1)
      case' hy =>
        refine Or.inl ⟨by first | rfl | (go_simp; done), ?_⟩
        intro w hS
        clear hS
        go_simp
        try with_reducible rfl
      try simp only [Act.put, List.getElem_toArray, List.getElem_cons_succ, List.getElem_cons_zero, List.setIfInBounds_toArray, List.set_cons_succ, List.set_cons_zero]
      apply takeH (i := 4) 17 rfl (by kernel_rfl) (by kernel_rfl) (by kernel_rfl) (fun _ _ _ h => h) rfl (by first | exact M.out | exact M.out.take 1)
      case' hy =>
        refine Or.inl ⟨by first | rfl | (go_simp; done), ?_⟩
        intro w hS
        clear hS
        go_simp
        try with_reducible rfl
      try simp only [Act.put, List.getElem_toArray, List.getElem_cons_succ, List.getElem_cons_zero, List.setIfInBounds_toArray, List.set_cons_succ, List.set_cons_zero]
      refine any1H 5 (by kernel_rfl) rfl (fun K hK => ?_)
      go_wp2_with (first | ((with_reducible refine gate_dst (N := 14) rfl ?_); go_must (refine M.out.ev_ldw 0 _ _ rfl rfl rfl Try.underlying37 rfl (by first | exact sz37 | (rw [S1.out]; exact sz37) | (rw [S2.out]; exact sz37) | (rw [S3.out]; exact sz37)) rfl ?_)) | ((with_reducible refine gate_dst (N := 18) rfl ?_); go_must (refine ev_ldr _ _ rfl rfl (M.out.argQ R.out) Try.underlying65 rfl (by first | exact sz65 | (rw [S1.out]; exact sz65)) rfl ?_)) | (go_at_call 37; go_must (refine (l04Cost_any p HG.out xs[k] HP.out _).mono ?_); rintro e w_ ⟨rfl, N_⟩; have m := M.out.join N_; clear N_; simp only [List.cons_append, List.nil_append, List.append_nil] at m; have M := Lib.hid m; clear m))
      refine onward_normal (hK _ _ ⟨(by first | exact M.out | exact M.out.take 1), ?_⟩)
      clear hK K
      try simp only [Act.put, List.getElem_toArray, List.getElem_cons_succ, List.getElem_cons_zero, List.setIfInBounds_toArray, List.set_cons_succ, List.set_cons_zero]
      refine any1H 6 (by kernel_rfl) rfl (fun K hK => ?_)
      go_wp2_with (first | ((with_reducible refine gate_dst (N := 14) rfl ?_); go_must (refine M.out.ev_ldw 0 _ _ rfl rfl rfl Try.underlying37 rfl (by first | exact sz37 | (rw [S1.out]; exact sz37) | (rw [S2.out]; exact sz37) | (rw [S3.out]; exact sz37)) rfl ?_)) | ((with_reducible refine gate_dst (N := 18) rfl ?_); go_must (refine ev_ldr _ _ rfl rfl (M.out.argQ R.out) Try.underlying65 rfl (by first | exact sz65 | (rw [S1.out]; exact sz65)) rfl ?_)) | (go_at_call 37; go_must (refine (l04Cost_any p HG.out xs[k] HP.out _).mono ?_); rintro e w_ ⟨rfl, N_⟩; have m := M.out.join N_; clear N_; simp only [List.cons_append, List.nil_append, List.append_nil] at m; have M := Lib.hid m; clear m))
      refine onward_normal (hK _ _ ⟨(by first | exact M.out | exact M.out.take 1), ?_⟩)
      clear hK K
      try simp only [Act.put, List.getElem_toArray, List.getElem_cons_succ, List.getElem_cons_zero, List.setIfInBounds_toArray, List.set_cons_succ, List.set_cons_zero]
      apply takeH (i := 7) 20 rfl (by kernel_rfl) (by kernel_rfl) (by kernel_rfl) (fun _ _ _ h => h) rfl (by first | exact M.out | exact M.out.take 1)
      case' hy =>
        refine Or.inl ⟨by first | rfl | (go_simp; done), ?_⟩
        intro w hS
        clear hS
        go_simp
        try with_reducible rfl
      try simp only [Act.put, List.getElem_toArray, List.getElem_cons_succ, List.getElem_cons_zero, List.setIfInBounds_toArray, List.set_cons_succ, List.set_cons_zero]
      apply takeH (i := 8) 5 rfl (by kernel_rfl) (by kernel_rfl) (by kernel_rfl) (fun _ _ _ h => h) rfl (by first | exact M.out | exact M.out.take 1)
      case' hy =>
        refine Or.inl ⟨by first | rfl | (go_simp; done), ?_⟩
        intro w hS
        clear hS
        go_simp
        try with_reducible rfl
      try simp only [Act.put, List.getElem_toArray, List.getElem_cons_succ, List.getElem_cons_zero, List.setIfInBounds_toArray, List.set_cons_succ, List.set_cons_zero]
      refine wpAnyH_done (by kernel_rfl) ?_ _
      all_goals
        go_wp2
        exact ⟨⟨k + 1, by omega, by go_num, rfl, M.out.take 1⟩, by simp [intOf]; omega⟩
    · obtain rfl : k = xs.length := by omega
      go_wp2
      go_ret
      exact ⟨ret_int (by rw [List.take_length]), M.out.take 0⟩
end Go.Proofs.Ytjkclggdaafmaaa
