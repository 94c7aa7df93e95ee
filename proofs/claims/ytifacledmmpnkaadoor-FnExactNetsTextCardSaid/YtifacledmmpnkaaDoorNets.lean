/- Nets: whether they are as they must be, and what is under them; the walks of both. -/
import Derived.Test.YtifacledmmpnkaaDoorNetSets
import Derived.Test.YtifacledmmpnkaaDoorNetM
import Derived.Test.YtifacledmmpnkaaDoorKinds
import Derived.Test.YtifacledmmpnkaaDoorHeld3
namespace Go.Proofs.YtifacledmmpnkaaDoor
set_option linter.unusedSimpArgs false
set_option linter.unusedVariables false
open Go.RowKit
attribute [local go_sem] cell?_mk frozen?_mk

set_option maxRecDepth 100000 in
set_option maxHeartbeats 1000000 in
theorem isPlainN_any (n : Net) (hx : n.ok) (w : World) :
    Calls Tryd.prog 51 #[.agg n.vals.toArray] w fun e w' => e = .returned (.bool n.plain) ∧ Mem w w' [] := by
  have M := Lib.hid (Mem.start w)
  obtain ⟨l0, u0⟩ := hx.x
  have e0 : IntKind.i64.wrap n.x = n.x := IntWalk.i64_in _ (by omega)
  obtain ⟨l1, u1⟩ := hx.y
  have e1 : IntKind.i64.wrap n.y = n.y := IntWalk.i64_in _ (by omega)
  obtain ⟨l2, u2⟩ := hx.wide
  have e2 : IntKind.i64.wrap n.wide = n.wide := IntWalk.i64_in _ (by omega)
  obtain ⟨l3, u3⟩ := hx.high
  have e3 : IntKind.i64.wrap n.high = n.high := IntWalk.i64_in _ (by omega)
  cases q0 : inB n.x 0 9 <;> cases q1 : inB n.y 0 9 <;> cases q2 : inB n.wide 1 10 <;> cases q3 : inB n.high 1 10 <;>
  · have H0 := Lib.hid q0
    have H1 := Lib.hid q1
    have H2 := Lib.hid q2
    have H3 := Lib.hid q3
    have HFN := Lib.hid (show n.plain = (inB n.x 0 9 && (inB n.y 0 9 && (inB n.wide 1 10 && inB n.high 1 10))) from rfl)
    clear q0 q1 q2 q3
    go_enter Tryd.func51, Tryd.ntmps51
    go_wp2_with (first
      | ((with_reducible refine gate_dst (N := 1) rfl ?_); go_must (refine M.out.ev_new rfl (by first | (go_simp; done) | (go_simp; rfl)) ?_); intro g1 w1 m; simp only [List.cons_append, List.nil_append] at m; have M := Lib.hid m; clear m; have c0 := M.out.cell (j := 0) (v := .int .i8 n.x) 0 rfl rfl; have c1 := M.out.cell (j := 1) (v := .int .i8 n.y) 0 rfl rfl; have c2 := M.out.cell (j := 2) (v := .int .i8 n.wide) 0 rfl rfl; have c3 := M.out.cell (j := 3) (v := .int .i8 n.high) 0 rfl rfl)
      | (go_at_call 69; go_must (refine (within_any _ _ _ _).mono ?_); rintro e w_ ⟨rfl, rfl⟩; first | rw [H0.out] | rw [H1.out] | rw [H2.out] | rw [H3.out])
      )
    go_ret
    exact ⟨ret_bool (by rw [HFN.out, H0.out, H1.out, H2.out, H3.out]; rfl), M.out.take 0⟩
def netTo (n : Net) (k : Nat) : Cs := setOf ((List.range k).filter n.inside)
theorem netTo_ok (n : Net) {k : Nat} (hk : k ≤ 100) : (netTo n k).ok := setOf_ok _ fun j hj => by
  have := List.mem_range.1 (List.mem_filter.1 hj).1
  omega
theorem netTo_succ (n : Net) (k : Nat) : netTo n (k + 1) = if n.inside k = true then (netTo n k).put k else netTo n k := by
  unfold netTo
  rw [List.range_succ, List.filter_append]
  cases h : n.inside k
  · simp [h]
  · simp only [List.filter_cons, h, List.filter_nil, if_true]
    rw [setOf_snoc]
/-- The rows of a net before one, and of that the columns before one. -/
def rowsTo (n : Net) (j i : Nat) : Nat → Bool := fun k => n.inside k && (decide ((k : Int) / 10 < n.y + j) || (decide ((k : Int) / 10 = n.y + j) && decide ((k : Int) % 10 < n.x + i)))
theorem rows_put {n : Net} (h : n.plain = true) {j i : Nat} (hj : (j : Int) < n.high) (hi : (i : Int) < n.wide) (hy : n.y + n.high ≤ 10) (hw : n.x + n.wide ≤ 10) {c : Nat} (hc : (c : Int) = n.x + i + 10 * (n.y + j)) :
    (pset (rowsTo n j i)).put c = pset (rowsTo n j (i + 1)) := by
  obtain ⟨⟨a0, a1⟩, ⟨b0, b1⟩, _, _⟩ := Net.plain_iff.1 h
  refine pset_of (Cs.put_ok (pset_ok _) (by omega)) (fun k h1 _ => ?_) fun k hk => ?_
  · rw [Cs.put_has, pset_small _ h1, Bool.false_or, decide_eq_false (by omega)]
  · rw [Cs.put_has, pset_has _ hk, Bool.eq_iff_iff]
    simp only [rowsTo, Net.inside, Bool.or_eq_true, Bool.and_eq_true, decide_eq_true_eq, inB_iff]
    omega
theorem rows_next {n : Net} (h : n.plain = true) {j : Nat} : pset (rowsTo n j n.wide.toNat) = pset (rowsTo n (j + 1) 0) := by
  obtain ⟨⟨a0, a1⟩, ⟨b0, b1⟩, _, _⟩ := Net.plain_iff.1 h
  refine pset_congr fun k hk => ?_
  rw [Bool.eq_iff_iff]
  simp only [rowsTo, Net.inside, Bool.or_eq_true, Bool.and_eq_true, decide_eq_true_eq, inB_iff]
  omega
theorem rows_start (n : Net) : pset (rowsTo n 0 0) = Cs.z := by
  refine pset_z.2 fun k _ => ?_
  rw [← Bool.not_eq_true]
  simp only [rowsTo, Net.inside, Bool.or_eq_true, Bool.and_eq_true, decide_eq_true_eq, inB_iff]
  omega
theorem rows_end {n : Net} (h : n.plain = true) : pset (rowsTo n n.high.toNat 0) = netSet n := by
  obtain ⟨⟨a0, a1⟩, ⟨b0, b1⟩, _, _⟩ := Net.plain_iff.1 h
  refine pset_congr fun k hk => ?_
  rw [Bool.eq_iff_iff]
  simp only [rowsTo, Net.inside, Bool.or_eq_true, Bool.and_eq_true, decide_eq_true_eq, inB_iff]
  omega
end Go.Proofs.YtifacledmmpnkaaDoor
