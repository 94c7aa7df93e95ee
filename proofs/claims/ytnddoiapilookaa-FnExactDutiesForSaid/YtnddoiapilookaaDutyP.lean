/- Duties of targets: plain facts. -/
import Derived.Test.YtnddoiapilookaaGreedyP
import Derived.Test.YtnddoiapilookaaRowI0
namespace Go.Proofs.Ytnddoiapilookaa
set_option linter.unusedSimpArgs false
set_option linter.unusedVariables false
open Go.RowKit

theorem Sl.at64 {w : World} {b off : Nat} {ks : List Nat} (h : Sl w 1 (some ⟨b, off, none⟩) ks.length (flat one64 ks)) {i j : Nat} (hi : ks[i]? = some j) : w.cell? ⟨b, off + i, none⟩ = some (.int .i64 j) := by
  have hlt := (List.getElem?_eq_some_iff.1 hi).1
  have R := range_at one64_len (h.range (by omega)) hi
  simpa [nat64] using R 0 _ rfl
theorem Sl.atI {w : World} {b off : Nat} {ks : List Int} (h : Sl w 1 (some ⟨b, off, none⟩) ks.length (flat oneI ks)) {i : Nat} {j : Int} (hi : ks[i]? = some j) : w.cell? ⟨b, off + i, none⟩ = some (.int .i64 j) := by
  have hlt := (List.getElem?_eq_some_iff.1 hi).1
  have R := range_at oneI_len (h.range (by omega)) hi
  simpa using R 0 _ rfl
theorem cost1_any (p : Prices) (hg : p.good = true) (g : Nat) {t : TypeId} (x : Net) (hp : x.plain = true) (w : World) (hb : Blk w g t x.vals.toArray) :
    Calls Try.prog 75 #[.agg p.vals.toArray, .slice (some ⟨g, 0, none⟩) 1 1] w fun e w' => e = .returned (.int .i64 (netCost p x)) ∧ Mem w w' [] := by
  rw [← costs_1]
  exact costP_any p hg (some ⟨g, 0, none⟩) 1 [x] (by simpa using hp) (by simp) w (sl_net hb)
/-- The sum of the first duties whose targets are in a net. -/
def dTo (n : Net) (ks : List Nat) (ds : List Int) : Nat → Int
  | 0 => 0
  | i + 1 => dTo n ks ds i + if n.inside (ks.getD i 0) = true then gi ds i else 0
def aTo (ds : List Int) : Nat → Int
  | 0 => 0
  | i + 1 => aTo ds i + ((gi ds i).natAbs : Int)
theorem dTo_abs (n : Net) (ks : List Nat) (ds : List Int) : ∀ i, -aTo ds i ≤ dTo n ks ds i ∧ dTo n ks ds i ≤ aTo ds i
  | 0 => ⟨by simp [aTo, dTo], by simp [aTo, dTo]⟩
  | i + 1 => by
    have ih := dTo_abs n ks ds i
    rw [dTo, aTo]
    split <;> omega
theorem aTo_mono (ds : List Int) (i : Nat) : ∀ j, i ≤ j → aTo ds i ≤ aTo ds j
  | 0, h => by rw [show i = 0 by omega]; exact Int.le_refl _
  | j + 1, h => by
    rcases Nat.lt_or_ge i (j + 1) with h1 | h1
    · have ih := aTo_mono ds i j (by omega)
      rw [aTo]
      omega
    · rw [show i = j + 1 by omega]; exact Int.le_refl _
theorem gi_snoc_lt (ds : List Int) (x : Int) {i : Nat} (h : i < ds.length) : gi (ds ++ [x]) i = gi ds i := by
  unfold gi
  rw [List.getD_eq_getElem?_getD, List.getD_eq_getElem?_getD, List.getElem?_append_left h]
theorem gi_snoc (ds : List Int) (x : Int) : gi (ds ++ [x]) ds.length = x := by
  unfold gi
  rw [List.getD_eq_getElem?_getD, List.getElem?_append_right (Nat.le_refl _)]
  simp
theorem aTo_snoc (ds : List Int) (x : Int) : ∀ i, i ≤ ds.length → aTo (ds ++ [x]) i = aTo ds i
  | 0, _ => rfl
  | i + 1, h => by rw [aTo, aTo, aTo_snoc ds x i (by omega), gi_snoc_lt ds x (by omega)]
theorem aTo_all (ds : List Int) (x : Int) : aTo (ds ++ [x]) (ds ++ [x]).length = aTo ds ds.length + (x.natAbs : Int) := by
  rw [List.length_append, List.length_singleton, aTo, aTo_snoc ds x _ (Nat.le_refl _), gi_snoc]
def duB : Nat → Int
  | 0 => 0
  | t + 1 => 2 * duB t + 14100
theorem duB_0 : ∀ t, 0 ≤ duB t
  | 0 => by decide
  | t + 1 => by have := duB_0 t; rw [duB]; omega
theorem duB_le {t : Nat} (h : t ≤ 12) : duB t ≤ 57753600 := by
  have : ∀ t : Nat, t < 13 → duB t ≤ 57753600 := by decide
  exact this t (by omega)
/-- What a net may still cost its targets. -/
def ownN (p : Prices) (ks : List Nat) (ds : List Int) (n : Net) : Int := netCost p n - dTo n ks ds ds.length
def dStep (d x : Int) : Int := if (decide (d < 0) || decide (x < d)) = true then x else d
def dFold (p : Prices) (ks : List Nat) (ds : List Int) (ns : List Net) (i : Nat) : Int := (ns.take i).foldl (fun d n => dStep d (ownN p ks ds n)) (-1)
theorem dFold_succ (p : Prices) (ks : List Nat) (ds : List Int) {ns : List Net} {i : Nat} (h : i < ns.length) : dFold p ks ds ns (i + 1) = dStep (dFold p ks ds ns i) (ownN p ks ds ns[i]) := by
  rw [dFold, List.take_succ_eq_append_getElem h, List.foldl_append]
  rfl
def duTo (F : Fld) (p : Prices) (ks : List Nat) : Nat → List Int
  | 0 => []
  | t + 1 => duTo F p ks t ++ [dFold p ks (duTo F p ks t) (netsAt F (ks.getD t 0)) (netsAt F (ks.getD t 0)).length]
theorem duTo_len (F : Fld) (p : Prices) (ks : List Nat) : ∀ t, (duTo F p ks t).length = t
  | 0 => rfl
  | t + 1 => by rw [duTo, List.length_append, duTo_len F p ks t]; rfl
theorem own_b {p : Prices} (hg : p.good = true) (ks : List Nat) (ds : List Int) {n : Net} (hn : n.plain = true) : -aTo ds ds.length ≤ ownN p ks ds n ∧ ownN p ks ds n ≤ 14100 + aTo ds ds.length := by
  have h1 := (costOk hg hn).k
  have h2 := dTo_abs n ks ds ds.length
  unfold ownN
  omega
theorem dFold_b {p : Prices} (hg : p.good = true) (ks : List Nat) (ds : List Int) {ns : List Net} (hn : ∀ n ∈ ns, n.plain = true) (h0 : 0 ≤ aTo ds ds.length) : ∀ i, i ≤ ns.length → -(14100 + aTo ds ds.length) ≤ dFold p ks ds ns i ∧ dFold p ks ds ns i ≤ 14100 + aTo ds ds.length
  | 0, _ => ⟨by show _ ≤ (-1 : Int); omega, by show (-1 : Int) ≤ _; omega⟩
  | i + 1, h => by
    have ih := dFold_b hg ks ds hn h0 i (by omega)
    have ho := own_b hg ks ds (hn ns[i] (List.getElem_mem _))
    rw [dFold_succ p ks ds (by omega), dStep]
    split <;> omega
theorem duTo_b {F : Fld} (hv : F.valid = true) {p : Prices} (hg : p.good = true) (ks : List Nat) : ∀ t, 0 ≤ aTo (duTo F p ks t) (duTo F p ks t).length ∧ aTo (duTo F p ks t) (duTo F p ks t).length ≤ duB t
  | 0 => ⟨Int.le_refl 0, Int.le_refl 0⟩
  | t + 1 => by
    have ih := duTo_b hv hg ks t
    have hf := dFold_b hg ks (duTo F p ks t) (ns := netsAt F (ks.getD t 0)) (fun n hn => (Net.snug_of hv (netsAt_fits hn)).1) ih.1 (netsAt F (ks.getD t 0)).length (Nat.le_refl _)
    rw [duTo, aTo_all, duB]
    omega
def duRes (F : Fld) (p : Prices) (c : Cs) : List Int := if prCode F p [] c = 0 then (if wood F c = true then [] else duTo F p c.all c.all.length) else []
theorem duRes_len (F : Fld) (p : Prices) (c : Cs) : (duRes F p c).length ≤ 100 := by
  have := c.below_len 100
  unfold duRes
  split
  · split
    · simp
    · rw [duTo_len]
      exact this
  · simp
theorem all_getD {c : Cs} {i : Nat} (h : i < c.all.length) : c.all[i]? = some (c.all.getD i 0) ∧ c.all.getD i 0 ∈ c.all ∧ c.all.getD i 0 < 100 := by
  have h1 : c.all.getD i 0 = c.all[i] := by rw [List.getD_eq_getElem?_getD, List.getElem?_eq_getElem h]; rfl
  have h2 : c.all[i] ∈ c.all := List.getElem_mem h
  rw [h1]
  exact ⟨List.getElem?_eq_getElem h, h2, (mem_all.1 h2).1⟩
theorem gi_at {ds : List Int} {i : Nat} (h : i < ds.length) : ds[i]? = some (gi ds i) := by
  unfold gi
  rw [List.getD_eq_getElem?_getD, List.getElem?_eq_getElem h]
  rfl
end Go.Proofs.Ytnddoiapilookaa
