/- Texts of a proof, laid together: Drawn, Mark64, RowI0, EqI, Plan, Gen2, Drawn3. -/
import Derived.Test.YtdnofkngljjbmaaZP04
import Derived.Test.YtdnofkngljjbmaaZP07
import Derived.Test.YtdnofkngljjbmaaZP08
namespace Go.Proofs.Ytdnofkngljjbmaa
set_option linter.unusedSimpArgs false
set_option linter.unusedVariables false
open Go.RowKit

def onward (K : Act → World → Prop) : Exit → Act → World → Prop := fun e a w => match e with | .normal => K a w | _ => False
theorem onward_normal {K : Act → World → Prop} {a : Act} {w : World} (h : K a w) : onward K .normal a w := h
theorem onward_nil {P : Program} {ops : Array Oper} {K : Act → World → Prop} {a : Act} {w : World} (h : K a w) : wpList P ops (onward K) [] a w := h

theorem Oper.of_onward {P : Program} {o : Oper} {a : Act} {w : World} {K K' : Act → World → Prop} {Q : Exit → Act → World → Prop} (hk : ∀ a w, K' a w → K a w)
    (hh : o.wp P a w K' (onward K)) : o.wp P a w K Q := by
  unfold Oper.wp at *
  generalize (execOp a.eval o).run P w = r at *
  cases r with
  | ok n w' =>
    cases n <;> simp only [Oper.upon] at hh ⊢ <;>
      first
        | exact hk _ _ hh
        | exact Calls.mono hh (fun e w'' he => by
            cases e
            · exact hk _ _ he
            · exact absurd he id
            · exact absurd (show LetsOut (onward K) from he).choose_spec.choose_spec id)
        | exact Rows.mono hh (fun _ _ he => hk _ _ he)
  | halt x w' => cases x <;> simp only [Oper.upon] at hh ⊢ <;> exact absurd hh id

theorem wpOp_onward {P : Program} {ops : Array Oper} {Q : Exit → Act → World → Prop} {i : Nat} {K : Act → World → Prop} {a : Act} {w : World} {o : Oper} (ho : ops[i]? = some o)
    (h : wpList P ops (onward K) [o] a w) : wpOp P ops Q i K a w := by
  unfold wpOp
  rw [ho]
  show if Region.wanted o (yielded ops a.tmps) = true then _ else _
  unfold wpList at h
  split
  · rename_i hw
    rw [if_pos hw] at h
    rcases h with h | h
    · exact .inl (Oper.of_onward (fun _ _ h => h) h)
    · exact absurd h.2.choose_spec.choose_spec id
  · rename_i hw
    rw [if_neg hw] at h
    exact h

theorem any1 {P : Program} {md : Region.Mode} {ops : Array Oper} {Q : Exit → Act → World → Prop} {fuel : Nat} {listed : Array Bool} {a : Act} {w : World} (i : Nat) {o : Oper}
    (hr : Region.ready md ops listed = [i]) (ho : ops[i]? = some o) (h : wpList P ops (onward (wpAny P md ops Q fuel (listed.setIfInBounds i true))) [o] a w) : wpAny P md ops Q (fuel + 1) listed a w :=
  wpAny_all hr (by simp) fun j hj => by
    rw [List.mem_singleton.1 hj]
    exact wpOp_onward ho h
theorem any2 {P : Program} {md : Region.Mode} {ops : Array Oper} {Q : Exit → Act → World → Prop} {fuel : Nat} {listed : Array Bool} {a : Act} {w : World} (i j : Nat) {o o' : Oper}
    (hr : Region.ready md ops listed = [i, j]) (ho : ops[i]? = some o) (ho' : ops[j]? = some o')
    (h : wpList P ops (onward (wpAny P md ops Q fuel (listed.setIfInBounds i true))) [o] a w)
    (h' : wpList P ops (onward (wpAny P md ops Q fuel (listed.setIfInBounds j true))) [o'] a w) : wpAny P md ops Q (fuel + 1) listed a w :=
  wpAny_all hr (by simp) fun k hk => by
    rcases List.mem_cons.1 hk with rfl | hk
    · exact wpOp_onward ho h
    · rw [List.mem_singleton.1 hk]
      exact wpOp_onward ho' h'
theorem any1k {P : Program} {md : Region.Mode} {ops : Array Oper} {Q : Exit → Act → World → Prop} {fuel : Nat} {listed : Array Bool} {a : Act} {w : World} (i : Nat) {o : Oper}
    (hr : Region.ready md ops listed = [i]) (ho : ops[i]? = some o)
    (h : ∀ K : Act → World → Prop, (∀ a w, wpAny P md ops Q fuel (listed.setIfInBounds i true) a w → K a w) → wpList P ops (onward K) [o] a w) : wpAny P md ops Q (fuel + 1) listed a w :=
  any1 i hr ho (h _ fun _ _ h => h)
theorem any2k {P : Program} {md : Region.Mode} {ops : Array Oper} {Q : Exit → Act → World → Prop} {fuel : Nat} {listed : Array Bool} {a : Act} {w : World} (i j : Nat) {o o' : Oper}
    (hr : Region.ready md ops listed = [i, j]) (ho : ops[i]? = some o) (ho' : ops[j]? = some o')
    (h : ∀ K : Act → World → Prop, (∀ a w, wpAny P md ops Q fuel (listed.setIfInBounds i true) a w → K a w) → wpList P ops (onward K) [o] a w)
    (h' : ∀ K : Act → World → Prop, (∀ a w, wpAny P md ops Q fuel (listed.setIfInBounds j true) a w → K a w) → wpList P ops (onward K) [o'] a w) : wpAny P md ops Q (fuel + 1) listed a w :=
  any2 i j hr ho ho' (h _ fun _ _ h => h) (h' _ fun _ _ h => h)
theorem region_any {P : Program} {ops : Array Oper} {Q : Exit → Act → World → Prop} {id : Nat} {a : Act} {w : World} (hm : P.follows .mixedOrders = true)
    (h : wpAny P .any ops Q ops.size (Array.replicate ops.size false) a w.drew) : (Code.region id ops true).wp P Q a w := wp_region_any hm h
end Go.Proofs.Ytdnofkngljjbmaa
namespace Go.Proofs.Ytdnofkngljjbmaa
set_option linter.unusedSimpArgs false
set_option linter.unusedVariables false
open Go.RowKit
attribute [local go_sem] cell?_mk frozen?_mk

/-- The marks 1, 2, .. -/
def marks (n : Nat) : List Nat := (List.range n).map (· + 1)
theorem marks_len (n : Nat) : (marks n).length = n := by simp [marks]
theorem marks_at {n i : Nat} (h : i < n) : (marks n)[i]? = some (i + 1) := by simp [marks, h]
theorem marks_succ (n : Nat) : marks (n + 1) = marks n ++ [n + 1] := by simp [marks, List.range_succ]
theorem one64_flat_len (ks : List Nat) : (flat one64 ks).length = ks.length := by rw [flat_len one64_len, Nat.mul_one]
end Go.Proofs.Ytdnofkngljjbmaa
namespace Go.Proofs.Ytdnofkngljjbmaa
set_option linter.unusedSimpArgs false
set_option linter.unusedVariables false
open Go.RowKit
attribute [local go_sem] cell?_mk frozen?_mk

def oneI (x : Int) : List Value := [.int .i64 x]
theorem oneI_len (x : Int) : (oneI x).length = 1 := rfl
theorem flat_oneI (xs : List Int) : flat oneI xs = xs.map (Value.int .i64) := by
  induction xs with
  | nil => rfl
  | cons k r ih => show oneI k ++ flat oneI r = _; rw [ih]; rfl
theorem oneI_ones (x : Int) : ∀ v ∈ oneI x, v.oneCell' = true := by
  intro v hv
  rw [List.mem_singleton.1 hv]
  rfl
theorem sl_ints {w : World} {g : Nat} {t : TypeId} {xs : List Int} (h : Blk w g t (ints .i64 xs)) : Sl w 1 (some ⟨g, 0, none⟩) xs.length (flat oneI xs) := by
  rw [flat_oneI]
  refine ⟨by simp, fun _ => ⟨g, 0, rfl, fun j v hj => ?_⟩⟩
  rw [Nat.zero_add]
  exact h.cellv (by rw [ints, List.getElem?_toArray]; exact hj)
theorem flat_cells (xs : List Int) : (xs.map (Value.int .i64)).flatMap (fun v => v.cells.toList) = xs.map (Value.int .i64) := by
  induction xs with
  | nil => rfl
  | cons x r ih => rw [List.map_cons, List.flatMap_cons, ih]; rfl
section
variable {P : Program} {ops : Array Oper} {rest : List Oper} {o : Oper} {a : Act} {w0 w : World} {Q : Exit → Act → World → Prop} {L : List Ent}
/-- []int64{x, y, ..}. -/
theorem Mem.ev_bsI (M : Mem w0 w L) {T e : TypeId} {zv : Value} {bytes : Nat} (E : ElemOk P T e zv 1 bytes) (hgd : o.guard = none) (n : Nat) (parts : Array (Nat × Operand)) (ho : o.op = .buildSlice T n parts)
    (xs : List Int) (hn : xs.length = n) (hn0 : 0 < n) (hn2 : n ≤ 2 ^ 24) (hx : (parts.map fun (i, x) => (i, a.eval x)).toList = ((xs.map (Value.int .i64)).zipIdx 0).map fun x => (x.2, x.1))
    (h : ∀ g w1, Mem w0 w1 (L ++ [.blk g e (ints .i64 xs)]) → wpList P ops Q rest (a.put o.dst (.slice (some ⟨g, 0, none⟩) n n)) w1) : wpList P ops Q (o :: rest) a w := by
  obtain ⟨i, hi, h1, h2, h3⟩ := E.get
  refine wpList_buildSlice hgd T e n _ ho (ints .i64 xs) i zv E.sl hi h1 (by rw [h2]; omega) (by rw [h2]; omega) ?_ ?_
  · rw [hx, h2]
    have hz : zv.cells.size = 1 := E.zs
    have := Great.fill_whole (s := 1) (by omega) (xs.map (Value.int .i64)) ((Array.range (n * 1)).map (zv.cells[· % zv.cells.size]!)) (by simp [Value.cells]) (by simp [hn])
    rw [this]
    rw [flat_cells, ints]
  · exact h _ _ (M.new (Nat.le_refl _) (Blk.new w e _) ((Below.refl _ _).alloc (Nat.le_refl _) _))
end
end Go.Proofs.Ytdnofkngljjbmaa
namespace Go.Proofs.Ytdnofkngljjbmaa
set_option linter.unusedSimpArgs false
set_option linter.unusedVariables false
open Go.RowKit
attribute [local go_sem] cell?_mk frozen?_mk

end Go.Proofs.Ytdnofkngljjbmaa
namespace Go.Proofs.Ytdnofkngljjbmaa
set_option linter.unusedSimpArgs false
set_option linter.unusedVariables false
open Go.RowKit
attribute [local go_sem] cell?_mk frozen?_mk

def cntOf (p : List Int) (d : Nat) : Int := ((p.count (d : Int) : Nat) : Int)
def counts (p : List Int) : List Int := (List.range 20).map (cntOf p)
def planIn (p : List Int) : Bool := p.all fun d => inB d (-1) 19
def planFit (p : List Int) (h : Int) : Bool := (List.range 20).all fun d => decide (cntOf p d ≤ h)
def planOk (xs : List Plot) (h : Int) (p : List Int) : Bool := plotsOk xs && (inB h 1 3 && (decide (p.length = xs.length) && (planIn p && planFit p h)))
theorem cntOf_snoc (q : List Int) (x : Int) (d : Nat) : cntOf (q ++ [x]) d = cntOf q d + if x = d then 1 else 0 := by
  unfold cntOf
  rw [List.count_append, List.count_singleton]
  by_cases h : x = d
  · simp [h]
  · simp [h]
theorem cntOf_b (q : List Int) (d : Nat) : 0 ≤ cntOf q d ∧ cntOf q d ≤ q.length := by
  have := List.count_le_length (a := (d : Int)) (l := q)
  unfold cntOf
  omega
theorem cntOf_take (p : List Int) (n d : Nat) : cntOf (p.take n) d ≤ cntOf p d := by
  have := (List.take_sublist n p).count_le (d : Int)
  unfold cntOf
  omega
theorem counts_len (p : List Int) : (counts p).length = 20 := by simp [counts]
theorem counts_gi (p : List Int) {d : Nat} (h : d < 20) : gi (counts p) d = cntOf p d := by
  unfold gi
  rw [List.getD_eq_getElem?_getD]
  simp [counts, h]
theorem counts_neg {q : List Int} {x : Int} (h : x < 0) : counts (q ++ [x]) = counts q := by
  unfold counts
  refine List.map_congr_left fun d _ => ?_
  rw [cntOf_snoc, if_neg (by omega), Int.add_zero]
theorem counts_put {q : List Int} {d : Nat} (h : d < 20) : counts (q ++ [(d : Int)]) = (counts q).set d (cntOf q d + 1) := by
  refine List.ext_getElem (by simp [counts]) fun i h1 h2 => ?_
  rw [List.getElem_set]
  simp only [counts, List.getElem_map, List.getElem_range]
  rw [cntOf_snoc]
  by_cases hi : d = i
  · subst hi; simp
  · rw [if_neg hi, if_neg (by omega), Int.add_zero]
def maxL : List Int → Int
  | [] => 0
  | x :: r => r.foldl max x
theorem maxL_snoc {q : List Int} (h : 0 < q.length) (y : Int) : maxL (q ++ [y]) = max (maxL q) y := by
  cases q with
  | nil => simp at h
  | cons x r => simp [maxL]
theorem maxL_le {q : List Int} (h : 0 < q.length) (b : Int) : maxL q ≤ b ↔ ∀ x ∈ q, x ≤ b := by
  cases q with
  | nil => simp at h
  | cons x r =>
    have key : ∀ (r : List Int) (x : Int), r.foldl max x ≤ b ↔ x ≤ b ∧ ∀ y ∈ r, y ≤ b := by
      intro r
      induction r with
      | nil => intro x; simp
      | cons z r ih =>
        intro x
        rw [List.foldl_cons, ih]
        simp only [List.mem_cons, forall_eq_or_imp]
        constructor
        · intro hh; exact ⟨by omega, by omega, hh.2⟩
        · intro hh; exact ⟨by omega, hh.2.2⟩
    show r.foldl max x ≤ b ↔ _
    rw [key]
    simp
theorem planFit_max (p : List Int) (h : Int) : planFit p h = decide (maxL (counts p) ≤ h) := by
  rw [Bool.eq_iff_iff, decide_eq_true_eq, maxL_le (by rw [counts_len]; omega)]
  simp [planFit, counts]
theorem planFit_of {p : List Int} {h : Int} (H : ∀ d, d < 20 → cntOf p d ≤ h) : planFit p h = true := by
  simpa [planFit] using H
theorem not_planFit {p : List Int} {h : Int} {d : Nat} (h1 : d < 20) (h2 : h < cntOf p d) : planFit p h = false := by
  rw [← Bool.not_eq_true]
  intro hh
  simp only [planFit, List.all_eq_true, List.mem_range, decide_eq_true_eq] at hh
  have := hh d h1
  omega
theorem planIn_of {p : List Int} (h : ∀ x ∈ p, inB x (-1) 19 = true) : planIn p = true := by simpa [planIn] using h
theorem not_planIn {p : List Int} {x : Int} (hx : x ∈ p) (h : inB x (-1) 19 = false) : planIn p = false := by
  rw [← Bool.not_eq_true]
  intro hh
  simp only [planIn, List.all_eq_true] at hh
  rw [hh x hx] at h
  cases h
theorem in_succ {p : List Int} {k : Nat} (hk : k < p.length) (h : ∀ x ∈ p.take k, inB x (-1) 19 = true) (hx : inB p[k] (-1) 19 = true) : ∀ x ∈ p.take (k + 1), inB x (-1) 19 = true := by
  intro x hm
  rw [List.take_succ_eq_append_getElem hk] at hm
  rcases List.mem_append.1 hm with hm | hm
  · exact h x hm
  · rw [List.mem_singleton.1 hm]; exact hx
set_option maxRecDepth 100000 in
set_option maxHeartbeats 1000000 in
theorem maxS_any (A : Option Addr) (c : Nat) (xs : List Int) (h0 : 0 < xs.length) (h1 : xs.length ≤ 1048576) (w : World) (hs : Sl w 1 A xs.length (flat oneI xs)) :
    Calls Try.prog 67 #[.slice A xs.length c] w fun e w' => e = .returned (.int .i64 (maxL xs)) ∧ w = w' := by
  have HS := Lib.hid hs
  obtain ⟨b, off, rfl, hr⟩ := hs.2 h0
  have x0 : w.cell? ⟨b, off, none⟩ = some (.int .i64 xs[0]) := by simpa [oneI] using range_at oneI_len hr (List.getElem?_eq_getElem h0) 0 _ rfl
  have i0 : ¬ ((xs.length : Int) < 1) := by omega
  have i1 : (0 : Int) < (xs.length : Int) := by omega
  have HR := Lib.hid hr
  clear hs hr
  go_enter Try.func67, Try.ntmps67
  go_wp2
  go_loop [3, 4] (fun m v => ∃ k : Nat, 1 ≤ k ∧ k ≤ xs.length ∧ v = .int .i64 k ∧ m = .int .i64 (maxL (xs.take k)))
    (fun _ v => xs.length - (intOf v).toNat)
  case atStart => exact ⟨1, by omega, by omega, rfl, by rw [List.take_succ_eq_append_getElem h0]; rfl⟩
  case round =>
    obtain ⟨k, k1, hk, rfl, rfl⟩ := hrel
    by_cases hlt : k < xs.length
    · have y0 : w.cell? ⟨b, off + k, none⟩ = some (.int .i64 xs[k]) := by simpa [oneI] using range_at oneI_len HR.out (List.getElem?_eq_getElem hlt) 0 _ rfl
      have HT := Lib.hid (show maxL (xs.take (k + 1)) = max (maxL (xs.take k)) xs[k] by rw [List.take_succ_eq_append_getElem hlt, maxL_snoc (by rw [List.length_take]; omega)])
      have j0 : (0 : Int) ≤ (k : Int) := by omega
      have j1 : (k : Int) < (xs.length : Int) := by omega
      obtain ⟨m, hm⟩ : ∃ m, m = maxL (xs.take k) := ⟨_, rfl⟩
      obtain ⟨y, hy⟩ : ∃ y, y = xs[k] := ⟨_, rfl⟩
      rw [← hm] at HT
      rw [← hy] at HT y0
      rw [← hm]
      clear hm hy
      rcases Int.lt_trichotomy m y with h | h | h
      · have HH := Lib.hid h
        go_wp2
        refine ⟨⟨k + 1, by omega, by omega, by go_num, ?_⟩, by simp [intOf]; omega⟩
        rw [HT.out]
        congr 1
        have := HH.out
        omega
      · subst h
        go_wp2
        refine ⟨⟨k + 1, by omega, by omega, by go_num, ?_⟩, by simp [intOf]; omega⟩
        rw [HT.out]
        congr 1
        omega
      · have HH := Lib.hid h
        have h2 : ¬ (m < y) := by omega
        go_wp2
        refine ⟨⟨k + 1, by omega, by omega, by go_num, ?_⟩, by simp [intOf]; omega⟩
        rw [HT.out]
        congr 1
        have := HH.out
        omega
    · obtain rfl : k = xs.length := by omega
      rw [List.take_length]
      go_wp2
      go_ret
      exact ⟨rfl, rfl⟩
set_option maxRecDepth 100000 in
set_option maxHeartbeats 1000000 in
theorem areHands_any (n : Int) (w : World) :
    Calls Try.prog 54 #[.int .i64 n] w fun e w' => e = .returned (.bool (inB n 1 3)) ∧ w = w' := by
  go_enter Try.func54, Try.ntmps54
  go_wp2_with (first
    | (go_at_call 66; go_must (refine (within_any _ _ _ _).mono ?_); rintro e w_ ⟨rfl, rfl⟩)
    )
  go_ret
  exact ⟨rfl, rfl⟩
set_option maxRecDepth 100000 in
set_option maxHeartbeats 1000000 in
theorem l07Hands_any (n : Int) (w : World) :
    Calls Try.prog 114 #[.int .i64 n] w fun e w' => e = .returned (.bool (inB n 1 3)) ∧ w = w' := by
  go_enter Try.func114, Try.ntmps114
  go_wp2_with (first
    | (go_at_call 97; go_must (refine (l00In_any _ _ _ _).mono ?_); rintro e w_ ⟨rfl, rfl⟩)
    )
  go_ret
  exact ⟨rfl, rfl⟩
set_option maxRecDepth 100000 in
set_option maxHeartbeats 2000000 in
theorem ValidPlan_any (A : Option Addr) (n : Nat) (xs : List Plot) (hx : ∀ x ∈ xs, x.ok) (hl : xs.length ≤ 1048576) (h : Int) (B : Option Addr) (c : Nat) (p : List Int) (hm : p.length ≤ 1048576) (w : World) (hs : Sl w 4 A xs.length (flat Plot.vals xs)) (ht : Sl w 1 B p.length (flat oneI p)) :
    Calls Try.prog 17 #[.slice A xs.length n, .int .i64 h, .slice B p.length c] w fun e w' => e = .returned (.bool (planOk xs h p)) ∧ Mem w w' [] := by
  have M := Lib.hid (Mem.start w)
  have HX := Lib.hid hx
  have HS := Lib.hid hs
  have HT := Lib.hid ht
  clear hx hs ht
  cases hp : plotsOk xs
  · have HP := Lib.hid hp
    clear hp
    go_enter Try.func17, Try.ntmps17
    go_wp2_with (first
      | (go_at_call 18; go_must (refine (ValidPlots_any A n xs HX.out hl _ (M.out.sl HS.out)).mono ?_); rintro e w_ ⟨rfl, N_⟩; have m := M.out.join N_; clear N_; simp only [List.cons_append, List.nil_append, List.append_nil] at m; have M := Lib.hid m; clear m; rw [HP.out])
      )
    go_ret
    exact ⟨ret_bool (by simp [planOk, HP.out]), M.out.take 0⟩
  cases hh : inB h 1 3
  · have HP := Lib.hid hp
    have HH := Lib.hid hh
    clear hp hh
    go_enter Try.func17, Try.ntmps17
    go_wp2_with (first
      | (go_at_call 18; go_must (refine (ValidPlots_any A n xs HX.out hl _ (M.out.sl HS.out)).mono ?_); rintro e w_ ⟨rfl, N_⟩; have m := M.out.join N_; clear N_; simp only [List.cons_append, List.nil_append, List.append_nil] at m; have M := Lib.hid m; clear m; rw [HP.out])
      | (go_at_call 54; go_must (refine (areHands_any _ _).mono ?_); rintro e w_ ⟨rfl, rfl⟩; rw [HH.out])
      )
    go_ret
    exact ⟨ret_bool (by simp [planOk, HH.out]), M.out.take 0⟩
  by_cases hq : p.length = xs.length
  · have HP := Lib.hid hp
    have HH := Lib.hid hh
    have HQL := Lib.hid hq
    have hqb : ((p.length : Int) != (xs.length : Int)) = false := by simp [hq]
    have HPO := Lib.hid (show planOk xs h p = (planIn p && planFit p h) by simp [planOk, hp, hh, hq])
    obtain ⟨h0, h1⟩ := inB_iff.1 hh
    clear hp hh hq
    go_enter Try.func17, Try.ntmps17
    go_wp2_with (first
      | (go_at_call 18; go_must (refine (ValidPlots_any A n xs HX.out hl _ (M.out.sl HS.out)).mono ?_); rintro e w_ ⟨rfl, N_⟩; have m := M.out.join N_; clear N_; simp only [List.cons_append, List.nil_append, List.append_nil] at m; have M := Lib.hid m; clear m; rw [HP.out])
      | (go_at_call 54; go_must (refine (areHands_any _ _).mono ?_); rintro e w_ ⟨rfl, rfl⟩; rw [HH.out])
      | ((with_reducible refine gate_dst (N := 7) rfl ?_); go_must (refine M.out.ev_new rfl (by first | (go_simp; done) | (go_simp; rfl)) ?_); intro g7 w7 m; simp only [List.nil_append] at m; have M := Lib.hid m; clear m)
      | ((with_reducible refine gate_store (x := .tmp 7) rfl ?_); go_must (refine M.out.ev_stw 0 _ _ _ rfl rfl rfl rfl (ints .i64 (counts [])) rfl rfl sz98 (ints_one _ _) rfl ?_); intro wn m; simp only [List.set_cons_zero] at m; have M := Lib.hid m; clear m)
      )
    go_loopw [28] (fun v wr => ∃ k : Nat, k ≤ p.length ∧ v = .int .i64 k ∧ (∀ x ∈ p.take k, inB x (-1) 19 = true) ∧ Mem w wr [.blk g7 98 (ints .i64 (counts (p.take k)))])
      (fun v _ => p.length - (intOf v).toNat)
    case atStart => exact ⟨0, by omega, rfl, fun x hx => by simp at hx, M.out⟩
    case round =>
      clear M
      obtain ⟨k, hk, rfl, he, mm⟩ := hrel
      have M := Lib.hid mm
      have HE := Lib.hid he
      clear mm he
      by_cases hlt : k < p.length
      · obtain ⟨b, off, rfl, hr⟩ := (M.out.sl HT.out).2 (by omega)
        have x0 : wr.cell? ⟨b, off + k, none⟩ = some (.int .i64 p[k]) := by simpa [oneI] using range_at oneI_len hr (List.getElem?_eq_getElem hlt) 0 _ rfl
        have HMM := Lib.hid (List.getElem_mem hlt)
        have HTK := Lib.hid (List.take_succ_eq_append_getElem hlt)
        have HSU := Lib.hid (in_succ hlt HE.out)
        have i0 : (0 : Int) ≤ (k : Int) := by omega
        have i1 : (k : Int) < (p.length : Int) := by omega
        obtain ⟨y, hy⟩ : ∃ y, y = p[k] := ⟨_, rfl⟩
        rw [← hy] at x0 HMM HTK HSU
        clear hr hy
        cases hq : inB y (-1) 19
        · have HQ := Lib.hid hq
          clear hq
          go_wp2_with (first
            | (go_at_call 66; go_must (refine (within_any _ _ _ _).mono ?_); rintro e w_ ⟨rfl, rfl⟩; rw [HQ.out])
            )
          go_ret
          exact ⟨ret_bool (by rw [HPO.out, not_planIn HMM.out HQ.out]; rfl), M.out.take 0⟩
        · have HQ := Lib.hid hq
          obtain ⟨y0, y1⟩ := inB_iff.1 hq
          clear hq
          by_cases hn : 0 ≤ y
          · obtain ⟨d, rfl⟩ : ∃ d : Nat, y = d := ⟨y.toNat, by omega⟩
            have hd : d < 20 := by omega
            have j1 : (d : Int) < 20 := by omega
            have hb := cntOf_b (p.take k) d
            rw [List.length_take] at hb
            have e1 : IntKind.i64.wrap (cntOf (p.take k) d + 1) = cntOf (p.take k) d + 1 := IntWalk.i64_in _ (by omega)
            have c0 := M.out.cell 0 rfl (ints_at (k := .i64) (xs := counts (p.take k)) (i := d) (by rw [counts_len]; omega))
            rw [counts_gi _ hd] at c0
            have HCP := Lib.hid (counts_put (q := p.take k) hd)
            have SZ := Lib.hid (show d < (ints .i64 (counts (p.take k))).size by rw [ints_size, counts_len]; omega)
            clear hb
            go_wp2_with (first
              | (go_at_call 66; go_must (refine (within_any _ _ _ _).mono ?_); rintro e w_ ⟨rfl, rfl⟩; rw [HQ.out])
              | ((with_reducible refine gate_store (x := .tmp 41) rfl ?_); go_must (refine M.out.ev_put 0 _ _ _ rfl rfl rfl rfl (.int .i64 (cntOf (p.take k) d + 1)) rfl SZ.out sz2 rfl rfl ?_); intro wn m; simp only [List.set_cons_zero] at m; have M := Lib.hid m; clear m)
              )
            refine ⟨⟨k + 1, by omega, by go_num, HSU.out HQ.out, ?_⟩, by simp [intOf]; omega⟩
            have mm := M.out
            rw [ints_set] at mm
            rw [HTK.out, HCP.out]
            exact mm
          · have HN := Lib.hid hn
            go_wp2_with (first
              | (go_at_call 66; go_must (refine (within_any _ _ _ _).mono ?_); rintro e w_ ⟨rfl, rfl⟩; rw [HQ.out])
              )
            refine ⟨⟨k + 1, by omega, by go_num, HSU.out HQ.out, ?_⟩, by simp [intOf]; omega⟩
            rw [HTK.out, counts_neg (by have := HN.out; omega)]
            exact M.out
      · obtain rfl : k = p.length := by omega
        rw [List.take_length] at M
        have he := HE.out
        rw [List.take_length] at he
        have HIN := Lib.hid (planIn_of he)
        have HFM := Lib.hid (planFit_max p h)
        have hcl := counts_len p
        have MX := Lib.hid (fun (g cc : Nat) (wx : World) (hq : Sl wx 1 (some ⟨g, 0, none⟩) 20 (flat oneI (counts p))) => maxS_any (some ⟨g, 0, none⟩) cc (counts p) (by omega) (by omega) wx (by rw [hcl]; exact hq))
        rw [hcl] at MX
        have SLI := Lib.hid (fun (g : Nat) (t : TypeId) (wx : World) (hq : Blk wx g t (ints .i64 (counts p))) => sl_ints hq)
        rw [hcl] at SLI
        obtain ⟨mx, hmx⟩ : ∃ mx, mx = maxL (counts p) := ⟨_, rfl⟩
        rw [← hmx] at MX HFM
        clear hmx he
        go_wp2_with (first
          | (go_at_call 67; go_must (refine (MX.out _ _ _ (SLI.out _ _ _ (M.out.blk 0 rfl))).mono ?_); rintro e w_ ⟨rfl, rfl⟩)
          )
        go_ret
        exact ⟨ret_bool (by rw [HPO.out, HIN.out, HFM.out, Bool.true_and]), M.out.take 0⟩
  · have HP := Lib.hid hp
    have HH := Lib.hid hh
    have HQL := Lib.hid hq
    have hqb : ((p.length : Int) != (xs.length : Int)) = true := by simp; omega
    clear hp hh hq
    go_enter Try.func17, Try.ntmps17
    go_wp2_with (first
      | (go_at_call 18; go_must (refine (ValidPlots_any A n xs HX.out hl _ (M.out.sl HS.out)).mono ?_); rintro e w_ ⟨rfl, N_⟩; have m := M.out.join N_; clear N_; simp only [List.cons_append, List.nil_append, List.append_nil] at m; have M := Lib.hid m; clear m; rw [HP.out])
      | (go_at_call 54; go_must (refine (areHands_any _ _).mono ?_); rintro e w_ ⟨rfl, rfl⟩; rw [HH.out])
      )
    go_ret
    exact ⟨ret_bool (by simp [planOk, HQL.out]), M.out.take 0⟩
end Go.Proofs.Ytdnofkngljjbmaa
namespace Go.Proofs.Ytdnofkngljjbmaa
set_option linter.unusedSimpArgs false
set_option linter.unusedVariables false
open Go.RowKit

theorem Mem.row_cap {w0 w : World} {L : List Ent} (M : Mem w0 w L) (i : Nat) {A : Option Addr} {m c : Nat} {e : TypeId} {sz n : Nat} {cs : List Value} (h : L[i]? = some (.row (.slice A m c) e sz n cs)) : c ≤ 9223372036854775807 := by
  obtain ⟨A', c', he, _, hm⟩ := M.row_slice i h
  injection he with _ _ he
  unfold maxLen at hm
  omega
theorem Mem.row_le {w0 w : World} {L : List Ent} (M : Mem w0 w L) (i : Nat) {A : Option Addr} {m c : Nat} {e : TypeId} {sz n : Nat} {cs : List Value} (h : L[i]? = some (.row (.slice A m c) e sz n cs)) : n ≤ c ∧ m = n := by
  obtain ⟨A', c', he, hm, _⟩ := M.row_slice i h
  injection he with _ he2 he
  omega
end Go.Proofs.Ytdnofkngljjbmaa
namespace Go.Proofs.Ytdnofkngljjbmaa
set_option linter.unusedSimpArgs false
set_option linter.unusedVariables false
open Go.RowKit

theorem any3k {P : Program} {md : Region.Mode} {ops : Array Oper} {Q : Exit → Act → World → Prop} {fuel : Nat} {listed : Array Bool} {a : Act} {w : World} (i j l : Nat) {o o' o'' : Oper}
    (hr : Region.ready md ops listed = [i, j, l]) (ho : ops[i]? = some o) (ho' : ops[j]? = some o') (ho'' : ops[l]? = some o'')
    (h : ∀ K : Act → World → Prop, (∀ a w, wpAny P md ops Q fuel (listed.setIfInBounds i true) a w → K a w) → wpList P ops (onward K) [o] a w)
    (h' : ∀ K : Act → World → Prop, (∀ a w, wpAny P md ops Q fuel (listed.setIfInBounds j true) a w → K a w) → wpList P ops (onward K) [o'] a w)
    (h'' : ∀ K : Act → World → Prop, (∀ a w, wpAny P md ops Q fuel (listed.setIfInBounds l true) a w → K a w) → wpList P ops (onward K) [o''] a w) : wpAny P md ops Q (fuel + 1) listed a w :=
  wpAny_all hr (by simp) fun k hk => by
    rcases List.mem_cons.1 hk with rfl | hk
    · exact wpOp_onward ho (h _ fun _ _ h => h)
    · rcases List.mem_cons.1 hk with rfl | hk
      · exact wpOp_onward ho' (h' _ fun _ _ h => h)
      · rw [List.mem_singleton.1 hk]
        exact wpOp_onward ho'' (h'' _ fun _ _ h => h)
/-- A pure operation, its place told. -/
theorem takeD {P : Program} {md : Region.Mode} {ops : Array Oper} {Q : Exit → Act → World → Prop} {i : Nat} {oi : Oper} {v : Value} {fuel : Nat} {listed : Array Bool} {a : Act} {w : World} (d : Tmp) (hi : ops[i]? = some oi)
    (hs : Region.noSelect ops = true) (hf : Region.free md ops listed i = true) (hr : (Region.ready md ops listed).contains i = true)
    (hQ : ∀ c a w, Q (.panic c) (a.put oi.dst v) w → Q (.panic c) a w) (hd : oi.dst = some d) (hy : Yields P ops oi v a)
    (h : wpAny P md ops Q fuel (listed.setIfInBounds i true) (a.put (some d) v) w) : wpAny P md ops Q (fuel + 1) listed a w :=
  wpAny_take hi hs hf hr hQ hy (by rw [hd]; exact h)
end Go.Proofs.Ytdnofkngljjbmaa
