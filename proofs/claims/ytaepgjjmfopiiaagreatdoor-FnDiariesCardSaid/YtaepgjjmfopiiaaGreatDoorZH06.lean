/- Texts of a proof, laid together: WayP, NeqF, Gen2. -/
import Derived.Test.YtaepgjjmfopiiaaGreatDoorZH02
import Derived.Test.YtaepgjjmfopiiaaGreatDoorZH05
import Derived.Test.YtaepgjjmfopiiaaGreatDoorZH00
import Derived.Laws.StructEq
namespace Go.Proofs.YtaepgjjmfopiiaaGreatDoor
set_option linter.unusedSimpArgs false
set_option linter.unusedVariables false
open Go.RowKit

/-- The entry for a cell, if one is needed. -/
def wayAt (F G : Fld) (k : Nat) : List Entry :=
  if 0 < G.seed k - F.seed k then [⟨0, k, G.seed k - F.seed k⟩] else if G.seed k - F.seed k < 0 then [⟨1, k, F.seed k - G.seed k⟩] else []
def wayOf (F G : Fld) (ks : List Nat) : List Entry := ks.flatMap (wayAt F G)
theorem wayAt_congr {F H : Fld} (G : Fld) {k : Nat} (h : H.seed k = F.seed k) : wayAt H G k = wayAt F G k := by unfold wayAt; rw [h]
theorem wayOf_congr {F H G : Fld} : ∀ {ks : List Nat}, (∀ k ∈ ks, H.seed k = F.seed k) → wayOf H G ks = wayOf F G ks
  | [], _ => rfl
  | k :: r, h => by
    have := wayOf_congr (G := G) fun j hj => h j (List.mem_cons_of_mem _ hj)
    unfold wayOf at this ⊢
    rw [List.flatMap_cons, List.flatMap_cons, wayAt_congr G (h k (by simp)), this]
theorem wayOf_filter {F G : Fld} (p : Nat → Bool) : ∀ ks : List Nat, (∀ k ∈ ks, p k = false → F.seed k = G.seed k) → wayOf F G (ks.filter p) = wayOf F G ks
  | [], _ => rfl
  | k :: r, h => by
    have ih := wayOf_filter (F := F) (G := G) p r fun j hj => h j (List.mem_cons_of_mem _ hj)
    unfold wayOf at ih ⊢
    rw [List.filter_cons, List.flatMap_cons]
    by_cases hk : p k = true
    · rw [if_pos hk, List.flatMap_cons, ih]
    · rw [if_neg hk, ih]
      have e := h k (by simp) (by simpa using hk)
      rw [show wayAt F G k = [] by unfold wayAt; rw [if_neg (by omega), if_neg (by omega)], List.nil_append]
/-- One cell becomes as it is in the other field. -/
theorem way_valid {F G : Fld} (hF : F.ok) (hv : F.valid = true) (hg : G.valid = true) (n : Near F G) {k : Nat} (hk : k < 100) : (F.withSeed k (G.seed k)).ok ∧ (F.withSeed k (G.seed k)).valid = true := by
  have g := Fld.okAt_iff.1 (Fld.valid_at hg hk)
  rw [n.kind, n.has] at g
  obtain ⟨a, b⟩ := Fld.valid_wh hv
  refine ⟨Fld.withSeed_okF hF k _ (by omega), Fld.valid_of a b fun j hj => ?_⟩
  have h2 := Fld.okAt_iff.1 (Fld.valid_at hv hj)
  refine Fld.okAt_iff.2 ?_
  rw [Fld.seed_ws hF.toLen hk, show (F.withSeed k (G.seed k)).kind j = F.kind j from rfl, show (F.withSeed k (G.seed k)).has j = F.has j from rfl]
  by_cases hjk : j = k
  · subst hjk
    rw [if_pos rfl]
    exact g
  · rw [if_neg hjk]
    exact h2
theorem withSeed_self {F : Fld} (h : F.len) {k : Nat} (hk : k < 100) : F.withSeed k (F.seed k) = F := by
  obtain ⟨w, hi, ks, ss⟩ := F
  unfold Fld.withSeed Fld.seed
  simp only [Fld.mk.injEq, true_and]
  have hl : k < ss.length := by have := h.sl; simp only at this; omega
  apply List.ext_getElem?
  intro j
  rw [List.getElem?_set]
  split
  · rename_i e
    subst e
    simp [gi, List.getD, List.getElem?_eq_getElem hl]
  · rfl
/-- The field with some cells as they are in the other. -/
def fillF (F G : Fld) (ks : List Nat) : Fld := ks.foldl (fun H k => H.withSeed k (G.seed k)) F
theorem way_at {F G : Fld} (hF : F.ok) (hv : F.valid = true) (hg : G.valid = true) (n : Near F G) {k : Nat} (hk : k < 100) (r : List Entry) :
    firstBad F (wayAt F G k ++ r) = (firstBad (F.withSeed k (G.seed k)) r).map (fun p => (p.1 + (wayAt F G k).length, p.2)) ∧ F.thru (wayAt F G k ++ r) = (F.withSeed k (G.seed k)).thru r := by
  have f := Fld.okAt_iff.1 (Fld.valid_at hv hk)
  have g := Fld.okAt_iff.1 (Fld.valid_at hg hk)
  rw [n.kind, n.has] at g
  unfold wayAt
  by_cases h1 : 0 < G.seed k - F.seed k
  · rw [if_pos h1]
    have hk0 : F.kind k = 0 := Classical.byContradiction fun e => by have := g.2.2.2.2.1 e; have := f.2.2.1; omega
    have hh : F.has k = true := by
      cases e : F.has k with
      | true => rfl
      | false => have := (g.2.2.2.2.2 e).2; have := f.2.2.1; omega
    have hc : F.code ⟨0, k, G.seed k - F.seed k⟩ = 0 := by
      unfold Fld.code
      have hp : (⟨0, (k : Int), G.seed k - F.seed k⟩ : Entry).plain = true := by
        simp only [Entry.plain, inB, Bool.and_eq_true, decide_eq_true_eq]
        omega
      simp only [hp, hh, Int.toNat_natCast, hk0]
      rw [if_neg (by simp), if_neg (by simp), if_pos trivial, if_neg (by omega)]
    have hm : F.made ⟨0, k, G.seed k - F.seed k⟩ = F.withSeed k (G.seed k) := by
      unfold Fld.made
      simp only [Int.toNat_natCast]
      rw [if_pos trivial]
      congr 1
      omega
    refine ⟨?_, ?_⟩
    · rw [List.singleton_append, firstBad, if_neg (by simpa using hc), hm]
      rfl
    · rw [List.singleton_append]
      unfold Fld.thru
      rw [List.foldl_cons, hm]
  · rw [if_neg h1]
    by_cases h2 : G.seed k - F.seed k < 0
    · rw [if_pos h2]
      have hk0 : F.kind k = 0 := Classical.byContradiction fun e => by have := f.2.2.2.2.1 e; have := g.2.2.1; omega
      have hh : F.has k = true := by
        cases e : F.has k with
        | true => rfl
        | false => have := (f.2.2.2.2.2 e).2; have := g.2.2.1; omega
      have hc : F.code ⟨1, k, F.seed k - G.seed k⟩ = 0 := by
        unfold Fld.code
        have hp : (⟨1, (k : Int), F.seed k - G.seed k⟩ : Entry).plain = true := by
          simp only [Entry.plain, inB, Bool.and_eq_true, decide_eq_true_eq]
          omega
        simp only [hp, hh, Int.toNat_natCast, hk0]
        rw [if_neg (by simp), if_neg (by simp), if_neg (by decide), if_neg (by omega)]
      have hm : F.made ⟨1, k, F.seed k - G.seed k⟩ = F.withSeed k (G.seed k) := by
        unfold Fld.made
        simp only [Int.toNat_natCast]
        rw [if_neg (by decide)]
        congr 1
        omega
      refine ⟨?_, ?_⟩
      · rw [List.singleton_append, firstBad, if_neg (by simpa using hc), hm]
        rfl
      · rw [List.singleton_append]
        unfold Fld.thru
        rw [List.foldl_cons, hm]
    · rw [if_neg h2, show G.seed k = F.seed k by omega, withSeed_self hF.toLen hk]
      refine ⟨?_, rfl⟩
      rw [List.nil_append]
      cases firstBad F r <;> simp
theorem way_thru (G : Fld) (hg : G.valid = true) : ∀ (ks : List Nat) (F : Fld), ks.Nodup → (∀ k ∈ ks, k < 100) → F.ok → F.valid = true → Near F G → firstBad F (wayOf F G ks) = none ∧ F.thru (wayOf F G ks) = fillF F G ks
  | [], F, _, _, _, _, _ => ⟨rfl, rfl⟩
  | k :: r, F, hn, hk, hF, hv, n => by
    have hk0 := hk k (by simp)
    rw [List.nodup_cons] at hn
    obtain ⟨v1, v2⟩ := way_valid hF hv hg n hk0
    obtain ⟨i1, i2⟩ := way_thru G hg r (F.withSeed k (G.seed k)) hn.2 (fun j hj => hk j (List.mem_cons_of_mem _ hj)) v1 v2 ⟨n.w, n.h, n.k⟩
    have e : wayOf (F.withSeed k (G.seed k)) G r = wayOf F G r := wayOf_congr fun j hj => by
      rw [Fld.seed_ws hF.toLen hk0, if_neg (fun e : j = k => hn.1 (by rw [← e]; exact hj))]
    rw [e] at i1 i2
    obtain ⟨a1, a2⟩ := way_at hF hv hg n hk0 (wayOf F G r)
    have e2 : wayOf F G (k :: r) = wayAt F G k ++ wayOf F G r := by unfold wayOf; rw [List.flatMap_cons]
    rw [e2, a1, a2, i1, i2]
    exact ⟨rfl, rfl⟩
theorem fillF_seed (G : Fld) : ∀ (ks : List Nat) (F : Fld), F.len → (∀ k ∈ ks, k < 100) → (fillF F G ks).len ∧ Near F (fillF F G ks) ∧ ∀ j, (fillF F G ks).seed j = if j ∈ ks then G.seed j else F.seed j
  | [], F, h, _ => ⟨h, Near.refl F, fun j => by simp [fillF]⟩
  | k :: r, F, h, hk => by
    obtain ⟨a, b, c⟩ := fillF_seed G r (F.withSeed k (G.seed k)) (Fld.withSeed_len h k _) fun j hj => hk j (List.mem_cons_of_mem _ hj)
    refine ⟨a, ⟨b.w, b.h, b.k⟩, fun j => ?_⟩
    have e : fillF F G (k :: r) = fillF (F.withSeed k (G.seed k)) G r := rfl
    rw [e, c j, Fld.seed_ws h (hk k (by simp))]
    by_cases hj : j ∈ r
    · rw [if_pos hj, if_pos (List.mem_cons_of_mem _ hj)]
    · rw [if_neg hj]
      by_cases hjk : j = k
      · subst hjk; rw [if_pos rfl, if_pos (by simp)]
      · rw [if_neg hjk, if_neg (by simp [hj, hjk])]
theorem fillF_all {F G : Fld} (h : F.len) (hg : G.len) (n : Near F G) : fillF F G (List.range 100) = G := by
  obtain ⟨a, b, c⟩ := fillF_seed G (List.range 100) F h fun k hk => List.mem_range.1 hk
  have e : (fillF F G (List.range 100)).seeds = G.seeds := by
    apply List.ext_getElem
    · rw [a.sl, hg.sl]
    · intro j h1 h2
      have := c j
      rw [if_pos (List.mem_range.2 (by rw [a.sl] at h1; exact h1))] at this
      simpa [Fld.seed, gi, List.getD, List.getElem?_eq_getElem h1, List.getElem?_eq_getElem h2] using this
  have e1 := b.w; have e2 := b.h; have e3 := b.k
  have n1 := n.w; have n2 := n.h; have n3 := n.k
  generalize fillF F G (List.range 100) = H at *
  obtain ⟨w1, h1, k1, s1⟩ := H
  obtain ⟨w2, h2, k2, s2⟩ := G
  simp only at e e1 e2 e3 n1 n2 n3
  rw [e, e1, e2, e3, n1, n2, n3]
/-- The diary leads there. -/
theorem way_end {F G : Fld} (hF : F.ok) (hv : F.valid = true) (hG : G.ok) (hg : G.valid = true) (n : Near F G) : firstBad F (wayOf F G (List.range 100)) = none ∧ F.thru (wayOf F G (List.range 100)) = G := by
  obtain ⟨a, b⟩ := way_thru G hg (List.range 100) F List.nodup_range (fun k hk => List.mem_range.1 hk) hF hv n
  exact ⟨a, b.trans (fillF_all hF.toLen hG.toLen n)⟩
theorem wayAt_len (F G : Fld) (k : Nat) : (wayAt F G k).length ≤ 1 := by
  unfold wayAt
  split
  · simp
  · split <;> simp
theorem wayOf_len (F G : Fld) : ∀ ks : List Nat, (wayOf F G ks).length ≤ ks.length
  | [] => by simp [wayOf]
  | k :: r => by
    have h1 := wayAt_len F G k
    have h2 := wayOf_len F G r
    unfold wayOf at h2 ⊢
    rw [List.flatMap_cons, List.length_append, List.length_cons]
    omega
/-- What is less in all cells, in some. -/
def lessIn (F G : Fld) : List Nat → Int
  | [] => 0
  | k :: r => F.seed k - G.seed k + lessIn F G r
end Go.Proofs.YtaepgjjmfopiiaaGreatDoor
namespace Go.Proofs.YtaepgjjmfopiiaaGreatDoor
set_option linter.unusedSimpArgs false
set_option linter.unusedVariables false
open Go.RowKit
theorem run_eqArr {P : Program} (d : Nat) (t e : TypeId) (n : Nat) (k : IntKind) (l : List Int) (hl : l.length = n) (hu : P.underlying t = some (.array n e)) (he : P.underlying e = some (.int k)) (ha : ∀ w, Sem.run P (isAgg e) w = .ok false w) (hz : ∀ w, Sem.run P (sizeOf e) w = .ok 1 w) (w : World) :
    (Op.equalIn (d + 2) t (.agg (ints k l)) (.agg (ints k l))).run P w = .ok true w := by
  have key : ∀ m s, s + m ≤ n → Sem.run P (forIn (List.range' s m) ((none, ()) : Option Bool × Unit) fun i _ => do
      let a ← part e (ints k l) (i * 1)
      let b ← part e (ints k l) (i * 1)
      let c ← Op.equalIn (d + 1) e a b
      if (!c) = true then pure (ForInStep.done (some false, ())) else pure (ForInStep.yield (none, ()))) w = .ok (none, ()) w := by
    intro m
    induction m with
    | zero => intro s _; simp
    | succ m ih =>
      intro s hs
      have x0 : (ints k l)[s * 1]? = some (.int k (gi l s)) := by rw [Nat.mul_one]; exact ints_at (by omega)
      rw [List.range'_succ, List.forIn_cons]
      have hp : Sem.run P (part e (ints k l) (s * 1)) w = .ok (.int k (gi l s)) w := by
        unfold part
        simp only [Sem.run_bind, ha, Result.andThen_ok, Bool.false_eq_true, if_false, x0, Sem.run_pure]
      simp only [Sem.run_bind, hp, Result.andThen_ok, run_equalIn_int _ d e k k _ _ he, beq_self_eq_true, Bool.not_true, Bool.false_eq_true, if_false, Sem.run_pure]
      exact ih (s + 1) (by omega)
  rw [Op.equalIn]
  simp only [Sem.run_bind, run_underlying hu, Result.andThen_ok]
  simp only [Std.Legacy.Range.forIn_eq_forIn_range', Std.Legacy.Range.size, Nat.sub_zero, Nat.add_sub_cancel, Nat.div_one, hz, Result.andThen_ok]
  rw [key n 0 (by omega)]
  rfl
theorem ext_ints {cs : Array Value} {k : IntKind} {xs : List Int} {off : Nat} (h : ∀ j v, (xs.map (Value.int k))[j]? = some v → cs[off + j]? = some v) (hs : off + xs.length ≤ cs.size) : cs.extract off (off + xs.length) = ints k xs := by
  apply Array.ext'
  apply List.ext_getElem?
  intro j
  rw [Array.getElem?_toList, Array.getElem?_toList, Array.getElem?_extract]
  rcases Nat.lt_or_ge j xs.length with hj | hj
  · have hv : (xs.map (Value.int k))[j]? = some (.int k xs[j]) := by rw [List.getElem?_map, List.getElem?_eq_getElem hj]; rfl
    rw [if_pos (by omega), h j _ hv]
    simp [ints, hj]
  · rw [if_neg (by omega)]
    simp [ints, hj]
theorem eqFields_self {P : Program} (d : Nat) (xs : Array Value) (w : World) : ∀ fs : List Field, (∀ f ∈ fs, ∃ a, Sem.run P (part f.type xs f.offset) w = .ok a w ∧ Sem.run P (Op.equalIn d f.type a a) w = .ok true w) → Sem.run P (Op.eqFields d xs xs fs) w = .ok true w
  | [], _ => by simp [Op.eqFields]
  | f :: fs, h => by
    obtain ⟨a, h1, h2⟩ := h f (List.mem_cons_self ..)
    have ih := eqFields_self d xs w fs fun g hg => h g (List.mem_cons_of_mem _ hg)
    rw [Op.eqFields]
    split
    · simp only [Sem.run_bind, h1, h2, Result.andThen_ok, Bool.not_true, Bool.false_eq_true, if_false]
      exact ih
    · exact ih
theorem neqFld (F : Fld) (hF : F.len) (w : World) : (binOp .neq 29 (.agg F.cells) (.agg F.cells)).run Tryz.prog w = .ok (.bool false) w := by
  have s1 := Fld.size hF
  have e1 : F.cells.extract 2 102 = ints .u8 F.kinds := by
    have := ext_ints (fun j v hv => Fld.cellsK hF j v hv) (by rw [s1, hF.kl]; omega)
    rwa [hF.kl] at this
  have e2 : F.cells.extract 102 202 = ints .i16 F.seeds := by
    have := ext_ints (fun j v hv => Fld.cellsS hF j v hv) (by rw [s1, hF.sl]; omega)
    rwa [hF.sl] at this
  have q1 := run_eqArr 9997 25 5 100 .u8 F.kinds hF.kl Tryz.underlying25 Tryz.underlying5 Tryz.isAgg5 Tryz.sizeOf5 w
  have q2 := run_eqArr 9997 27 26 100 .i16 F.seeds hF.sl Tryz.underlying27 Tryz.underlying26 Tryz.isAgg26 Tryz.sizeOf26 w
  have c0 := Fld.cell0 F
  have c1 := Fld.cell1 F
  have u24 := Tryz.underlying24
  have a24 := Tryz.isAgg24
  have a25 := Tryz.isAgg25
  have a27 := Tryz.isAgg27
  have z25 := Tryz.sizeOf25
  have z27 := Tryz.sizeOf27
  rw [run_neq_struct, show (10000 : Nat) = 9999 + 1 from rfl, run_equalIn_struct w 9999 29 _ _ (by kernel_rfl) (by kernel_rfl)]
  rw [eqFields_self 9999 F.cells w _ fun f hf => ?_]
  · rfl
  · have hall : ((Tryz.prog.fieldsOf 29).toList.all fun f => (f.type == 24 && f.offset == 0) || (f.type == 24 && f.offset == 1) || (f.type == 25 && f.offset == 2) || (f.type == 27 && f.offset == 102)) = true := by kernel_rfl
    have h1 := List.all_eq_true.1 hall f hf
    simp only [Bool.or_eq_true, Bool.and_eq_true, beq_iff_eq] at h1
    rcases h1 with ((⟨h1, h2⟩ | ⟨h1, h2⟩) | ⟨h1, h2⟩) | ⟨h1, h2⟩ <;> rw [h1, h2]
    · refine ⟨_, ?_, run_equalIn_int w 9998 24 .i8 .i8 F.wide F.wide u24 |>.trans (by rw [beq_self_eq_true])⟩
      unfold part
      simp only [Sem.run_bind, a24, Result.andThen_ok, Bool.false_eq_true, if_false, c0, Sem.run_pure]
    · refine ⟨_, ?_, run_equalIn_int w 9998 24 .i8 .i8 F.high F.high u24 |>.trans (by rw [beq_self_eq_true])⟩
      unfold part
      simp only [Sem.run_bind, a24, Result.andThen_ok, Bool.false_eq_true, if_false, c1, Sem.run_pure]
    · refine ⟨_, ?_, q1⟩
      unfold part
      simp only [Sem.run_bind, a25, z25, Result.andThen_ok, if_true, Sem.run_pure, e1]
    · refine ⟨_, ?_, q2⟩
      unfold part
      simp only [Sem.run_bind, a27, z27, Result.andThen_ok, if_true, Sem.run_pure, e2]
end Go.Proofs.YtaepgjjmfopiiaaGreatDoor
namespace Go.Proofs.YtaepgjjmfopiiaaGreatDoor
set_option linter.unusedSimpArgs false
set_option linter.unusedVariables false
open Go.RowKit

theorem Mem.row_le {w0 w : World} {L : List Ent} (M : Mem w0 w L) (i : Nat) {A : Option Addr} {m c : Nat} {e : TypeId} {sz n : Nat} {cs : List Value} (h : L[i]? = some (.row (.slice A m c) e sz n cs)) : n ≤ c ∧ m = n := by
  obtain ⟨A', c', he, hm, _⟩ := M.row_slice i h
  injection he with _ he2 he
  omega
end Go.Proofs.YtaepgjjmfopiiaaGreatDoor
