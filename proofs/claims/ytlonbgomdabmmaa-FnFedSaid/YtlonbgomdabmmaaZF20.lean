/- Texts of a proof, laid together: U8, FedC. -/
import Derived.Test.YtlonbgomdabmmaaZF16
import Derived.Test.YtlonbgomdabmmaaZF02
import Derived.Test.YtlonbgomdabmmaaZF18
import Derived.Test.YtlonbgomdabmmaaZF19
namespace Go.Proofs.Ytlonbgomdabmmaa
set_option linter.unusedSimpArgs false
set_option linter.unusedVariables false
open Go.RowKit

def U8.vals (x : Int) : List Value := oneB x
def U8.ok (x : Int) : Prop := 0 ≤ x ∧ x ≤ 255
def U8.ks : List IntKind := [.u8]
theorem U8.vl (x : Int) : (U8.vals x).length = 1 := rfl
theorem U8.of_conf (cs : List Value) (h : Conf U8.ks cs) : ∃ x : Int, U8.ok x ∧ U8.vals x = cs := by
  obtain ⟨e0, r, rfl, w0, h⟩ := h.cons
  obtain rfl := h.nil_eq
  exact ⟨e0, bounds_u8 w0, rfl⟩
theorem U8.bytes {bs : List Int} (h : ∀ x ∈ bs, U8.ok x) (hl : bs.length ≤ 4096) : Bytes bs := ⟨h, hl⟩
end Go.Proofs.Ytlonbgomdabmmaa
namespace Go.Proofs.Ytlonbgomdabmmaa
set_option linter.unusedSimpArgs false
set_option linter.unusedVariables false
open Go.RowKit
attribute [local go_sem] cell?_mk frozen?_mk

/-- What is called at one of the days. -/
structure FedDay (fs : List Int) (xs : List Flock) (K K' : Fld) (y : Int) : Prop where
  ok : K.ok
  v : K.valid = true
  ok' : K'.ok
  v' : K'.valid = true
  y : y = seedSum K 100 - seedSum K' 100
  sa : ∃ us : List Visit, ∀ A n w, Sl w 6 A xs.length (flat Flock.vals xs) → Calls Try.prog 9 #[.agg K.cells, .agg (ints .i16 fs), .slice A xs.length n] w (RetFV w K' us 0)
structure FedCalls (F : Fld) (fs : List Int) (xs : List Flock) (G : Fld) (vs : List Visit) (E H : List Int) (x0 : Flock) (G1 : Fld) (ws : List Visit) (O : Fld) (V : Visit) (z : Int) (D : Fld) (L : List Int) (K : Nat → Fld) : Prop where
  say : FedSay F fs xs G vs E H
  xh : xs[0]? = some x0
  fine0 : x0.fine F = true
  vok : ∀ v ∈ vs, v.ok
  vl : vs.length ≤ 12
  wl : ws.length ≤ 4
  hl : H.length ≤ 1048576
  g1 : G1.len
  ol : O.len
  dl : D.len
  fa : ∀ A n w, Sl w 6 A xs.length (flat Flock.vals xs) → Calls Try.prog 8 #[.agg F.cells, .agg (ints .i16 fs), .slice A xs.length n] w (RetFV w G vs 0)
  sa : ∀ A n w, Sl w 6 A xs.length (flat Flock.vals xs) → Calls Try.prog 9 #[.agg F.cells, .agg (ints .i16 fs), .slice A xs.length n] w (RetFV w G vs 0)
  eb : ∀ A n B m w, Sl w 6 A xs.length (flat Flock.vals xs) → Sl w 3 B vs.length (flat Visit.vals vs) → Calls Try.prog 11 #[.agg F.cells, .slice A xs.length n, .slice B vs.length m] w (RetRowC w 2 1 E.length (flat oneI E) 0)
  sh : ∀ A n w, Sl w 6 A xs.length (flat Flock.vals xs) → Calls Try.prog 12 #[.agg F.cells, .agg (ints .i16 fs), .slice A xs.length n] w (RetRowC w 2 1 H.length (flat oneI H) 0)
  ho : ∀ i x, xs[i]? = some x → hgr xs i = x.birds * x.eats ∧ (0 ≤ x.birds ∧ x.birds ≤ 5) ∧ (0 ≤ x.eats ∧ x.eats ≤ 4) ∧ ∀ w, Calls Try.prog 15 #[.agg F.cells, .agg x.vals.toArray] w fun e w' => e = .returned (.tuple #[.int .i64 (hgr xs i), .int .i64 0]) ∧ Mem w w' []
  ff : ∀ w, Calls Try.prog 18 #[.agg F.cells, .agg (ints .i16 fs), .agg x0.vals.toArray] w (RetFV w G1 ws 0)
  sf : ∀ w, Calls Try.prog 19 #[.agg F.cells, .agg (ints .i16 fs), .agg x0.vals.toArray] w (RetFV w G1 ws 0)
  eo : ∀ w, Calls Try.prog 20 #[.agg F.cells, .agg (ints .i16 fs), .agg x0.vals.toArray] w fun e w' => e = .returned (.tuple #[.agg O.cells, .agg V.vals.toArray, .int .i64 z]) ∧ Mem w w' []
  o1 : z = 0 → ws[0]? = some V ∧ ∃ k : Nat, k < 100 ∧ V.cell = k ∧ O = F.withSeed k (F.seed k - V.seeds) ∧ 0 ≤ V.seeds ∧ V.seeds ≤ 1000 ∧ 0 ≤ F.seed k ∧ F.seed k ≤ 1000
  o2 : z ≠ 0 → ws = []
  fd : ∀ A n w, Sl w 6 A xs.length (flat Flock.vals xs) → Calls Try.prog 21 #[.agg F.cells, .agg (ints .i16 fs), .slice A xs.length n, .int .i64 3] w (RetFI w D L 0)
  l3 : L.length = 3
  k0 : K 0 = F
  k3 : K 3 = D
  day : ∀ d, d < 3 → FedDay fs xs (K d) (K (d + 1)) (gi L d)
  bi : ∀ A n w, Sl w 6 A xs.length (flat Flock.vals xs) → Calls Try.prog 23 #[.agg F.cells, .slice A xs.length n] w fun e w' => e = .returned (.tuple #[.int .i64 (birdsTo xs xs.length), .int .i64 0]) ∧ Mem w w' []
  sp : ∀ b : Int, 0 ≤ b → b ≤ x0.birds → ∃ ys : List Flock, ys.length = xs.length + 1 ∧ ys[xs.length]? = some { x0 with birds := b } ∧
    (∀ A n, xs.length ≤ n → n ≤ 9223372036854775807 → (A = none → n = 0) → ∀ w, Sl w 6 A xs.length (flat Flock.vals xs) → Calls Try.prog 25 #[.agg F.cells, .slice A xs.length n, .int .i64 0, .int .i64 b] w (RetRowC w 48 6 ys.length (flat Flock.vals ys) 0)) ∧
    (∀ A n w, Sl w 6 A ys.length (flat Flock.vals ys) → Calls Try.prog 23 #[.agg F.cells, .slice A ys.length n] w fun e w' => e = .returned (.tuple #[.int .i64 (birdsTo xs xs.length), .int .i64 0]) ∧ Mem w w' [])
  mv : ∀ A n, xs.length ≤ n → n ≤ 9223372036854775807 → (A = none → n = 0) → ∀ w, Sl w 6 A xs.length (flat Flock.vals xs) → Calls Try.prog 26 #[.agg F.cells, .slice A xs.length n, .int .i64 0, .int .i64 x0.tree] w (RetRowC w 48 6 xs.length (flat Flock.vals xs) 0)
theorem fl_code {F : Fld} {xs : List Flock} (hv : F.valid = true) (hf : flocksOk F xs = true) (h1 : 1 ≤ xs.length) {p : Bool} (hp : p = true) : flCode F xs 0 p = 0 := by
  rw [flCode, hv, hf, hp, inB_iff.2 ⟨Int.le_refl 0, by omega⟩]
  rfl
set_option maxRecDepth 100000 in
set_option maxHeartbeats 2000000 in
theorem fedCalls {F : Fld} (W : Wood F) {fs : List Int} (A : Afr F fs) {xs : List Flock} {x0 : Flock} {r : List Flock} (hxs : xs = x0 :: r) (hx : ∀ x ∈ xs, Flk F x) (h3 : xs.length ≤ 3) :
    FedCalls F fs xs (dayOf F fs xs).1 (dayOf F fs xs).2.1 (sumsOf xs.length (dayOf F fs xs).2.1) (hungryTo (dayOf F fs xs).2.2 xs.length) x0 (feedOf F fs x0 0).1 (feedOf F fs x0 0).2.1 (eoF F fs x0) (eoV F fs x0) (eoCode F fs x0) (fdTo F fs xs 3).1 (fdTo F fs xs 3).2 (fun d => (fdTo F fs xs d).1) := by
  have hv := W.valid
  have hF := W.ok
  have h1 : 1 ≤ xs.length := by rw [hxs]; simp
  have hfi : ∀ x ∈ xs, x.fine F = true := fun x h => (hx x h).fine
  have hok : ∀ x ∈ xs, x.ok := fun x h => (hx x h).ok
  have hp : ∀ x ∈ xs, x.plain = true := fun x h => fine_plain (hfi x h)
  have hfo : flocksOk F xs = true := by
    rw [flocksOk, show (xs.all fun y => y.fine F) = true from List.all_eq_true.2 hfi, decide_eq_true (by omega)]
    rfl
  have hb := birds_fine hv A.ok hfi (show xs.length ≤ 12 by omega)
  have hbc : birdsCode F fs xs = 0 := by rw [birdsCode, if_pos hb]
  have S := fedSay hF hv (fs := fs) hfi (show xs.length ≤ 12 by omega)
  have hm0 : x0 ∈ xs := by rw [hxs]; simp
  have hb0 := birds_fine hv A.ok (xs := [x0]) (fun y hy => by rw [List.mem_singleton.1 hy]; exact hfi x0 hm0) (by simp)
  have hbc0 : birdsCode F fs [x0] = 0 := by rw [birdsCode, if_pos hb0]
  have hdv := dayTo_visits hF fs hp (show xs.length ≤ 12 by omega) xs.length (Nat.le_refl _)
  have hfd : fdCode F fs xs 3 = 0 := by rw [fdCode, if_pos hb, if_pos (by decide)]
  have hfok := feedOf_ok hF fs (hp x0 hm0) 0
  have e1 : faF F fs xs = (dayOf F fs xs).1 := by rw [faF, if_pos hb]
  have e2 : faV F fs xs = (dayOf F fs xs).2.1 := by rw [faV, if_pos hb]
  have e3 : faF F fs [x0] = (feedOf F fs x0 0).1 := by rw [faF, if_pos hb0, dayOf_one]
  have e4 : faV F fs [x0] = (feedOf F fs x0 0).2.1 := by rw [faV, if_pos hb0, dayOf_one]
  have ec : ebCode F xs (dayOf F fs xs).2.1 = 0 := by
    rw [ebCode, hv, hfo]
    have q1 : ((dayOf F fs xs).2.1.any fun v => !inFl xs.length v) = false := by
      rw [List.any_eq_false]
      intro v hvm
      rw [(hdv v hvm).2]
      decide
    have q2 : ((dayOf F fs xs).2.1.any fun v => decide (v.seeds < 0)) = false := by
      rw [List.any_eq_false]
      intro v hvm
      obtain ⟨j, hj, rfl⟩ := List.getElem_of_mem hvm
      have := ((S.ch.at_ hF hv).2 j hj).1.s1
      simp
      omega
    rw [q1, q2]
    rfl
  have e5 : ebRes F xs (dayOf F fs xs).2.1 = sumsOf xs.length (dayOf F fs xs).2.1 := by rw [ebRes, if_pos ec]
  have e6 : shI F fs xs = hungryTo (dayOf F fs xs).2.2 xs.length := by rw [shI, if_pos hb]
  have e7 : fdF F fs xs 3 = (fdTo F fs xs 3).1 := by rw [fdF, if_pos hfd]; rfl
  have e8 : fdI F fs xs 3 = (fdTo F fs xs 3).2 := by rw [fdI, if_pos hfd]; rfl
  obtain ⟨oa, ob⟩ := once_first fs hb0
  have hall := fdTo_all hF hv (fs := fs) hfi (show xs.length ≤ 12 by omega)
  exact {
    say := S
    xh := by rw [hxs]; rfl
    fine0 := hfi x0 hm0
    vok := fun v hvm => (hdv v hvm).1
    vl := by have := S.vl; omega
    wl := hfok.2.2.2
    hl := by have := hungryTo_len (dayOf F fs xs).2.2 xs.length; omega
    g1 := hfok.1.toLen
    ol := eoF_len hF fs x0
    dl := (hall 3).1.toLen
    fa := fun B n w hs => by have := impl_FeedAll_any F hF fs A.len A.all B n xs hok (by omega) w hs; rwa [e1, e2, hbc] at this
    sa := fun B n w hs => by have := spec_FeedAll_any F hF fs A.len A.all B n xs hok (by omega) w hs; rwa [e1, e2, hbc] at this
    eb := fun B n C m w hs ht => by
      have := impl_EatenBy_any F hF B n xs hok (by omega) C m (dayOf F fs xs).2.1 (fun v hvm => (hdv v hvm).1) (by have := S.vl; omega) w hs ht
      rwa [e5, ec] at this
    sh := fun B n w hs => by have := impl_StillHungry_any F hF fs A.len A.all B n xs hok (by omega) w hs; rwa [e6, hbc] at this
    ho := fun i x hi => by
      have hm := List.mem_of_getElem? hi
      have hh : hgr xs i = x.hunger := by unfold hgr; rw [hi]
      exact ⟨by rw [hh]; rfl, (hx x hm).b5, (hx x hm).e4, fun w => by rw [hh]; exact HungerOf_any F hF hv x (hok x hm) (hfi x hm) w⟩
    ff := fun w => by have := impl_FeedFlock_any F hF fs A.len A.all x0 (hok x0 hm0) w; rwa [e3, e4, hbc0] at this
    sf := fun w => by have := spec_FeedFlock_any F hF fs A.len A.all x0 (hok x0 hm0) w; rwa [e3, e4, hbc0] at this
    eo := fun w => impl_EatOnce_any F hF fs A.len A.all x0 (hok x0 hm0) w
    o1 := fun hz => by
      obtain ⟨a, b, k, hk, hc, ho⟩ := oa hz
      have hs := W.s k
      have hat := Fld.okAt_iff.1 (W.at_ k hk)
      have hc1 := feedGo_chain (fs := fs) (xs := [x0]) (i := 0) (by simp) 4 F x0.hunger hF (hunger_small (hp x0 hm0)).1
      obtain ⟨_, c2⟩ := hc1.at_ hF hv
      have c3 := (c2 0 b).1
      have hV : (feedOf F fs x0 0).2.1[0] = eoV F fs x0 := by
        rw [List.getElem?_eq_getElem b] at a
        exact Option.some.inj a
      have s1 := c3.s1
      have s2 := c3.s2
      change 1 ≤ ((feedOf F fs x0 0).2.1[0]).seeds at s1
      change ((feedOf F fs x0 0).2.1[0]).seeds ≤ F.seed ((feedOf F fs x0 0).2.1[0]).cell.toNat at s2
      rw [hV] at s1 s2
      rw [hc, Int.toNat_natCast] at s2
      exact ⟨a, k, hk, hc, ho, by omega, by omega, by omega, by omega⟩
    o2 := ob
    fd := fun B n w hs => by have := impl_FeedDays_any F hF fs A.len A.all B n xs hok (by omega) 3 w hs; rwa [e7, e8, hfd] at this
    l3 := fdTo_len F fs xs 3
    k0 := rfl
    k3 := rfl
    day := fun d hd => by
      obtain ⟨a1, a2, a3⟩ := hall d
      obtain ⟨b1, b2, b3⟩ := hall (d + 1)
      have hbd : birdsOk (fdTo F fs xs d).1 fs xs = true := by rw [a3.birds hv a2]; exact hb
      refine ⟨a1, a2, b1, b2, fdTo_gi F fs xs d 3 hd, (dayOf (fdTo F fs xs d).1 fs xs).2.1, fun B n w hs => ?_⟩
      have := spec_FeedAll_any (fdTo F fs xs d).1 a1 fs A.len A.all B n xs hok (by omega) w hs
      rwa [faF, if_pos hbd, faV, if_pos hbd, birdsCode, if_pos hbd] at this
    bi := fun B n w hs => BirdsIn_any F hF hv B n xs hok hfi (by omega) w hs
    sp := fun b b0 b1 => by
      obtain ⟨s1, s2, s3, s4⟩ := split_all (F := F) x0 r b0 b1 (by rw [← hxs]; exact hfi) (by rw [← hxs]; exact hok)
      rw [← hxs] at s1 s2 s3 s4
      have hl1 : xs.length = r.length + 1 := by rw [hxs]; rfl
      have hfine : spFine xs 0 b = true := by
        rw [spFine, hxs]
        exact inB_iff.2 ⟨b0, b1⟩
      have hc : spCode F xs 0 b = 0 := by rw [spCode, fl_code hv hfo h1 hfine, if_neg (by decide), if_neg (by omega)]
      have hr : spRes F xs 0 b = spAt xs 0 b := by rw [spRes, if_pos hc]; rfl
      refine ⟨spAt xs 0 b, by omega, by rw [hl1]; exact s4, fun B n hn hn2 hB w hs => ?_, fun B n w hs => ?_⟩
      · have := impl_SplitFlock_any F hF B n xs hok (by omega) hn hn2 hB 0 b w hs
        rwa [hr, hc] at this
      · have := BirdsIn_any F hF hv B n (spAt xs 0 b) (fun y hy => (s1 y hy).2) (fun y hy => (s1 y hy).1) (by omega) w hs
        have e : birdsTo (spAt xs 0 b) (spAt xs 0 b).length = birdsTo xs xs.length := by rw [s2, s3, hl1]
        rwa [e] at this
    mv := fun B n hn hn2 hB w hs => by
      have ht : F.has x0.tree = true ∧ F.kind x0.tree.toNat = 3 := by
        have := hfi x0 hm0
        rw [Flock.fine, Bool.and_eq_true] at this
        have h2 := this.2
        rw [Fld.tree, Bool.and_eq_true, beq_iff_eq] at h2
        exact h2
      have hc : mvCode F xs 0 x0.tree = 0 := by rw [mvCode, fl_code hv hfo h1 ht.1, if_neg (by decide), if_pos ht.2]
      have hr : mvRes F xs 0 x0.tree = xs := by
        rw [mvRes, if_pos hc, mvAt, hxs]
        rfl
      have := impl_MoveFlock_any F hF B n xs hok (by omega) hn hn2 hB 0 x0.tree w hs
      rwa [hr, hc] at this }
theorem fed_all {F : Fld} (W : Wood F) {fs : List Int} (A : Afr F fs) {xs : List Flock} (hx : ∀ x ∈ xs, Flk F x) (h1 : 1 ≤ xs.length) (h3 : xs.length ≤ 3) :
    ∃ G vs E H x0 G1 ws O V z D L K, FedCalls F fs xs G vs E H x0 G1 ws O V z D L K := by
  cases xs with
  | nil => simp at h1
  | cons x0 r => exact ⟨_, _, _, _, _, _, _, _, _, _, _, _, _, fedCalls W A rfl hx h3⟩
end Go.Proofs.Ytlonbgomdabmmaa
