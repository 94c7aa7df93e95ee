/- Texts of a proof, laid together: Hungry, MoveF2. -/
import Derived.Test.YtlonbgomdabmmaaZF11
import Derived.Test.YtlonbgomdabmmaaZF13
import Derived.Test.YtlonbgomdabmmaaZF12
namespace Go.Proofs.Ytlonbgomdabmmaa
set_option linter.unusedSimpArgs false
set_option linter.unusedVariables false
open Go.RowKit
attribute [local go_sem] cell?_mk frozen?_mk

def seedsOf (vs : List Visit) : Int := (vs.map (·.seeds)).sum
theorem seedsOf_cons (v : Visit) (vs : List Visit) : seedsOf (v :: vs) = v.seeds + seedsOf vs := by simp [seedsOf]
/-- The visits of one flock: whose they are, and what they sum to. -/
theorem feedGo_visits (fs : List Int) (x : Flock) (i : Nat) : ∀ (m : Nat) (F : Fld) (l : Int), F.ok → 0 ≤ l → l ≤ 4000 → (∀ v ∈ (feedGo fs x i m F l).2.1, v.flock = i ∧ 0 ≤ v.cell ∧ v.cell < 100 ∧ 0 ≤ v.seeds ∧ v.seeds ≤ 4000) ∧ seedsOf (feedGo fs x i m F l).2.1 = l - (feedGo fs x i m F l).2.2
  | 0, F, l, hF, hl, h4 => ⟨fun v hv => by simp [feedGo] at hv, by simp [feedGo, seedsOf]⟩
  | m + 1, F, l, hF, hl, h4 => by
    rw [feedGo]
    split
    · exact ⟨fun v hv => by simp at hv, by simp [seedsOf]⟩
    · rename_i h
      rcases choice_of F fs x with hc | ⟨k, k0, kp, hc⟩
      · omega
      · rw [hc, Int.toNat_natCast]
        have hs := goP_seed kp
        have hn : 0 ≤ F.eatN k l ∧ F.eatN k l ≤ l := by unfold Fld.eatN; omega
        have ih := feedGo_visits fs x i m (F.eat k l) (l - F.eatN k l) (Fld.eat_ok hF k hl (by omega)) (by omega) (by omega)
        refine ⟨fun v hv => ?_, ?_⟩
        · rcases List.mem_cons.1 hv with rfl | hv
          · exact ⟨rfl, by show (0 : Int) ≤ k; omega, by show (k : Int) < 100; omega, hn.1, by show F.eatN k l ≤ 4000; omega⟩
          · exact ih.1 v hv
        · rw [seedsOf_cons, ih.2]
          show F.eatN k l + (l - F.eatN k l - (feedGo fs x i m (F.eat k l) (l - F.eatN k l)).2.2) = l - (feedGo fs x i m (F.eat k l) (l - F.eatN k l)).2.2
          omega
theorem feedOf_visits {F : Fld} (hF : F.ok) (fs : List Int) {x : Flock} (hp : x.plain = true) (i : Nat) : (∀ v ∈ (feedOf F fs x i).2.1, v.flock = i ∧ 0 ≤ v.cell ∧ v.cell < 100 ∧ 0 ≤ v.seeds ∧ v.seeds ≤ 4000) ∧ seedsOf (feedOf F fs x i).2.1 = x.hunger - (feedOf F fs x i).2.2 :=
  feedGo_visits fs x i 4 F x.hunger hF (hunger_small hp).1 (hunger_small hp).2
theorem gi_set {acc : List Int} {k i : Nat} {y : Int} (hk : k < acc.length) : gi (acc.set k y) i = if i = k then y else gi acc i := by
  unfold gi
  rw [List.getD_eq_getElem?_getD, List.getD_eq_getElem?_getD, List.getElem?_set]
  by_cases h : k = i
  · subst h; simp [hk]
  · rw [if_neg h, if_neg (fun e => h e.symm)]
theorem fold_one {k : Nat} : ∀ (vs : List Visit) (acc : List Int), k < acc.length → (∀ v ∈ vs, v.flock = k ∧ 0 ≤ v.seeds) → 0 ≤ gi acc k → gi acc k + seedsOf vs ≤ 1000000000 →
    ∀ i, gi (vs.foldl addTo acc) i = if i = k then gi acc k + seedsOf vs else gi acc i
  | [], acc, hk, hv, h0, hb, i => by
    by_cases h : i = k
    · subst h; simp [seedsOf]
    · simp [h]
  | v :: r, acc, hk, hv, h0, hb, i => by
    obtain ⟨hf, hs⟩ := hv v (by simp)
    have hsr : 0 ≤ seedsOf r := by
      have : ∀ (r : List Visit), (∀ v ∈ r, 0 ≤ v.seeds) → 0 ≤ seedsOf r := by
        intro r
        induction r with
        | nil => intro _; simp [seedsOf]
        | cons u r ih => intro h; rw [seedsOf_cons]; have := ih (fun v hv => h v (by simp [hv])); have := h u (by simp); omega
      exact this r fun v hv2 => (hv v (by simp [hv2])).2
    rw [seedsOf_cons] at hb ⊢
    have hw : IntKind.i64.wrap (gi acc k + v.seeds) = gi acc k + v.seeds := IntWalk.i64_in _ (by omega)
    have ha : addTo acc v = acc.set k (gi acc k + v.seeds) := by rw [addTo, hf, Int.toNat_natCast, hw]
    rw [List.foldl_cons, ha, fold_one r _ (by simpa using hk) (fun v hv2 => hv v (by simp [hv2])) (by rw [gi_set hk, if_pos rfl]; omega) (by rw [gi_set hk, if_pos rfl]; omega) i, gi_set hk, gi_set hk, if_pos rfl]
    by_cases h : i = k
    · simp [h]; omega
    · simp [h]
theorem dayTo_sums {F : Fld} (hF : F.ok) (fs : List Int) {xs : List Flock} (hx : ∀ x ∈ xs, x.plain = true) : ∀ k, k ≤ xs.length → ∀ i, gi (sumsOf xs.length (dayTo F fs xs k).2.1) i = if h : i < k ∧ i < xs.length then xs[i].hunger - gi (dayTo F fs xs k).2.2 i else 0
  | 0, _, i => by
    rw [dif_neg (by omega)]
    simp only [dayTo, sumsOf, List.foldl_nil, gi]
    rw [List.getD_eq_getElem?_getD, List.getElem?_replicate]
    split <;> rfl
  | k + 1, hk, i => by
    have hkl : k < xs.length := by omega
    have ih := dayTo_sums hF fs hx k (by omega)
    have hok := dayTo_ok hF fs hx k (by omega)
    have hp := hx xs[k] (List.getElem_mem hkl)
    have hv := feedOf_visits hok.1 fs hp k
    have ho := feedOf_ok hok.1 fs hp k
    have hh := hunger_small hp
    rw [dayTo_succ F fs hkl]
    simp only
    have hs : sumsOf xs.length ((dayTo F fs xs k).2.1 ++ (feedOf (dayTo F fs xs k).1 fs xs[k] k).2.1) = (feedOf (dayTo F fs xs k).1 fs xs[k] k).2.1.foldl addTo (sumsOf xs.length (dayTo F fs xs k).2.1) := by
      simp [sumsOf]
    have hz : gi (sumsOf xs.length (dayTo F fs xs k).2.1) k = 0 := by rw [ih k, dif_neg (by omega)]
    rw [hs, fold_one _ _ (by rw [sumsOf_len]; exact hkl) (fun v hv2 => ⟨(hv.1 v hv2).1, (hv.1 v hv2).2.2.2.1⟩) (by rw [hz]; omega) (by rw [hz, hv.2]; omega) i]
    have hgl : ∀ j, gi ((dayTo F fs xs k).2.2 ++ [(feedOf (dayTo F fs xs k).1 fs xs[k] k).2.2]) j = if j < k then gi (dayTo F fs xs k).2.2 j else if j = k then (feedOf (dayTo F fs xs k).1 fs xs[k] k).2.2 else 0 := by
      intro j
      unfold gi
      rw [List.getD_eq_getElem?_getD, List.getD_eq_getElem?_getD]
      by_cases h1 : j < k
      · rw [if_pos h1, List.getElem?_append_left (by omega)]
      · rw [if_neg h1, List.getElem?_append_right (by omega), hok.2.2]
        by_cases h2 : j = k
        · subst h2; simp
        · rw [if_neg h2, List.getElem?_eq_none (by simp; omega)]
          rfl
    by_cases h : i = k
    · subst h
      rw [if_pos rfl, dif_pos ⟨by omega, hkl⟩, hz, hv.2, hgl, if_neg (by omega), if_pos rfl]
      omega
    · rw [if_neg h, ih i]
      by_cases h2 : i < k
      · rw [dif_pos ⟨h2, by omega⟩, dif_pos ⟨by omega, by omega⟩, hgl, if_pos h2]
      · rw [dif_neg (by omega), dif_neg (by omega)]
theorem dayTo_visits {F : Fld} (hF : F.ok) (fs : List Int) {xs : List Flock} (hx : ∀ x ∈ xs, x.plain = true) (hl : xs.length ≤ 12) : ∀ k, k ≤ xs.length → ∀ v ∈ (dayTo F fs xs k).2.1, v.ok ∧ inFl xs.length v = true
  | 0, _, v, hv => by simp [dayTo] at hv
  | k + 1, hk, v, hv => by
    have hkl : k < xs.length := by omega
    have hok := dayTo_ok hF fs hx k (by omega)
    have hp := hx xs[k] (List.getElem_mem hkl)
    rw [dayTo_succ F fs hkl] at hv
    rcases List.mem_append.1 hv with hv | hv
    · exact dayTo_visits hF fs hx hl k (by omega) v hv
    · obtain ⟨h1, h2, h3, h4, h5⟩ := (feedOf_visits hok.1 fs hp k).1 v hv
      exact ⟨⟨by omega, by omega, by omega⟩, inB_iff.2 (by omega)⟩
/-- The first flocks that still want something. -/
def hungryTo (l : List Int) (n : Nat) : List Int := ((List.range n).filter fun i => decide (0 < gi l i)).map fun (i : Nat) => (i : Int)
theorem hungryTo_succ (l : List Int) (n : Nat) : hungryTo l (n + 1) = hungryTo l n ++ if 0 < gi l n then [(n : Int)] else [] := by
  unfold hungryTo
  rw [List.range_succ, List.filter_append, List.map_append]
  congr 1
  by_cases h : 0 < gi l n
  · simp [h]
  · simp [h]
theorem hungryTo_len (l : List Int) (n : Nat) : (hungryTo l n).length ≤ n := by
  unfold hungryTo
  rw [List.length_map]
  have := List.length_filter_le (fun i => decide (0 < gi l i)) (List.range n)
  rwa [List.length_range] at this
def shI (F : Fld) (fs : List Int) (xs : List Flock) : List Int := if birdsOk F fs xs = true then hungryTo (dayOf F fs xs).2.2 xs.length else []
set_option maxRecDepth 100000 in
set_option maxHeartbeats 4000000 in
theorem impl_StillHungry_any (F : Fld) (hF : F.ok) (fs : List Int) (hfl : fs.length = 100) (hff : ∀ x ∈ fs, -32768 ≤ x ∧ x ≤ 32767) (A : Option Addr) (n : Nat) (xs : List Flock) (hx : ∀ x ∈ xs, x.ok) (hl : xs.length ≤ 1048576) (w : World) (hs : Sl w 6 A xs.length (flat Flock.vals xs)) :
    Calls Try.prog 12 #[.agg F.cells, .agg (ints .i16 fs), .slice A xs.length n] w (RetRowC w 2 1 (shI F fs xs).length (flat oneI (shI F fs xs)) (birdsCode F fs xs)) := by
  have M := Lib.hid (Mem.start w)
  have HFF := Lib.hid hff
  have HF := Lib.hid hF
  have HX := Lib.hid hx
  have HS := Lib.hid hs
  have S1 := Lib.hid (Fld.size hF.toLen)
  have S2 := Lib.hid (Fld.size Fld.z_len)
  clear hx hs hff hF
  cases hd : birdsOk F fs xs
  · have HD := Lib.hid hd
    have HC := Lib.hid (show birdsCode F fs xs = 1 by rw [birdsCode, hd]; rfl)
    have HR := Lib.hid (show shI F fs xs = [] by rw [shI, hd]; rfl)
    clear hd
    go_enter Try.func12, Try.ntmps12
    go_wp2_with (first
      | (go_at_call 33; go_must (refine (areBirds_any _ _ F HF.out fs hfl HFF.out A n xs HX.out hl _ (M.out.blk 0 rfl) (M.out.blk 1 rfl) (M.out.sl HS.out)).mono ?_); rintro e w_ ⟨rfl, N_⟩; have m := M.out.join N_; clear N_; simp only [List.cons_append, List.nil_append, List.append_nil] at m; have M := Lib.hid m; clear m; rw [HD.out])
      | ((with_reducible refine gate_dst (N := 3) rfl ?_); go_must (refine M.out.ev_new rfl (by first | (go_simp; done) | (go_simp; rfl)) ?_); intro g3 w3 m; simp only [List.cons_append, List.nil_append] at m; have M := Lib.hid m; clear m)
      | ((with_reducible refine gate_dst (N := 4) rfl ?_); go_must (refine M.out.ev_new rfl (by first | (go_simp; done) | (go_simp; rfl)) ?_); intro g4 w4 m; simp only [List.cons_append, List.nil_append] at m; have M := Lib.hid m; clear m)
      )
    go_ret2
    have m := (M.out.take 0).nilrow 2 1
    rw [HR.out, HC.out]
    exact ⟨none, 0, rfl, Nat.le_refl _, m⟩
  · have HD := Lib.hid hd
    have HC := Lib.hid (show birdsCode F fs xs = 0 by rw [birdsCode, hd]; rfl)
    have HR := Lib.hid (show shI F fs xs = hungryTo (dayOf F fs xs).2.2 xs.length by rw [shI, hd, if_pos rfl])
    have hb := birds_all hd
    have HB := Lib.hid hb
    have hdy := dayTo_ok HF.out fs hb.1 _ (Nat.le_refl _)
    have DA := Lib.hid (fun (wx : World) (E1 E2 : Ent) (ga gb : Nat) (m0 : Mem w wx [.blk ga 29 F.cells, .blk gb 31 (ints .i16 fs), E1, E2]) => feedAll_any ga gb F HF.out fs hfl HFF.out A n xs hb.1 hb.2 m0 HS.out)
    obtain ⟨D, hD⟩ : ∃ D, D = dayOf F fs xs := ⟨_, rfl⟩
    have hdl : D.2.2.length = xs.length := by rw [hD]; exact hdy.2.2
    have h12 := hb.2
    rw [← hD] at DA HR
    clear hd hD hb hdy
    go_enter Try.func12, Try.ntmps12
    go_wp2_with (first
      | (go_at_call 33; go_must (refine (areBirds_any _ _ F HF.out fs hfl HFF.out A n xs HX.out hl _ (M.out.blk 0 rfl) (M.out.blk 1 rfl) (M.out.sl HS.out)).mono ?_); rintro e w_ ⟨rfl, N_⟩; have m := M.out.join N_; clear N_; simp only [List.cons_append, List.nil_append, List.append_nil] at m; have M := Lib.hid m; clear m; rw [HD.out])
      | ((with_reducible refine gate_dst (N := 16) rfl ?_); go_must (refine M.out.ev_bs0 elem_int64 rfl rfl ?_); intro g16 w16 m; simp only [List.cons_append, List.nil_append] at m; have M := Lib.hid m; clear m)
      | (go_at_call 34; go_must (refine (DA.out _ _ _ _ _ (M.out.nilrow 48 6)).mono ?_); rintro e w_ ⟨A1, c1, A2, c2, rfl, hc1, hc2, m⟩; have M := Lib.hid m; clear m)
      | ((with_reducible refine gate_dst (N := 3) rfl ?_); go_must (refine M.out.ev_new rfl (by first | (go_simp; done) | (go_simp; rfl)) ?_); intro g3 w3 m; simp only [List.cons_append, List.nil_append] at m; have M := Lib.hid m; clear m)
      | ((with_reducible refine gate_dst (N := 4) rfl ?_); go_must (refine M.out.ev_new rfl (by first | (go_simp; done) | (go_simp; rfl)) ?_); intro g4 w4 m; simp only [List.cons_append, List.nil_append] at m; have M := Lib.hid m; clear m)
      )
    go_loopw [8, 24] (fun s v wr => ∃ k : Nat, k ≤ xs.length ∧ v = .int .i64 k ∧ Mem w wr [.blk g3 29 D.1.cells, .blk g4 31 (ints .i16 fs), .row s 2 1 (hungryTo D.2.2 k).length (flat oneI (hungryTo D.2.2 k)), .row (.slice none 0 0) 48 6 0 [], .row (.slice A1 D.2.1.length c1) 51 3 D.2.1.length (flat Visit.vals D.2.1), .row (.slice A2 D.2.2.length c2) 2 1 D.2.2.length (flat oneI D.2.2)])
      (fun _ v _ => xs.length - (intOf v).toNat)
    case atStart => exact ⟨0, by omega, rfl, M.out⟩
    case round =>
      clear M
      obtain ⟨k, hk, rfl, mm⟩ := hrel
      have M := Lib.hid mm
      clear mm
      have hhl := hungryTo_len D.2.2 k
      have HSU := Lib.hid (hungryTo_succ D.2.2 k)
      by_cases hlt : k < xs.length
      · obtain ⟨b, off, rfl, hr⟩ := (M.out.slof 5 rfl).2 (by omega)
        have hgi : D.2.2[k]? = some (gi D.2.2 k) := getElem?_gi (by omega)
        have x0 : wr.cell? ⟨b, off + k, none⟩ = some (.int .i64 (gi D.2.2 k)) := by simpa [oneI] using range_at oneI_len hr hgi 0 _ rfl
        have i0 : (0 : Int) ≤ (k : Int) := by omega
        have i1 : (k : Int) < (xs.length : Int) := by omega
        have i2 : (k : Int) < (D.2.2.length : Int) := by omega
        clear hr hgi
        by_cases hg : 0 < gi D.2.2 k
        · have HG := Lib.hid hg
          go_wp2_with (first
            | ((with_reducible refine gate_dst (N := 33) rfl ?_); go_must (refine M.out.ev_bs1 elem_int64 rfl _ rfl #[.int .i64 k] rfl rfl (by decide) ?_); intro g33 w33 m; simp only [List.cons_append, List.nil_append] at m; have M := Lib.hid m; clear m)
            | ((with_reducible refine gate_dst (N := 34) rfl ?_); go_must (refine M.out.ev_append1 2 6 elem_int64 rfl _ _ rfl rfl rfl rfl rfl rfl (by simp [Value.oneCell']) (by omega) (by decide) ?_); intro v34 w34 m; simp only [List.set_cons_succ, List.set_cons_zero] at m; have M := Lib.hid m; clear m)
            )
          refine ⟨⟨k + 1, by omega, by go_num, ?_⟩, by simp [intOf]; omega⟩
          have mm := M.out.take 6
          rw [HSU.out, if_pos HG.out]
          simp only [List.length_append, flat_append, flat_oneI, List.map_append, List.map_cons, List.map_nil, List.length_cons, List.length_nil, Nat.zero_add]
          simp only [flat_oneI] at mm
          exact mm
        · have HG := Lib.hid hg
          go_wp2
          refine ⟨⟨k + 1, by omega, by go_num, ?_⟩, by simp [intOf]; omega⟩
          rw [HSU.out, if_neg (by have := HG.out; omega), List.append_nil]
          exact M.out
      · obtain rfl : k = xs.length := by omega
        obtain ⟨A3, c3, rfl, h3, _⟩ := M.out.row_slice 2 rfl
        have i2 : ¬ ((xs.length : Int) < (D.2.2.length : Int)) := by omega
        go_wp2
        go_ret2
        rw [HR.out, HC.out]
        exact ⟨_, _, rfl, h3, M.out.only [2] (K := [_]) rfl (by decide)⟩
end Go.Proofs.Ytlonbgomdabmmaa
namespace Go.Proofs.Ytlonbgomdabmmaa
set_option linter.unusedSimpArgs false
set_option linter.unusedVariables false
open Go.RowKit
attribute [local go_sem] cell?_mk frozen?_mk

set_option maxRecDepth 100000 in
set_option maxHeartbeats 2000000 in
theorem impl_MoveFlock_any (F : Fld) (hF : F.ok) (A : Option Addr) (n : Nat) (xs : List Flock) (hx : ∀ x ∈ xs, x.ok) (hl : xs.length ≤ 1048576) (hc : xs.length ≤ n) (hn : n ≤ 9223372036854775807) (hA : A = none → n = 0) (i c : Int) (w : World) (hs : Sl w 6 A xs.length (flat Flock.vals xs)) :
    Calls Try.prog 26 #[.agg F.cells, .slice A xs.length n, .int .i64 i, .int .i64 c] w (RetRowC w 48 6 (mvRes F xs i c).length (flat Flock.vals (mvRes F xs i c)) (mvCode F xs i c)) := by
  have M := Lib.hid (Mem.start w)
  have HX := Lib.hid hx
  have HS := Lib.hid hs
  have HF := Lib.hid hF
  have S1 := Lib.hid (Fld.size hF.toLen)
  clear hx hs hF
  by_cases hd : flCode F xs i (F.has c) = 0
  · obtain ⟨h1, h2, h3, h4⟩ := flCode_0 hd
    obtain ⟨⟨c0, c1⟩, _⟩ := Fld.has_iff.1 h4
    obtain ⟨p0, p1⟩ := inB_iff.1 h3
    have HD := Lib.hid hd
    obtain ⟨k, rfl⟩ : ∃ k : Nat, c = k := ⟨c.toNat, by omega⟩
    obtain ⟨j, rfl⟩ : ∃ j : Nat, i = j := ⟨i.toNat, by omega⟩
    have hk : k < 100 := by omega
    have hj : j < xs.length := by omega
    have i0 : (0 : Int) ≤ (j : Int) := by omega
    have i1 : (j : Int) < (xs.length : Int) := by omega
    have j0 : (0 : Int) ≤ (k : Int) := by omega
    have j1 : (k : Int) < 100 := by omega
    have e1 : IntKind.i16.wrap (k : Int) = k := IntWalk.i16_in _ (by omega)
    have hxj : xs[j]? = some xs[j] := List.getElem?_eq_getElem hj
    have HMV := Lib.hid (show mvAt xs j k = xs.set j { xs[j] with tree := (k : Int) } by simp [mvAt, hxj])
    have HXJ := Lib.hid hxj
    have hln : j * 6 < (flat Flock.vals xs).length := by rw [flat_len Flock.vl]; omega
    have HL := Lib.hid hln
    have kb := HF.out.kb k
    have KC := Lib.hid (Fld.cellK HF.out.toLen hk)
    clear h1 h2 h3 h4 hd hxj hln
    by_cases hki : F.kind k = 3
    · have HK := Lib.hid hki
      have hkb : (F.kind k != 3) = false := by simp [hki]
      have HAC := Lib.hid (show mvCode F xs j k = 0 by simp [mvCode, HD.out, hki])
      clear hki
      go_enter Try.func26, Try.ntmps26
      go_wp2_with (first
        | ((with_reducible refine gate_dst (N := 4) rfl ?_); go_must (refine M.out.ev_new rfl (by first | (go_simp; done) | (go_simp; rfl)) ?_); intro g4 w4 m; simp only [List.cons_append, List.nil_append] at m; have M := Lib.hid m; clear m)
        | ((with_reducible refine gate_dst (N := 7) rfl ?_); go_must (refine M.out.ev_new rfl (by first | (go_simp; done) | (go_simp; rfl)) ?_); intro g7 w7 m; simp only [List.cons_append, List.nil_append] at m; have M := Lib.hid m; clear m)
        | ((with_reducible refine gate_dst (N := 21) rfl ?_); go_must (refine M.out.ev_ld 1 _ _ rfl rfl rfl Try.underlying2 rfl rfl (by first | assumption | rfl) ?_))
        | ((with_reducible refine gate_dst (N := 24) rfl ?_); go_must (refine M.out.ev_ld 0 _ _ rfl rfl rfl Try.underlying5 rfl rfl (by first | assumption | rfl) ?_))
        | ((with_reducible refine gate_dst (N := 30) rfl ?_); go_must (refine M.out.ev_ld 1 _ _ rfl rfl rfl Try.underlying2 rfl rfl (by first | assumption | rfl) ?_))
        | (go_at_call 53; go_must (refine (flockCode_any _ F HF.out A n xs HX.out hl (j : Int) 56 _ (F.has (k : Int)) _ (M.out.blk 0 rfl) (M.out.sl HS.out) (fun _ _ => by go_simp) (fun _ w1 m1 => mvIs_any _ _ F HF.out (k : Int) w1 ((M.out.join m1).blk 0 rfl) ((M.out.join m1).blk 1 rfl))).mono ?_); rintro e w_ ⟨rfl, N_⟩; have m := M.out.join N_; clear N_; simp only [List.cons_append, List.nil_append, List.append_nil] at m; have M := Lib.hid m; clear m; rw [HD.out]; have q1 := M.out.cell (j := 0) (v := .int .i64 (k : Int)) 1 rfl rfl; have q2 := M.out.cell 0 rfl KC.out)
        | (go_at_call 55; go_must (refine (cloneFlock_any _ n xs hl hc hA _ (M.out.sl HS.out)).mono ?_); rintro e w_ ⟨A_, c_, rfl, hc_, N_⟩; have m := M.out.join N_; clear N_; simp only [List.cons_append, List.nil_append, List.append_nil] at m; have M := Lib.hid m; clear m; obtain ⟨g_, cap_, he_, _⟩ := M.out.row_form 2 rfl (by omega); obtain ⟨rfl, rfl⟩ : A_ = some ⟨g_, 0, none⟩ ∧ c_ = cap_ := (by injection he_ with e1 _ e2; exact ⟨e1, e2⟩); clear he_; have q1 := M.out.cell (j := 0) (v := .int .i64 (k : Int)) 1 rfl rfl)
        | ((with_reducible refine gate_store (x := .tmp 33) rfl ?_); go_must (refine M.out.ev_rput1 2 _ _ _ rfl rfl rfl rfl (.int .i16 (k : Int)) rfl (by have := HL.out; omega) sz26 rfl rfl ?_); intro wn m; simp only [List.set_cons_succ, List.set_cons_zero] at m; have M := Lib.hid m; clear m)
        )
      go_ret2
      have m := M.out.only [2] (K := [_]) rfl (by decide)
      have hf := flat_put Flock.vl (by decide : 0 < 6) (v := .int .i16 (k : Int)) xs j xs[j] { xs[j] with tree := (k : Int) } HXJ.out rfl
      rw [Nat.add_zero] at hf
      rw [hf] at m
      rw [mvRes, HAC.out, if_pos rfl, Int.toNat_natCast, HMV.out, List.length_set]
      exact ⟨_, _, rfl, by assumption, m⟩
    · have HK := Lib.hid hki
      have hkb : (F.kind k != 3) = true := by simp [hki]
      have HAC := Lib.hid (show mvCode F xs j k = 4 by simp [mvCode, HD.out, hki])
      clear hki
      go_enter Try.func26, Try.ntmps26
      go_wp2_with (first
        | ((with_reducible refine gate_dst (N := 4) rfl ?_); go_must (refine M.out.ev_new rfl (by first | (go_simp; done) | (go_simp; rfl)) ?_); intro g4 w4 m; simp only [List.cons_append, List.nil_append] at m; have M := Lib.hid m; clear m)
        | ((with_reducible refine gate_dst (N := 7) rfl ?_); go_must (refine M.out.ev_new rfl (by first | (go_simp; done) | (go_simp; rfl)) ?_); intro g7 w7 m; simp only [List.cons_append, List.nil_append] at m; have M := Lib.hid m; clear m)
        | ((with_reducible refine gate_dst (N := 21) rfl ?_); go_must (refine M.out.ev_ld 1 _ _ rfl rfl rfl Try.underlying2 rfl rfl (by first | assumption | rfl) ?_))
        | ((with_reducible refine gate_dst (N := 24) rfl ?_); go_must (refine M.out.ev_ld 0 _ _ rfl rfl rfl Try.underlying5 rfl rfl (by first | assumption | rfl) ?_))
        | ((with_reducible refine gate_dst (N := 30) rfl ?_); go_must (refine M.out.ev_ld 1 _ _ rfl rfl rfl Try.underlying2 rfl rfl (by first | assumption | rfl) ?_))
        | (go_at_call 53; go_must (refine (flockCode_any _ F HF.out A n xs HX.out hl (j : Int) 56 _ (F.has (k : Int)) _ (M.out.blk 0 rfl) (M.out.sl HS.out) (fun _ _ => by go_simp) (fun _ w1 m1 => mvIs_any _ _ F HF.out (k : Int) w1 ((M.out.join m1).blk 0 rfl) ((M.out.join m1).blk 1 rfl))).mono ?_); rintro e w_ ⟨rfl, N_⟩; have m := M.out.join N_; clear N_; simp only [List.cons_append, List.nil_append, List.append_nil] at m; have M := Lib.hid m; clear m; rw [HD.out]; have q1 := M.out.cell (j := 0) (v := .int .i64 (k : Int)) 1 rfl rfl; have q2 := M.out.cell 0 rfl KC.out)
        )
      go_ret2
      have m := (M.out.take 0).nilrow 48 6
      rw [mvRes, HAC.out]
      exact ⟨none, 0, rfl, Nat.le_refl _, m⟩
  · have HD := Lib.hid hd
    have hdd : (flCode F xs i (F.has c) != 0) = true := by simp [hd]
    have HAC := Lib.hid (show mvCode F xs i c = flCode F xs i (F.has c) by rw [mvCode, if_pos hd])
    clear hd
    go_enter Try.func26, Try.ntmps26
    go_wp2_with (first
      | ((with_reducible refine gate_dst (N := 4) rfl ?_); go_must (refine M.out.ev_new rfl (by first | (go_simp; done) | (go_simp; rfl)) ?_); intro g4 w4 m; simp only [List.cons_append, List.nil_append] at m; have M := Lib.hid m; clear m)
      | ((with_reducible refine gate_dst (N := 7) rfl ?_); go_must (refine M.out.ev_new rfl (by first | (go_simp; done) | (go_simp; rfl)) ?_); intro g7 w7 m; simp only [List.cons_append, List.nil_append] at m; have M := Lib.hid m; clear m)
      | ((with_reducible refine gate_dst (N := 21) rfl ?_); go_must (refine M.out.ev_ld 1 _ _ rfl rfl rfl Try.underlying2 rfl rfl (by first | assumption | rfl) ?_))
      | ((with_reducible refine gate_dst (N := 24) rfl ?_); go_must (refine M.out.ev_ld 0 _ _ rfl rfl rfl Try.underlying5 rfl rfl (by first | assumption | rfl) ?_))
      | ((with_reducible refine gate_dst (N := 30) rfl ?_); go_must (refine M.out.ev_ld 1 _ _ rfl rfl rfl Try.underlying2 rfl rfl (by first | assumption | rfl) ?_))
      | (go_at_call 53; go_must (refine (flockCode_any _ F HF.out A n xs HX.out hl i 56 _ (F.has c) _ (M.out.blk 0 rfl) (M.out.sl HS.out) (fun _ _ => by go_simp) (fun _ w1 m1 => mvIs_any _ _ F HF.out c w1 ((M.out.join m1).blk 0 rfl) ((M.out.join m1).blk 1 rfl))).mono ?_); rintro e w_ ⟨rfl, N_⟩; have m := M.out.join N_; clear N_; simp only [List.cons_append, List.nil_append, List.append_nil] at m; have M := Lib.hid m; clear m)
      )
    go_ret2
    have m := (M.out.take 0).nilrow 48 6
    rw [mvRes, HAC.out, if_neg HD.out]
    exact ⟨none, 0, rfl, Nat.le_refl _, m⟩
end Go.Proofs.Ytlonbgomdabmmaa
