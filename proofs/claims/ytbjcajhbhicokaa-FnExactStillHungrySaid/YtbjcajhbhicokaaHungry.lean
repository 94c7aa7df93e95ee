/- The flocks that still want something: the walks of both. -/
import Derived.Test.YtbjcajhbhicokaaFeedAll
import Derived.Test.YtbjcajhbhicokaaEaten
namespace Go.Proofs.Ytbjcajhbhicokaa
set_option linter.unusedSimpArgs false
set_option linter.unusedVariables false
open Go.RowKit
attribute [local go_sem] cell?_mk frozen?_mk

def seedsOf (vs : List Visit) : Int := (vs.map (·.seeds)).sum
theorem seedsOf_cons (v : Visit) (vs : List Visit) : seedsOf (v :: vs) = v.seeds + seedsOf vs := by simp [seedsOf]
/-- The visits of one flock: whose they are, and what they sum to. -/
theorem feedGo_visits (fs : List Int) (x : Flock) (i : Nat) : ∀ (m : Nat) (F : Fld) (l : Int), F.ok → 0 ≤ l → l ≤ 4000 → (∀ v ∈ (feedGo fs x i m F l).2.1, v.flock = i ∧ 0 ≤ v.cell ∧ v.cell < 100 ∧ 0 ≤ v.seeds ∧ v.seeds ≤ 4000) ∧ seedsOf (feedGo fs x i m F l).2.1 = l - (feedGo fs x i m F l).2.2
  | 0, F, l, hF, hl, h4 => ⟨fun v hv => by simp [feedGo] at hv, by simp [feedGo, seedsOf]⟩
  | m + 1, F, l, hF, hl, h4 => by
    rw [feedGo]
    split
    · exact ⟨fun v hv => by simp at hv, by simp [seedsOf]⟩
    · rename_i h
      rcases choice_of F fs x with hc | ⟨k, k0, kp, hc⟩
      · omega
      · rw [hc, Int.toNat_natCast]
        have hs := goP_seed kp
        have hn : 0 ≤ F.eatN k l ∧ F.eatN k l ≤ l := by unfold Fld.eatN; omega
        have ih := feedGo_visits fs x i m (F.eat k l) (l - F.eatN k l) (Fld.eat_ok hF k hl (by omega)) (by omega) (by omega)
        refine ⟨fun v hv => ?_, ?_⟩
        · rcases List.mem_cons.1 hv with rfl | hv
          · exact ⟨rfl, by show (0 : Int) ≤ k; omega, by show (k : Int) < 100; omega, hn.1, by show F.eatN k l ≤ 4000; omega⟩
          · exact ih.1 v hv
        · rw [seedsOf_cons, ih.2]
          show F.eatN k l + (l - F.eatN k l - (feedGo fs x i m (F.eat k l) (l - F.eatN k l)).2.2) = l - (feedGo fs x i m (F.eat k l) (l - F.eatN k l)).2.2
          omega
theorem feedOf_visits {F : Fld} (hF : F.ok) (fs : List Int) {x : Flock} (hp : x.plain = true) (i : Nat) : (∀ v ∈ (feedOf F fs x i).2.1, v.flock = i ∧ 0 ≤ v.cell ∧ v.cell < 100 ∧ 0 ≤ v.seeds ∧ v.seeds ≤ 4000) ∧ seedsOf (feedOf F fs x i).2.1 = x.hunger - (feedOf F fs x i).2.2 :=
  feedGo_visits fs x i 4 F x.hunger hF (hunger_small hp).1 (hunger_small hp).2
theorem gi_set {acc : List Int} {k i : Nat} {y : Int} (hk : k < acc.length) : gi (acc.set k y) i = if i = k then y else gi acc i := by
  unfold gi
  rw [List.getD_eq_getElem?_getD, List.getD_eq_getElem?_getD, List.getElem?_set]
  by_cases h : k = i
  · subst h; simp [hk]
  · rw [if_neg h, if_neg (fun e => h e.symm)]
theorem fold_one {k : Nat} : ∀ (vs : List Visit) (acc : List Int), k < acc.length → (∀ v ∈ vs, v.flock = k ∧ 0 ≤ v.seeds) → 0 ≤ gi acc k → gi acc k + seedsOf vs ≤ 1000000000 →
    ∀ i, gi (vs.foldl addTo acc) i = if i = k then gi acc k + seedsOf vs else gi acc i
  | [], acc, hk, hv, h0, hb, i => by
    by_cases h : i = k
    · subst h; simp [seedsOf]
    · simp [h]
  | v :: r, acc, hk, hv, h0, hb, i => by
    obtain ⟨hf, hs⟩ := hv v (by simp)
    have hsr : 0 ≤ seedsOf r := by
      have : ∀ (r : List Visit), (∀ v ∈ r, 0 ≤ v.seeds) → 0 ≤ seedsOf r := by
        intro r
        induction r with
        | nil => intro _; simp [seedsOf]
        | cons u r ih => intro h; rw [seedsOf_cons]; have := ih (fun v hv => h v (by simp [hv])); have := h u (by simp); omega
      exact this r fun v hv2 => (hv v (by simp [hv2])).2
    rw [seedsOf_cons] at hb ⊢
    have hw : IntKind.i64.wrap (gi acc k + v.seeds) = gi acc k + v.seeds := IntWalk.i64_in _ (by omega)
    have ha : addTo acc v = acc.set k (gi acc k + v.seeds) := by rw [addTo, hf, Int.toNat_natCast, hw]
    rw [List.foldl_cons, ha, fold_one r _ (by simpa using hk) (fun v hv2 => hv v (by simp [hv2])) (by rw [gi_set hk, if_pos rfl]; omega) (by rw [gi_set hk, if_pos rfl]; omega) i, gi_set hk, gi_set hk, if_pos rfl]
    by_cases h : i = k
    · simp [h]; omega
    · simp [h]
theorem dayTo_sums {F : Fld} (hF : F.ok) (fs : List Int) {xs : List Flock} (hx : ∀ x ∈ xs, x.plain = true) : ∀ k, k ≤ xs.length → ∀ i, gi (sumsOf xs.length (dayTo F fs xs k).2.1) i = if h : i < k ∧ i < xs.length then xs[i].hunger - gi (dayTo F fs xs k).2.2 i else 0
  | 0, _, i => by
    rw [dif_neg (by omega)]
    simp only [dayTo, sumsOf, List.foldl_nil, gi]
    rw [List.getD_eq_getElem?_getD, List.getElem?_replicate]
    split <;> rfl
  | k + 1, hk, i => by
    have hkl : k < xs.length := by omega
    have ih := dayTo_sums hF fs hx k (by omega)
    have hok := dayTo_ok hF fs hx k (by omega)
    have hp := hx xs[k] (List.getElem_mem hkl)
    have hv := feedOf_visits hok.1 fs hp k
    have ho := feedOf_ok hok.1 fs hp k
    have hh := hunger_small hp
    rw [dayTo_succ F fs hkl]
    simp only
    have hs : sumsOf xs.length ((dayTo F fs xs k).2.1 ++ (feedOf (dayTo F fs xs k).1 fs xs[k] k).2.1) = (feedOf (dayTo F fs xs k).1 fs xs[k] k).2.1.foldl addTo (sumsOf xs.length (dayTo F fs xs k).2.1) := by
      simp [sumsOf]
    have hz : gi (sumsOf xs.length (dayTo F fs xs k).2.1) k = 0 := by rw [ih k, dif_neg (by omega)]
    rw [hs, fold_one _ _ (by rw [sumsOf_len]; exact hkl) (fun v hv2 => ⟨(hv.1 v hv2).1, (hv.1 v hv2).2.2.2.1⟩) (by rw [hz]; omega) (by rw [hz, hv.2]; omega) i]
    have hgl : ∀ j, gi ((dayTo F fs xs k).2.2 ++ [(feedOf (dayTo F fs xs k).1 fs xs[k] k).2.2]) j = if j < k then gi (dayTo F fs xs k).2.2 j else if j = k then (feedOf (dayTo F fs xs k).1 fs xs[k] k).2.2 else 0 := by
      intro j
      unfold gi
      rw [List.getD_eq_getElem?_getD, List.getD_eq_getElem?_getD]
      by_cases h1 : j < k
      · rw [if_pos h1, List.getElem?_append_left (by omega)]
      · rw [if_neg h1, List.getElem?_append_right (by omega), hok.2.2]
        by_cases h2 : j = k
        · subst h2; simp
        · rw [if_neg h2, List.getElem?_eq_none (by simp; omega)]
          rfl
    by_cases h : i = k
    · subst h
      rw [if_pos rfl, dif_pos ⟨by omega, hkl⟩, hz, hv.2, hgl, if_neg (by omega), if_pos rfl]
      omega
    · rw [if_neg h, ih i]
      by_cases h2 : i < k
      · rw [dif_pos ⟨h2, by omega⟩, dif_pos ⟨by omega, by omega⟩, hgl, if_pos h2]
      · rw [dif_neg (by omega), dif_neg (by omega)]
theorem dayTo_visits {F : Fld} (hF : F.ok) (fs : List Int) {xs : List Flock} (hx : ∀ x ∈ xs, x.plain = true) (hl : xs.length ≤ 12) : ∀ k, k ≤ xs.length → ∀ v ∈ (dayTo F fs xs k).2.1, v.ok ∧ inFl xs.length v = true
  | 0, _, v, hv => by simp [dayTo] at hv
  | k + 1, hk, v, hv => by
    have hkl : k < xs.length := by omega
    have hok := dayTo_ok hF fs hx k (by omega)
    have hp := hx xs[k] (List.getElem_mem hkl)
    rw [dayTo_succ F fs hkl] at hv
    rcases List.mem_append.1 hv with hv | hv
    · exact dayTo_visits hF fs hx hl k (by omega) v hv
    · obtain ⟨h1, h2, h3, h4, h5⟩ := (feedOf_visits hok.1 fs hp k).1 v hv
      exact ⟨⟨by omega, by omega, by omega⟩, inB_iff.2 (by omega)⟩
/-- The first flocks that still want something. -/
def hungryTo (l : List Int) (n : Nat) : List Int := ((List.range n).filter fun i => decide (0 < gi l i)).map fun (i : Nat) => (i : Int)
theorem hungryTo_succ (l : List Int) (n : Nat) : hungryTo l (n + 1) = hungryTo l n ++ if 0 < gi l n then [(n : Int)] else [] := by
  unfold hungryTo
  rw [List.range_succ, List.filter_append, List.map_append]
  congr 1
  by_cases h : 0 < gi l n
  · simp [h]
  · simp [h]
theorem hungryTo_len (l : List Int) (n : Nat) : (hungryTo l n).length ≤ n := by
  unfold hungryTo
  rw [List.length_map]
  have := List.length_filter_le (fun i => decide (0 < gi l i)) (List.range n)
  rwa [List.length_range] at this
def shI (F : Fld) (fs : List Int) (xs : List Flock) : List Int := if birdsOk F fs xs = true then hungryTo (dayOf F fs xs).2.2 xs.length else []
theorem shI_len (F : Fld) (fs : List Int) (xs : List Flock) : (shI F fs xs).length ≤ 1048576 := by
  unfold shI
  split
  · rename_i h
    have h1 := (birds_all h).2
    have h2 := hungryTo_len (dayOf F fs xs).2.2 xs.length
    omega
  · simp
set_option maxRecDepth 100000 in
set_option maxHeartbeats 4000000 in
theorem impl_StillHungry_any (F : Fld) (hF : F.ok) (fs : List Int) (hfl : fs.length = 100) (hff : ∀ x ∈ fs, -32768 ≤ x ∧ x ≤ 32767) (A : Option Addr) (n : Nat) (xs : List Flock) (hx : ∀ x ∈ xs, x.ok) (hl : xs.length ≤ 1048576) (w : World) (hs : Sl w 6 A xs.length (flat Flock.vals xs)) :
    Calls Try.prog 58 #[.agg F.cells, .agg (ints .i16 fs), .slice A xs.length n] w (RetRowC w 2 1 (shI F fs xs).length (flat oneI (shI F fs xs)) (birdsCode F fs xs)) := by
  have M := Lib.hid (Mem.start w)
  have HFF := Lib.hid hff
  have HF := Lib.hid hF
  have HX := Lib.hid hx
  have HS := Lib.hid hs
  have S1 := Lib.hid (Fld.size hF.toLen)
  have S2 := Lib.hid (Fld.size Fld.z_len)
  clear hx hs hff hF
  cases hd : birdsOk F fs xs
  · have HD := Lib.hid hd
    have HC := Lib.hid (show birdsCode F fs xs = 1 by rw [birdsCode, hd]; rfl)
    have HR := Lib.hid (show shI F fs xs = [] by rw [shI, hd]; rfl)
    clear hd
    go_enter Try.func58, Try.ntmps58
    go_wp2_with (first
      | (go_at_call 67; go_must (refine (areBirds_any _ _ F HF.out fs hfl HFF.out A n xs HX.out hl _ (M.out.blk 0 rfl) (M.out.blk 1 rfl) (M.out.sl HS.out)).mono ?_); rintro e w_ ⟨rfl, N_⟩; have m := M.out.join N_; clear N_; simp only [List.cons_append, List.nil_append, List.append_nil] at m; have M := Lib.hid m; clear m; rw [HD.out])
      | ((with_reducible refine gate_dst (N := 3) rfl ?_); go_must (refine M.out.ev_new rfl (by first | (go_simp; done) | (go_simp; rfl)) ?_); intro g3 w3 m; simp only [List.cons_append, List.nil_append] at m; have M := Lib.hid m; clear m)
      | ((with_reducible refine gate_dst (N := 4) rfl ?_); go_must (refine M.out.ev_new rfl (by first | (go_simp; done) | (go_simp; rfl)) ?_); intro g4 w4 m; simp only [List.cons_append, List.nil_append] at m; have M := Lib.hid m; clear m)
      )
    go_ret2
    have m := (M.out.take 0).nilrow 2 1
    rw [HR.out, HC.out]
    exact ⟨none, 0, rfl, Nat.le_refl _, m⟩
  · have HD := Lib.hid hd
    have HC := Lib.hid (show birdsCode F fs xs = 0 by rw [birdsCode, hd]; rfl)
    have HR := Lib.hid (show shI F fs xs = hungryTo (dayOf F fs xs).2.2 xs.length by rw [shI, hd, if_pos rfl])
    have hb := birds_all hd
    have HB := Lib.hid hb
    have hdy := dayTo_ok HF.out fs hb.1 _ (Nat.le_refl _)
    have DA := Lib.hid (fun (wx : World) (E1 E2 : Ent) (ga gb : Nat) (m0 : Mem w wx [.blk ga 35 F.cells, .blk gb 37 (ints .i16 fs), E1, E2]) => feedAll_any ga gb F HF.out fs hfl HFF.out A n xs hb.1 hb.2 m0 HS.out)
    obtain ⟨D, hD⟩ : ∃ D, D = dayOf F fs xs := ⟨_, rfl⟩
    have hdl : D.2.2.length = xs.length := by rw [hD]; exact hdy.2.2
    have h12 := hb.2
    rw [← hD] at DA HR
    clear hd hD hb hdy
    go_enter Try.func58, Try.ntmps58
    go_wp2_with (first
      | (go_at_call 67; go_must (refine (areBirds_any _ _ F HF.out fs hfl HFF.out A n xs HX.out hl _ (M.out.blk 0 rfl) (M.out.blk 1 rfl) (M.out.sl HS.out)).mono ?_); rintro e w_ ⟨rfl, N_⟩; have m := M.out.join N_; clear N_; simp only [List.cons_append, List.nil_append, List.append_nil] at m; have M := Lib.hid m; clear m; rw [HD.out])
      | ((with_reducible refine gate_dst (N := 16) rfl ?_); go_must (refine M.out.ev_bs0 elem_int64 rfl rfl ?_); intro g16 w16 m; simp only [List.cons_append, List.nil_append] at m; have M := Lib.hid m; clear m)
      | (go_at_call 111; go_must (refine (DA.out _ _ _ _ _ (M.out.nilrow 39 6)).mono ?_); rintro e w_ ⟨A1, c1, A2, c2, rfl, hc1, hc2, m⟩; have M := Lib.hid m; clear m)
      | ((with_reducible refine gate_dst (N := 3) rfl ?_); go_must (refine M.out.ev_new rfl (by first | (go_simp; done) | (go_simp; rfl)) ?_); intro g3 w3 m; simp only [List.cons_append, List.nil_append] at m; have M := Lib.hid m; clear m)
      | ((with_reducible refine gate_dst (N := 4) rfl ?_); go_must (refine M.out.ev_new rfl (by first | (go_simp; done) | (go_simp; rfl)) ?_); intro g4 w4 m; simp only [List.cons_append, List.nil_append] at m; have M := Lib.hid m; clear m)
      )
    go_loopw [8, 24] (fun s v wr => ∃ k : Nat, k ≤ xs.length ∧ v = .int .i64 k ∧ Mem w wr [.blk g3 35 D.1.cells, .blk g4 37 (ints .i16 fs), .row s 2 1 (hungryTo D.2.2 k).length (flat oneI (hungryTo D.2.2 k)), .row (.slice none 0 0) 39 6 0 [], .row (.slice A1 D.2.1.length c1) 79 3 D.2.1.length (flat Visit.vals D.2.1), .row (.slice A2 D.2.2.length c2) 2 1 D.2.2.length (flat oneI D.2.2)])
      (fun _ v _ => xs.length - (intOf v).toNat)
    case atStart => exact ⟨0, by omega, rfl, M.out⟩
    case round =>
      clear M
      obtain ⟨k, hk, rfl, mm⟩ := hrel
      have M := Lib.hid mm
      clear mm
      have hhl := hungryTo_len D.2.2 k
      have HSU := Lib.hid (hungryTo_succ D.2.2 k)
      by_cases hlt : k < xs.length
      · obtain ⟨b, off, rfl, hr⟩ := (M.out.slof 5 rfl).2 (by omega)
        have hgi : D.2.2[k]? = some (gi D.2.2 k) := getElem?_gi (by omega)
        have x0 : wr.cell? ⟨b, off + k, none⟩ = some (.int .i64 (gi D.2.2 k)) := by simpa [oneI] using range_at oneI_len hr hgi 0 _ rfl
        have i0 : (0 : Int) ≤ (k : Int) := by omega
        have i1 : (k : Int) < (xs.length : Int) := by omega
        have i2 : (k : Int) < (D.2.2.length : Int) := by omega
        clear hr hgi
        by_cases hg : 0 < gi D.2.2 k
        · have HG := Lib.hid hg
          go_wp2_with (first
            | ((with_reducible refine gate_dst (N := 33) rfl ?_); go_must (refine M.out.ev_bs1 elem_int64 rfl _ rfl #[.int .i64 k] rfl rfl (by decide) ?_); intro g33 w33 m; simp only [List.cons_append, List.nil_append] at m; have M := Lib.hid m; clear m)
            | ((with_reducible refine gate_dst (N := 34) rfl ?_); go_must (refine M.out.ev_append1 2 6 elem_int64 rfl _ _ rfl rfl rfl rfl rfl rfl (by simp [Value.oneCell']) (by omega) (by decide) ?_); intro v34 w34 m; simp only [List.set_cons_succ, List.set_cons_zero] at m; have M := Lib.hid m; clear m)
            )
          refine ⟨⟨k + 1, by omega, by go_num, ?_⟩, by simp [intOf]; omega⟩
          have mm := M.out.take 6
          rw [HSU.out, if_pos HG.out]
          simp only [List.length_append, flat_append, flat_oneI, List.map_append, List.map_cons, List.map_nil, List.length_cons, List.length_nil, Nat.zero_add]
          simp only [flat_oneI] at mm
          exact mm
        · have HG := Lib.hid hg
          go_wp2
          refine ⟨⟨k + 1, by omega, by go_num, ?_⟩, by simp [intOf]; omega⟩
          rw [HSU.out, if_neg (by have := HG.out; omega), List.append_nil]
          exact M.out
      · obtain rfl : k = xs.length := by omega
        obtain ⟨A3, c3, rfl, h3, _⟩ := M.out.row_slice 2 rfl
        have i2 : ¬ ((xs.length : Int) < (D.2.2.length : Int)) := by omega
        go_wp2
        go_ret2
        rw [HR.out, HC.out]
        exact ⟨_, _, rfl, h3, M.out.only [2] (K := [_]) rfl (by decide)⟩
set_option maxRecDepth 100000 in
set_option maxHeartbeats 4000000 in
theorem spec_StillHungry_any (F : Fld) (hF : F.ok) (fs : List Int) (hfl : fs.length = 100) (hff : ∀ x ∈ fs, -32768 ≤ x ∧ x ≤ 32767) (A : Option Addr) (n : Nat) (xs : List Flock) (hx : ∀ x ∈ xs, x.ok) (hl : xs.length ≤ 1048576) (w : World) (hs : Sl w 6 A xs.length (flat Flock.vals xs)) :
    Calls Try.prog 57 #[.agg F.cells, .agg (ints .i16 fs), .slice A xs.length n] w (RetRowC w 2 1 (shI F fs xs).length (flat oneI (shI F fs xs)) (birdsCode F fs xs)) := by
  have M := Lib.hid (Mem.start w)
  have HFF := Lib.hid hff
  have HF := Lib.hid hF
  have HX := Lib.hid hx
  have HS := Lib.hid hs
  have S1 := Lib.hid (Fld.size hF.toLen)
  have S2 := Lib.hid (Fld.size Fld.z_len)
  clear hx hs hff hF
  cases hd : birdsOk F fs xs
  · have HD := Lib.hid hd
    have HC := Lib.hid (show birdsCode F fs xs = 1 by rw [birdsCode, hd]; rfl)
    have HR := Lib.hid (show shI F fs xs = [] by rw [shI, hd]; rfl)
    clear hd
    go_enter Try.func57, Try.ntmps57
    go_wp2_with (first
      | (go_at_call 109; go_must (refine (l02All_any _ _ F HF.out fs hfl HFF.out A n xs HX.out hl _ (M.out.blk 0 rfl) (M.out.blk 1 rfl) (M.out.sl HS.out)).mono ?_); rintro e w_ ⟨rfl, rfl⟩; rw [HC.out])
      | ((with_reducible refine gate_dst (N := 18) rfl ?_); go_must (refine M.out.ev_bs0 elem_int64 rfl rfl ?_); intro g18 w18 m; simp only [List.cons_append, List.nil_append] at m; have M := Lib.hid m; clear m)
      | ((with_reducible refine gate_dst (N := 3) rfl ?_); go_must (refine M.out.ev_new rfl (by first | (go_simp; done) | (go_simp; rfl)) ?_); intro g3 w3 m; simp only [List.cons_append, List.nil_append] at m; have M := Lib.hid m; clear m)
      | ((with_reducible refine gate_dst (N := 4) rfl ?_); go_must (refine M.out.ev_new rfl (by first | (go_simp; done) | (go_simp; rfl)) ?_); intro g4 w4 m; simp only [List.cons_append, List.nil_append] at m; have M := Lib.hid m; clear m)
      | ((with_reducible refine gate_dst (N := 21) rfl ?_); go_must (refine M.out.ev_ldw 0 _ _ rfl rfl rfl Try.underlying35 rfl (by first | exact sz35 | (rw [S1.out]; exact sz35) | (rw [S2.out]; exact sz35) | (rw [S3.out]; exact sz35)) rfl ?_))
      | ((with_reducible refine gate_dst (N := 9) rfl ?_); go_must (refine M.out.ev_new rfl (by first | (go_simp; done) | (go_simp; rfl)) ?_); intro g9 w9 m; simp only [List.cons_append, List.nil_append] at m; have M := Lib.hid m; clear m)
      | ((with_reducible refine gate_store (x := .tmp 9) rfl ?_); go_must (refine M.out.ev_stw 2 _ _ _ rfl rfl rfl rfl _ rfl (by first | rfl | (simp only [S1.out]; rfl) | (simp only [S1.out, S2.out]; rfl) | (simp only [S3.out]; rfl) | (simp only [S1.out, S2.out, S3.out]; rfl)) (by first | exact sz35 | (rw [S1.out]; exact sz35) | (rw [S2.out]; exact sz35) | (rw [S3.out]; exact sz35)) (by first | exact ints_one _ _ | exact Fld.one _ | exact O1.out | rfl | (simp [Value.oneCell']; done)) rfl ?_); intro wn m; simp only [List.set_cons_succ, List.set_cons_zero, List.setIfInBounds_toArray] at m; have M := Lib.hid m; clear m)
      )
    go_ret2
    have m := M.out.only [2] (K := [_]) rfl (by decide)
    rw [HR.out, HC.out]
    exact ⟨_, 0, rfl, Nat.le_refl _, m⟩
  · have HD := Lib.hid hd
    have HC := Lib.hid (show birdsCode F fs xs = 0 by rw [birdsCode, hd]; rfl)
    have HR := Lib.hid (show shI F fs xs = hungryTo (dayOf F fs xs).2.2 xs.length by rw [shI, hd, if_pos rfl])
    have hb := birds_all hd
    have HB := Lib.hid hb
    have hdy := dayTo_ok HF.out fs hb.1 _ (Nat.le_refl _)
    have hsum := dayTo_sums HF.out fs hb.1 xs.length (Nat.le_refl _)
    have hvis := dayTo_visits HF.out fs hb.1 hb.2 xs.length (Nat.le_refl _)
    have DA := Lib.hid (fun (wx : World) (gb : Nat) (h1 : Blk wx gb 37 (ints .i16 fs)) (h2 : Sl wx 6 A xs.length (flat Flock.vals xs)) => l02Day_any gb F HF.out fs hfl HFF.out A n xs hb.1 hb.2 wx h1 h2)
    have hh : ∀ i (h : i < xs.length), 0 ≤ xs[i].hunger ∧ xs[i].hunger ≤ 4000 := fun i h => hunger_small (hb.1 _ (List.getElem_mem h))
    obtain ⟨D, hD⟩ : ∃ D, D = dayOf F fs xs := ⟨_, rfl⟩
    rw [← hD] at DA HR
    rw [show dayTo F fs xs xs.length = D from hD.symm] at hsum hvis hdy
    have hdl := hdy.2.2
    have hvl := hdy.2.1
    have h12 := hb.2
    have S3 := Lib.hid (Fld.size hdy.1.toLen)
    have O2 := Lib.hid (Fld.one D.1)
    have HVIS := Lib.hid hvis
    have HSUM := Lib.hid (show ∀ i (h : i < xs.length), gi (sumsOf xs.length D.2.1) i = xs[i].hunger - gi D.2.2 i from fun i h => by rw [hsum i, dif_pos ⟨h, h⟩])
    have HSL := Lib.hid (sumsOf_len xs.length D.2.1)
    obtain ⟨E, hE⟩ : ∃ E, E = sumsOf xs.length D.2.1 := ⟨_, rfl⟩
    have LS := Lib.hid (fun (A : Option Addr) (c : Nat) (wx : World) (h : Sl wx 3 A D.2.1.length (flat Visit.vals D.2.1)) => l02Sums_any xs.length hl A c D.2.1 HVIS.out (by omega) wx h)
    rw [← hE] at HSUM HSL LS
    clear hd hD hb hdy hsum hvis hE
    go_enter Try.func57, Try.ntmps57
    go_wp2_with (first
      | (go_at_call 109; go_must (refine (l02All_any _ _ F HF.out fs hfl HFF.out A n xs HX.out hl _ (M.out.blk 0 rfl) (M.out.blk 1 rfl) (M.out.sl HS.out)).mono ?_); rintro e w_ ⟨rfl, rfl⟩; rw [HC.out])
      | (go_at_call 110; go_must (refine (DA.out _ _ (M.out.blk 1 rfl) (M.out.sl HS.out)).mono ?_); rintro e w_ ⟨A1, c1, rfl, hc1, N_⟩; have m := M.out.join N_; clear N_; simp only [List.cons_append, List.nil_append, List.append_nil] at m; have M := Lib.hid m; clear m)
      | ((with_reducible refine gate_dst (N := 9) rfl ?_); go_must (refine M.out.ev_new rfl (by first | (go_simp; done) | (go_simp; rfl)) ?_); intro g9 w9 m; simp only [List.cons_append, List.nil_append, zeroFld] at m; have M := Lib.hid m; clear m)
      | ((with_reducible refine gate_store (x := .tmp 9) rfl ?_); go_must (refine M.out.ev_stw 3 _ _ _ rfl rfl rfl rfl D.1.cells rfl (by rw [S2.out, S3.out]) (by rw [S3.out]; exact sz35) O2.out rfl ?_); intro wn m; simp only [List.set_cons_succ, List.set_cons_zero] at m; have M := Lib.hid m; clear m)
      | (go_at_call 96; go_must (refine (LS.out _ _ _ (M.out.slof 2 rfl)).mono ?_); rintro e w_ ⟨A2, c2, rfl, hc2, N_⟩; have m := M.out.join N_; clear N_; simp only [List.cons_append, List.nil_append, List.append_nil] at m; have M := Lib.hid m; clear m)
      | ((with_reducible refine gate_dst (N := 30) rfl ?_); go_must (refine M.out.ev_bs0 elem_int64 rfl rfl ?_); intro g30 w30 m; simp only [List.cons_append, List.nil_append] at m; have M := Lib.hid m; clear m)
      | ((with_reducible refine gate_dst (N := 3) rfl ?_); go_must (refine M.out.ev_new rfl (by first | (go_simp; done) | (go_simp; rfl)) ?_); intro g3 w3 m; simp only [List.cons_append, List.nil_append] at m; have M := Lib.hid m; clear m)
      | ((with_reducible refine gate_dst (N := 4) rfl ?_); go_must (refine M.out.ev_new rfl (by first | (go_simp; done) | (go_simp; rfl)) ?_); intro g4 w4 m; simp only [List.cons_append, List.nil_append] at m; have M := Lib.hid m; clear m)
      | ((with_reducible refine gate_dst (N := 21) rfl ?_); go_must (refine M.out.ev_ldw 0 _ _ rfl rfl rfl Try.underlying35 rfl (by first | exact sz35 | (rw [S1.out]; exact sz35) | (rw [S2.out]; exact sz35) | (rw [S3.out]; exact sz35)) rfl ?_))
      | ((with_reducible refine gate_dst (N := 9) rfl ?_); go_must (refine M.out.ev_new rfl (by first | (go_simp; done) | (go_simp; rfl)) ?_); intro g9 w9 m; simp only [List.cons_append, List.nil_append] at m; have M := Lib.hid m; clear m)
      | ((with_reducible refine gate_store (x := .tmp 9) rfl ?_); go_must (refine M.out.ev_stw 2 _ _ _ rfl rfl rfl rfl _ rfl (by first | rfl | (simp only [S1.out]; rfl) | (simp only [S1.out, S2.out]; rfl) | (simp only [S3.out]; rfl) | (simp only [S1.out, S2.out, S3.out]; rfl)) (by first | exact sz35 | (rw [S1.out]; exact sz35) | (rw [S2.out]; exact sz35) | (rw [S3.out]; exact sz35)) (by first | exact ints_one _ _ | exact Fld.one _ | exact O1.out | rfl | (simp [Value.oneCell']; done)) rfl ?_); intro wn m; simp only [List.set_cons_succ, List.set_cons_zero, List.setIfInBounds_toArray] at m; have M := Lib.hid m; clear m)
      )
    go_loopw [12, 13] (fun s v wr => ∃ k : Nat, k ≤ xs.length ∧ v = .int .i64 k ∧ Mem w wr [.blk g3 35 F.cells, .blk g4 37 (ints .i16 fs), .row (.slice A1 D.2.1.length c1) 79 3 D.2.1.length (flat Visit.vals D.2.1), .blk g9 35 D.1.cells, .row (.slice A2 xs.length c2) 2 1 xs.length (flat oneI E), .row s 2 1 (hungryTo D.2.2 k).length (flat oneI (hungryTo D.2.2 k))])
      (fun _ v _ => xs.length - (intOf v).toNat)
    case atStart => exact ⟨0, by omega, rfl, M.out⟩
    case round =>
      clear M
      obtain ⟨k, hk, rfl, mm⟩ := hrel
      have M := Lib.hid mm
      clear mm
      have hhl := hungryTo_len D.2.2 k
      have HSU := Lib.hid (hungryTo_succ D.2.2 k)
      by_cases hlt : k < xs.length
      · obtain ⟨g_, cap_, he, _⟩ := M.out.row_form 4 rfl (by omega)
        obtain ⟨rfl, rfl⟩ : A2 = some ⟨g_, 0, none⟩ ∧ c2 = cap_ := by injection he with e1 _ e2; exact ⟨e1, e2⟩
        obtain ⟨b', off, rfl, hr⟩ := HS.out.2 (by omega)
        have R := Lib.hid (range_at Flock.vl hr (List.getElem?_eq_getElem hlt))
        have HPX := Lib.hid (HB.out.1 xs[k] (List.getElem_mem hlt))
        have hek := HSUM.out k hlt
        have hsl := HSL.out
        have HEA := Lib.hid (acc_at (acc := E) (f := k) (by omega))
        have hhk := hh k hlt
        have i0 : (0 : Int) ≤ (k : Int) := by omega
        have i1 : (k : Int) < (xs.length : Int) := by omega
        obtain ⟨eN, heN⟩ : ∃ eN, eN = gi E k := ⟨_, rfl⟩
        obtain ⟨hN, hhN⟩ : ∃ hN, hN = xs[k].hunger := ⟨_, rfl⟩
        have HU := Lib.hid (fun (p o : Nat) (wx : World) (hq : wx.rangeAt p o xs[k].vals) => l02Hunger_any p o xs[k] HPX.out wx hq)
        rw [← heN] at HEA hek
        rw [← hhN] at HU hek hhk
        clear hr he heN hhN
        by_cases hg : 0 < gi D.2.2 k
        · have HG := Lib.hid hg
          have hgt : eN < hN := by omega
          clear hek
          go_wp2
          refine region_anyH (fun w' => Mem w w' [.blk g3 35 F.cells, .blk g4 37 (ints .i16 fs), .row (.slice A1 D.2.1.length c1) 79 3 D.2.1.length (flat Visit.vals D.2.1), .blk g9 35 D.1.cells, .row (.slice (some ⟨g_, 0, none⟩) xs.length c2) 2 1 xs.length (flat oneI E), .row u12 2 1 (hungryTo D.2.2 k).length (flat oneI (hungryTo D.2.2 k))]) (by kernel_rfl) ?_
          have m := M.out.drew
          clear M
          have M := Lib.hid m
          clear m
          apply takeH (i := 0) 37 rfl (by kernel_rfl) (by kernel_rfl) (by kernel_rfl) (fun _ _ _ h => h) rfl (by first | exact M.out | exact M.out.take 6)
          case' hy =>
            refine Or.inl ⟨by first | rfl | (go_simp; done), ?_⟩
            intro w hS
            clear hS
            go_simp
            try with_reducible rfl
          try simp only [Act.put, List.getElem_toArray, List.getElem_cons_succ, List.getElem_cons_zero, List.setIfInBounds_toArray, List.set_cons_succ, List.set_cons_zero]
          apply takeH (i := 1) 38 rfl (by kernel_rfl) (by kernel_rfl) (by kernel_rfl) (fun _ _ _ h => h) rfl (by first | exact M.out | exact M.out.take 6)
          case' hy =>
            refine Or.inl ⟨by first | rfl | (go_simp; done), ?_⟩
            intro w hS
            clear hS
            go_simp
            try with_reducible rfl
          try simp only [Act.put, List.getElem_toArray, List.getElem_cons_succ, List.getElem_cons_zero, List.setIfInBounds_toArray, List.set_cons_succ, List.set_cons_zero]
          apply takeH (i := 2) 39 rfl (by kernel_rfl) (by kernel_rfl) (by kernel_rfl) (fun _ _ _ h => h) rfl (by first | exact M.out | exact M.out.take 6)
          case' hy =>
            refine Or.inl ⟨by first | rfl | (go_simp; done), ?_⟩
            intro w hS
            clear hS
            go_simp
            try with_reducible rfl
          try simp only [Act.put, List.getElem_toArray, List.getElem_cons_succ, List.getElem_cons_zero, List.setIfInBounds_toArray, List.set_cons_succ, List.set_cons_zero]
          apply takeH (i := 3) 40 rfl (by kernel_rfl) (by kernel_rfl) (by kernel_rfl) (fun _ _ _ h => h) rfl (by first | exact M.out | exact M.out.take 6)
          case' hy => exact ylds _ _ rfl rfl Try.underlying2 rfl rfl (fun w' hS => hS.row_cell 4 rfl HEA.out)
          try simp only [Act.put, List.getElem_toArray, List.getElem_cons_succ, List.getElem_cons_zero, List.setIfInBounds_toArray, List.set_cons_succ, List.set_cons_zero]
          apply takeH (i := 4) 41 rfl (by kernel_rfl) (by kernel_rfl) (by kernel_rfl) (fun _ _ _ h => h) rfl (by first | exact M.out | exact M.out.take 6)
          case' hy =>
            refine Or.inl ⟨by first | rfl | (go_simp; done), ?_⟩
            intro w hS
            clear hS
            go_simp
            try with_reducible rfl
          try simp only [Act.put, List.getElem_toArray, List.getElem_cons_succ, List.getElem_cons_zero, List.setIfInBounds_toArray, List.set_cons_succ, List.set_cons_zero]
          apply takeH (i := 5) 42 rfl (by kernel_rfl) (by kernel_rfl) (by kernel_rfl) (fun _ _ _ h => h) rfl (by first | exact M.out | exact M.out.take 6)
          case' hy =>
            refine Or.inl ⟨by first | rfl | (go_simp; done), ?_⟩
            intro w hS
            clear hS
            go_simp
            try with_reducible rfl
          try simp only [Act.put, List.getElem_toArray, List.getElem_cons_succ, List.getElem_cons_zero, List.setIfInBounds_toArray, List.set_cons_succ, List.set_cons_zero]
          apply takeH (i := 6) 43 rfl (by kernel_rfl) (by kernel_rfl) (by kernel_rfl) (fun _ _ _ h => h) rfl (by first | exact M.out | exact M.out.take 6)
          case' hy =>
            refine Or.inl ⟨by first | rfl | (go_simp; done), ?_⟩
            intro w hS
            clear hS
            go_simp
            try with_reducible rfl
          try simp only [Act.put, List.getElem_toArray, List.getElem_cons_succ, List.getElem_cons_zero, List.setIfInBounds_toArray, List.set_cons_succ, List.set_cons_zero]
          refine any1H 7 (by kernel_rfl) rfl (fun K hK => ?_)
          go_wp2_with (first | (go_at_call 102; go_must (refine (HU.out _ _ _ (M.out.argrange R.out)).mono ?_); rintro e w_ ⟨rfl, N_⟩; have m := M.out.join N_; clear N_; simp only [List.cons_append, List.nil_append, List.append_nil] at m; have M := Lib.hid m; clear m))
          refine onward_normal (hK _ _ ⟨(by first | exact M.out | exact M.out.take 6), ?_⟩)
          clear hK K
          try simp only [Act.put, List.getElem_toArray, List.getElem_cons_succ, List.getElem_cons_zero, List.setIfInBounds_toArray, List.set_cons_succ, List.set_cons_zero]
          apply takeH (i := 8) 45 rfl (by kernel_rfl) (by kernel_rfl) (by kernel_rfl) (fun _ _ _ h => h) rfl (by first | exact M.out | exact M.out.take 6)
          case' hy =>
            refine Or.inl ⟨by first | rfl | (go_simp; done), ?_⟩
            intro w hS
            clear hS
            go_simp
            try with_reducible rfl
          try simp only [Act.put, List.getElem_toArray, List.getElem_cons_succ, List.getElem_cons_zero, List.setIfInBounds_toArray, List.set_cons_succ, List.set_cons_zero]
          refine wpAnyH_done (by kernel_rfl) ?_ _
          all_goals
            go_wp2_with (first
              | ((with_reducible refine gate_dst (N := 48) rfl ?_); go_must (refine M.out.ev_bs1 elem_int64 rfl _ rfl #[.int .i64 k] rfl rfl (by decide) ?_); intro g48 w48 m; simp only [List.cons_append, List.nil_append] at m; have M := Lib.hid m; clear m)
              | ((with_reducible refine gate_dst (N := 49) rfl ?_); go_must (refine M.out.ev_append1 5 6 elem_int64 rfl _ _ rfl rfl rfl rfl rfl rfl (by simp [Value.oneCell']) (by omega) (by decide) ?_); intro v49 w49 m; simp only [List.set_cons_succ, List.set_cons_zero] at m; have M := Lib.hid m; clear m)
              )
            refine ⟨⟨k + 1, by omega, by go_num, ?_⟩, by simp [intOf]; omega⟩
            have mm := M.out.take 6
            rw [HSU.out, if_pos HG.out]
            simp only [List.length_append, flat_append, flat_oneI, List.map_append, List.map_cons, List.map_nil, List.length_cons, List.length_nil, Nat.zero_add]
            simp only [flat_oneI] at mm
            exact mm
        · have HG := Lib.hid hg
          have hgt : ¬ (eN < hN) := by omega
          clear hek
          go_wp2
          refine region_anyH (fun w' => Mem w w' [.blk g3 35 F.cells, .blk g4 37 (ints .i16 fs), .row (.slice A1 D.2.1.length c1) 79 3 D.2.1.length (flat Visit.vals D.2.1), .blk g9 35 D.1.cells, .row (.slice (some ⟨g_, 0, none⟩) xs.length c2) 2 1 xs.length (flat oneI E), .row u12 2 1 (hungryTo D.2.2 k).length (flat oneI (hungryTo D.2.2 k))]) (by kernel_rfl) ?_
          have m := M.out.drew
          clear M
          have M := Lib.hid m
          clear m
          apply takeH (i := 0) 37 rfl (by kernel_rfl) (by kernel_rfl) (by kernel_rfl) (fun _ _ _ h => h) rfl (by first | exact M.out | exact M.out.take 6)
          case' hy =>
            refine Or.inl ⟨by first | rfl | (go_simp; done), ?_⟩
            intro w hS
            clear hS
            go_simp
            try with_reducible rfl
          try simp only [Act.put, List.getElem_toArray, List.getElem_cons_succ, List.getElem_cons_zero, List.setIfInBounds_toArray, List.set_cons_succ, List.set_cons_zero]
          apply takeH (i := 1) 38 rfl (by kernel_rfl) (by kernel_rfl) (by kernel_rfl) (fun _ _ _ h => h) rfl (by first | exact M.out | exact M.out.take 6)
          case' hy =>
            refine Or.inl ⟨by first | rfl | (go_simp; done), ?_⟩
            intro w hS
            clear hS
            go_simp
            try with_reducible rfl
          try simp only [Act.put, List.getElem_toArray, List.getElem_cons_succ, List.getElem_cons_zero, List.setIfInBounds_toArray, List.set_cons_succ, List.set_cons_zero]
          apply takeH (i := 2) 39 rfl (by kernel_rfl) (by kernel_rfl) (by kernel_rfl) (fun _ _ _ h => h) rfl (by first | exact M.out | exact M.out.take 6)
          case' hy =>
            refine Or.inl ⟨by first | rfl | (go_simp; done), ?_⟩
            intro w hS
            clear hS
            go_simp
            try with_reducible rfl
          try simp only [Act.put, List.getElem_toArray, List.getElem_cons_succ, List.getElem_cons_zero, List.setIfInBounds_toArray, List.set_cons_succ, List.set_cons_zero]
          apply takeH (i := 3) 40 rfl (by kernel_rfl) (by kernel_rfl) (by kernel_rfl) (fun _ _ _ h => h) rfl (by first | exact M.out | exact M.out.take 6)
          case' hy => exact ylds _ _ rfl rfl Try.underlying2 rfl rfl (fun w' hS => hS.row_cell 4 rfl HEA.out)
          try simp only [Act.put, List.getElem_toArray, List.getElem_cons_succ, List.getElem_cons_zero, List.setIfInBounds_toArray, List.set_cons_succ, List.set_cons_zero]
          apply takeH (i := 4) 41 rfl (by kernel_rfl) (by kernel_rfl) (by kernel_rfl) (fun _ _ _ h => h) rfl (by first | exact M.out | exact M.out.take 6)
          case' hy =>
            refine Or.inl ⟨by first | rfl | (go_simp; done), ?_⟩
            intro w hS
            clear hS
            go_simp
            try with_reducible rfl
          try simp only [Act.put, List.getElem_toArray, List.getElem_cons_succ, List.getElem_cons_zero, List.setIfInBounds_toArray, List.set_cons_succ, List.set_cons_zero]
          apply takeH (i := 5) 42 rfl (by kernel_rfl) (by kernel_rfl) (by kernel_rfl) (fun _ _ _ h => h) rfl (by first | exact M.out | exact M.out.take 6)
          case' hy =>
            refine Or.inl ⟨by first | rfl | (go_simp; done), ?_⟩
            intro w hS
            clear hS
            go_simp
            try with_reducible rfl
          try simp only [Act.put, List.getElem_toArray, List.getElem_cons_succ, List.getElem_cons_zero, List.setIfInBounds_toArray, List.set_cons_succ, List.set_cons_zero]
          apply takeH (i := 6) 43 rfl (by kernel_rfl) (by kernel_rfl) (by kernel_rfl) (fun _ _ _ h => h) rfl (by first | exact M.out | exact M.out.take 6)
          case' hy =>
            refine Or.inl ⟨by first | rfl | (go_simp; done), ?_⟩
            intro w hS
            clear hS
            go_simp
            try with_reducible rfl
          try simp only [Act.put, List.getElem_toArray, List.getElem_cons_succ, List.getElem_cons_zero, List.setIfInBounds_toArray, List.set_cons_succ, List.set_cons_zero]
          refine any1H 7 (by kernel_rfl) rfl (fun K hK => ?_)
          go_wp2_with (first | (go_at_call 102; go_must (refine (HU.out _ _ _ (M.out.argrange R.out)).mono ?_); rintro e w_ ⟨rfl, N_⟩; have m := M.out.join N_; clear N_; simp only [List.cons_append, List.nil_append, List.append_nil] at m; have M := Lib.hid m; clear m))
          refine onward_normal (hK _ _ ⟨(by first | exact M.out | exact M.out.take 6), ?_⟩)
          clear hK K
          try simp only [Act.put, List.getElem_toArray, List.getElem_cons_succ, List.getElem_cons_zero, List.setIfInBounds_toArray, List.set_cons_succ, List.set_cons_zero]
          apply takeH (i := 8) 45 rfl (by kernel_rfl) (by kernel_rfl) (by kernel_rfl) (fun _ _ _ h => h) rfl (by first | exact M.out | exact M.out.take 6)
          case' hy =>
            refine Or.inl ⟨by first | rfl | (go_simp; done), ?_⟩
            intro w hS
            clear hS
            go_simp
            try with_reducible rfl
          try simp only [Act.put, List.getElem_toArray, List.getElem_cons_succ, List.getElem_cons_zero, List.setIfInBounds_toArray, List.set_cons_succ, List.set_cons_zero]
          refine wpAnyH_done (by kernel_rfl) ?_ _
          all_goals
            go_wp2
            refine ⟨⟨k + 1, by omega, by go_num, ?_⟩, by simp [intOf]; omega⟩
            rw [HSU.out, if_neg (by have := HG.out; omega), List.append_nil]
            exact M.out
      · obtain rfl : k = xs.length := by omega
        obtain ⟨A3, c3, rfl, h3, _⟩ := M.out.row_slice 5 rfl
        go_wp2
        go_ret2
        rw [HR.out, HC.out]
        exact ⟨_, _, rfl, h3, M.out.only [5] (K := [_]) rfl (by decide)⟩
end Go.Proofs.Ytbjcajhbhicokaa
