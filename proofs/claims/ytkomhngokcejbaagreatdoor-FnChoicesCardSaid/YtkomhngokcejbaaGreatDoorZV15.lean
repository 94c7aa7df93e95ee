/- Texts of a proof, laid together: DrawB. -/
import Derived.Test.YtkomhngokcejbaaGreatDoorZV14
import Derived.Test.YtkomhngokcejbaaGreatDoorZV05
import Derived.Test.YtkomhngokcejbaaGreatDoorZV11
import Derived.Test.YtkomhngokcejbaaGreatDoorZV07
namespace Go.Proofs.YtkomhngokcejbaaGreatDoor
set_option linter.unusedSimpArgs false
set_option linter.unusedVariables false
open Go.RowKit
attribute [local go_sem] cell?_mk frozen?_mk
--ONES exact Fld.one _ | exact Flock.one _ | exact ints_one _ _

section
variable {P : Program} {ops : Array Oper} {rest : List Oper} {o : Oper} {a : Act} {w0 w : World} {Q : Exit → Act → World → Prop} {L : List Ent}
theorem Mem.ev_bs5 (M : Mem w0 w L) {T e : TypeId} {zv : Value} {bytes : Nat} (E : ElemOk P T e zv 1 bytes) (hgd : o.guard = none) (x y z s q : Operand) (ho : o.op = .buildSlice T 5 #[(0, x), (1, y), (2, z), (3, s), (4, q)])
    (u v t r p : Value) (hx : a.eval x = u) (hy : a.eval y = v) (hz : a.eval z = t) (hs : a.eval s = r) (hq : a.eval q = p) (hu : u.cells = #[u]) (hv : v.cells = #[v]) (ht : t.cells = #[t]) (hr : r.cells = #[r]) (hp : p.cells = #[p])
    (h : ∀ g w1, Mem w0 w1 (L ++ [.blk g e #[u, v, t, r, p]]) → wpList P ops Q rest (a.put o.dst (.slice (some ⟨g, 0, none⟩) 5 5)) w1) : wpList P ops Q (o :: rest) a w := by
  obtain ⟨i, hi, h1, h2, h3⟩ := E.get
  refine wpList_buildSlice hgd T e 5 _ ho #[u, v, t, r, p] i zv E.sl hi h1 (by rw [h2]; decide) (by rw [h2]; decide) ?_ ?_
  · have := Great.fill_whole (s := i.size) (by omega) [u, v, t, r, p] ((Array.range (5 * i.size)).map (zv.cells[· % zv.cells.size]!)) (by simp [hu, hv, ht, hr, hp, h2]) (by simp)
    simpa [hx, hy, hz, hs, hq, hu, hv, ht, hr, hp] using this
  · exact h _ _ (M.new (Nat.le_refl _) (Blk.new w e #[u, v, t, r, p]) ((Below.refl _ _).alloc (Nat.le_refl _) _))
/-- []T{x} of a struct, as a row of one's own. -/
theorem Mem.ev_bs1R (M : Mem w0 w L) {T e : TypeId} {zv : Value} {sz bytes : Nat} (E : ElemOk P T e zv sz bytes) (hgd : o.guard = none) (x : Operand) (ho : o.op = .buildSlice T 1 #[(0, x)])
    (cs : List Value) (hx : (a.eval x).cells = cs.toArray) (hl : cs.length = sz) (hsz : sz ≤ 2 ^ 24)
    (h : ∀ g w1, Mem w0 w1 (L ++ [.row (.slice (some ⟨g, 0, none⟩) 1 1) e sz 1 cs]) → wpList P ops Q rest (a.put o.dst (.slice (some ⟨g, 0, none⟩) 1 1)) w1) : wpList P ops Q (o :: rest) a w := by
  obtain ⟨i, hi, h1, h2, h3⟩ := E.get
  have hp := E.pos
  refine wpList_buildSlice hgd T e 1 _ ho cs.toArray i zv E.sl hi h1 (by rw [h2]; omega) (by rw [h2]; omega) ?_ ?_
  · have hc : (a.eval x).cells.size = i.size := by rw [hx, h2, List.size_toArray, hl]
    have := Great.fill_whole (s := i.size) (by omega) [a.eval x] ((Array.range (1 * i.size)).map (zv.cells[· % zv.cells.size]!)) (by simpa using hc) (by simp)
    simpa [hx] using this
  · refine h _ _ (M.push _ ((Below.refl _ _).alloc (Nat.le_refl _) _) ⟨by rw [hl, Nat.one_mul], .inr ⟨w.heap.size, 1, cs.toArray, rfl, M.size, heap_alloc_new w _, Nat.le_refl _, by unfold maxLen; omega, by rw [List.size_toArray, hl, Nat.one_mul], by rw [← hl]; simp⟩⟩ fun k hk => ?_)
    simp only [Ent.place, Value.ownBlock, Option.some.injEq] at hk
    omega
end
/-- Fears as they are drawn. -/
structure Afr (F : Fld) (fs : List Int) : Prop where
  len : fs.length = 100
  b : ∀ j, 0 ≤ gi fs j ∧ gi fs j ≤ 7
  z : ∀ j : Nat, F.has j = false → gi fs j = 0
theorem Afr.all {F : Fld} {fs : List Int} (h : Afr F fs) : ∀ x ∈ fs, -32768 ≤ x ∧ x ≤ 32767 := fun x hx => by
  obtain ⟨i, hi, rfl⟩ := List.getElem_of_mem hx
  have := h.b i
  unfold gi at this
  rw [List.getD_eq_getElem?_getD, List.getElem?_eq_getElem hi] at this
  change 0 ≤ fs[i] ∧ fs[i] ≤ 7 at this
  omega
theorem Afr.ok {F : Fld} {fs : List Int} (h : Afr F fs) : fearsOk F fs = true := fearsOk_of fun j hj => by
  have h1 := h.b j
  unfold fearAtOk
  split
  · exact inB_iff.2 ⟨h1.1, by omega⟩
  · next hh =>
    rw [h.z j (by simpa using hh)]
    rfl
theorem Afr.start (F : Fld) : Afr F (zs 100) := ⟨zs_len 100, fun j => by rw [zs_gi]; decide, fun j _ => zs_gi 100 j⟩
theorem Afr.set {F : Fld} {fs : List Int} (h : Afr F fs) {k : Nat} (hk : k < 100) (hh : F.has k = true) {x : Int} (hx : 0 ≤ x ∧ x ≤ 7) : Afr F (fs.set k x) := by
  have hl := h.len
  have e : ∀ j, gi (fs.set k x) j = if j = k then x else gi fs j := fun j => by
    by_cases hjk : j = k
    · rw [if_pos hjk, hjk, gi_set_self (by omega)]
    · rw [if_neg hjk, gi_set_ne (fun e => hjk e.symm)]
  refine ⟨by rw [List.length_set]; exact hl, fun j => ?_, fun j hj => ?_⟩
  · rw [e]
    split
    · exact hx
    · exact h.b j
  · rw [e, if_neg (by rintro rfl; rw [hh] at hj; cases hj)]
    exact h.z j hj
theorem zeroFears : Tryz.zeroCells31 = ints .i16 (zs 100) := by kernel_rfl
set_option maxRecDepth 100000 in
set_option maxHeartbeats 8000000 in
theorem l02Afraid_any {w0 w : World} {L : List Ent} (i : Nat) (M0 : Mem w0 w L) (g : Nat) (A : Option Addr) (c : Nat) (bs : List Int) (hb : Bytes bs) (k : Nat) (hk : k ≤ 900000) (sd : Int) (hL : L[i]? = some (.blk g 176 (srcCells A bs.length c k sd))) (hs : Sl w0 1 A bs.length (flat oneB bs)) (gf : Nat) {tf : TypeId} (F : Fld) (hF : F.ok) (hB : ∀ (x : Ent) (w1 : World), Mem w0 w1 (L.set i x) → Blk w1 gf tf F.cells) :
    Calls Tryz.prog 57 #[.pointer (some ⟨g, 0, none⟩), .pointer (some ⟨gf, 0, none⟩)] w fun e w' => ∃ fs : List Int, e = .returned (.agg (ints .i16 fs)) ∧ Afr F fs ∧ ∃ k' sd', k' ≤ k + 404 ∧ Mem w0 w' (L.set i (.blk g 176 (srcCells A bs.length c k' sd'))) := by
  have M := Lib.hid M0
  have HS := Lib.hid hs
  have HL := Lib.hid hL
  have HB := Lib.hid hb
  have HSET := Lib.hid (fun (e : Ent) => set_at hL e)
  clear M0 hs hL hb
  have HFB := Lib.hid hB
  clear hB
  go_enter Tryz.func57, Tryz.ntmps57
  go_wp2_with (first
    | ((with_reducible refine gate_dst (N := 4) rfl ?_); go_must (refine M.out.ev_new rfl (by first | (go_simp; done) | (go_simp; rfl)) ?_); intro g4 w4 m; have M := Lib.hid m.front; clear m)
    | ((with_reducible refine gate_dst (N := 5) rfl ?_); go_must (refine M.out.ev_new rfl (by first | (go_simp; done) | (go_simp; rfl)) ?_); intro g5 w5 m; have M := Lib.hid m.front; clear m)
    | ((with_reducible refine gate_store (x := .tmp 5) rfl ?_); go_must (refine M.out.ev_stw 0 _ _ _ rfl rfl rfl rfl _ rfl rfl sz31 (by rw [zeroFears]; exact ints_one _ _) rfl ?_); intro wn m; simp only [List.set_cons_zero, zeroFears] at m; have M := Lib.hid m; clear m)
    )
  go_loopw [6] (fun v wr => ∃ (n : Nat) (fs : List Int) (k' : Nat) (sd' : Int), n ≤ 100 ∧ v = .int .i64 n ∧ Afr F fs ∧ k' ≤ k + 4 * n ∧ Mem w0 wr (.blk g5 31 (ints .i16 fs) :: .blk g4 31 (ints .i16 (zs 100)) :: L.set i (.blk g 176 (srcCells A bs.length c k' sd'))))
    (fun v _ => 100 - (intOf v).toNat)
  case atStart => exact ⟨0, zs 100, k, sd, by omega, rfl, Afr.start F, by omega, by rw [set_id HL.out]; exact M.out⟩
  case round =>
    clear M
    obtain ⟨n, fs, k', sd', hn, rfl, ha, hk', m⟩ := hrel
    have M := Lib.hid m
    have HA := Lib.hid ha
    have S3 := Lib.hid (show (ints .i16 fs).size = 100 by rw [ints_size, ha.len])
    clear m ha
    by_cases hlt : n < 100
    · have i0 : (0 : Int) ≤ (n : Int) := by omega
      have i1 : (n : Int) < 100 := by omega
      have SZ1 := Lib.hid (show n < (ints .i16 fs).size by rw [S3.out]; omega)
      cases hh : F.has n
      · have HH := Lib.hid hh
        clear hh
        go_wp2_with (first
          | (go_at_call 71; go_must (refine (l01Is_any gf F hF (n : Int) _ (HFB.out _ _ M.out.tail.tail)).mono ?_); rintro e w_ ⟨rfl, rfl⟩; rw [HH.out])
          )
        exact ⟨⟨n + 1, fs, k', sd', by omega, by go_num, HA.out, by omega, M.out⟩, by simp [intOf]; try omega⟩
      · have HH := Lib.hid hh
        clear hh
        go_wp2_with (first
          | (go_at_call 71; go_must (refine (l01Is_any gf F hF (n : Int) _ (HFB.out _ _ M.out.tail.tail)).mono ?_); rintro e w_ ⟨rfl, rfl⟩; rw [HH.out])
          | ((with_reducible refine gate_dst (N := 17) rfl ?_); go_must (refine M.out.ev_bs5 elem_int64 rfl _ _ _ _ _ rfl _ _ _ _ _ rfl rfl rfl rfl rfl rfl rfl rfl rfl rfl ?_); intro g17 w17 m; have M := Lib.hid m.front; clear m)
          | (go_at_call 92; go_must (refine Calls.mono (calls_args (by rfl) (among_any (i + 3) M.out g A c bs HB.out _ (by omega) _ (HSET.out _) HS.out (some ⟨g17, 0, none⟩) 5 [0, 0, 2, 4, 7] (by decide) (by decide) (fun x w1 m => sl_blkI (ys := [0, 0, 2, 4, 7]) (m.blk 0 rfl)))) ?_); rintro e w_ ⟨y, rfl, hy, k1, sd1, hk1, m⟩; simp only [List.set_cons_succ, List.set_cons_zero, List.set_set] at m; have M := Lib.hid m.tail; clear m; simp only [List.mem_cons, List.not_mem_nil, or_false] at hy; have ey : IntKind.i16.wrap y = y := IntWalk.i16_in _ (by omega))
          | ((with_reducible refine gate_store (x := .tmp 20) rfl ?_); go_must (refine M.out.ev_put 0 _ _ _ rfl rfl rfl rfl (.int .i16 y) rfl SZ1.out sz26 rfl rfl ?_); intro wn m; simp only [List.set_cons_zero, ints_set] at m; have M := Lib.hid m; clear m)
          )
        exact ⟨⟨n + 1, fs.set n y, k1, sd1, by omega, by go_num, HA.out.set hlt HH.out (by omega), by omega, M.out⟩, by simp [intOf]; try omega⟩
    · obtain rfl : n = 100 := by omega
      have SZ2 := Lib.hid (show (ints .i16 (zs 100)).size = (ints .i16 fs).size by rw [S3.out, ints_size, zs_len])
      go_wp2_with (first
        | ((with_reducible refine gate_dst (N := 21) rfl ?_); go_must (refine M.out.ev_ldw 0 _ _ rfl rfl rfl Tryz.underlying31 rfl (by rw [S3.out]; exact sz31) rfl ?_))
        | ((with_reducible refine gate_store (x := .tmp 4) rfl ?_); go_must (refine M.out.ev_stw 1 _ _ _ rfl rfl rfl rfl _ rfl SZ2.out (by rw [S3.out]; exact sz31) (ints_one _ _) rfl ?_); intro wn m; simp only [List.set_cons_zero, List.set_cons_succ] at m; have M := Lib.hid m; clear m)
        )
      refine ret_cell rfl (M.out.blk 1 rfl) Tryz.underlying31 rfl (by rw [S3.out]; exact sz31) rfl ⟨fs, rfl, HA.out, k', sd', by omega, M.out.tail.tail⟩
set_option maxRecDepth 100000 in
set_option maxHeartbeats 4000000 in
theorem A2Fears_any (A : Option Addr) (c : Nat) (bs : List Int) (hb : Bytes bs) (F : Fld) (hF : F.ok) (w : World) (hs : Sl w 1 A bs.length (flat oneB bs)) :
    Calls Tryz.prog 7 #[.slice A bs.length c, .agg F.cells] w fun e w' => ∃ fs : List Int, e = .returned (.agg (ints .i16 fs)) ∧ Afr F fs ∧ Mem w w' [] := by
  have M := Lib.hid (Mem.start w)
  have HS := Lib.hid hs
  have S1 := Lib.hid (Fld.size hF.toLen)
  clear hs
  go_enter Tryz.func7, Tryz.ntmps7
  go_wp2_with (first
    | ((with_reducible refine gate_dst (N := 4) rfl ?_); go_must (refine M.out.ev_new rfl (by first | (go_simp; done) | (go_simp; rfl)) ?_); intro g4 w4 m; simp only [List.cons_append, List.nil_append, zeroFears] at m; have M := Lib.hid m; clear m)
    | ((with_reducible refine gate_store (x := .tmp 4) rfl ?_); go_must (refine M.out.ev_stw 1 _ _ _ rfl rfl rfl rfl _ rfl SZ2.out (by rw [S3.out]; exact sz31) (ints_one _ _) rfl ?_); intro wn m; simp only [List.set_cons_zero, List.set_cons_succ] at m; have M := Lib.hid m; clear m)
    | ((with_reducible refine gate_dst (N := 3) rfl ?_); go_must (refine M.out.ev_new rfl (by first | (go_simp; done) | (go_simp; rfl)) ?_); intro g3 w3 m; simp only [List.cons_append, List.nil_append] at m; have M := Lib.hid m; clear m)
    | ((with_reducible refine gate_dst (N := 4) rfl ?_); go_must (refine M.out.ev_new rfl (by first | (go_simp; done) | (go_simp; rfl)) ?_); intro g4 w4 m; simp only [List.cons_append, List.nil_append] at m; have M := Lib.hid m; clear m)
    | ((with_reducible refine gate_store (x := .tmp 4) rfl ?_); go_must (refine M.out.ev_stw 1 _ _ _ rfl rfl rfl rfl _ rfl (by first | rfl | (simp only [S1.out]; rfl) | (simp only [S1.out, S2.out]; rfl) | (simp only [S3.out]; rfl) | (simp only [S1.out, S2.out, S3.out]; rfl)) (by first | exact sz31 | (rw [S1.out]; exact sz31) | (rw [S2.out]; exact sz31) | (rw [S3.out]; exact sz31)) (by first | exact ints_one _ _ | exact Fld.one _ | exact O1.out | exact Fld.one _ | exact Flock.one _ | exact ints_one _ _ | rfl | (simp [Value.oneCell']; done)) rfl ?_); intro wn m; simp only [List.set_cons_succ, List.set_cons_zero, List.setIfInBounds_toArray] at m; have M := Lib.hid m; clear m)
    | (go_at_call 56; go_must (refine (l00From_any A bs.length c _).mono ?_); rintro e w_ ⟨g, rfl, N_⟩; have m := M.out.join N_; clear N_; simp only [List.cons_append, List.nil_append, List.append_nil] at m; have M := Lib.hid m; clear m)
    | (go_at_call 57; go_must (refine (l02Afraid_any 2 M.out g A c bs hb 0 (by omega) 0 rfl HS.out g3 F hF (fun x w1 m => m.blk 0 rfl)).mono ?_); rintro e w_ ⟨fs, rfl, ha, kd, sdd, hkd, m⟩; simp only [List.set_cons_succ, List.set_cons_zero] at m; have M := Lib.hid m; clear m; have HA := Lib.hid ha; have S3 := Lib.hid (show (ints .i16 fs).size = 100 by rw [ints_size, ha.len]); have SZ2 := Lib.hid (show (ints .i16 (zs 100)).size = (ints .i16 fs).size by rw [S3.out, ints_size, zs_len]); clear ha)
    )
  refine ret_cell rfl (M.out.blk 1 rfl) Tryz.underlying31 rfl (by rw [S3.out]; exact sz31) rfl ⟨fs, rfl, HA.out, M.out.take 0⟩
/-- A flock as it is drawn. -/
structure Flk (F : Fld) (x : Flock) : Prop where
  ok : x.ok
  fine : x.fine F = true
  b5 : 0 ≤ x.birds ∧ x.birds ≤ 5
  e4 : 0 ≤ x.eats ∧ x.eats ≤ 4
theorem Flk.of {F : Fld} {q : Nat} (hq : q < 100) (ht : F.tree q = true) {b e d r t : Int} (h1 : 0 ≤ b ∧ b < 6) (h2 : 0 ≤ e ∧ e < 5) (h3 : d = 0 ∨ d = 3 ∨ d = 6 ∨ d = 1000) (h4 : r = 1 ∨ r = 4 ∨ r = 10 ∨ r = 200) (h5 : 0 ≤ t ∧ t < 3) : Flk F ⟨q, b, e, d, r, t⟩ := by
  refine ⟨⟨?_, ?_, ?_, ?_, ?_, ?_⟩, ?_, ⟨h1.1, by show b ≤ 5; omega⟩, ⟨h2.1, by show e ≤ 4; omega⟩⟩
  iterate 6 (first | (show _ ≤ (q : Int) ∧ (q : Int) ≤ _; omega) | (show _ ≤ b ∧ b ≤ _; omega) | (show _ ≤ e ∧ e ≤ _; omega) | (show _ ≤ d ∧ d ≤ _; omega) | (show _ ≤ r ∧ r ≤ _; omega) | (show _ ≤ t ∧ t ≤ _; omega))
  rw [Flock.fine, show F.tree (⟨q, b, e, d, r, t⟩ : Flock).tree = true from ht, Bool.and_true]
  refine Flock.plain_iff.2 ?_
  dsimp only
  exact ⟨⟨by omega, by omega⟩, ⟨by omega, by omega⟩, ⟨by omega, by omega⟩, ⟨by omega, by omega⟩, ⟨by omega, by omega⟩, ⟨by omega, by omega⟩⟩
/-- The trees met so far. -/
structure Trs (F : Fld) (n : Nat) (ks : List Nat) : Prop where
  len : ks.length ≤ n
  in_ : ∀ q ∈ ks, q < 100 ∧ F.tree q = true
  all : ∀ q, q < n → F.tree q = true → q ∈ ks
theorem Trs.start (F : Fld) : Trs F 0 [] := ⟨Nat.le_refl _, fun q h => (by cases h), fun q h => absurd h (Nat.not_lt_zero _)⟩
theorem Trs.no {F : Fld} {n : Nat} {ks : List Nat} (h : Trs F n ks) (ht : F.tree n = false) : Trs F (n + 1) ks := by
  refine ⟨by have := h.len; omega, h.in_, fun q hq hqt => ?_⟩
  rcases Nat.lt_or_ge q n with h1 | h1
  · exact h.all q h1 hqt
  · obtain rfl : q = n := by omega
    rw [ht] at hqt
    cases hqt
theorem Trs.yes {F : Fld} {n : Nat} {ks : List Nat} (h : Trs F n ks) (hn : n < 100) (ht : F.tree n = true) : Trs F (n + 1) (ks ++ [n]) := by
  refine ⟨by rw [List.length_append]; have := h.len; simp; omega, fun q hq => ?_, fun q hq hqt => ?_⟩
  · rcases List.mem_append.1 hq with h1 | h1
    · exact h.in_ q h1
    · rw [List.mem_singleton.1 h1]
      exact ⟨hn, ht⟩
  · rcases Nat.lt_or_ge q n with h1 | h1
    · exact List.mem_append_left _ (h.all q h1 hqt)
    · obtain rfl : q = n := by omega
      exact List.mem_append_right _ (by simp)
theorem Sl.at64F {w : World} {b off : Nat} {ks : List Nat} (h : Sl w 1 (some ⟨b, off, none⟩) ks.length (flat one64 ks)) {i j : Nat} (hi : ks[i]? = some j) : w.cell? ⟨b, off + i, none⟩ = some (.int .i64 j) := by
  have hlt := (List.getElem?_eq_some_iff.1 hi).1
  obtain ⟨b1, o1, hB, hr⟩ := h.2 (by omega)
  cases hB
  have R := range_at one64_len hr hi
  simpa [nat64] using R 0 _ rfl
set_option maxRecDepth 100000 in
set_option maxHeartbeats 8000000 in
theorem l02OneFlock_any {w0 w : World} {L : List Ent} (i : Nat) (M0 : Mem w0 w L) (g : Nat) (A : Option Addr) (c : Nat) (bs : List Int) (hb : Bytes bs) (k : Nat) (hk : k ≤ 900000) (sd : Int) (hL : L[i]? = some (.blk g 176 (srcCells A bs.length c k sd))) (hs : Sl w0 1 A bs.length (flat oneB bs)) (gf : Nat) {tf : TypeId} (F : Fld) (hF : F.ok) (hB : ∀ (x : Ent) (w1 : World), Mem w0 w1 (L.set i x) → Blk w1 gf tf F.cells) (W : Wood F) :
    Calls Tryz.prog 58 #[.pointer (some ⟨g, 0, none⟩), .pointer (some ⟨gf, 0, none⟩)] w fun e w' => ∃ x : Flock, e = .returned (.agg x.vals.toArray) ∧ Flk F x ∧ ∃ k' sd', k' ≤ k + 100 ∧ Mem w0 w' (L.set i (.blk g 176 (srcCells A bs.length c k' sd'))) := by
  have M := Lib.hid M0
  have HS := Lib.hid hs
  have HL := Lib.hid hL
  have HB := Lib.hid hb
  have HSET := Lib.hid (fun (e : Ent) => set_at hL e)
  clear M0 hs hL hb
  have HFB := Lib.hid hB
  have HW := Lib.hid W
  clear hB W
  go_enter Tryz.func58, Tryz.ntmps58
  go_wp2_with (first
    | ((with_reducible refine gate_dst (N := 4) rfl ?_); go_must (refine M.out.ev_new rfl (by first | (go_simp; done) | (go_simp; rfl)) ?_); intro g4 w4 m; have M := Lib.hid m.front; clear m)
    | ((with_reducible refine gate_dst (N := 8) rfl ?_); go_must (refine M.out.ev_bs0 elem_int64 rfl rfl ?_); intro gv8 wv8 m; have M := Lib.hid m.front; clear m)
    )
  go_loopw [5, 6] (fun s v wr => ∃ (n : Nat) (ks : List Nat), n ≤ 100 ∧ v = .int .i64 n ∧ Trs F n ks ∧ Mem w0 wr (.row s 2 1 ks.length (flat one64 ks) :: .blk g4 48 #[.int .i16 0, .int .i16 0, .int .i16 0, .int .i16 0, .int .i16 0, .int .i8 0] :: L.set i (.blk g 176 (srcCells A bs.length c k sd))))
    (fun _ v _ => 100 - (intOf v).toNat)
  case atStart => exact ⟨0, [], by omega, rfl, Trs.start F, by rw [set_id HL.out]; exact M.out⟩
  case round =>
    clear M
    obtain ⟨n, ks, hn, rfl, ht, m⟩ := hrel
    have M := Lib.hid m
    have HT := Lib.hid ht
    have hkl := ht.len
    clear m ht
    by_cases hlt : n < 100
    · have i0 : (0 : Int) ≤ (n : Int) := by omega
      have i1 : (n : Int) < 100 := by omega
      cases hh : F.tree n
      · have HH := Lib.hid hh
        clear hh
        go_wp2_with (first
          | (go_at_call 133; go_must (refine (l02Tree_any gf F hF (n : Int) _ (HFB.out _ _ M.out.tail.tail)).mono ?_); rintro e w_ ⟨rfl, rfl⟩; rw [HH.out])
          )
        exact ⟨⟨n + 1, ks, by omega, by go_num, HT.out.no HH.out, M.out⟩, by simp [intOf]; try omega⟩
      · have HH := Lib.hid hh
        clear hh
        go_wp2_with (first
          | (go_at_call 133; go_must (refine (l02Tree_any gf F hF (n : Int) _ (HFB.out _ _ M.out.tail.tail)).mono ?_); rintro e w_ ⟨rfl, rfl⟩; rw [HH.out])
          | ((with_reducible refine gate_dst (N := 18) rfl ?_); go_must (refine M.out.ev_bs1 elem_int64 rfl _ rfl #[.int .i64 n] rfl rfl (by decide) ?_); intro g18 w18 m; have M := Lib.hid m.front; clear m)
          | ((with_reducible refine gate_dst (N := 19) rfl ?_); go_must (refine M.out.ev_append1 1 0 elem_int64 rfl _ _ rfl rfl rfl rfl rfl rfl (by simp [Value.oneCell']) (by omega) (by decide) ?_); intro v19 w19 m; simp only [List.set_cons_succ, List.set_cons_zero] at m; have M := Lib.hid m.tail; clear m)
          )
        refine ⟨⟨n + 1, ks ++ [n], by omega, by go_num, HT.out.yes hlt HH.out, ?_⟩, by simp [intOf]; try omega⟩
        rw [flat_snoc, List.length_append]
        exact M.out
    · obtain rfl : n = 100 := by omega
      obtain ⟨q0, hq0, hq1, hq2⟩ := HW.out.t
      have hpos : 0 < ks.length := by
        refine List.length_pos_of_mem (HT.out.all q0 hq0 ?_)
        rw [Fld.tree, hq1, Int.toNat_natCast, hq2]
        rfl
      clear q0 hq0 hq1 hq2
      have hmx : max (1 : Int) (ks.length : Int) = (ks.length : Int) := by omega
      obtain ⟨B, cB, rfl, hcB, _⟩ := M.out.row_slice 0 rfl
      obtain ⟨lb, loff, rfl, _⟩ := (M.out.slof 0 rfl).2 hpos
      go_wp2
      refine region_anyH (fun w' => Sl w' 1 (some ⟨lb, loff, none⟩) ks.length (flat one64 ks)) (by kernel_rfl) ?_
      have m := M.out.drew
      clear M
      have M := Lib.hid m
      clear m
      apply takeH (i := 0) 20 rfl (by kernel_rfl) (by kernel_rfl) (by kernel_rfl) (fun _ _ _ h => h) rfl (by first | exact M.out.slof 0 rfl | exact M.out.slof 1 rfl)
      case' hy =>
        refine Or.inl ⟨by first | rfl | (go_simp; done), ?_⟩
        intro w hS
        clear hS
        go_simp
        try with_reducible rfl
      try simp only [Act.put, List.getElem_toArray, List.getElem_cons_succ, List.getElem_cons_zero, List.setIfInBounds_toArray, List.set_cons_succ, List.set_cons_zero]
      apply takeH (i := 1) 21 rfl (by kernel_rfl) (by kernel_rfl) (by kernel_rfl) (fun _ _ _ h => h) rfl (by first | exact M.out.slof 0 rfl | exact M.out.slof 1 rfl)
      case' hy =>
        refine Or.inl ⟨by first | rfl | (go_simp; done), ?_⟩
        intro w hS
        clear hS
        go_simp
        try with_reducible rfl
      try simp only [Act.put, List.getElem_toArray, List.getElem_cons_succ, List.getElem_cons_zero, List.setIfInBounds_toArray, List.set_cons_succ, List.set_cons_zero]
      apply takeH (i := 2) 22 rfl (by kernel_rfl) (by kernel_rfl) (by kernel_rfl) (fun _ _ _ h => h) rfl (by first | exact M.out.slof 0 rfl | exact M.out.slof 1 rfl)
      case' hy =>
        refine Or.inl ⟨by first | rfl | (go_simp; done), ?_⟩
        intro w hS
        clear hS
        go_simp
        try with_reducible rfl
      try simp only [Act.put, List.getElem_toArray, List.getElem_cons_succ, List.getElem_cons_zero, List.setIfInBounds_toArray, List.set_cons_succ, List.set_cons_zero]
      apply takeH (i := 3) 23 rfl (by kernel_rfl) (by kernel_rfl) (by kernel_rfl) (fun _ _ _ h => h) rfl (by first | exact M.out.slof 0 rfl | exact M.out.slof 1 rfl)
      case' hy =>
        refine Or.inl ⟨by first | rfl | (go_simp; done), ?_⟩
        intro w hS
        clear hS
        go_simp
        try with_reducible rfl
      try simp only [Act.put, List.getElem_toArray, List.getElem_cons_succ, List.getElem_cons_zero, List.setIfInBounds_toArray, List.set_cons_succ, List.set_cons_zero]
      apply takeH (i := 8) 28 rfl (by kernel_rfl) (by kernel_rfl) (by kernel_rfl) (fun _ _ _ h => h) rfl (by first | exact M.out.slof 0 rfl | exact M.out.slof 1 rfl)
      case' hy =>
        refine Or.inl ⟨by first | rfl | (go_simp; done), ?_⟩
        intro w hS
        clear hS
        go_simp
        try with_reducible rfl
      try simp only [Act.put, List.getElem_toArray, List.getElem_cons_succ, List.getElem_cons_zero, List.setIfInBounds_toArray, List.set_cons_succ, List.set_cons_zero]
      refine any2H 4 12 (by kernel_rfl) rfl rfl (fun K hK => ?_) (fun K hK => ?_)
      rotate_right 1
      case' _ =>
        go_wp2_with (first | ((with_reducible refine gate_dst (N := 7) rfl ?_); go_must (refine M.out.ev_new rfl (by first | (go_simp; done) | (go_simp; rfl)) ?_); intro g7 w7 m; have M := Lib.hid m.front; clear m) | ((with_reducible refine gate_store (x := .tmp 7) rfl ?_); go_must (refine M.out.ev_stw 0 _ _ _ rfl rfl rfl rfl _ rfl rfl sz48 (by simp [Value.oneCell']) rfl ?_); intro wn m; simp only [List.set_cons_zero] at m; have M := Lib.hid m; clear m) | ((with_reducible refine gate_dst (N := 7) rfl ?_); go_must (refine M.out.ev_new rfl (by first | (go_simp; done) | (go_simp; rfl)) ?_); intro g7 w7 m; simp only [List.cons_append, List.nil_append] at m; have M := Lib.hid m; clear m) | ((with_reducible refine gate_store (x := .tmp 7) rfl ?_); go_must (refine M.out.ev_stw 1 _ _ _ rfl rfl rfl rfl _ rfl (by first | rfl | (simp only [S1.out]; rfl) | (simp only [S1.out, S2.out]; rfl) | (simp only [S3.out]; rfl) | (simp only [S1.out, S2.out, S3.out]; rfl)) (by first | exact sz48 | (rw [S1.out]; exact sz48) | (rw [S2.out]; exact sz48) | (rw [S3.out]; exact sz48)) (by first | exact ints_one _ _ | exact Fld.one _ | exact O1.out | exact Fld.one _ | exact Flock.one _ | exact ints_one _ _ | rfl | (simp [Value.oneCell']; done)) rfl ?_); intro wn m; simp only [List.set_cons_succ, List.set_cons_zero, List.setIfInBounds_toArray] at m; have M := Lib.hid m; clear m) | (go_at_call 59; go_must (first | (refine Calls.mono (calls_args (by with_reducible rfl) (pick_any (i + 2) M.out g A c bs HB.out _ (by omega) _ (HSET.out _) (M.out.sl HS.out) (ks.length : Int) (by omega))) ?_; rintro e w_ ⟨q, rfl, h0q, h1q, kq, sdq, hkq, m⟩; simp only [List.set_cons_succ, List.set_cons_zero, List.set_set] at m; have M := Lib.hid m; clear m; rw [hmx] at h1q; obtain ⟨qn, hqn, hql⟩ := among_nat h0q h1q; subst hqn; have HQ := Lib.hid (List.getElem?_eq_getElem hql); have HTQ := Lib.hid (HT.out.in_ _ (List.getElem_mem hql)); have eq1 : IntKind.i16.wrap ((ks[qn] : Nat) : Int) = ((ks[qn] : Nat) : Int) := (IntWalk.i16_in _ (by have := HTQ.out.1; omega))) | (refine Calls.mono (calls_args (by with_reducible rfl) (pick_any (i + 3) M.out g A c bs HB.out _ (by omega) _ (HSET.out _) (M.out.sl HS.out) (ks.length : Int) (by omega))) ?_; rintro e w_ ⟨q, rfl, h0q, h1q, kq, sdq, hkq, m⟩; simp only [List.set_cons_succ, List.set_cons_zero, List.set_set] at m; have M := Lib.hid m; clear m; rw [hmx] at h1q; obtain ⟨qn, hqn, hql⟩ := among_nat h0q h1q; subst hqn; have HQ := Lib.hid (List.getElem?_eq_getElem hql); have HTQ := Lib.hid (HT.out.in_ _ (List.getElem_mem hql)); have eq1 : IntKind.i16.wrap ((ks[qn] : Nat) : Int) = ((ks[qn] : Nat) : Int) := (IntWalk.i16_in _ (by have := HTQ.out.1; omega))) | (refine Calls.mono (calls_args (by with_reducible rfl) (pick_any (i + 2) M.out g A c bs HB.out _ (by omega) _ (HSET.out _) (M.out.sl HS.out) 6 (by omega))) ?_; rintro e w_ ⟨r, rfl, h0r, h1r, kr, sdr, hkr, m⟩; simp only [List.set_cons_succ, List.set_cons_zero, List.set_set] at m; have M := Lib.hid m; clear m; have eb : IntKind.i16.wrap r = r := IntWalk.i16_in _ (by omega)) | (refine Calls.mono (calls_args (by with_reducible rfl) (pick_any (i + 3) M.out g A c bs HB.out _ (by omega) _ (HSET.out _) (M.out.sl HS.out) 6 (by omega))) ?_; rintro e w_ ⟨r, rfl, h0r, h1r, kr, sdr, hkr, m⟩; simp only [List.set_cons_succ, List.set_cons_zero, List.set_set] at m; have M := Lib.hid m; clear m; have eb : IntKind.i16.wrap r = r := IntWalk.i16_in _ (by omega)))))
        refine onward_normal (hK _ _ ⟨(by first | exact M.out.slof 0 rfl | exact M.out.slof 1 rfl), ?_⟩)
        clear hK K
        try simp only [Act.put, List.getElem_toArray, List.getElem_cons_succ, List.getElem_cons_zero, List.setIfInBounds_toArray, List.set_cons_succ, List.set_cons_zero]
        refine any1H 4 (by kernel_rfl) rfl (fun K hK => ?_)
        go_wp2_with (first | ((with_reducible refine gate_dst (N := 7) rfl ?_); go_must (refine M.out.ev_new rfl (by first | (go_simp; done) | (go_simp; rfl)) ?_); intro g7 w7 m; have M := Lib.hid m.front; clear m) | ((with_reducible refine gate_store (x := .tmp 7) rfl ?_); go_must (refine M.out.ev_stw 0 _ _ _ rfl rfl rfl rfl _ rfl rfl sz48 (by simp [Value.oneCell']) rfl ?_); intro wn m; simp only [List.set_cons_zero] at m; have M := Lib.hid m; clear m) | ((with_reducible refine gate_dst (N := 7) rfl ?_); go_must (refine M.out.ev_new rfl (by first | (go_simp; done) | (go_simp; rfl)) ?_); intro g7 w7 m; simp only [List.cons_append, List.nil_append] at m; have M := Lib.hid m; clear m) | ((with_reducible refine gate_store (x := .tmp 7) rfl ?_); go_must (refine M.out.ev_stw 1 _ _ _ rfl rfl rfl rfl _ rfl (by first | rfl | (simp only [S1.out]; rfl) | (simp only [S1.out, S2.out]; rfl) | (simp only [S3.out]; rfl) | (simp only [S1.out, S2.out, S3.out]; rfl)) (by first | exact sz48 | (rw [S1.out]; exact sz48) | (rw [S2.out]; exact sz48) | (rw [S3.out]; exact sz48)) (by first | exact ints_one _ _ | exact Fld.one _ | exact O1.out | exact Fld.one _ | exact Flock.one _ | exact ints_one _ _ | rfl | (simp [Value.oneCell']; done)) rfl ?_); intro wn m; simp only [List.set_cons_succ, List.set_cons_zero, List.setIfInBounds_toArray] at m; have M := Lib.hid m; clear m) | (go_at_call 59; go_must (first | (refine Calls.mono (calls_args (by with_reducible rfl) (pick_any (i + 2) M.out g A c bs HB.out _ (by omega) _ (HSET.out _) (M.out.sl HS.out) (ks.length : Int) (by omega))) ?_; rintro e w_ ⟨q, rfl, h0q, h1q, kq, sdq, hkq, m⟩; simp only [List.set_cons_succ, List.set_cons_zero, List.set_set] at m; have M := Lib.hid m; clear m; rw [hmx] at h1q; obtain ⟨qn, hqn, hql⟩ := among_nat h0q h1q; subst hqn; have HQ := Lib.hid (List.getElem?_eq_getElem hql); have HTQ := Lib.hid (HT.out.in_ _ (List.getElem_mem hql)); have eq1 : IntKind.i16.wrap ((ks[qn] : Nat) : Int) = ((ks[qn] : Nat) : Int) := (IntWalk.i16_in _ (by have := HTQ.out.1; omega))) | (refine Calls.mono (calls_args (by with_reducible rfl) (pick_any (i + 3) M.out g A c bs HB.out _ (by omega) _ (HSET.out _) (M.out.sl HS.out) (ks.length : Int) (by omega))) ?_; rintro e w_ ⟨q, rfl, h0q, h1q, kq, sdq, hkq, m⟩; simp only [List.set_cons_succ, List.set_cons_zero, List.set_set] at m; have M := Lib.hid m; clear m; rw [hmx] at h1q; obtain ⟨qn, hqn, hql⟩ := among_nat h0q h1q; subst hqn; have HQ := Lib.hid (List.getElem?_eq_getElem hql); have HTQ := Lib.hid (HT.out.in_ _ (List.getElem_mem hql)); have eq1 : IntKind.i16.wrap ((ks[qn] : Nat) : Int) = ((ks[qn] : Nat) : Int) := (IntWalk.i16_in _ (by have := HTQ.out.1; omega))) | (refine Calls.mono (calls_args (by with_reducible rfl) (pick_any (i + 2) M.out g A c bs HB.out _ (by omega) _ (HSET.out _) (M.out.sl HS.out) 6 (by omega))) ?_; rintro e w_ ⟨r, rfl, h0r, h1r, kr, sdr, hkr, m⟩; simp only [List.set_cons_succ, List.set_cons_zero, List.set_set] at m; have M := Lib.hid m; clear m; have eb : IntKind.i16.wrap r = r := IntWalk.i16_in _ (by omega)) | (refine Calls.mono (calls_args (by with_reducible rfl) (pick_any (i + 3) M.out g A c bs HB.out _ (by omega) _ (HSET.out _) (M.out.sl HS.out) 6 (by omega))) ?_; rintro e w_ ⟨r, rfl, h0r, h1r, kr, sdr, hkr, m⟩; simp only [List.set_cons_succ, List.set_cons_zero, List.set_set] at m; have M := Lib.hid m; clear m; have eb : IntKind.i16.wrap r = r := IntWalk.i16_in _ (by omega)))))
        refine onward_normal (hK _ _ ⟨(by first | exact M.out.slof 0 rfl | exact M.out.slof 1 rfl), ?_⟩)
        clear hK K
        try simp only [Act.put, List.getElem_toArray, List.getElem_cons_succ, List.getElem_cons_zero, List.setIfInBounds_toArray, List.set_cons_succ, List.set_cons_zero]
        apply takeH (i := 5) 25 rfl (by kernel_rfl) (by kernel_rfl) (by kernel_rfl) (fun _ _ _ h => h) rfl (by first | exact M.out.slof 0 rfl | exact M.out.slof 1 rfl)
        case' hy =>
          refine Or.inl ⟨by first | rfl | (go_simp; done), ?_⟩
          intro w hS
          clear hS
          go_simp
          try with_reducible rfl
        try simp only [Act.put, List.getElem_toArray, List.getElem_cons_succ, List.getElem_cons_zero, List.setIfInBounds_toArray, List.set_cons_succ, List.set_cons_zero]
        apply takeH (i := 6) 26 rfl (by kernel_rfl) (by kernel_rfl) (by kernel_rfl) (fun _ _ _ h => h) rfl (by first | exact M.out.slof 0 rfl | exact M.out.slof 1 rfl)
        case' hy => exact ylds _ _ rfl rfl Tryz.underlying2 rfl rfl (fun w' hS => hS.at64F HQ.out)
        try simp only [Act.put, List.getElem_toArray, List.getElem_cons_succ, List.getElem_cons_zero, List.setIfInBounds_toArray, List.set_cons_succ, List.set_cons_zero]
        apply takeH (i := 7) 27 rfl (by kernel_rfl) (by kernel_rfl) (by kernel_rfl) (fun _ _ _ h => h) rfl (by first | exact M.out.slof 0 rfl | exact M.out.slof 1 rfl)
        case' hy =>
          refine Or.inl ⟨by first | rfl | (go_simp; done), ?_⟩
          intro w hS
          clear hS
          go_simp
          try with_reducible rfl
        try simp only [Act.put, List.getElem_toArray, List.getElem_cons_succ, List.getElem_cons_zero, List.setIfInBounds_toArray, List.set_cons_succ, List.set_cons_zero]
        refine any1H 9 (by kernel_rfl) rfl (fun K hK => ?_)
        go_wp2_with (first | ((with_reducible refine gate_dst (N := 7) rfl ?_); go_must (refine M.out.ev_new rfl (by first | (go_simp; done) | (go_simp; rfl)) ?_); intro g7 w7 m; have M := Lib.hid m.front; clear m) | ((with_reducible refine gate_store (x := .tmp 7) rfl ?_); go_must (refine M.out.ev_stw 0 _ _ _ rfl rfl rfl rfl _ rfl rfl sz48 (by simp [Value.oneCell']) rfl ?_); intro wn m; simp only [List.set_cons_zero] at m; have M := Lib.hid m; clear m) | ((with_reducible refine gate_dst (N := 7) rfl ?_); go_must (refine M.out.ev_new rfl (by first | (go_simp; done) | (go_simp; rfl)) ?_); intro g7 w7 m; simp only [List.cons_append, List.nil_append] at m; have M := Lib.hid m; clear m) | ((with_reducible refine gate_store (x := .tmp 7) rfl ?_); go_must (refine M.out.ev_stw 1 _ _ _ rfl rfl rfl rfl _ rfl (by first | rfl | (simp only [S1.out]; rfl) | (simp only [S1.out, S2.out]; rfl) | (simp only [S3.out]; rfl) | (simp only [S1.out, S2.out, S3.out]; rfl)) (by first | exact sz48 | (rw [S1.out]; exact sz48) | (rw [S2.out]; exact sz48) | (rw [S3.out]; exact sz48)) (by first | exact ints_one _ _ | exact Fld.one _ | exact O1.out | exact Fld.one _ | exact Flock.one _ | exact ints_one _ _ | rfl | (simp [Value.oneCell']; done)) rfl ?_); intro wn m; simp only [List.set_cons_succ, List.set_cons_zero, List.setIfInBounds_toArray] at m; have M := Lib.hid m; clear m) | (go_at_call 59; go_must (first | (refine Calls.mono (calls_args (by with_reducible rfl) (pick_any (i + 2) M.out g A c bs HB.out _ (by omega) _ (HSET.out _) (M.out.sl HS.out) (ks.length : Int) (by omega))) ?_; rintro e w_ ⟨q, rfl, h0q, h1q, kq, sdq, hkq, m⟩; simp only [List.set_cons_succ, List.set_cons_zero, List.set_set] at m; have M := Lib.hid m; clear m; rw [hmx] at h1q; obtain ⟨qn, hqn, hql⟩ := among_nat h0q h1q; subst hqn; have HQ := Lib.hid (List.getElem?_eq_getElem hql); have HTQ := Lib.hid (HT.out.in_ _ (List.getElem_mem hql)); have eq1 : IntKind.i16.wrap ((ks[qn] : Nat) : Int) = ((ks[qn] : Nat) : Int) := (IntWalk.i16_in _ (by have := HTQ.out.1; omega))) | (refine Calls.mono (calls_args (by with_reducible rfl) (pick_any (i + 3) M.out g A c bs HB.out _ (by omega) _ (HSET.out _) (M.out.sl HS.out) (ks.length : Int) (by omega))) ?_; rintro e w_ ⟨q, rfl, h0q, h1q, kq, sdq, hkq, m⟩; simp only [List.set_cons_succ, List.set_cons_zero, List.set_set] at m; have M := Lib.hid m; clear m; rw [hmx] at h1q; obtain ⟨qn, hqn, hql⟩ := among_nat h0q h1q; subst hqn; have HQ := Lib.hid (List.getElem?_eq_getElem hql); have HTQ := Lib.hid (HT.out.in_ _ (List.getElem_mem hql)); have eq1 : IntKind.i16.wrap ((ks[qn] : Nat) : Int) = ((ks[qn] : Nat) : Int) := (IntWalk.i16_in _ (by have := HTQ.out.1; omega))) | (refine Calls.mono (calls_args (by with_reducible rfl) (pick_any (i + 2) M.out g A c bs HB.out _ (by omega) _ (HSET.out _) (M.out.sl HS.out) 6 (by omega))) ?_; rintro e w_ ⟨r, rfl, h0r, h1r, kr, sdr, hkr, m⟩; simp only [List.set_cons_succ, List.set_cons_zero, List.set_set] at m; have M := Lib.hid m; clear m; have eb : IntKind.i16.wrap r = r := IntWalk.i16_in _ (by omega)) | (refine Calls.mono (calls_args (by with_reducible rfl) (pick_any (i + 3) M.out g A c bs HB.out _ (by omega) _ (HSET.out _) (M.out.sl HS.out) 6 (by omega))) ?_; rintro e w_ ⟨r, rfl, h0r, h1r, kr, sdr, hkr, m⟩; simp only [List.set_cons_succ, List.set_cons_zero, List.set_set] at m; have M := Lib.hid m; clear m; have eb : IntKind.i16.wrap r = r := IntWalk.i16_in _ (by omega)))))
        refine onward_normal (hK _ _ ⟨(by first | exact M.out.slof 0 rfl | exact M.out.slof 1 rfl), ?_⟩)
        clear hK K
        try simp only [Act.put, List.getElem_toArray, List.getElem_cons_succ, List.getElem_cons_zero, List.setIfInBounds_toArray, List.set_cons_succ, List.set_cons_zero]
        apply takeH (i := 10) 30 rfl (by kernel_rfl) (by kernel_rfl) (by kernel_rfl) (fun _ _ _ h => h) rfl (by first | exact M.out.slof 0 rfl | exact M.out.slof 1 rfl)
        case' hy =>
          refine Or.inl ⟨by first | rfl | (go_simp; done), ?_⟩
          intro w hS
          clear hS
          go_simp
          try with_reducible rfl
        try simp only [Act.put, List.getElem_toArray, List.getElem_cons_succ, List.getElem_cons_zero, List.setIfInBounds_toArray, List.set_cons_succ, List.set_cons_zero]
        apply takeH (i := 11) 31 rfl (by kernel_rfl) (by kernel_rfl) (by kernel_rfl) (fun _ _ _ h => h) rfl (by first | exact M.out.slof 0 rfl | exact M.out.slof 1 rfl)
        case' hy =>
          refine Or.inl ⟨by first | rfl | (go_simp; done), ?_⟩
          intro w hS
          clear hS
          go_simp
          try with_reducible rfl
        try simp only [Act.put, List.getElem_toArray, List.getElem_cons_succ, List.getElem_cons_zero, List.setIfInBounds_toArray, List.set_cons_succ, List.set_cons_zero]
        refine any1H 13 (by kernel_rfl) rfl (fun K hK => ?_)
        go_wp2_with (first | ((with_reducible refine gate_dst (N := 7) rfl ?_); go_must (refine M.out.ev_new rfl (by first | (go_simp; done) | (go_simp; rfl)) ?_); intro g7 w7 m; have M := Lib.hid m.front; clear m) | ((with_reducible refine gate_store (x := .tmp 7) rfl ?_); go_must (refine M.out.ev_stw 0 _ _ _ rfl rfl rfl rfl _ rfl rfl sz48 (by simp [Value.oneCell']) rfl ?_); intro wn m; simp only [List.set_cons_zero] at m; have M := Lib.hid m; clear m) | ((with_reducible refine gate_dst (N := 7) rfl ?_); go_must (refine M.out.ev_new rfl (by first | (go_simp; done) | (go_simp; rfl)) ?_); intro g7 w7 m; simp only [List.cons_append, List.nil_append] at m; have M := Lib.hid m; clear m) | ((with_reducible refine gate_store (x := .tmp 7) rfl ?_); go_must (refine M.out.ev_stw 1 _ _ _ rfl rfl rfl rfl _ rfl (by first | rfl | (simp only [S1.out]; rfl) | (simp only [S1.out, S2.out]; rfl) | (simp only [S3.out]; rfl) | (simp only [S1.out, S2.out, S3.out]; rfl)) (by first | exact sz48 | (rw [S1.out]; exact sz48) | (rw [S2.out]; exact sz48) | (rw [S3.out]; exact sz48)) (by first | exact ints_one _ _ | exact Fld.one _ | exact O1.out | exact Fld.one _ | exact Flock.one _ | exact ints_one _ _ | rfl | (simp [Value.oneCell']; done)) rfl ?_); intro wn m; simp only [List.set_cons_succ, List.set_cons_zero, List.setIfInBounds_toArray] at m; have M := Lib.hid m; clear m) | (go_at_call 59; go_must (first | (refine Calls.mono (calls_args (by with_reducible rfl) (pick_any (i + 2) M.out g A c bs HB.out _ (by omega) _ (HSET.out _) (M.out.sl HS.out) (ks.length : Int) (by omega))) ?_; rintro e w_ ⟨q, rfl, h0q, h1q, kq, sdq, hkq, m⟩; simp only [List.set_cons_succ, List.set_cons_zero, List.set_set] at m; have M := Lib.hid m; clear m; rw [hmx] at h1q; obtain ⟨qn, hqn, hql⟩ := among_nat h0q h1q; subst hqn; have HQ := Lib.hid (List.getElem?_eq_getElem hql); have HTQ := Lib.hid (HT.out.in_ _ (List.getElem_mem hql)); have eq1 : IntKind.i16.wrap ((ks[qn] : Nat) : Int) = ((ks[qn] : Nat) : Int) := (IntWalk.i16_in _ (by have := HTQ.out.1; omega))) | (refine Calls.mono (calls_args (by with_reducible rfl) (pick_any (i + 3) M.out g A c bs HB.out _ (by omega) _ (HSET.out _) (M.out.sl HS.out) (ks.length : Int) (by omega))) ?_; rintro e w_ ⟨q, rfl, h0q, h1q, kq, sdq, hkq, m⟩; simp only [List.set_cons_succ, List.set_cons_zero, List.set_set] at m; have M := Lib.hid m; clear m; rw [hmx] at h1q; obtain ⟨qn, hqn, hql⟩ := among_nat h0q h1q; subst hqn; have HQ := Lib.hid (List.getElem?_eq_getElem hql); have HTQ := Lib.hid (HT.out.in_ _ (List.getElem_mem hql)); have eq1 : IntKind.i16.wrap ((ks[qn] : Nat) : Int) = ((ks[qn] : Nat) : Int) := (IntWalk.i16_in _ (by have := HTQ.out.1; omega))) | (refine Calls.mono (calls_args (by with_reducible rfl) (pick_any (i + 2) M.out g A c bs HB.out _ (by omega) _ (HSET.out _) (M.out.sl HS.out) 6 (by omega))) ?_; rintro e w_ ⟨r, rfl, h0r, h1r, kr, sdr, hkr, m⟩; simp only [List.set_cons_succ, List.set_cons_zero, List.set_set] at m; have M := Lib.hid m; clear m; have eb : IntKind.i16.wrap r = r := IntWalk.i16_in _ (by omega)) | (refine Calls.mono (calls_args (by with_reducible rfl) (pick_any (i + 3) M.out g A c bs HB.out _ (by omega) _ (HSET.out _) (M.out.sl HS.out) 6 (by omega))) ?_; rintro e w_ ⟨r, rfl, h0r, h1r, kr, sdr, hkr, m⟩; simp only [List.set_cons_succ, List.set_cons_zero, List.set_set] at m; have M := Lib.hid m; clear m; have eb : IntKind.i16.wrap r = r := IntWalk.i16_in _ (by omega)))))
        refine onward_normal (hK _ _ ⟨(by first | exact M.out.slof 0 rfl | exact M.out.slof 1 rfl), ?_⟩)
        clear hK K
        try simp only [Act.put, List.getElem_toArray, List.getElem_cons_succ, List.getElem_cons_zero, List.setIfInBounds_toArray, List.set_cons_succ, List.set_cons_zero]
        refine wpAnyH_done (by kernel_rfl) ?_ _
      rotate_right 1
      case' _ =>
        go_wp2_with (first | ((with_reducible refine gate_dst (N := 7) rfl ?_); go_must (refine M.out.ev_new rfl (by first | (go_simp; done) | (go_simp; rfl)) ?_); intro g7 w7 m; have M := Lib.hid m.front; clear m) | ((with_reducible refine gate_store (x := .tmp 7) rfl ?_); go_must (refine M.out.ev_stw 0 _ _ _ rfl rfl rfl rfl _ rfl rfl sz48 (by simp [Value.oneCell']) rfl ?_); intro wn m; simp only [List.set_cons_zero] at m; have M := Lib.hid m; clear m) | ((with_reducible refine gate_dst (N := 7) rfl ?_); go_must (refine M.out.ev_new rfl (by first | (go_simp; done) | (go_simp; rfl)) ?_); intro g7 w7 m; simp only [List.cons_append, List.nil_append] at m; have M := Lib.hid m; clear m) | ((with_reducible refine gate_store (x := .tmp 7) rfl ?_); go_must (refine M.out.ev_stw 1 _ _ _ rfl rfl rfl rfl _ rfl (by first | rfl | (simp only [S1.out]; rfl) | (simp only [S1.out, S2.out]; rfl) | (simp only [S3.out]; rfl) | (simp only [S1.out, S2.out, S3.out]; rfl)) (by first | exact sz48 | (rw [S1.out]; exact sz48) | (rw [S2.out]; exact sz48) | (rw [S3.out]; exact sz48)) (by first | exact ints_one _ _ | exact Fld.one _ | exact O1.out | exact Fld.one _ | exact Flock.one _ | exact ints_one _ _ | rfl | (simp [Value.oneCell']; done)) rfl ?_); intro wn m; simp only [List.set_cons_succ, List.set_cons_zero, List.setIfInBounds_toArray] at m; have M := Lib.hid m; clear m) | (go_at_call 59; go_must (first | (refine Calls.mono (calls_args (by with_reducible rfl) (pick_any (i + 2) M.out g A c bs HB.out _ (by omega) _ (HSET.out _) (M.out.sl HS.out) (ks.length : Int) (by omega))) ?_; rintro e w_ ⟨q, rfl, h0q, h1q, kq, sdq, hkq, m⟩; simp only [List.set_cons_succ, List.set_cons_zero, List.set_set] at m; have M := Lib.hid m; clear m; rw [hmx] at h1q; obtain ⟨qn, hqn, hql⟩ := among_nat h0q h1q; subst hqn; have HQ := Lib.hid (List.getElem?_eq_getElem hql); have HTQ := Lib.hid (HT.out.in_ _ (List.getElem_mem hql)); have eq1 : IntKind.i16.wrap ((ks[qn] : Nat) : Int) = ((ks[qn] : Nat) : Int) := (IntWalk.i16_in _ (by have := HTQ.out.1; omega))) | (refine Calls.mono (calls_args (by with_reducible rfl) (pick_any (i + 3) M.out g A c bs HB.out _ (by omega) _ (HSET.out _) (M.out.sl HS.out) (ks.length : Int) (by omega))) ?_; rintro e w_ ⟨q, rfl, h0q, h1q, kq, sdq, hkq, m⟩; simp only [List.set_cons_succ, List.set_cons_zero, List.set_set] at m; have M := Lib.hid m; clear m; rw [hmx] at h1q; obtain ⟨qn, hqn, hql⟩ := among_nat h0q h1q; subst hqn; have HQ := Lib.hid (List.getElem?_eq_getElem hql); have HTQ := Lib.hid (HT.out.in_ _ (List.getElem_mem hql)); have eq1 : IntKind.i16.wrap ((ks[qn] : Nat) : Int) = ((ks[qn] : Nat) : Int) := (IntWalk.i16_in _ (by have := HTQ.out.1; omega))) | (refine Calls.mono (calls_args (by with_reducible rfl) (pick_any (i + 2) M.out g A c bs HB.out _ (by omega) _ (HSET.out _) (M.out.sl HS.out) 6 (by omega))) ?_; rintro e w_ ⟨r, rfl, h0r, h1r, kr, sdr, hkr, m⟩; simp only [List.set_cons_succ, List.set_cons_zero, List.set_set] at m; have M := Lib.hid m; clear m; have eb : IntKind.i16.wrap r = r := IntWalk.i16_in _ (by omega)) | (refine Calls.mono (calls_args (by with_reducible rfl) (pick_any (i + 3) M.out g A c bs HB.out _ (by omega) _ (HSET.out _) (M.out.sl HS.out) 6 (by omega))) ?_; rintro e w_ ⟨r, rfl, h0r, h1r, kr, sdr, hkr, m⟩; simp only [List.set_cons_succ, List.set_cons_zero, List.set_set] at m; have M := Lib.hid m; clear m; have eb : IntKind.i16.wrap r = r := IntWalk.i16_in _ (by omega)))))
        refine onward_normal (hK _ _ ⟨(by first | exact M.out.slof 0 rfl | exact M.out.slof 1 rfl), ?_⟩)
        clear hK K
        try simp only [Act.put, List.getElem_toArray, List.getElem_cons_succ, List.getElem_cons_zero, List.setIfInBounds_toArray, List.set_cons_succ, List.set_cons_zero]
        apply takeH (i := 5) 25 rfl (by kernel_rfl) (by kernel_rfl) (by kernel_rfl) (fun _ _ _ h => h) rfl (by first | exact M.out.slof 0 rfl | exact M.out.slof 1 rfl)
        case' hy =>
          refine Or.inl ⟨by first | rfl | (go_simp; done), ?_⟩
          intro w hS
          clear hS
          go_simp
          try with_reducible rfl
        try simp only [Act.put, List.getElem_toArray, List.getElem_cons_succ, List.getElem_cons_zero, List.setIfInBounds_toArray, List.set_cons_succ, List.set_cons_zero]
        apply takeH (i := 6) 26 rfl (by kernel_rfl) (by kernel_rfl) (by kernel_rfl) (fun _ _ _ h => h) rfl (by first | exact M.out.slof 0 rfl | exact M.out.slof 1 rfl)
        case' hy => exact ylds _ _ rfl rfl Tryz.underlying2 rfl rfl (fun w' hS => hS.at64F HQ.out)
        try simp only [Act.put, List.getElem_toArray, List.getElem_cons_succ, List.getElem_cons_zero, List.setIfInBounds_toArray, List.set_cons_succ, List.set_cons_zero]
        apply takeH (i := 7) 27 rfl (by kernel_rfl) (by kernel_rfl) (by kernel_rfl) (fun _ _ _ h => h) rfl (by first | exact M.out.slof 0 rfl | exact M.out.slof 1 rfl)
        case' hy =>
          refine Or.inl ⟨by first | rfl | (go_simp; done), ?_⟩
          intro w hS
          clear hS
          go_simp
          try with_reducible rfl
        try simp only [Act.put, List.getElem_toArray, List.getElem_cons_succ, List.getElem_cons_zero, List.setIfInBounds_toArray, List.set_cons_succ, List.set_cons_zero]
        refine any2H 9 12 (by kernel_rfl) rfl rfl (fun K hK => ?_) (fun K hK => ?_)
        rotate_right 1
        case' _ =>
          go_wp2_with (first | ((with_reducible refine gate_dst (N := 7) rfl ?_); go_must (refine M.out.ev_new rfl (by first | (go_simp; done) | (go_simp; rfl)) ?_); intro g7 w7 m; have M := Lib.hid m.front; clear m) | ((with_reducible refine gate_store (x := .tmp 7) rfl ?_); go_must (refine M.out.ev_stw 0 _ _ _ rfl rfl rfl rfl _ rfl rfl sz48 (by simp [Value.oneCell']) rfl ?_); intro wn m; simp only [List.set_cons_zero] at m; have M := Lib.hid m; clear m) | ((with_reducible refine gate_dst (N := 7) rfl ?_); go_must (refine M.out.ev_new rfl (by first | (go_simp; done) | (go_simp; rfl)) ?_); intro g7 w7 m; simp only [List.cons_append, List.nil_append] at m; have M := Lib.hid m; clear m) | ((with_reducible refine gate_store (x := .tmp 7) rfl ?_); go_must (refine M.out.ev_stw 1 _ _ _ rfl rfl rfl rfl _ rfl (by first | rfl | (simp only [S1.out]; rfl) | (simp only [S1.out, S2.out]; rfl) | (simp only [S3.out]; rfl) | (simp only [S1.out, S2.out, S3.out]; rfl)) (by first | exact sz48 | (rw [S1.out]; exact sz48) | (rw [S2.out]; exact sz48) | (rw [S3.out]; exact sz48)) (by first | exact ints_one _ _ | exact Fld.one _ | exact O1.out | exact Fld.one _ | exact Flock.one _ | exact ints_one _ _ | rfl | (simp [Value.oneCell']; done)) rfl ?_); intro wn m; simp only [List.set_cons_succ, List.set_cons_zero, List.setIfInBounds_toArray] at m; have M := Lib.hid m; clear m) | (go_at_call 59; go_must (first | (refine Calls.mono (calls_args (by with_reducible rfl) (pick_any (i + 2) M.out g A c bs HB.out _ (by omega) _ (HSET.out _) (M.out.sl HS.out) (ks.length : Int) (by omega))) ?_; rintro e w_ ⟨q, rfl, h0q, h1q, kq, sdq, hkq, m⟩; simp only [List.set_cons_succ, List.set_cons_zero, List.set_set] at m; have M := Lib.hid m; clear m; rw [hmx] at h1q; obtain ⟨qn, hqn, hql⟩ := among_nat h0q h1q; subst hqn; have HQ := Lib.hid (List.getElem?_eq_getElem hql); have HTQ := Lib.hid (HT.out.in_ _ (List.getElem_mem hql)); have eq1 : IntKind.i16.wrap ((ks[qn] : Nat) : Int) = ((ks[qn] : Nat) : Int) := (IntWalk.i16_in _ (by have := HTQ.out.1; omega))) | (refine Calls.mono (calls_args (by with_reducible rfl) (pick_any (i + 3) M.out g A c bs HB.out _ (by omega) _ (HSET.out _) (M.out.sl HS.out) (ks.length : Int) (by omega))) ?_; rintro e w_ ⟨q, rfl, h0q, h1q, kq, sdq, hkq, m⟩; simp only [List.set_cons_succ, List.set_cons_zero, List.set_set] at m; have M := Lib.hid m; clear m; rw [hmx] at h1q; obtain ⟨qn, hqn, hql⟩ := among_nat h0q h1q; subst hqn; have HQ := Lib.hid (List.getElem?_eq_getElem hql); have HTQ := Lib.hid (HT.out.in_ _ (List.getElem_mem hql)); have eq1 : IntKind.i16.wrap ((ks[qn] : Nat) : Int) = ((ks[qn] : Nat) : Int) := (IntWalk.i16_in _ (by have := HTQ.out.1; omega))) | (refine Calls.mono (calls_args (by with_reducible rfl) (pick_any (i + 2) M.out g A c bs HB.out _ (by omega) _ (HSET.out _) (M.out.sl HS.out) 6 (by omega))) ?_; rintro e w_ ⟨r, rfl, h0r, h1r, kr, sdr, hkr, m⟩; simp only [List.set_cons_succ, List.set_cons_zero, List.set_set] at m; have M := Lib.hid m; clear m; have eb : IntKind.i16.wrap r = r := IntWalk.i16_in _ (by omega)) | (refine Calls.mono (calls_args (by with_reducible rfl) (pick_any (i + 3) M.out g A c bs HB.out _ (by omega) _ (HSET.out _) (M.out.sl HS.out) 6 (by omega))) ?_; rintro e w_ ⟨r, rfl, h0r, h1r, kr, sdr, hkr, m⟩; simp only [List.set_cons_succ, List.set_cons_zero, List.set_set] at m; have M := Lib.hid m; clear m; have eb : IntKind.i16.wrap r = r := IntWalk.i16_in _ (by omega)))))
          refine onward_normal (hK _ _ ⟨(by first | exact M.out.slof 0 rfl | exact M.out.slof 1 rfl), ?_⟩)
          clear hK K
          try simp only [Act.put, List.getElem_toArray, List.getElem_cons_succ, List.getElem_cons_zero, List.setIfInBounds_toArray, List.set_cons_succ, List.set_cons_zero]
          refine any1H 9 (by kernel_rfl) rfl (fun K hK => ?_)
          go_wp2_with (first | ((with_reducible refine gate_dst (N := 7) rfl ?_); go_must (refine M.out.ev_new rfl (by first | (go_simp; done) | (go_simp; rfl)) ?_); intro g7 w7 m; have M := Lib.hid m.front; clear m) | ((with_reducible refine gate_store (x := .tmp 7) rfl ?_); go_must (refine M.out.ev_stw 0 _ _ _ rfl rfl rfl rfl _ rfl rfl sz48 (by simp [Value.oneCell']) rfl ?_); intro wn m; simp only [List.set_cons_zero] at m; have M := Lib.hid m; clear m) | ((with_reducible refine gate_dst (N := 7) rfl ?_); go_must (refine M.out.ev_new rfl (by first | (go_simp; done) | (go_simp; rfl)) ?_); intro g7 w7 m; simp only [List.cons_append, List.nil_append] at m; have M := Lib.hid m; clear m) | ((with_reducible refine gate_store (x := .tmp 7) rfl ?_); go_must (refine M.out.ev_stw 1 _ _ _ rfl rfl rfl rfl _ rfl (by first | rfl | (simp only [S1.out]; rfl) | (simp only [S1.out, S2.out]; rfl) | (simp only [S3.out]; rfl) | (simp only [S1.out, S2.out, S3.out]; rfl)) (by first | exact sz48 | (rw [S1.out]; exact sz48) | (rw [S2.out]; exact sz48) | (rw [S3.out]; exact sz48)) (by first | exact ints_one _ _ | exact Fld.one _ | exact O1.out | exact Fld.one _ | exact Flock.one _ | exact ints_one _ _ | rfl | (simp [Value.oneCell']; done)) rfl ?_); intro wn m; simp only [List.set_cons_succ, List.set_cons_zero, List.setIfInBounds_toArray] at m; have M := Lib.hid m; clear m) | (go_at_call 59; go_must (first | (refine Calls.mono (calls_args (by with_reducible rfl) (pick_any (i + 2) M.out g A c bs HB.out _ (by omega) _ (HSET.out _) (M.out.sl HS.out) (ks.length : Int) (by omega))) ?_; rintro e w_ ⟨q, rfl, h0q, h1q, kq, sdq, hkq, m⟩; simp only [List.set_cons_succ, List.set_cons_zero, List.set_set] at m; have M := Lib.hid m; clear m; rw [hmx] at h1q; obtain ⟨qn, hqn, hql⟩ := among_nat h0q h1q; subst hqn; have HQ := Lib.hid (List.getElem?_eq_getElem hql); have HTQ := Lib.hid (HT.out.in_ _ (List.getElem_mem hql)); have eq1 : IntKind.i16.wrap ((ks[qn] : Nat) : Int) = ((ks[qn] : Nat) : Int) := (IntWalk.i16_in _ (by have := HTQ.out.1; omega))) | (refine Calls.mono (calls_args (by with_reducible rfl) (pick_any (i + 3) M.out g A c bs HB.out _ (by omega) _ (HSET.out _) (M.out.sl HS.out) (ks.length : Int) (by omega))) ?_; rintro e w_ ⟨q, rfl, h0q, h1q, kq, sdq, hkq, m⟩; simp only [List.set_cons_succ, List.set_cons_zero, List.set_set] at m; have M := Lib.hid m; clear m; rw [hmx] at h1q; obtain ⟨qn, hqn, hql⟩ := among_nat h0q h1q; subst hqn; have HQ := Lib.hid (List.getElem?_eq_getElem hql); have HTQ := Lib.hid (HT.out.in_ _ (List.getElem_mem hql)); have eq1 : IntKind.i16.wrap ((ks[qn] : Nat) : Int) = ((ks[qn] : Nat) : Int) := (IntWalk.i16_in _ (by have := HTQ.out.1; omega))) | (refine Calls.mono (calls_args (by with_reducible rfl) (pick_any (i + 2) M.out g A c bs HB.out _ (by omega) _ (HSET.out _) (M.out.sl HS.out) 6 (by omega))) ?_; rintro e w_ ⟨r, rfl, h0r, h1r, kr, sdr, hkr, m⟩; simp only [List.set_cons_succ, List.set_cons_zero, List.set_set] at m; have M := Lib.hid m; clear m; have eb : IntKind.i16.wrap r = r := IntWalk.i16_in _ (by omega)) | (refine Calls.mono (calls_args (by with_reducible rfl) (pick_any (i + 3) M.out g A c bs HB.out _ (by omega) _ (HSET.out _) (M.out.sl HS.out) 6 (by omega))) ?_; rintro e w_ ⟨r, rfl, h0r, h1r, kr, sdr, hkr, m⟩; simp only [List.set_cons_succ, List.set_cons_zero, List.set_set] at m; have M := Lib.hid m; clear m; have eb : IntKind.i16.wrap r = r := IntWalk.i16_in _ (by omega)))))
          refine onward_normal (hK _ _ ⟨(by first | exact M.out.slof 0 rfl | exact M.out.slof 1 rfl), ?_⟩)
          clear hK K
          try simp only [Act.put, List.getElem_toArray, List.getElem_cons_succ, List.getElem_cons_zero, List.setIfInBounds_toArray, List.set_cons_succ, List.set_cons_zero]
          apply takeH (i := 10) 30 rfl (by kernel_rfl) (by kernel_rfl) (by kernel_rfl) (fun _ _ _ h => h) rfl (by first | exact M.out.slof 0 rfl | exact M.out.slof 1 rfl)
          case' hy =>
            refine Or.inl ⟨by first | rfl | (go_simp; done), ?_⟩
            intro w hS
            clear hS
            go_simp
            try with_reducible rfl
          try simp only [Act.put, List.getElem_toArray, List.getElem_cons_succ, List.getElem_cons_zero, List.setIfInBounds_toArray, List.set_cons_succ, List.set_cons_zero]
          apply takeH (i := 11) 31 rfl (by kernel_rfl) (by kernel_rfl) (by kernel_rfl) (fun _ _ _ h => h) rfl (by first | exact M.out.slof 0 rfl | exact M.out.slof 1 rfl)
          case' hy =>
            refine Or.inl ⟨by first | rfl | (go_simp; done), ?_⟩
            intro w hS
            clear hS
            go_simp
            try with_reducible rfl
          try simp only [Act.put, List.getElem_toArray, List.getElem_cons_succ, List.getElem_cons_zero, List.setIfInBounds_toArray, List.set_cons_succ, List.set_cons_zero]
          refine any1H 13 (by kernel_rfl) rfl (fun K hK => ?_)
          go_wp2_with (first | ((with_reducible refine gate_dst (N := 7) rfl ?_); go_must (refine M.out.ev_new rfl (by first | (go_simp; done) | (go_simp; rfl)) ?_); intro g7 w7 m; have M := Lib.hid m.front; clear m) | ((with_reducible refine gate_store (x := .tmp 7) rfl ?_); go_must (refine M.out.ev_stw 0 _ _ _ rfl rfl rfl rfl _ rfl rfl sz48 (by simp [Value.oneCell']) rfl ?_); intro wn m; simp only [List.set_cons_zero] at m; have M := Lib.hid m; clear m) | ((with_reducible refine gate_dst (N := 7) rfl ?_); go_must (refine M.out.ev_new rfl (by first | (go_simp; done) | (go_simp; rfl)) ?_); intro g7 w7 m; simp only [List.cons_append, List.nil_append] at m; have M := Lib.hid m; clear m) | ((with_reducible refine gate_store (x := .tmp 7) rfl ?_); go_must (refine M.out.ev_stw 1 _ _ _ rfl rfl rfl rfl _ rfl (by first | rfl | (simp only [S1.out]; rfl) | (simp only [S1.out, S2.out]; rfl) | (simp only [S3.out]; rfl) | (simp only [S1.out, S2.out, S3.out]; rfl)) (by first | exact sz48 | (rw [S1.out]; exact sz48) | (rw [S2.out]; exact sz48) | (rw [S3.out]; exact sz48)) (by first | exact ints_one _ _ | exact Fld.one _ | exact O1.out | exact Fld.one _ | exact Flock.one _ | exact ints_one _ _ | rfl | (simp [Value.oneCell']; done)) rfl ?_); intro wn m; simp only [List.set_cons_succ, List.set_cons_zero, List.setIfInBounds_toArray] at m; have M := Lib.hid m; clear m) | (go_at_call 59; go_must (first | (refine Calls.mono (calls_args (by with_reducible rfl) (pick_any (i + 2) M.out g A c bs HB.out _ (by omega) _ (HSET.out _) (M.out.sl HS.out) (ks.length : Int) (by omega))) ?_; rintro e w_ ⟨q, rfl, h0q, h1q, kq, sdq, hkq, m⟩; simp only [List.set_cons_succ, List.set_cons_zero, List.set_set] at m; have M := Lib.hid m; clear m; rw [hmx] at h1q; obtain ⟨qn, hqn, hql⟩ := among_nat h0q h1q; subst hqn; have HQ := Lib.hid (List.getElem?_eq_getElem hql); have HTQ := Lib.hid (HT.out.in_ _ (List.getElem_mem hql)); have eq1 : IntKind.i16.wrap ((ks[qn] : Nat) : Int) = ((ks[qn] : Nat) : Int) := (IntWalk.i16_in _ (by have := HTQ.out.1; omega))) | (refine Calls.mono (calls_args (by with_reducible rfl) (pick_any (i + 3) M.out g A c bs HB.out _ (by omega) _ (HSET.out _) (M.out.sl HS.out) (ks.length : Int) (by omega))) ?_; rintro e w_ ⟨q, rfl, h0q, h1q, kq, sdq, hkq, m⟩; simp only [List.set_cons_succ, List.set_cons_zero, List.set_set] at m; have M := Lib.hid m; clear m; rw [hmx] at h1q; obtain ⟨qn, hqn, hql⟩ := among_nat h0q h1q; subst hqn; have HQ := Lib.hid (List.getElem?_eq_getElem hql); have HTQ := Lib.hid (HT.out.in_ _ (List.getElem_mem hql)); have eq1 : IntKind.i16.wrap ((ks[qn] : Nat) : Int) = ((ks[qn] : Nat) : Int) := (IntWalk.i16_in _ (by have := HTQ.out.1; omega))) | (refine Calls.mono (calls_args (by with_reducible rfl) (pick_any (i + 2) M.out g A c bs HB.out _ (by omega) _ (HSET.out _) (M.out.sl HS.out) 6 (by omega))) ?_; rintro e w_ ⟨r, rfl, h0r, h1r, kr, sdr, hkr, m⟩; simp only [List.set_cons_succ, List.set_cons_zero, List.set_set] at m; have M := Lib.hid m; clear m; have eb : IntKind.i16.wrap r = r := IntWalk.i16_in _ (by omega)) | (refine Calls.mono (calls_args (by with_reducible rfl) (pick_any (i + 3) M.out g A c bs HB.out _ (by omega) _ (HSET.out _) (M.out.sl HS.out) 6 (by omega))) ?_; rintro e w_ ⟨r, rfl, h0r, h1r, kr, sdr, hkr, m⟩; simp only [List.set_cons_succ, List.set_cons_zero, List.set_set] at m; have M := Lib.hid m; clear m; have eb : IntKind.i16.wrap r = r := IntWalk.i16_in _ (by omega)))))
          refine onward_normal (hK _ _ ⟨(by first | exact M.out.slof 0 rfl | exact M.out.slof 1 rfl), ?_⟩)
          clear hK K
          try simp only [Act.put, List.getElem_toArray, List.getElem_cons_succ, List.getElem_cons_zero, List.setIfInBounds_toArray, List.set_cons_succ, List.set_cons_zero]
          refine wpAnyH_done (by kernel_rfl) ?_ _
        rotate_right 1
        case' _ =>
          go_wp2_with (first | ((with_reducible refine gate_dst (N := 7) rfl ?_); go_must (refine M.out.ev_new rfl (by first | (go_simp; done) | (go_simp; rfl)) ?_); intro g7 w7 m; have M := Lib.hid m.front; clear m) | ((with_reducible refine gate_store (x := .tmp 7) rfl ?_); go_must (refine M.out.ev_stw 0 _ _ _ rfl rfl rfl rfl _ rfl rfl sz48 (by simp [Value.oneCell']) rfl ?_); intro wn m; simp only [List.set_cons_zero] at m; have M := Lib.hid m; clear m) | ((with_reducible refine gate_dst (N := 7) rfl ?_); go_must (refine M.out.ev_new rfl (by first | (go_simp; done) | (go_simp; rfl)) ?_); intro g7 w7 m; simp only [List.cons_append, List.nil_append] at m; have M := Lib.hid m; clear m) | ((with_reducible refine gate_store (x := .tmp 7) rfl ?_); go_must (refine M.out.ev_stw 1 _ _ _ rfl rfl rfl rfl _ rfl (by first | rfl | (simp only [S1.out]; rfl) | (simp only [S1.out, S2.out]; rfl) | (simp only [S3.out]; rfl) | (simp only [S1.out, S2.out, S3.out]; rfl)) (by first | exact sz48 | (rw [S1.out]; exact sz48) | (rw [S2.out]; exact sz48) | (rw [S3.out]; exact sz48)) (by first | exact ints_one _ _ | exact Fld.one _ | exact O1.out | exact Fld.one _ | exact Flock.one _ | exact ints_one _ _ | rfl | (simp [Value.oneCell']; done)) rfl ?_); intro wn m; simp only [List.set_cons_succ, List.set_cons_zero, List.setIfInBounds_toArray] at m; have M := Lib.hid m; clear m) | (go_at_call 59; go_must (first | (refine Calls.mono (calls_args (by with_reducible rfl) (pick_any (i + 2) M.out g A c bs HB.out _ (by omega) _ (HSET.out _) (M.out.sl HS.out) (ks.length : Int) (by omega))) ?_; rintro e w_ ⟨q, rfl, h0q, h1q, kq, sdq, hkq, m⟩; simp only [List.set_cons_succ, List.set_cons_zero, List.set_set] at m; have M := Lib.hid m; clear m; rw [hmx] at h1q; obtain ⟨qn, hqn, hql⟩ := among_nat h0q h1q; subst hqn; have HQ := Lib.hid (List.getElem?_eq_getElem hql); have HTQ := Lib.hid (HT.out.in_ _ (List.getElem_mem hql)); have eq1 : IntKind.i16.wrap ((ks[qn] : Nat) : Int) = ((ks[qn] : Nat) : Int) := (IntWalk.i16_in _ (by have := HTQ.out.1; omega))) | (refine Calls.mono (calls_args (by with_reducible rfl) (pick_any (i + 3) M.out g A c bs HB.out _ (by omega) _ (HSET.out _) (M.out.sl HS.out) (ks.length : Int) (by omega))) ?_; rintro e w_ ⟨q, rfl, h0q, h1q, kq, sdq, hkq, m⟩; simp only [List.set_cons_succ, List.set_cons_zero, List.set_set] at m; have M := Lib.hid m; clear m; rw [hmx] at h1q; obtain ⟨qn, hqn, hql⟩ := among_nat h0q h1q; subst hqn; have HQ := Lib.hid (List.getElem?_eq_getElem hql); have HTQ := Lib.hid (HT.out.in_ _ (List.getElem_mem hql)); have eq1 : IntKind.i16.wrap ((ks[qn] : Nat) : Int) = ((ks[qn] : Nat) : Int) := (IntWalk.i16_in _ (by have := HTQ.out.1; omega))) | (refine Calls.mono (calls_args (by with_reducible rfl) (pick_any (i + 2) M.out g A c bs HB.out _ (by omega) _ (HSET.out _) (M.out.sl HS.out) 6 (by omega))) ?_; rintro e w_ ⟨r, rfl, h0r, h1r, kr, sdr, hkr, m⟩; simp only [List.set_cons_succ, List.set_cons_zero, List.set_set] at m; have M := Lib.hid m; clear m; have eb : IntKind.i16.wrap r = r := IntWalk.i16_in _ (by omega)) | (refine Calls.mono (calls_args (by with_reducible rfl) (pick_any (i + 3) M.out g A c bs HB.out _ (by omega) _ (HSET.out _) (M.out.sl HS.out) 6 (by omega))) ?_; rintro e w_ ⟨r, rfl, h0r, h1r, kr, sdr, hkr, m⟩; simp only [List.set_cons_succ, List.set_cons_zero, List.set_set] at m; have M := Lib.hid m; clear m; have eb : IntKind.i16.wrap r = r := IntWalk.i16_in _ (by omega)))))
          refine onward_normal (hK _ _ ⟨(by first | exact M.out.slof 0 rfl | exact M.out.slof 1 rfl), ?_⟩)
          clear hK K
          try simp only [Act.put, List.getElem_toArray, List.getElem_cons_succ, List.getElem_cons_zero, List.setIfInBounds_toArray, List.set_cons_succ, List.set_cons_zero]
          apply takeH (i := 10) 30 rfl (by kernel_rfl) (by kernel_rfl) (by kernel_rfl) (fun _ _ _ h => h) rfl (by first | exact M.out.slof 0 rfl | exact M.out.slof 1 rfl)
          case' hy =>
            refine Or.inl ⟨by first | rfl | (go_simp; done), ?_⟩
            intro w hS
            clear hS
            go_simp
            try with_reducible rfl
          try simp only [Act.put, List.getElem_toArray, List.getElem_cons_succ, List.getElem_cons_zero, List.setIfInBounds_toArray, List.set_cons_succ, List.set_cons_zero]
          apply takeH (i := 11) 31 rfl (by kernel_rfl) (by kernel_rfl) (by kernel_rfl) (fun _ _ _ h => h) rfl (by first | exact M.out.slof 0 rfl | exact M.out.slof 1 rfl)
          case' hy =>
            refine Or.inl ⟨by first | rfl | (go_simp; done), ?_⟩
            intro w hS
            clear hS
            go_simp
            try with_reducible rfl
          try simp only [Act.put, List.getElem_toArray, List.getElem_cons_succ, List.getElem_cons_zero, List.setIfInBounds_toArray, List.set_cons_succ, List.set_cons_zero]
          refine any1H 12 (by kernel_rfl) rfl (fun K hK => ?_)
          go_wp2_with (first | ((with_reducible refine gate_dst (N := 7) rfl ?_); go_must (refine M.out.ev_new rfl (by first | (go_simp; done) | (go_simp; rfl)) ?_); intro g7 w7 m; have M := Lib.hid m.front; clear m) | ((with_reducible refine gate_store (x := .tmp 7) rfl ?_); go_must (refine M.out.ev_stw 0 _ _ _ rfl rfl rfl rfl _ rfl rfl sz48 (by simp [Value.oneCell']) rfl ?_); intro wn m; simp only [List.set_cons_zero] at m; have M := Lib.hid m; clear m) | ((with_reducible refine gate_dst (N := 7) rfl ?_); go_must (refine M.out.ev_new rfl (by first | (go_simp; done) | (go_simp; rfl)) ?_); intro g7 w7 m; simp only [List.cons_append, List.nil_append] at m; have M := Lib.hid m; clear m) | ((with_reducible refine gate_store (x := .tmp 7) rfl ?_); go_must (refine M.out.ev_stw 1 _ _ _ rfl rfl rfl rfl _ rfl (by first | rfl | (simp only [S1.out]; rfl) | (simp only [S1.out, S2.out]; rfl) | (simp only [S3.out]; rfl) | (simp only [S1.out, S2.out, S3.out]; rfl)) (by first | exact sz48 | (rw [S1.out]; exact sz48) | (rw [S2.out]; exact sz48) | (rw [S3.out]; exact sz48)) (by first | exact ints_one _ _ | exact Fld.one _ | exact O1.out | exact Fld.one _ | exact Flock.one _ | exact ints_one _ _ | rfl | (simp [Value.oneCell']; done)) rfl ?_); intro wn m; simp only [List.set_cons_succ, List.set_cons_zero, List.setIfInBounds_toArray] at m; have M := Lib.hid m; clear m) | (go_at_call 59; go_must (first | (refine Calls.mono (calls_args (by with_reducible rfl) (pick_any (i + 2) M.out g A c bs HB.out _ (by omega) _ (HSET.out _) (M.out.sl HS.out) (ks.length : Int) (by omega))) ?_; rintro e w_ ⟨q, rfl, h0q, h1q, kq, sdq, hkq, m⟩; simp only [List.set_cons_succ, List.set_cons_zero, List.set_set] at m; have M := Lib.hid m; clear m; rw [hmx] at h1q; obtain ⟨qn, hqn, hql⟩ := among_nat h0q h1q; subst hqn; have HQ := Lib.hid (List.getElem?_eq_getElem hql); have HTQ := Lib.hid (HT.out.in_ _ (List.getElem_mem hql)); have eq1 : IntKind.i16.wrap ((ks[qn] : Nat) : Int) = ((ks[qn] : Nat) : Int) := (IntWalk.i16_in _ (by have := HTQ.out.1; omega))) | (refine Calls.mono (calls_args (by with_reducible rfl) (pick_any (i + 3) M.out g A c bs HB.out _ (by omega) _ (HSET.out _) (M.out.sl HS.out) (ks.length : Int) (by omega))) ?_; rintro e w_ ⟨q, rfl, h0q, h1q, kq, sdq, hkq, m⟩; simp only [List.set_cons_succ, List.set_cons_zero, List.set_set] at m; have M := Lib.hid m; clear m; rw [hmx] at h1q; obtain ⟨qn, hqn, hql⟩ := among_nat h0q h1q; subst hqn; have HQ := Lib.hid (List.getElem?_eq_getElem hql); have HTQ := Lib.hid (HT.out.in_ _ (List.getElem_mem hql)); have eq1 : IntKind.i16.wrap ((ks[qn] : Nat) : Int) = ((ks[qn] : Nat) : Int) := (IntWalk.i16_in _ (by have := HTQ.out.1; omega))) | (refine Calls.mono (calls_args (by with_reducible rfl) (pick_any (i + 2) M.out g A c bs HB.out _ (by omega) _ (HSET.out _) (M.out.sl HS.out) 6 (by omega))) ?_; rintro e w_ ⟨r, rfl, h0r, h1r, kr, sdr, hkr, m⟩; simp only [List.set_cons_succ, List.set_cons_zero, List.set_set] at m; have M := Lib.hid m; clear m; have eb : IntKind.i16.wrap r = r := IntWalk.i16_in _ (by omega)) | (refine Calls.mono (calls_args (by with_reducible rfl) (pick_any (i + 3) M.out g A c bs HB.out _ (by omega) _ (HSET.out _) (M.out.sl HS.out) 6 (by omega))) ?_; rintro e w_ ⟨r, rfl, h0r, h1r, kr, sdr, hkr, m⟩; simp only [List.set_cons_succ, List.set_cons_zero, List.set_set] at m; have M := Lib.hid m; clear m; have eb : IntKind.i16.wrap r = r := IntWalk.i16_in _ (by omega)))))
          refine onward_normal (hK _ _ ⟨(by first | exact M.out.slof 0 rfl | exact M.out.slof 1 rfl), ?_⟩)
          clear hK K
          try simp only [Act.put, List.getElem_toArray, List.getElem_cons_succ, List.getElem_cons_zero, List.setIfInBounds_toArray, List.set_cons_succ, List.set_cons_zero]
          refine any1H 13 (by kernel_rfl) rfl (fun K hK => ?_)
          go_wp2_with (first | ((with_reducible refine gate_dst (N := 7) rfl ?_); go_must (refine M.out.ev_new rfl (by first | (go_simp; done) | (go_simp; rfl)) ?_); intro g7 w7 m; have M := Lib.hid m.front; clear m) | ((with_reducible refine gate_store (x := .tmp 7) rfl ?_); go_must (refine M.out.ev_stw 0 _ _ _ rfl rfl rfl rfl _ rfl rfl sz48 (by simp [Value.oneCell']) rfl ?_); intro wn m; simp only [List.set_cons_zero] at m; have M := Lib.hid m; clear m) | ((with_reducible refine gate_dst (N := 7) rfl ?_); go_must (refine M.out.ev_new rfl (by first | (go_simp; done) | (go_simp; rfl)) ?_); intro g7 w7 m; simp only [List.cons_append, List.nil_append] at m; have M := Lib.hid m; clear m) | ((with_reducible refine gate_store (x := .tmp 7) rfl ?_); go_must (refine M.out.ev_stw 1 _ _ _ rfl rfl rfl rfl _ rfl (by first | rfl | (simp only [S1.out]; rfl) | (simp only [S1.out, S2.out]; rfl) | (simp only [S3.out]; rfl) | (simp only [S1.out, S2.out, S3.out]; rfl)) (by first | exact sz48 | (rw [S1.out]; exact sz48) | (rw [S2.out]; exact sz48) | (rw [S3.out]; exact sz48)) (by first | exact ints_one _ _ | exact Fld.one _ | exact O1.out | exact Fld.one _ | exact Flock.one _ | exact ints_one _ _ | rfl | (simp [Value.oneCell']; done)) rfl ?_); intro wn m; simp only [List.set_cons_succ, List.set_cons_zero, List.setIfInBounds_toArray] at m; have M := Lib.hid m; clear m) | (go_at_call 59; go_must (first | (refine Calls.mono (calls_args (by with_reducible rfl) (pick_any (i + 2) M.out g A c bs HB.out _ (by omega) _ (HSET.out _) (M.out.sl HS.out) (ks.length : Int) (by omega))) ?_; rintro e w_ ⟨q, rfl, h0q, h1q, kq, sdq, hkq, m⟩; simp only [List.set_cons_succ, List.set_cons_zero, List.set_set] at m; have M := Lib.hid m; clear m; rw [hmx] at h1q; obtain ⟨qn, hqn, hql⟩ := among_nat h0q h1q; subst hqn; have HQ := Lib.hid (List.getElem?_eq_getElem hql); have HTQ := Lib.hid (HT.out.in_ _ (List.getElem_mem hql)); have eq1 : IntKind.i16.wrap ((ks[qn] : Nat) : Int) = ((ks[qn] : Nat) : Int) := (IntWalk.i16_in _ (by have := HTQ.out.1; omega))) | (refine Calls.mono (calls_args (by with_reducible rfl) (pick_any (i + 3) M.out g A c bs HB.out _ (by omega) _ (HSET.out _) (M.out.sl HS.out) (ks.length : Int) (by omega))) ?_; rintro e w_ ⟨q, rfl, h0q, h1q, kq, sdq, hkq, m⟩; simp only [List.set_cons_succ, List.set_cons_zero, List.set_set] at m; have M := Lib.hid m; clear m; rw [hmx] at h1q; obtain ⟨qn, hqn, hql⟩ := among_nat h0q h1q; subst hqn; have HQ := Lib.hid (List.getElem?_eq_getElem hql); have HTQ := Lib.hid (HT.out.in_ _ (List.getElem_mem hql)); have eq1 : IntKind.i16.wrap ((ks[qn] : Nat) : Int) = ((ks[qn] : Nat) : Int) := (IntWalk.i16_in _ (by have := HTQ.out.1; omega))) | (refine Calls.mono (calls_args (by with_reducible rfl) (pick_any (i + 2) M.out g A c bs HB.out _ (by omega) _ (HSET.out _) (M.out.sl HS.out) 6 (by omega))) ?_; rintro e w_ ⟨r, rfl, h0r, h1r, kr, sdr, hkr, m⟩; simp only [List.set_cons_succ, List.set_cons_zero, List.set_set] at m; have M := Lib.hid m; clear m; have eb : IntKind.i16.wrap r = r := IntWalk.i16_in _ (by omega)) | (refine Calls.mono (calls_args (by with_reducible rfl) (pick_any (i + 3) M.out g A c bs HB.out _ (by omega) _ (HSET.out _) (M.out.sl HS.out) 6 (by omega))) ?_; rintro e w_ ⟨r, rfl, h0r, h1r, kr, sdr, hkr, m⟩; simp only [List.set_cons_succ, List.set_cons_zero, List.set_set] at m; have M := Lib.hid m; clear m; have eb : IntKind.i16.wrap r = r := IntWalk.i16_in _ (by omega)))))
          refine onward_normal (hK _ _ ⟨(by first | exact M.out.slof 0 rfl | exact M.out.slof 1 rfl), ?_⟩)
          clear hK K
          try simp only [Act.put, List.getElem_toArray, List.getElem_cons_succ, List.getElem_cons_zero, List.setIfInBounds_toArray, List.set_cons_succ, List.set_cons_zero]
          refine wpAnyH_done (by kernel_rfl) ?_ _
      all_goals
        obtain ⟨kt, hkt⟩ : ∃ kt, kt = ks[qn] := ⟨_, rfl⟩
        rw [← hkt] at M HTQ
        clear eq1 HQ hkt
        go_wp2_with (first
          | (go_at_call 59; go_must (first | (refine Calls.mono (calls_args (by with_reducible rfl) (pick_any (i + 3) M.out g A c bs HB.out _ (by omega) _ (HSET.out _) (M.out.sl HS.out) 5 (by omega))) ?_; rintro e w_ ⟨u, rfl, h0u, h1u, ku, sdu, hku, m⟩; simp only [List.set_cons_succ, List.set_cons_zero, List.set_set] at m; have M := Lib.hid m; clear m; have eu : IntKind.i16.wrap u = u := IntWalk.i16_in _ (by omega)) | (refine Calls.mono (calls_args (by with_reducible rfl) (pick_any (i + 3) M.out g A c bs HB.out _ (by omega) _ (HSET.out _) (M.out.sl HS.out) 3 (by omega))) ?_; rintro e w_ ⟨y, rfl, h0y, h1y, ky, sdy, hky, m⟩; simp only [List.set_cons_succ, List.set_cons_zero, List.set_set] at m; have M := Lib.hid m; clear m; have ey : IntKind.i8.wrap y = y := IntWalk.i8_in _ (by omega))))
          | ((with_reducible refine gate_dst (N := 37) rfl ?_); go_must (refine M.out.ev_bs4 elem_int64 rfl _ _ _ _ rfl _ _ _ _ rfl rfl rfl rfl rfl rfl rfl rfl ?_); intro g37 w37 m; have M := Lib.hid m.front; clear m)
          | ((with_reducible refine gate_dst (N := 42) rfl ?_); go_must (refine M.out.ev_bs4 elem_int64 rfl _ _ _ _ rfl _ _ _ _ rfl rfl rfl rfl rfl rfl rfl rfl ?_); intro g42 w42 m; have M := Lib.hid m.front; clear m)
          | (go_at_call 92; go_must (first | (refine Calls.mono (calls_args (by rfl) (among_any (i + 4) M.out g A c bs HB.out _ (by omega) _ (HSET.out _) HS.out (some ⟨g37, 0, none⟩) 4 [0, 3, 6, 1000] (by decide) (by decide) (fun x w1 m => sl_blkI (ys := [0, 3, 6, 1000]) (m.blk 0 rfl)))) ?_; rintro e w_ ⟨d, rfl, hd, kd, sdd, hkd, m⟩; simp only [List.set_cons_succ, List.set_cons_zero, List.set_set] at m; have M := Lib.hid m.tail; clear m; simp only [List.mem_cons, List.not_mem_nil, or_false] at hd; have ed : IntKind.i16.wrap d = d := IntWalk.i16_in _ (by omega)) | (refine Calls.mono (calls_args (by rfl) (among_any (i + 4) M.out g A c bs HB.out _ (by omega) _ (HSET.out _) HS.out (some ⟨g42, 0, none⟩) 4 [1, 4, 10, 200] (by decide) (by decide) (fun x w1 m => sl_blkI (ys := [1, 4, 10, 200]) (m.blk 0 rfl)))) ?_; rintro e w_ ⟨f, rfl, hf, kf, sdf, hkf, m⟩; simp only [List.set_cons_succ, List.set_cons_zero, List.set_set] at m; have M := Lib.hid m.tail; clear m; simp only [List.mem_cons, List.not_mem_nil, or_false] at hf; have ef : IntKind.i16.wrap f = f := IntWalk.i16_in _ (by omega))))
          | ((with_reducible refine gate_dst (N := 4) rfl ?_); go_must (refine M.out.ev_new rfl (by first | (go_simp; done) | (go_simp; rfl)) ?_); intro g4 w4 m; simp only [List.cons_append, List.nil_append] at m; have M := Lib.hid m; clear m)
          | ((with_reducible refine gate_dst (N := 7) rfl ?_); go_must (refine M.out.ev_new rfl (by first | (go_simp; done) | (go_simp; rfl)) ?_); intro g7 w7 m; simp only [List.cons_append, List.nil_append] at m; have M := Lib.hid m; clear m)
          | ((with_reducible refine gate_store (x := .tmp 7) rfl ?_); go_must (refine M.out.ev_stw 0 _ _ _ rfl rfl rfl rfl _ rfl (by first | rfl | (simp only [S1.out]; rfl) | (simp only [S1.out, S2.out]; rfl) | (simp only [S3.out]; rfl) | (simp only [S1.out, S2.out, S3.out]; rfl)) (by first | exact sz48 | (rw [S1.out]; exact sz48) | (rw [S2.out]; exact sz48) | (rw [S3.out]; exact sz48)) (by first | exact ints_one _ _ | exact Fld.one _ | exact O1.out | exact Fld.one _ | exact Flock.one _ | exact ints_one _ _ | rfl | (simp [Value.oneCell']; done)) rfl ?_); intro wn m; simp only [List.set_cons_succ, List.set_cons_zero, List.setIfInBounds_toArray] at m; have M := Lib.hid m; clear m)
          | ((with_reducible refine gate_store (x := .tmp 35) rfl ?_); go_must (refine M.out.ev_put 0 _ _ _ rfl rfl rfl rfl (.int _ _) rfl (by first | assumption | exact Fld.lt0 _ | exact Fld.lt1 _ | (simp; done) | (simp only [ints_size]; omega)) sz26 rfl rfl ?_); intro wn m; simp only [List.set_cons_succ, List.set_cons_zero, List.setIfInBounds_toArray] at m; have M := Lib.hid m; clear m)
          | ((with_reducible refine gate_store (x := .tmp 40) rfl ?_); go_must (refine M.out.ev_put 0 _ _ _ rfl rfl rfl rfl (.int _ _) rfl (by first | assumption | exact Fld.lt0 _ | exact Fld.lt1 _ | (simp; done) | (simp only [ints_size]; omega)) sz26 rfl rfl ?_); intro wn m; simp only [List.set_cons_succ, List.set_cons_zero, List.setIfInBounds_toArray] at m; have M := Lib.hid m; clear m)
          | ((with_reducible refine gate_store (x := .tmp 45) rfl ?_); go_must (refine M.out.ev_put 0 _ _ _ rfl rfl rfl rfl (.int _ _) rfl (by first | assumption | exact Fld.lt0 _ | exact Fld.lt1 _ | (simp; done) | (simp only [ints_size]; omega)) sz26 rfl rfl ?_); intro wn m; simp only [List.set_cons_succ, List.set_cons_zero, List.setIfInBounds_toArray] at m; have M := Lib.hid m; clear m)
          | ((with_reducible refine gate_store (x := .tmp 49) rfl ?_); go_must (refine M.out.ev_put 0 _ _ _ rfl rfl rfl rfl (.int _ _) rfl (by first | assumption | exact Fld.lt0 _ | exact Fld.lt1 _ | (simp; done) | (simp only [ints_size]; omega)) sz24 rfl rfl ?_); intro wn m; simp only [List.set_cons_succ, List.set_cons_zero, List.setIfInBounds_toArray] at m; have M := Lib.hid m; clear m)
          | ((with_reducible refine gate_dst (N := 50) rfl ?_); go_must (refine M.out.ev_ldw 0 _ _ rfl rfl rfl Tryz.underlying48 rfl (by first | exact sz48 | (rw [S1.out]; exact sz48) | (rw [S2.out]; exact sz48) | (rw [S3.out]; exact sz48)) rfl ?_))
          | ((with_reducible refine gate_store (x := .tmp 4) rfl ?_); go_must (refine M.out.ev_stw 2 _ _ _ rfl rfl rfl rfl _ rfl (by first | rfl | (simp only [S1.out]; rfl) | (simp only [S1.out, S2.out]; rfl) | (simp only [S3.out]; rfl) | (simp only [S1.out, S2.out, S3.out]; rfl)) (by first | exact sz48 | (rw [S1.out]; exact sz48) | (rw [S2.out]; exact sz48) | (rw [S3.out]; exact sz48)) (by first | exact ints_one _ _ | exact Fld.one _ | exact O1.out | exact Fld.one _ | exact Flock.one _ | exact ints_one _ _ | rfl | (simp [Value.oneCell']; done)) rfl ?_); intro wn m; simp only [List.set_cons_succ, List.set_cons_zero, List.setIfInBounds_toArray] at m; have M := Lib.hid m; clear m)
          )
        refine ret_cell rfl (M.out.blk 2 rfl) Tryz.underlying48 rfl sz48 rfl ⟨⟨kt, r, u, d, f, y⟩, rfl, Flk.of HTQ.out.1 HTQ.out.2 ⟨by assumption, by omega⟩ ⟨by assumption, by omega⟩ hd hf ⟨by assumption, by omega⟩, ky, sdy, by omega, M.out.tail.tail.tail⟩
set_option maxRecDepth 100000 in
set_option maxHeartbeats 8000000 in
theorem A2Flocks_any (A : Option Addr) (c : Nat) (bs : List Int) (hb : Bytes bs) (F : Fld) (W : Wood F) (w : World) (hs : Sl w 1 A bs.length (flat oneB bs)) :
    Calls Tryz.prog 8 #[.slice A bs.length c, .agg F.cells] w fun e w' => ∃ (xs : List Flock) (B : Option Addr) (cp : Nat), e = .returned (.slice B xs.length cp) ∧ (∀ x ∈ xs, Flk F x) ∧ 1 ≤ xs.length ∧ xs.length ≤ 3 ∧ xs.length ≤ cp ∧ Mem w w' [.row (.slice B xs.length cp) 48 6 xs.length (flat Flock.vals xs)] := by
  have M := Lib.hid (Mem.start w)
  have HS := Lib.hid hs
  have S1 := Lib.hid (Fld.size W.ok.toLen)
  have HW := Lib.hid W
  clear hs W
  go_enter Tryz.func8, Tryz.ntmps8
  go_wp2_with (first
    | ((with_reducible refine gate_dst (N := 3) rfl ?_); go_must (refine M.out.ev_new rfl (by first | (go_simp; done) | (go_simp; rfl)) ?_); intro g3 w3 m; simp only [List.cons_append, List.nil_append] at m; have M := Lib.hid m; clear m)
    | (go_at_call 56; go_must (refine (l00From_any A bs.length c _).mono ?_); rintro e w_ ⟨g, rfl, N_⟩; have m := M.out.join N_; clear N_; simp only [List.cons_append, List.nil_append, List.append_nil] at m; have M := Lib.hid m; clear m)
    | (go_at_call 58; go_must (refine Calls.mono (calls_args (by with_reducible rfl) (l02OneFlock_any 1 M.out g A c bs hb _ (by omega) _ rfl HS.out g3 F HW.out.ok (fun x w1 m => m.blk 0 rfl) HW.out)) ?_; rintro e w_ ⟨x, rfl, hx, k1, sd1, hk1, m⟩; simp only [List.set_cons_succ, List.set_cons_zero] at m; have M := Lib.hid m; clear m; have HX := Lib.hid hx; clear hx))
    | ((with_reducible refine gate_dst (N := 12) rfl ?_); go_must (refine M.out.ev_bs1R elem_Flock rfl _ rfl x.vals rfl rfl (by decide) ?_); intro g12 w12 m; simp only [List.cons_append, List.nil_append] at m; have M := Lib.hid m; clear m)
    | (go_at_call 59; go_must (refine (pick_any 1 M.out g A c bs hb _ (by omega) _ rfl (M.out.sl HS.out) 3 (by decide)).mono ?_); rintro e w_ ⟨r, rfl, r0, r1, k0, sd0, hk0, m⟩; simp only [List.set_cons_succ, List.set_cons_zero] at m; have M := Lib.hid m; clear m)
    )
  go_loopw [6, 7] (fun s v wr => ∃ (xs : List Flock) (n k' : Nat) (sd' : Int), v = .int .i64 n ∧ 1 ≤ xs.length ∧ xs.length + n ≤ 3 ∧ (∀ x ∈ xs, Flk F x) ∧ k' ≤ 1000 - 200 * n ∧ Mem w wr [.blk g3 29 F.cells, .blk g 176 (srcCells A bs.length c k' sd'), .row s 48 6 xs.length (flat Flock.vals xs)])
    (fun _ v _ => (intOf v).toNat)
  case atStart => exact ⟨[x], r.toNat, k0, sd0, by rw [Int.toNat_of_nonneg r0], by simp, by simp; omega, fun y hy => (by rw [List.mem_singleton.1 hy]; exact HX.out), by omega, by rw [flat_1]; exact M.out⟩
  case round =>
    clear M HX
    obtain ⟨xs, n, k', sd', rfl, h1, h3, hf, hk', m⟩ := hrel
    have M := Lib.hid m
    have HF := Lib.hid hf
    clear m hf
    by_cases h0 : 0 < n
    · have i0 : (0 : Int) < (n : Int) := by omega
      go_wp2_with (first
        | (go_at_call 58; go_must (refine Calls.mono (calls_args (by with_reducible rfl) (l02OneFlock_any 1 M.out g A c bs hb _ (by omega) _ rfl HS.out g3 F HW.out.ok (fun x w1 m => m.blk 0 rfl) HW.out)) ?_; rintro e w_ ⟨y, rfl, hx, k1, sd1, hk1, m⟩; simp only [List.set_cons_succ, List.set_cons_zero] at m; have M := Lib.hid m; clear m; have HX := Lib.hid hx; clear hx))
        | ((with_reducible refine gate_dst (N := 22) rfl ?_); go_must (refine M.out.ev_bs1 elem_Flock rfl _ rfl y.vals.toArray rfl rfl (by decide) ?_); intro g22 w22 m; simp only [List.cons_append, List.nil_append] at m; have M := Lib.hid m; clear m)
        | ((with_reducible refine gate_dst (N := 23) rfl ?_); go_must (refine M.out.ev_append1 2 3 elem_Flock rfl _ _ rfl rfl rfl rfl rfl rfl (by simp [Flock.vals, Value.oneCell']) (by omega) (by decide) ?_); intro v23 w23 m; simp only [List.set_cons_succ, List.set_cons_zero] at m; have M := Lib.hid m; clear m)
        )
      refine ⟨⟨xs ++ [y], n - 1, k1, sd1, by go_num, by simp, by simp; omega, fun z hz => ?_, by omega, ?_⟩, by simp [intOf]; try omega⟩
      · rcases List.mem_append.1 hz with h | h
        · exact HF.out z h
        · rw [List.mem_singleton.1 h]
          exact HX.out
      · have m := M.out.take 3
        rw [flat_snoc, List.length_append]
        exact m
    · obtain rfl : n = 0 := by omega
      obtain ⟨B, cp, rfl, hc, _⟩ := M.out.row_slice 2 rfl
      go_wp2
      go_ret
      exact ⟨xs, B, cp, rfl, HF.out, h1, by omega, hc, M.out.only [2] rfl (by decide)⟩
end Go.Proofs.YtkomhngokcejbaaGreatDoor
