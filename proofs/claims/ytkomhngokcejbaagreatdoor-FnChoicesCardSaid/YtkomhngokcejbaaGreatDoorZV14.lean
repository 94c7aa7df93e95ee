/- Texts of a proof, laid together: DrawA. -/
import Derived.Test.YtkomhngokcejbaaGreatDoorZV12
import Derived.Test.YtkomhngokcejbaaGreatDoorZV13
import Derived.Test.YtkomhngokcejbaaGreatDoorZV02
namespace Go.Proofs.YtkomhngokcejbaaGreatDoor
set_option linter.unusedSimpArgs false
set_option linter.unusedVariables false
open Go.RowKit
attribute [local go_sem] cell?_mk frozen?_mk
--ONES exact Fld.one _ | exact Prices.one _ | exact Cs.one _

section
variable {P : Program} {ops : Array Oper} {rest : List Oper} {o : Oper} {a : Act} {w0 w : World} {Q : Exit → Act → World → Prop} {L : List Ent}
theorem Mem.ev_bs4 (M : Mem w0 w L) {T e : TypeId} {zv : Value} {bytes : Nat} (E : ElemOk P T e zv 1 bytes) (hgd : o.guard = none) (x y z s : Operand) (ho : o.op = .buildSlice T 4 #[(0, x), (1, y), (2, z), (3, s)])
    (u v t r : Value) (hx : a.eval x = u) (hy : a.eval y = v) (hz : a.eval z = t) (hs : a.eval s = r) (hu : u.cells = #[u]) (hv : v.cells = #[v]) (ht : t.cells = #[t]) (hr : r.cells = #[r])
    (h : ∀ g w1, Mem w0 w1 (L ++ [.blk g e #[u, v, t, r]]) → wpList P ops Q rest (a.put o.dst (.slice (some ⟨g, 0, none⟩) 4 4)) w1) : wpList P ops Q (o :: rest) a w := by
  obtain ⟨i, hi, h1, h2, h3⟩ := E.get
  refine wpList_buildSlice hgd T e 4 _ ho #[u, v, t, r] i zv E.sl hi h1 (by rw [h2]; decide) (by rw [h2]; decide) ?_ ?_
  · have := Great.fill_whole (s := i.size) (by omega) [u, v, t, r] ((Array.range (4 * i.size)).map (zv.cells[· % zv.cells.size]!)) (by simp [hu, hv, ht, hr, h2]) (by simp)
    simpa [hx, hy, hz, hs, hu, hv, ht, hr] using this
  · exact h _ _ (M.new (Nat.le_refl _) (Blk.new w e #[u, v, t, r]) ((Below.refl _ _).alloc (Nat.le_refl _) _))
end
/-- A field with a tree, as it is drawn. -/
structure Wood (F : Fld) : Prop where
  ok : F.ok
  w : 1 ≤ F.wide ∧ F.wide ≤ 5
  h : 1 ≤ F.high ∧ F.high ≤ 5
  at_ : ∀ j, j < 100 → F.okAt j = true
  s : ∀ j, F.seed j ≤ 11
  t : ∃ q : Nat, q < 100 ∧ F.has q = true ∧ F.kind q = 3
theorem Wood.valid {F : Fld} (h : Wood F) : F.valid = true :=
  Fld.valid_of (inB_iff.2 ⟨by have := h.w; omega, by have := h.w; omega⟩) (inB_iff.2 ⟨by have := h.h; omega, by have := h.h; omega⟩) h.at_
theorem FDr.wood {F : Fld} (h : FDr F 100) {q : Nat} (hq : q < 100) (hh : F.has q = true) : Wood ((F.withKind q 3).withSeed q 0) := by
  have l1 : (F.withKind q 3).ok := Fld.withKind_ok h.ok q 3 (by omega)
  have e1 : ∀ j, ((F.withKind q 3).withSeed q 0).kind j = if j = q then 3 else F.kind j := fun j => Fld.kind_wk h.ok.toLen hq 3 j
  have e2 : ∀ j, ((F.withKind q 3).withSeed q 0).seed j = if j = q then 0 else F.seed j := fun j => Fld.seed_ws l1.toLen hq 0 j
  refine ⟨Fld.withSeed_okF l1 q 0 (by omega), h.w, h.h, fun j hj => ?_, fun j => ?_, q, hq, hh, ?_⟩
  · have h1 := Fld.okAt_iff.1 (h.at_ j hj)
    refine Fld.okAt_iff.2 ?_
    rw [e1, e2, show ((F.withKind q 3).withSeed q 0).has j = F.has j from rfl]
    by_cases hjk : j = q
    · subst hjk
      rw [if_pos rfl, if_pos rfl, hh]
      exact ⟨by omega, by omega, by omega, by omega, fun _ => rfl, fun e => by cases e⟩
    · rw [if_neg hjk, if_neg hjk]
      exact h1
  · rw [e2]
    split
    · decide
    · exact h.s j
  · rw [e1, if_pos rfl]
set_option maxRecDepth 100000 in
set_option maxHeartbeats 8000000 in
theorem l02Wooded_any {w0 w : World} {L : List Ent} (i : Nat) (M0 : Mem w0 w L) (g : Nat) (A : Option Addr) (c : Nat) (bs : List Int) (hb : Bytes bs) (k : Nat) (hk : k ≤ 900000) (sd : Int) (hL : L[i]? = some (.blk g 176 (srcCells A bs.length c k sd))) (hs : Sl w0 1 A bs.length (flat oneB bs)) :
    Calls Tryz.prog 55 #[.pointer (some ⟨g, 0, none⟩)] w fun e w' => ∃ F : Fld, e = .returned (.agg F.cells) ∧ Wood F ∧ ∃ k' sd', k' ≤ k + 1004 ∧ Mem w0 w' (L.set i (.blk g 176 (srcCells A bs.length c k' sd'))) := by
  have M := Lib.hid M0
  have HS := Lib.hid hs
  have HL := Lib.hid hL
  have HB := Lib.hid hb
  have HSET := Lib.hid (fun (e : Ent) => set_at hL e)
  clear M0 hs hL hb
  go_enter Tryz.func55, Tryz.ntmps55
  go_wp2_with (first
    | ((with_reducible refine gate_dst (N := 2) rfl ?_); go_must (refine M.out.ev_new rfl (by first | (go_simp; done) | (go_simp; rfl)) ?_); intro g2 w2 m; have M := Lib.hid m.front; clear m)
    | (go_at_call 132; go_must (refine (l01Drawn_any (i + 1) M.out g A c bs HB.out k (by omega) sd HL.out HS.out).mono ?_); rintro e w_ ⟨F, rfl, hF, kd, sdd, hkd, m⟩; simp only [List.set_cons_succ, List.set_cons_zero, List.set_set] at m; have M := Lib.hid m; clear m; have FD := Lib.hid hF; have S1 := Lib.hid (Fld.size hF.ok.toLen); have O1 := Lib.hid (Fld.one F); have hw := hF.w; have hh := hF.h; have ew : IntKind.i64.wrap F.wide = F.wide := IntWalk.i64_in _ (by omega); have eh : IntKind.i64.wrap F.high = F.high := IntWalk.i64_in _ (by omega); clear hF)
    | ((with_reducible refine gate_dst (N := 3) rfl ?_); go_must (refine M.out.ev_new rfl (by first | (go_simp; done) | (go_simp; rfl)) ?_); intro g3 w3 m; have M := Lib.hid m.front; clear m)
    | ((with_reducible refine gate_store (x := .tmp 3) rfl ?_); go_must (refine M.out.ev_stw 0 _ _ _ rfl rfl rfl rfl _ rfl (by rw [S1.out]; exact szZ) (by rw [S1.out]; exact sz29) O1.out rfl ?_); intro wn m; simp only [List.set_cons_zero] at m; have M := Lib.hid m; clear m)
    | ((with_reducible refine gate_dst (N := 10) rfl ?_); go_must (refine M.out.ev_ld 0 _ _ rfl rfl rfl Tryz.underlying24 rfl rfl (by first | exact F.cell0 | exact F.cell1) ?_))
    | ((with_reducible refine gate_dst (N := 16) rfl ?_); go_must (refine M.out.ev_ld 0 _ _ rfl rfl rfl Tryz.underlying24 rfl rfl (by first | exact F.cell0 | exact F.cell1) ?_))
    | (go_at_call 59; go_must (first | (refine Calls.mono (calls_args (by with_reducible rfl) (pick_any (i + 2) M.out g A c bs HB.out _ (by omega) _ (HSET.out _) (M.out.sl HS.out) F.wide (by omega))) ?_; rintro e w_ ⟨x, rfl, x0, x1, k1, sd1, hk1, m⟩; simp only [List.set_cons_succ, List.set_cons_zero, List.set_set] at m; have M := Lib.hid m; clear m) | (refine Calls.mono (calls_args (by with_reducible rfl) (pick_any (i + 2) M.out g A c bs HB.out _ (by omega) _ (HSET.out _) (M.out.sl HS.out) F.high (by omega))) ?_; rintro e w_ ⟨y, rfl, y0, y1, k2, sd2, hk2, m⟩; simp only [List.set_cons_succ, List.set_cons_zero, List.set_set] at m; have M := Lib.hid m; clear m; obtain ⟨q, hq, hq1, hq2⟩ := cell_of (F := F) ⟨x0, by omega⟩ ⟨y0, by omega⟩ (by omega) (by omega); have e1 : IntKind.i64.wrap (10 * y) = 10 * y := IntWalk.i64_in _ (by omega); have e2 : IntKind.i64.wrap (x + 10 * y) = (q : Int) := (by rw [hq]; exact IntWalk.i64_in _ (by omega)); have HH := Lib.hid hq2; clear hq hq2 y0 y1; have SZ1 := Lib.hid (show 2 + q < F.cells.size by rw [S1.out]; omega); have SZ2 := Lib.hid (show 102 + q < (F.withKind q 3).cells.size by rw [Fld.size (Fld.withKind_ok FD.out.ok q 3 (by omega)).toLen]; omega); have K1 := Lib.hid (Fld.setKind FD.out.ok.toLen hq1 3); have K2 := Lib.hid (Fld.setSeed (Fld.withKind_ok FD.out.ok q 3 (by omega)).toLen q 0); have WD := Lib.hid (FD.out.wood hq1 HH.out); have S2 := Lib.hid (Fld.size WD.out.ok.toLen); have O2 := Lib.hid (Fld.one ((F.withKind q 3).withSeed q 0)); have i0 : (0 : Int) ≤ (q : Int) := (by omega); have i1 : (q : Int) < 100 := (by omega))))
    | ((with_reducible refine gate_store (x := .tmp 23) rfl ?_); go_must (refine M.out.ev_put 0 _ _ _ rfl rfl rfl rfl (.int .u8 3) rfl SZ1.out sz5 rfl rfl ?_); intro wn m; simp only [List.set_cons_zero, List.set_cons_succ, K1.out] at m; have M := Lib.hid m; clear m)
    | ((with_reducible refine gate_store (x := .tmp 26) rfl ?_); go_must (refine M.out.ev_put 0 _ _ _ rfl rfl rfl rfl (.int .i16 0) rfl SZ2.out sz26 rfl rfl ?_); intro wn m; simp only [List.set_cons_zero, List.set_cons_succ, K2.out] at m; have M := Lib.hid m; clear m)
    | ((with_reducible refine gate_dst (N := 27) rfl ?_); go_must (refine M.out.ev_ldw 0 _ _ rfl rfl rfl Tryz.underlying29 rfl (by rw [S2.out]; exact sz29) rfl ?_))
    | ((with_reducible refine gate_store (x := .tmp 2) rfl ?_); go_must (refine M.out.ev_stw 1 _ _ _ rfl rfl rfl rfl _ rfl (by rw [S2.out]; exact szZ) (by rw [S2.out]; exact sz29) O2.out rfl ?_); intro wn m; simp only [List.set_cons_zero, List.set_cons_succ] at m; have M := Lib.hid m; clear m)
    )
  refine ret_cell rfl (M.out.blk 1 rfl) Tryz.underlying29 rfl (by rw [S2.out]; exact sz29) rfl ⟨_, rfl, WD.out, k2, sd2, by omega, M.out.tail.tail⟩
set_option maxRecDepth 100000 in
set_option maxHeartbeats 4000000 in
theorem A2Field_any (A : Option Addr) (c : Nat) (bs : List Int) (hb : Bytes bs) (w : World) (hs : Sl w 1 A bs.length (flat oneB bs)) :
    Calls Tryz.prog 6 #[.slice A bs.length c] w fun e w' => ∃ F : Fld, e = .returned (.agg F.cells) ∧ Wood F ∧ Mem w w' [] := by
  have M := Lib.hid (Mem.start w)
  have HS := Lib.hid hs
  clear hs
  go_enter Tryz.func6, Tryz.ntmps6
  go_wp2_with (first
    | ((with_reducible refine gate_dst (N := 2) rfl ?_); go_must (refine M.out.ev_new rfl (by first | (go_simp; done) | (go_simp; rfl)) ?_); intro g2 w2 m; simp only [List.cons_append, List.nil_append] at m; have M := Lib.hid m; clear m)
    | (go_at_call 56; go_must (refine (l00From_any A bs.length c _).mono ?_); rintro e w_ ⟨g, rfl, N_⟩; have m := M.out.join N_; clear N_; simp only [List.cons_append, List.nil_append, List.append_nil] at m; have M := Lib.hid m; clear m)
    | (go_at_call 55; go_must (refine (l02Wooded_any 1 M.out g A c bs hb 0 (by omega) 0 rfl HS.out).mono ?_); rintro e w_ ⟨F, rfl, hF, kd, sdd, hkd, m⟩; simp only [List.set_cons_succ, List.set_cons_zero] at m; have M := Lib.hid m; clear m; have FD := Lib.hid hF; have S1 := Lib.hid (Fld.size hF.ok.toLen); have O1 := Lib.hid (Fld.one F); clear hF)
    | ((with_reducible refine gate_store (x := .tmp 2) rfl ?_); go_must (refine M.out.ev_stw 0 _ _ _ rfl rfl rfl rfl _ rfl (by rw [S1.out]; exact szZ) (by rw [S1.out]; exact sz29) O1.out rfl ?_); intro wn m; simp only [List.set_cons_zero, List.set_cons_succ] at m; have M := Lib.hid m; clear m)
    )
  refine ret_cell rfl (M.out.blk 0 rfl) Tryz.underlying29 rfl (by rw [S1.out]; exact sz29) rfl ⟨F, rfl, FD.out, M.out.take 0⟩
/-- Targets that can be covered, as they are drawn. -/
structure Tgt (F : Fld) (s : Cs) (n : Nat) : Prop where
  ok : s.ok
  len : s.all.length ≤ n
  in_ : ∀ k, s.has k = true → k < 100 ∧ F.has k = true ∧ F.kind k ≠ 3
theorem Tgt.mono {F : Fld} {s : Cs} {n m : Nat} (h : Tgt F s n) (hm : n ≤ m) : Tgt F s m := ⟨h.ok, Nat.le_trans h.len hm, h.in_⟩
theorem filter_or_len {α : Type} (p q : α → Bool) (l : List α) : (l.filter fun x => p x || q x).length ≤ (l.filter p).length + (l.filter q).length := by
  induction l with
  | nil => simp
  | cons x r ih =>
    simp only [List.filter_cons]
    cases p x <;> cases q x <;> simp <;> omega
theorem filter_eq_len (n : Nat) : ∀ m, ((List.range m).filter fun k => decide (n = k)).length ≤ 1
  | 0 => by simp
  | m + 1 => by
    rw [List.range_succ, List.filter_append, List.length_append]
    have ih := filter_eq_len n m
    by_cases h : n = m
    · have h0 : ((List.range m).filter fun k => decide (n = k)) = [] := by
        rw [List.filter_eq_nil_iff]
        intro k hk
        have := List.mem_range.1 hk
        simp
        omega
      rw [h0]
      simp [h]
    · simp [h]
      simpa using ih
theorem put_len (s : Cs) (q : Nat) : (s.put q).all.length ≤ s.all.length + 1 := by
  unfold Cs.all Cs.below
  rw [List.filter_congr fun k _ => Cs.put_has s q]
  have h1 := filter_or_len s.has (fun k => decide (q = k)) (List.range 100)
  have h2 := filter_eq_len q 100
  omega
theorem Tgt.put {F : Fld} {s : Cs} {n q : Nat} (h : Tgt F s n) (hq : q < 100) (h1 : F.has q = true) (h2 : F.kind q ≠ 3) : Tgt F (s.put q) (n + 1) := by
  refine ⟨Cs.put_ok h.ok (by omega), Nat.le_trans (put_len s q) (by have := h.len; omega), fun k hk => ?_⟩
  rw [Cs.put_has, Bool.or_eq_true] at hk
  rcases hk with hk | hk
  · exact h.in_ k hk
  · rw [← of_decide_eq_true hk]
    exact ⟨hq, h1, h2⟩
theorem Tgt.z (F : Fld) : Tgt F Cs.z 0 := ⟨Cs.z_ok, by decide, fun k hk => by
  rw [show Cs.z.has k = false by unfold Cs.has Cs.z; split <;> simp] at hk
  cases hk⟩
theorem a2Long_any (A B : Option Addr) (n m c d : Nat) (w : World) :
    Calls Tryz.prog 5 #[.slice A n c, .slice B m d] w fun e w' => e = .returned (.bool (decide (3000 < n) || decide (3000 < m))) ∧ w = w' := by
  by_cases h : 3000 < n <;> by_cases h' : 3000 < m
  all_goals
    have h1 : (decide ((3000 : Int) < (n : Int))) = decide (3000 < n) := by simp; omega
    have h2 : (decide ((3000 : Int) < (m : Int))) = decide (3000 < m) := by simp; omega
    first | rw [decide_eq_true h] at h1 ⊢ | rw [decide_eq_false h] at h1 ⊢
    first | rw [decide_eq_true h'] at h2 ⊢ | rw [decide_eq_false h'] at h2 ⊢
    go_enter Tryz.func5, Tryz.ntmps5
    go_wp2
    go_ret
    exact ⟨rfl, rfl⟩
end Go.Proofs.YtkomhngokcejbaaGreatDoor
