/- Texts of a proof, laid together: DrawD. -/
import Derived.Test.YtaepgjjmfopiiaaGreatDoorZH02
import Derived.Test.YtaepgjjmfopiiaaGreatDoorZH03
namespace Go.Proofs.YtaepgjjmfopiiaaGreatDoor
set_option linter.unusedSimpArgs false
set_option linter.unusedVariables false
open Go.RowKit
attribute [local go_sem] cell?_mk frozen?_mk
--ONES exact Entry.one _ | exact Fld.one _

set_option maxRecDepth 100000 in
set_option maxHeartbeats 2000000 in
theorem P6Field_any (A : Option Addr) (c : Nat) (bs : List Int) (hb : Bytes bs) (w : World) (hs : Sl w 1 A bs.length (flat oneB bs)) :
    Calls Tryz.prog 5 #[.slice A bs.length c] w fun e w' => ∃ F : Fld, e = .returned (.agg F.cells) ∧ FDr F 100 ∧ Mem w w' [] := by
  have M := Lib.hid (Mem.start w)
  have HS := Lib.hid hs
  clear hs
  go_enter Tryz.func5, Tryz.ntmps5
  go_wp2_with (first
    | ((with_reducible refine gate_dst (N := 2) rfl ?_); go_must (refine M.out.ev_new rfl (by first | (go_simp; done) | (go_simp; rfl)) ?_); intro g2 w2 m; simp only [List.cons_append, List.nil_append] at m; have M := Lib.hid m; clear m)
    | (go_at_call 25; go_must (refine (l00From_any A bs.length c _).mono ?_); rintro e w_ ⟨g, rfl, N_⟩; have m := M.out.join N_; clear N_; simp only [List.cons_append, List.nil_append, List.append_nil] at m; have M := Lib.hid m; clear m)
    | (go_at_call 24; go_must (refine (l01Drawn_any 1 M.out g A c bs hb 0 (by omega) 0 rfl HS.out).mono ?_); rintro e w_ ⟨F, rfl, hF, kd, sdd, hkd, m⟩; simp only [List.set_cons_succ, List.set_cons_zero] at m; have M := Lib.hid m; clear m; have FD := Lib.hid hF; have S1 := Lib.hid (Fld.size hF.ok.toLen); have O1 := Lib.hid (Fld.one F); clear hF)
    | ((with_reducible refine gate_store (x := .tmp 2) rfl ?_); go_must (refine M.out.ev_stw 0 _ _ _ rfl rfl rfl rfl _ rfl (by rw [S1.out]; exact szZ) (by rw [S1.out]; exact sz29) O1.out rfl ?_); intro wn m; simp only [List.set_cons_zero, List.set_cons_succ] at m; have M := Lib.hid m; clear m)
    )
  refine ret_cell rfl (M.out.blk 0 rfl) Tryz.underlying29 rfl (by rw [S1.out]; exact sz29) rfl ⟨F, rfl, FD.out, M.out.take 0⟩
theorem sown_ok {F : Fld} (hF : F.ok) (hv : F.valid = true) {k : Nat} (hk : k < 100) (hh : F.has k = true) (h0 : F.kind k = 0) {x : Int} (hx : 0 ≤ x ∧ x < 12) : (F.withSeed k x).ok ∧ (F.withSeed k x).valid = true := by
  obtain ⟨a, b⟩ := Fld.valid_wh hv
  refine ⟨Fld.withSeed_okF hF k x (by omega), Fld.valid_of a b fun j hj => ?_⟩
  have h2 := Fld.okAt_iff.1 (Fld.valid_at hv hj)
  refine Fld.okAt_iff.2 ?_
  rw [Fld.seed_ws hF.toLen hk, show (F.withSeed k x).kind j = F.kind j from rfl, show (F.withSeed k x).has j = F.has j from rfl]
  by_cases hjk : j = k
  · subst hjk
    rw [if_pos rfl]
    exact ⟨by omega, by omega, by omega, by omega, fun e => absurd h0 e, fun e => by rw [hh] at e; cases e⟩
  · rw [if_neg hjk]
    exact h2
set_option maxRecDepth 100000 in
set_option maxHeartbeats 4000000 in
theorem P6Sown_any (A : Option Addr) (c : Nat) (bs : List Int) (hb : Bytes bs) (F : Fld) (hF : FDr F 100) (w : World) (hs : Sl w 1 A bs.length (flat oneB bs)) :
    Calls Tryz.prog 18 #[.slice A bs.length c, .agg F.cells] w fun e w' => ∃ G : Fld, e = .returned (.agg G.cells) ∧ G.ok ∧ G.valid = true ∧ Near F G ∧ Mem w w' [] := by
  have M := Lib.hid (Mem.start w)
  have HS := Lib.hid hs
  have HB := Lib.hid hb
  have FD := Lib.hid hF
  have S0 := Lib.hid (Fld.size hF.ok.toLen)
  clear hs hF
  go_enter Tryz.func18, Tryz.ntmps18
  go_wp2_with (first
    | ((with_reducible refine gate_dst (N := 3) rfl ?_); go_must (refine M.out.ev_new rfl (by first | (go_simp; done) | (go_simp; rfl)) ?_); intro g3 w3 m; simp only [List.cons_append, List.nil_append] at m; have M := Lib.hid m; clear m)
    | ((with_reducible refine gate_dst (N := 4) rfl ?_); go_must (refine M.out.ev_new rfl (by first | (go_simp; done) | (go_simp; rfl)) ?_); intro g4 w4 m; simp only [List.cons_append, List.nil_append] at m; have M := Lib.hid m; clear m)
    | ((with_reducible refine gate_store (x := .tmp 24) rfl ?_); go_must (refine M.out.ev_put 0 _ _ _ rfl rfl rfl rfl (.int _ _) rfl (by first | assumption | exact Fld.lt0 _ | exact Fld.lt1 _ | (simp; done) | (simp only [ints_size]; omega)) sz26 rfl rfl ?_); intro wn m; simp only [List.set_cons_succ, List.set_cons_zero, List.setIfInBounds_toArray] at m; have M := Lib.hid m; clear m)
    | ((with_reducible refine gate_dst (N := 25) rfl ?_); go_must (refine M.out.ev_ldw 0 _ _ rfl rfl rfl Tryz.underlying29 rfl (by first | exact sz29 | (rw [S1.out]; exact sz29) | (rw [S2.out]; exact sz29) | (rw [S3.out]; exact sz29)) rfl ?_))
    | ((with_reducible refine gate_store (x := .tmp 4) rfl ?_); go_must (refine M.out.ev_stw 1 _ _ _ rfl rfl rfl rfl _ rfl (by first | rfl | (simp only [S1.out]; rfl) | (simp only [S1.out, S2.out]; rfl) | (simp only [S3.out]; rfl) | (simp only [S1.out, S2.out, S3.out]; rfl)) (by first | exact sz29 | (rw [S1.out]; exact sz29) | (rw [S2.out]; exact sz29) | (rw [S3.out]; exact sz29)) (by first | exact ints_one _ _ | exact Fld.one _ | exact O1.out | exact Entry.one _ | exact Fld.one _ | rfl | (simp [Value.oneCell']; done)) rfl ?_); intro wn m; simp only [List.set_cons_succ, List.set_cons_zero, List.setIfInBounds_toArray] at m; have M := Lib.hid m; clear m)
    | (go_at_call 25; go_must (refine (l00From_any A bs.length c _).mono ?_); rintro e w_ ⟨g, rfl, N_⟩; have m := M.out.join N_; clear N_; simp only [List.cons_append, List.nil_append, List.append_nil] at m; have M := Lib.hid m; clear m)
    )
  go_loopw [6] (fun v wr => ∃ (k k' : Nat) (sd' : Int) (G : Fld), k ≤ 100 ∧ v = .int .i64 k ∧ G.ok ∧ G.valid = true ∧ Near F G ∧ k' ≤ 10 * k ∧ Mem w wr [.blk g3 29 G.cells, .blk g4 29 Tryz.zeroCells29, .blk g 98 (srcCells A bs.length c k' sd')])
    (fun v _ => 100 - (intOf v).toNat)
  case atStart => exact ⟨0, 0, 0, F, by omega, rfl, FD.out.ok, FD.out.valid, Near.refl F, by omega, M.out⟩
  case round =>
    clear M
    obtain ⟨k, k', sd', G, hk, rfl, hG, hv, hn, hk', m⟩ := hrel
    have M := Lib.hid m
    have GD := Lib.hid hG
    have GV := Lib.hid hv
    have GN := Lib.hid hn
    have S1 := Lib.hid (Fld.size hG.toLen)
    clear m hG hv hn
    by_cases hlt : k < 100
    · have i0 : (0 : Int) ≤ (k : Int) := by omega
      have i1 : (k : Int) < 100 := by omega
      have SZ2 := Lib.hid (show 102 + k < G.cells.size by rw [S1.out]; omega)
      have K2 := Lib.hid (fun x => Fld.setSeed GD.out.toLen k x)
      cases hq : (G.has k && (G.kind k == 0))
      · have HQ := Lib.hid hq
        clear hq
        go_wp2_with (first
          | (go_at_call 46; go_must (refine (l03Soil_any g3 G GD.out k hlt _ (M.out.blk 0 rfl)).mono ?_); rintro e w_ ⟨rfl, rfl⟩; rw [HQ.out]))
        exact ⟨⟨k + 1, k', sd', G, by omega, by go_num, GD.out, GV.out, GN.out, by omega, M.out⟩, by simp [intOf]; omega⟩
      · have HQ := Lib.hid hq
        have HQ2 := Lib.hid (show G.has k = true ∧ G.kind k = 0 by simpa using hq)
        clear hq
        go_wp2_with (first
          | (go_at_call 46; go_must (refine (l03Soil_any g3 G GD.out k hlt _ (M.out.blk 0 rfl)).mono ?_); rintro e w_ ⟨rfl, rfl⟩; rw [HQ.out])
          | (go_at_call 47; go_must (refine (one_any 2 M.out g A c bs HB.out _ (by omega) _ rfl HS.out 3 (by decide)).mono ?_); rintro e w_ ⟨bb, rfl, k5, sd5, hk5, m⟩; simp only [List.set_cons_succ, List.set_cons_zero, List.set_set] at m; have M := Lib.hid m; clear m; cases bb)
          | (go_at_call 26; go_must (refine Calls.mono (calls_args (by with_reducible rfl) (pick_any 2 M.out g A c bs HB.out _ (by omega) _ rfl (M.out.sl HS.out) 12 (by first | decide | omega))) ?_; rintro e w_ ⟨d, rfl, d0, d1, k_d, sd_d, hk_d, m⟩; simp only [List.set_cons_succ, List.set_cons_zero, List.set_set] at m; have M := Lib.hid m; clear m; have ed : IntKind.i16.wrap d = d := IntWalk.i16_in _ (by omega)))
          | ((with_reducible refine gate_store (x := .tmp 24) rfl ?_); go_must (refine M.out.ev_put 0 _ _ _ rfl rfl rfl rfl (.int .i16 d) rfl SZ2.out sz26 rfl rfl ?_); intro wn m; simp only [List.set_cons_zero, K2.out] at m; have M := Lib.hid m; clear m)
          )
        · exact ⟨⟨k + 1, _, _, G, by omega, by go_num, GD.out, GV.out, GN.out, by omega, M.out⟩, by simp [intOf]; omega⟩
        · have hs := sown_ok GD.out GV.out hlt HQ2.out.1 HQ2.out.2 (x := d) ⟨d0, by omega⟩
          exact ⟨⟨k + 1, _, _, G.withSeed k d, by omega, by go_num, hs.1, hs.2, ⟨GN.out.w, GN.out.h, GN.out.k⟩, by omega, M.out⟩, by simp [intOf]; omega⟩
    · obtain rfl : k = 100 := by omega
      have O1 := Lib.hid (Fld.one G)
      go_wp2_with (first
        | ((with_reducible refine gate_dst (N := 3) rfl ?_); go_must (refine M.out.ev_new rfl (by first | (go_simp; done) | (go_simp; rfl)) ?_); intro g3 w3 m; simp only [List.cons_append, List.nil_append] at m; have M := Lib.hid m; clear m)
        | ((with_reducible refine gate_dst (N := 4) rfl ?_); go_must (refine M.out.ev_new rfl (by first | (go_simp; done) | (go_simp; rfl)) ?_); intro g4 w4 m; simp only [List.cons_append, List.nil_append] at m; have M := Lib.hid m; clear m)
        | ((with_reducible refine gate_store (x := .tmp 24) rfl ?_); go_must (refine M.out.ev_put 0 _ _ _ rfl rfl rfl rfl (.int _ _) rfl (by first | assumption | exact Fld.lt0 _ | exact Fld.lt1 _ | (simp; done) | (simp only [ints_size]; omega)) sz26 rfl rfl ?_); intro wn m; simp only [List.set_cons_succ, List.set_cons_zero, List.setIfInBounds_toArray] at m; have M := Lib.hid m; clear m)
        | ((with_reducible refine gate_dst (N := 25) rfl ?_); go_must (refine M.out.ev_ldw 0 _ _ rfl rfl rfl Tryz.underlying29 rfl (by first | exact sz29 | (rw [S1.out]; exact sz29) | (rw [S2.out]; exact sz29) | (rw [S3.out]; exact sz29)) rfl ?_))
        | ((with_reducible refine gate_store (x := .tmp 4) rfl ?_); go_must (refine M.out.ev_stw 1 _ _ _ rfl rfl rfl rfl _ rfl (by first | rfl | (simp only [S1.out]; rfl) | (simp only [S1.out, S2.out]; rfl) | (simp only [S3.out]; rfl) | (simp only [S1.out, S2.out, S3.out]; rfl)) (by first | exact sz29 | (rw [S1.out]; exact sz29) | (rw [S2.out]; exact sz29) | (rw [S3.out]; exact sz29)) (by first | exact ints_one _ _ | exact Fld.one _ | exact O1.out | exact Entry.one _ | exact Fld.one _ | rfl | (simp [Value.oneCell']; done)) rfl ?_); intro wn m; simp only [List.set_cons_succ, List.set_cons_zero, List.setIfInBounds_toArray] at m; have M := Lib.hid m; clear m)
        | ((with_reducible refine gate_dst (N := 25) rfl ?_); go_must (refine M.out.ev_ldw 0 _ _ rfl rfl rfl Tryz.underlying29 rfl (by rw [S1.out]; exact sz29) rfl ?_))
        | ((with_reducible refine gate_store (x := .tmp 4) rfl ?_); go_must (refine M.out.ev_stw 1 _ _ _ rfl rfl rfl rfl _ rfl (by rw [S1.out]; exact szZ) (by rw [S1.out]; exact sz29) O1.out rfl ?_); intro wn m; simp only [List.set_cons_zero, List.set_cons_succ] at m; have M := Lib.hid m; clear m)
        )
      refine ret_cell rfl (M.out.blk 1 rfl) Tryz.underlying29 rfl (by rw [S1.out]; exact sz29) rfl ⟨G, rfl, GD.out, GV.out, GN.out, M.out.take 0⟩
/-- A diary that was drawn: its entries are as told. -/
def DDr (xs : List Entry) (n : Nat) : Prop := xs.length ≤ n ∧ (∀ x ∈ xs, x.ok ∧ x.plain = true)
theorem DDr.add {xs : List Entry} {n : Nat} (h : DDr xs n) {a q d : Int} (ha : 0 ≤ a ∧ a < 4) (hq : 0 ≤ q ∧ q < 100) (hd : 0 ≤ d ∧ d < 6) : DDr (xs ++ [⟨a, q, 1 + d⟩]) (n + 1) := by
  refine ⟨by have := h.1; simp; omega, fun x hx => ?_⟩
  rcases List.mem_append.1 hx with hx | hx
  · exact h.2 x hx
  · obtain rfl := List.mem_singleton.1 hx
    refine ⟨⟨?_, ?_, ?_⟩, ?_⟩
    · show -128 ≤ a ∧ a ≤ 127; omega
    · show -32768 ≤ q ∧ q ≤ 32767; omega
    · show -32768 ≤ 1 + d ∧ 1 + d ≤ 32767; omega
    · simp only [Entry.plain, Bool.and_eq_true]
      exact ⟨inB_iff.2 (by omega), inB_iff.2 (by omega), inB_iff.2 (by omega)⟩
set_option maxRecDepth 100000 in
set_option maxHeartbeats 4000000 in
theorem P6Diary_any (A : Option Addr) (c : Nat) (bs : List Int) (hb : Bytes bs) (F : Fld) (hF : FDr F 100) (w : World) (hs : Sl w 1 A bs.length (flat oneB bs)) :
    Calls Tryz.prog 6 #[.slice A bs.length c, .agg F.cells] w fun e w' => ∃ (xs : List Entry) (B : Option Addr) (d : Nat), e = .returned (.slice B xs.length d) ∧ DDr xs 7 ∧ xs.length ≤ d ∧ Mem w w' [.row (.slice B xs.length d) 45 3 xs.length (flat Entry.vals xs)] := by
  have M := Lib.hid (Mem.start w)
  have HS := Lib.hid hs
  have HB := Lib.hid hb
  have FD := Lib.hid hF
  have S1 := Lib.hid (Fld.size hF.ok.toLen)
  have hw := hF.w
  have hh := hF.h
  have ew : IntKind.i64.wrap F.wide = F.wide := IntWalk.i64_in _ (by omega)
  have eh : IntKind.i64.wrap F.high = F.high := IntWalk.i64_in _ (by omega)
  clear hs hF
  go_enter Tryz.func6, Tryz.ntmps6
  go_wp2_with (first
    | ((with_reducible refine gate_dst (N := 3) rfl ?_); go_must (refine M.out.ev_new rfl (by first | (go_simp; done) | (go_simp; rfl)) ?_); intro g3 w3 m; simp only [List.cons_append, List.nil_append] at m; have M := Lib.hid m; clear m; try have q0_1 := M.out.cell (j := 1) 0 rfl (by first | assumption | rfl))
    | ((with_reducible refine gate_dst (N := 21) rfl ?_); go_must (refine M.out.ev_ld 0 _ _ rfl rfl rfl Tryz.underlying24 rfl rfl (by first | assumption | rfl) ?_))
    | ((with_reducible refine gate_dst (N := 30) rfl ?_); go_must (refine M.out.ev_ld 0 _ _ rfl rfl rfl Tryz.underlying24 rfl rfl (by first | assumption | rfl) ?_))
    | ((with_reducible refine gate_dst (N := 9) rfl ?_); go_must (refine M.out.ev_new rfl (by first | (go_simp; done) | (go_simp; rfl)) ?_); intro g9 w9 m; simp only [List.cons_append, List.nil_append] at m; have M := Lib.hid m; clear m; try have q0_1 := M.out.cell (j := 1) 0 rfl (by first | assumption | rfl))
    | ((with_reducible refine gate_store (x := .tmp 9) rfl ?_); go_must (refine M.out.ev_stw 1 _ _ _ rfl rfl rfl rfl _ rfl (by first | rfl | (simp only [S1.out]; rfl) | (simp only [S1.out, S2.out]; rfl) | (simp only [S3.out]; rfl) | (simp only [S1.out, S2.out, S3.out]; rfl)) (by first | exact sz45 | (rw [S1.out]; exact sz45) | (rw [S2.out]; exact sz45) | (rw [S3.out]; exact sz45)) (by first | exact ints_one _ _ | exact Fld.one _ | exact O1.out | exact Entry.one _ | exact Fld.one _ | rfl | (simp [Value.oneCell']; done)) rfl ?_); intro wn m; simp only [List.set_cons_succ, List.set_cons_zero, List.setIfInBounds_toArray] at m; have M := Lib.hid m; clear m; try have q0_1 := M.out.cell (j := 1) 0 rfl (by first | assumption | rfl))
    | ((with_reducible refine gate_store (x := .tmp 41) rfl ?_); go_must (refine M.out.ev_put 1 _ _ _ rfl rfl rfl rfl (.int _ _) rfl (by first | assumption | exact Fld.lt0 _ | exact Fld.lt1 _ | (simp; done) | (simp only [ints_size]; omega)) sz26 rfl rfl ?_); intro wn m; simp only [List.set_cons_succ, List.set_cons_zero, List.setIfInBounds_toArray] at m; have M := Lib.hid m; clear m; try have q0_1 := M.out.cell (j := 1) 0 rfl (by first | assumption | rfl))
    | ((with_reducible refine gate_dst (N := 43) rfl ?_); go_must (refine M.out.ev_ldw 1 _ _ rfl rfl rfl Tryz.underlying45 rfl (by first | exact sz45 | (rw [S1.out]; exact sz45) | (rw [S2.out]; exact sz45) | (rw [S3.out]; exact sz45)) rfl ?_))
    | (go_at_call 25; go_must (refine (l00From_any A bs.length c _).mono ?_); rintro e w_ ⟨g, rfl, N_⟩; have m := M.out.join N_; clear N_; simp only [List.cons_append, List.nil_append, List.append_nil] at m; have M := Lib.hid m; clear m)
    | ((with_reducible refine gate_dst (N := 12) rfl ?_); go_must (refine M.out.ev_bs0 elem_Entry rfl rfl ?_); intro g12 w12 m; simp only [List.cons_append, List.nil_append] at m; have M := Lib.hid m; clear m)
    | (go_at_call 26; go_must (refine Calls.mono (calls_args (by with_reducible rfl) (pick_any 1 M.out g A c bs HB.out _ (by omega) _ rfl (M.out.sl HS.out) 8 (by first | decide | omega))) ?_; rintro e w_ ⟨r, rfl, r0, r1, k_r, sd_r, hk_r, m⟩; simp only [List.set_cons_succ, List.set_cons_zero, List.set_set] at m; have M := Lib.hid m; clear m))
    )
  go_loopw [6, 7] (fun o v wr => ∃ (n m k' : Nat) (sd' : Int) (xs : List Entry) (B : Option Addr) (cp : Nat), v = .int .i64 n ∧ o = .slice B xs.length cp ∧ DDr xs m ∧ m + n ≤ 7 ∧ k' ≤ 200 - 10 * n ∧ Mem w wr [.blk g3 29 F.cells, .blk g 98 (srcCells A bs.length c k' sd'), .row (.slice B xs.length cp) 45 3 xs.length (flat Entry.vals xs)])
    (fun _ v _ => (intOf v).toNat)
  case atStart => exact ⟨r.toNat, 0, k_r, sd_r, [], some ⟨g12, 0, none⟩, 0, by rw [Int.toNat_of_nonneg r0], rfl, ⟨by simp, fun x hx => by simp at hx⟩, by omega, by omega, M.out⟩
  case round =>
    clear M
    obtain ⟨n, m', k', sd', xs, B, cp, rfl, rfl, hd, hm, hk', m_⟩ := hrel
    have M := Lib.hid m_
    have HD := Lib.hid hd
    have hxl := hd.1
    clear m_ hd
    by_cases hn : 0 < n
    · have i0 : (0 : Int) < (n : Int) := by omega
      go_wp2_with (first
        | ((with_reducible refine gate_dst (N := 21) rfl ?_); go_must (refine M.out.ev_ld 0 _ _ rfl rfl rfl Tryz.underlying24 rfl rfl F.cell0 ?_))
        | (go_at_call 26; go_must (refine Calls.mono (calls_args (by with_reducible rfl) (pick_any 1 M.out g A c bs HB.out _ (by omega) _ rfl (M.out.sl HS.out) F.wide (by first | decide | omega))) ?_; rintro e w_ ⟨x, rfl, x0, x1, k_x, sd_x, hk_x, m⟩; simp only [List.set_cons_succ, List.set_cons_zero, List.set_set] at m; have M := Lib.hid m; clear m))
        )
      refine region_anyH (fun w' => Mem w w' [.blk g3 29 F.cells]) (by kernel_rfl) ?_
      have m := M.out.drew
      clear M
      have M := Lib.hid m
      clear m
      apply takeH (i := 0) 24 rfl (by kernel_rfl) (by kernel_rfl) (by kernel_rfl) (fun _ _ _ h => h) rfl (by first | exact M.out | exact M.out.take 1)
      case' hy =>
        refine Or.inl ⟨by first | rfl | (go_simp; done), ?_⟩
        intro w hS
        clear hS
        go_simp
        try with_reducible rfl
      try simp only [Act.put, List.getElem_toArray, List.getElem_cons_succ, List.getElem_cons_zero, List.setIfInBounds_toArray, List.set_cons_succ, List.set_cons_zero]
      apply takeH (i := 3) 27 rfl (by kernel_rfl) (by kernel_rfl) (by kernel_rfl) (fun _ _ _ h => h) rfl (by first | exact M.out | exact M.out.take 1)
      case' hy =>
        refine Or.inl ⟨by first | rfl | (go_simp; done), ?_⟩
        intro w hS
        clear hS
        go_simp
        try with_reducible rfl
      try simp only [Act.put, List.getElem_toArray, List.getElem_cons_succ, List.getElem_cons_zero, List.setIfInBounds_toArray, List.set_cons_succ, List.set_cons_zero]
      apply takeH (i := 4) 28 rfl (by kernel_rfl) (by kernel_rfl) (by kernel_rfl) (fun _ _ _ h => h) rfl (by first | exact M.out | exact M.out.take 1)
      case' hy =>
        refine Or.inl ⟨by first | rfl | (go_simp; done), ?_⟩
        intro w hS
        clear hS
        go_simp
        try with_reducible rfl
      try simp only [Act.put, List.getElem_toArray, List.getElem_cons_succ, List.getElem_cons_zero, List.setIfInBounds_toArray, List.set_cons_succ, List.set_cons_zero]
      apply takeH (i := 5) 29 rfl (by kernel_rfl) (by kernel_rfl) (by kernel_rfl) (fun _ _ _ h => h) rfl (by first | exact M.out | exact M.out.take 1)
      case' hy =>
        refine Or.inl ⟨by first | rfl | (go_simp; done), ?_⟩
        intro w hS
        clear hS
        go_simp
        try with_reducible rfl
      try simp only [Act.put, List.getElem_toArray, List.getElem_cons_succ, List.getElem_cons_zero, List.setIfInBounds_toArray, List.set_cons_succ, List.set_cons_zero]
      apply takeH (i := 6) 30 rfl (by kernel_rfl) (by kernel_rfl) (by kernel_rfl) (fun _ _ _ h => h) rfl (by first | exact M.out | exact M.out.take 1)
      case' hy => exact ylds _ _ rfl rfl Tryz.underlying24 rfl rfl (fun w' hS => hS.cell 0 rfl F.cell1)
      try simp only [Act.put, List.getElem_toArray, List.getElem_cons_succ, List.getElem_cons_zero, List.setIfInBounds_toArray, List.set_cons_succ, List.set_cons_zero]
      apply takeH (i := 7) 31 rfl (by kernel_rfl) (by kernel_rfl) (by kernel_rfl) (fun _ _ _ h => h) rfl (by first | exact M.out | exact M.out.take 1)
      case' hy =>
        refine Or.inl ⟨by first | rfl | (go_simp; done), ?_⟩
        intro w hS
        clear hS
        go_simp
        try with_reducible rfl
      try simp only [Act.put, List.getElem_toArray, List.getElem_cons_succ, List.getElem_cons_zero, List.setIfInBounds_toArray, List.set_cons_succ, List.set_cons_zero]
      refine any2H 1 13 (by kernel_rfl) rfl rfl (fun K hK => ?_) (fun K hK => ?_)
      rotate_right 1
      case' _ =>
        go_wp2_with (first | ((with_reducible refine gate_dst (N := 9) rfl ?_); go_must (refine M.out.ev_new rfl (by first | (go_simp; done) | (go_simp; rfl)) ?_); intro g9 w9 m; simp only [List.cons_append, List.nil_append] at m; have M := Lib.hid m; clear m) | ((with_reducible refine gate_store (x := .tmp 9) rfl ?_); go_must (refine M.out.ev_stw 3 _ _ _ rfl rfl rfl rfl _ rfl rfl sz45 (by simp [Value.oneCell']) rfl ?_); intro wn m; simp only [List.set_cons_zero, List.set_cons_succ] at m; have M := Lib.hid m; clear m) | ((with_reducible refine gate_dst (N := 30) rfl ?_); go_must (refine M.out.ev_ld 0 _ _ rfl rfl rfl Tryz.underlying24 rfl rfl (by first | assumption | rfl) ?_)) | ((with_reducible refine gate_dst (N := 9) rfl ?_); go_must (refine M.out.ev_new rfl (by first | (go_simp; done) | (go_simp; rfl)) ?_); intro g9 w9 m; simp only [List.cons_append, List.nil_append] at m; have M := Lib.hid m; clear m; try have q0_1 := M.out.cell (j := 1) 0 rfl (by first | assumption | rfl)) | ((with_reducible refine gate_store (x := .tmp 9) rfl ?_); go_must (refine M.out.ev_stw 3 _ _ _ rfl rfl rfl rfl _ rfl (by first | rfl | (simp only [S1.out]; rfl) | (simp only [S1.out, S2.out]; rfl) | (simp only [S3.out]; rfl) | (simp only [S1.out, S2.out, S3.out]; rfl)) (by first | exact sz45 | (rw [S1.out]; exact sz45) | (rw [S2.out]; exact sz45) | (rw [S3.out]; exact sz45)) (by first | exact ints_one _ _ | exact Fld.one _ | exact O1.out | exact Entry.one _ | exact Fld.one _ | rfl | (simp [Value.oneCell']; done)) rfl ?_); intro wn m; simp only [List.set_cons_succ, List.set_cons_zero, List.setIfInBounds_toArray] at m; have M := Lib.hid m; clear m; try have q0_1 := M.out.cell (j := 1) 0 rfl (by first | assumption | rfl)) | (go_at_call 26; go_must (first | (refine Calls.mono (calls_args (by with_reducible rfl) (pick_any 1 M.out g A c bs HB.out _ (by omega) _ rfl (M.out.sl HS.out) 4 (by first | decide | omega))) ?_; rintro e w_ ⟨a, rfl, a0, a1, k_a, sd_a, hk_a, m⟩; simp only [List.set_cons_succ, List.set_cons_zero, List.set_set] at m; have M := Lib.hid m; clear m; have ea : IntKind.i8.wrap a = a := IntWalk.i8_in _ (by omega)) | (refine Calls.mono (calls_args (by with_reducible rfl) (pick_any 1 M.out g A c bs HB.out _ (by omega) _ rfl (M.out.sl HS.out) F.high (by first | decide | omega))) ?_; rintro e w_ ⟨y, rfl, y0, y1, k_y, sd_y, hk_y, m⟩; simp only [List.set_cons_succ, List.set_cons_zero, List.set_set] at m; have M := Lib.hid m; clear m; obtain ⟨q, hq, hq1, hq2⟩ := cell_of (F := F) ⟨x0, by omega⟩ ⟨y0, by omega⟩ (by omega) (by omega); have e1 : IntKind.i64.wrap (10 * y) = 10 * y := IntWalk.i64_in _ (by omega); have e2 : IntKind.i64.wrap (x + 10 * y) = (q : Int) := (by rw [hq]; exact IntWalk.i64_in _ (by omega)); have e3 : IntKind.i16.wrap (q : Int) = (q : Int) := IntWalk.i16_in _ (by omega); have HH := Lib.hid hq2; clear hq hq2 y0 y1))))
        refine onward_normal (hK _ _ ⟨(by first | exact M.out | exact M.out.take 1), ?_⟩)
        clear hK K
        try simp only [Act.put, List.getElem_toArray, List.getElem_cons_succ, List.getElem_cons_zero, List.setIfInBounds_toArray, List.set_cons_succ, List.set_cons_zero]
        refine any1H 1 (by kernel_rfl) rfl (fun K hK => ?_)
        go_wp2_with (first | ((with_reducible refine gate_dst (N := 9) rfl ?_); go_must (refine M.out.ev_new rfl (by first | (go_simp; done) | (go_simp; rfl)) ?_); intro g9 w9 m; simp only [List.cons_append, List.nil_append] at m; have M := Lib.hid m; clear m) | ((with_reducible refine gate_store (x := .tmp 9) rfl ?_); go_must (refine M.out.ev_stw 3 _ _ _ rfl rfl rfl rfl _ rfl rfl sz45 (by simp [Value.oneCell']) rfl ?_); intro wn m; simp only [List.set_cons_zero, List.set_cons_succ] at m; have M := Lib.hid m; clear m) | ((with_reducible refine gate_dst (N := 30) rfl ?_); go_must (refine M.out.ev_ld 0 _ _ rfl rfl rfl Tryz.underlying24 rfl rfl (by first | assumption | rfl) ?_)) | ((with_reducible refine gate_dst (N := 9) rfl ?_); go_must (refine M.out.ev_new rfl (by first | (go_simp; done) | (go_simp; rfl)) ?_); intro g9 w9 m; simp only [List.cons_append, List.nil_append] at m; have M := Lib.hid m; clear m; try have q0_1 := M.out.cell (j := 1) 0 rfl (by first | assumption | rfl)) | ((with_reducible refine gate_store (x := .tmp 9) rfl ?_); go_must (refine M.out.ev_stw 3 _ _ _ rfl rfl rfl rfl _ rfl (by first | rfl | (simp only [S1.out]; rfl) | (simp only [S1.out, S2.out]; rfl) | (simp only [S3.out]; rfl) | (simp only [S1.out, S2.out, S3.out]; rfl)) (by first | exact sz45 | (rw [S1.out]; exact sz45) | (rw [S2.out]; exact sz45) | (rw [S3.out]; exact sz45)) (by first | exact ints_one _ _ | exact Fld.one _ | exact O1.out | exact Entry.one _ | exact Fld.one _ | rfl | (simp [Value.oneCell']; done)) rfl ?_); intro wn m; simp only [List.set_cons_succ, List.set_cons_zero, List.setIfInBounds_toArray] at m; have M := Lib.hid m; clear m; try have q0_1 := M.out.cell (j := 1) 0 rfl (by first | assumption | rfl)) | (go_at_call 26; go_must (first | (refine Calls.mono (calls_args (by with_reducible rfl) (pick_any 1 M.out g A c bs HB.out _ (by omega) _ rfl (M.out.sl HS.out) 4 (by first | decide | omega))) ?_; rintro e w_ ⟨a, rfl, a0, a1, k_a, sd_a, hk_a, m⟩; simp only [List.set_cons_succ, List.set_cons_zero, List.set_set] at m; have M := Lib.hid m; clear m; have ea : IntKind.i8.wrap a = a := IntWalk.i8_in _ (by omega)) | (refine Calls.mono (calls_args (by with_reducible rfl) (pick_any 1 M.out g A c bs HB.out _ (by omega) _ rfl (M.out.sl HS.out) F.high (by first | decide | omega))) ?_; rintro e w_ ⟨y, rfl, y0, y1, k_y, sd_y, hk_y, m⟩; simp only [List.set_cons_succ, List.set_cons_zero, List.set_set] at m; have M := Lib.hid m; clear m; obtain ⟨q, hq, hq1, hq2⟩ := cell_of (F := F) ⟨x0, by omega⟩ ⟨y0, by omega⟩ (by omega) (by omega); have e1 : IntKind.i64.wrap (10 * y) = 10 * y := IntWalk.i64_in _ (by omega); have e2 : IntKind.i64.wrap (x + 10 * y) = (q : Int) := (by rw [hq]; exact IntWalk.i64_in _ (by omega)); have e3 : IntKind.i16.wrap (q : Int) = (q : Int) := IntWalk.i16_in _ (by omega); have HH := Lib.hid hq2; clear hq hq2 y0 y1))))
        refine onward_normal (hK _ _ ⟨(by first | exact M.out | exact M.out.take 1), ?_⟩)
        clear hK K
        try simp only [Act.put, List.getElem_toArray, List.getElem_cons_succ, List.getElem_cons_zero, List.setIfInBounds_toArray, List.set_cons_succ, List.set_cons_zero]
        apply takeH (i := 2) 26 rfl (by kernel_rfl) (by kernel_rfl) (by kernel_rfl) (fun _ _ _ h => h) rfl (by first | exact M.out | exact M.out.take 1)
        case' hy =>
          refine Or.inl ⟨by first | rfl | (go_simp; done), ?_⟩
          intro w hS
          clear hS
          go_simp
          try with_reducible rfl
        try simp only [Act.put, List.getElem_toArray, List.getElem_cons_succ, List.getElem_cons_zero, List.setIfInBounds_toArray, List.set_cons_succ, List.set_cons_zero]
        refine any1H 8 (by kernel_rfl) rfl (fun K hK => ?_)
        go_wp2_with (first | ((with_reducible refine gate_dst (N := 9) rfl ?_); go_must (refine M.out.ev_new rfl (by first | (go_simp; done) | (go_simp; rfl)) ?_); intro g9 w9 m; simp only [List.cons_append, List.nil_append] at m; have M := Lib.hid m; clear m) | ((with_reducible refine gate_store (x := .tmp 9) rfl ?_); go_must (refine M.out.ev_stw 3 _ _ _ rfl rfl rfl rfl _ rfl rfl sz45 (by simp [Value.oneCell']) rfl ?_); intro wn m; simp only [List.set_cons_zero, List.set_cons_succ] at m; have M := Lib.hid m; clear m) | ((with_reducible refine gate_dst (N := 30) rfl ?_); go_must (refine M.out.ev_ld 0 _ _ rfl rfl rfl Tryz.underlying24 rfl rfl (by first | assumption | rfl) ?_)) | ((with_reducible refine gate_dst (N := 9) rfl ?_); go_must (refine M.out.ev_new rfl (by first | (go_simp; done) | (go_simp; rfl)) ?_); intro g9 w9 m; simp only [List.cons_append, List.nil_append] at m; have M := Lib.hid m; clear m; try have q0_1 := M.out.cell (j := 1) 0 rfl (by first | assumption | rfl)) | ((with_reducible refine gate_store (x := .tmp 9) rfl ?_); go_must (refine M.out.ev_stw 3 _ _ _ rfl rfl rfl rfl _ rfl (by first | rfl | (simp only [S1.out]; rfl) | (simp only [S1.out, S2.out]; rfl) | (simp only [S3.out]; rfl) | (simp only [S1.out, S2.out, S3.out]; rfl)) (by first | exact sz45 | (rw [S1.out]; exact sz45) | (rw [S2.out]; exact sz45) | (rw [S3.out]; exact sz45)) (by first | exact ints_one _ _ | exact Fld.one _ | exact O1.out | exact Entry.one _ | exact Fld.one _ | rfl | (simp [Value.oneCell']; done)) rfl ?_); intro wn m; simp only [List.set_cons_succ, List.set_cons_zero, List.setIfInBounds_toArray] at m; have M := Lib.hid m; clear m; try have q0_1 := M.out.cell (j := 1) 0 rfl (by first | assumption | rfl)) | (go_at_call 26; go_must (first | (refine Calls.mono (calls_args (by with_reducible rfl) (pick_any 1 M.out g A c bs HB.out _ (by omega) _ rfl (M.out.sl HS.out) 4 (by first | decide | omega))) ?_; rintro e w_ ⟨a, rfl, a0, a1, k_a, sd_a, hk_a, m⟩; simp only [List.set_cons_succ, List.set_cons_zero, List.set_set] at m; have M := Lib.hid m; clear m; have ea : IntKind.i8.wrap a = a := IntWalk.i8_in _ (by omega)) | (refine Calls.mono (calls_args (by with_reducible rfl) (pick_any 1 M.out g A c bs HB.out _ (by omega) _ rfl (M.out.sl HS.out) F.high (by first | decide | omega))) ?_; rintro e w_ ⟨y, rfl, y0, y1, k_y, sd_y, hk_y, m⟩; simp only [List.set_cons_succ, List.set_cons_zero, List.set_set] at m; have M := Lib.hid m; clear m; obtain ⟨q, hq, hq1, hq2⟩ := cell_of (F := F) ⟨x0, by omega⟩ ⟨y0, by omega⟩ (by omega) (by omega); have e1 : IntKind.i64.wrap (10 * y) = 10 * y := IntWalk.i64_in _ (by omega); have e2 : IntKind.i64.wrap (x + 10 * y) = (q : Int) := (by rw [hq]; exact IntWalk.i64_in _ (by omega)); have e3 : IntKind.i16.wrap (q : Int) = (q : Int) := IntWalk.i16_in _ (by omega); have HH := Lib.hid hq2; clear hq hq2 y0 y1))))
        refine onward_normal (hK _ _ ⟨(by first | exact M.out | exact M.out.take 1), ?_⟩)
        clear hK K
        try simp only [Act.put, List.getElem_toArray, List.getElem_cons_succ, List.getElem_cons_zero, List.setIfInBounds_toArray, List.set_cons_succ, List.set_cons_zero]
        apply takeH (i := 9) 33 rfl (by kernel_rfl) (by kernel_rfl) (by kernel_rfl) (fun _ _ _ h => h) rfl (by first | exact M.out | exact M.out.take 1)
        case' hy =>
          refine Or.inl ⟨by first | rfl | (go_simp; done), ?_⟩
          intro w hS
          clear hS
          go_simp
          try with_reducible rfl
        try simp only [Act.put, List.getElem_toArray, List.getElem_cons_succ, List.getElem_cons_zero, List.setIfInBounds_toArray, List.set_cons_succ, List.set_cons_zero]
        apply takeH (i := 10) 34 rfl (by kernel_rfl) (by kernel_rfl) (by kernel_rfl) (fun _ _ _ h => h) rfl (by first | exact M.out | exact M.out.take 1)
        case' hy =>
          refine Or.inl ⟨by first | rfl | (go_simp; done), ?_⟩
          intro w hS
          clear hS
          go_simp
          try with_reducible rfl
        try simp only [Act.put, List.getElem_toArray, List.getElem_cons_succ, List.getElem_cons_zero, List.setIfInBounds_toArray, List.set_cons_succ, List.set_cons_zero]
        apply takeH (i := 11) 35 rfl (by kernel_rfl) (by kernel_rfl) (by kernel_rfl) (fun _ _ _ h => h) rfl (by first | exact M.out | exact M.out.take 1)
        case' hy =>
          refine Or.inl ⟨by first | rfl | (go_simp; done), ?_⟩
          intro w hS
          clear hS
          go_simp
          try with_reducible rfl
        try simp only [Act.put, List.getElem_toArray, List.getElem_cons_succ, List.getElem_cons_zero, List.setIfInBounds_toArray, List.set_cons_succ, List.set_cons_zero]
        apply takeH (i := 12) 36 rfl (by kernel_rfl) (by kernel_rfl) (by kernel_rfl) (fun _ _ _ h => h) rfl (by first | exact M.out | exact M.out.take 1)
        case' hy =>
          refine Or.inl ⟨by first | rfl | (go_simp; done), ?_⟩
          intro w hS
          clear hS
          go_simp
          try with_reducible rfl
        try simp only [Act.put, List.getElem_toArray, List.getElem_cons_succ, List.getElem_cons_zero, List.setIfInBounds_toArray, List.set_cons_succ, List.set_cons_zero]
        refine any1H 14 (by kernel_rfl) rfl (fun K hK => ?_)
        go_wp2_with (first | ((with_reducible refine gate_dst (N := 9) rfl ?_); go_must (refine M.out.ev_new rfl (by first | (go_simp; done) | (go_simp; rfl)) ?_); intro g9 w9 m; simp only [List.cons_append, List.nil_append] at m; have M := Lib.hid m; clear m) | ((with_reducible refine gate_store (x := .tmp 9) rfl ?_); go_must (refine M.out.ev_stw 3 _ _ _ rfl rfl rfl rfl _ rfl rfl sz45 (by simp [Value.oneCell']) rfl ?_); intro wn m; simp only [List.set_cons_zero, List.set_cons_succ] at m; have M := Lib.hid m; clear m) | ((with_reducible refine gate_dst (N := 30) rfl ?_); go_must (refine M.out.ev_ld 0 _ _ rfl rfl rfl Tryz.underlying24 rfl rfl (by first | assumption | rfl) ?_)) | ((with_reducible refine gate_dst (N := 9) rfl ?_); go_must (refine M.out.ev_new rfl (by first | (go_simp; done) | (go_simp; rfl)) ?_); intro g9 w9 m; simp only [List.cons_append, List.nil_append] at m; have M := Lib.hid m; clear m; try have q0_1 := M.out.cell (j := 1) 0 rfl (by first | assumption | rfl)) | ((with_reducible refine gate_store (x := .tmp 9) rfl ?_); go_must (refine M.out.ev_stw 3 _ _ _ rfl rfl rfl rfl _ rfl (by first | rfl | (simp only [S1.out]; rfl) | (simp only [S1.out, S2.out]; rfl) | (simp only [S3.out]; rfl) | (simp only [S1.out, S2.out, S3.out]; rfl)) (by first | exact sz45 | (rw [S1.out]; exact sz45) | (rw [S2.out]; exact sz45) | (rw [S3.out]; exact sz45)) (by first | exact ints_one _ _ | exact Fld.one _ | exact O1.out | exact Entry.one _ | exact Fld.one _ | rfl | (simp [Value.oneCell']; done)) rfl ?_); intro wn m; simp only [List.set_cons_succ, List.set_cons_zero, List.setIfInBounds_toArray] at m; have M := Lib.hid m; clear m; try have q0_1 := M.out.cell (j := 1) 0 rfl (by first | assumption | rfl)) | (go_at_call 26; go_must (first | (refine Calls.mono (calls_args (by with_reducible rfl) (pick_any 1 M.out g A c bs HB.out _ (by omega) _ rfl (M.out.sl HS.out) 4 (by first | decide | omega))) ?_; rintro e w_ ⟨a, rfl, a0, a1, k_a, sd_a, hk_a, m⟩; simp only [List.set_cons_succ, List.set_cons_zero, List.set_set] at m; have M := Lib.hid m; clear m; have ea : IntKind.i8.wrap a = a := IntWalk.i8_in _ (by omega)) | (refine Calls.mono (calls_args (by with_reducible rfl) (pick_any 1 M.out g A c bs HB.out _ (by omega) _ rfl (M.out.sl HS.out) F.high (by first | decide | omega))) ?_; rintro e w_ ⟨y, rfl, y0, y1, k_y, sd_y, hk_y, m⟩; simp only [List.set_cons_succ, List.set_cons_zero, List.set_set] at m; have M := Lib.hid m; clear m; obtain ⟨q, hq, hq1, hq2⟩ := cell_of (F := F) ⟨x0, by omega⟩ ⟨y0, by omega⟩ (by omega) (by omega); have e1 : IntKind.i64.wrap (10 * y) = 10 * y := IntWalk.i64_in _ (by omega); have e2 : IntKind.i64.wrap (x + 10 * y) = (q : Int) := (by rw [hq]; exact IntWalk.i64_in _ (by omega)); have e3 : IntKind.i16.wrap (q : Int) = (q : Int) := IntWalk.i16_in _ (by omega); have HH := Lib.hid hq2; clear hq hq2 y0 y1))))
        refine onward_normal (hK _ _ ⟨(by first | exact M.out | exact M.out.take 1), ?_⟩)
        clear hK K
        try simp only [Act.put, List.getElem_toArray, List.getElem_cons_succ, List.getElem_cons_zero, List.setIfInBounds_toArray, List.set_cons_succ, List.set_cons_zero]
        refine wpAnyH_done (by kernel_rfl) ?_ _
      rotate_right 1
      case' _ =>
        go_wp2_with (first | ((with_reducible refine gate_dst (N := 9) rfl ?_); go_must (refine M.out.ev_new rfl (by first | (go_simp; done) | (go_simp; rfl)) ?_); intro g9 w9 m; simp only [List.cons_append, List.nil_append] at m; have M := Lib.hid m; clear m) | ((with_reducible refine gate_store (x := .tmp 9) rfl ?_); go_must (refine M.out.ev_stw 3 _ _ _ rfl rfl rfl rfl _ rfl rfl sz45 (by simp [Value.oneCell']) rfl ?_); intro wn m; simp only [List.set_cons_zero, List.set_cons_succ] at m; have M := Lib.hid m; clear m) | ((with_reducible refine gate_dst (N := 30) rfl ?_); go_must (refine M.out.ev_ld 0 _ _ rfl rfl rfl Tryz.underlying24 rfl rfl (by first | assumption | rfl) ?_)) | ((with_reducible refine gate_dst (N := 9) rfl ?_); go_must (refine M.out.ev_new rfl (by first | (go_simp; done) | (go_simp; rfl)) ?_); intro g9 w9 m; simp only [List.cons_append, List.nil_append] at m; have M := Lib.hid m; clear m; try have q0_1 := M.out.cell (j := 1) 0 rfl (by first | assumption | rfl)) | ((with_reducible refine gate_store (x := .tmp 9) rfl ?_); go_must (refine M.out.ev_stw 3 _ _ _ rfl rfl rfl rfl _ rfl (by first | rfl | (simp only [S1.out]; rfl) | (simp only [S1.out, S2.out]; rfl) | (simp only [S3.out]; rfl) | (simp only [S1.out, S2.out, S3.out]; rfl)) (by first | exact sz45 | (rw [S1.out]; exact sz45) | (rw [S2.out]; exact sz45) | (rw [S3.out]; exact sz45)) (by first | exact ints_one _ _ | exact Fld.one _ | exact O1.out | exact Entry.one _ | exact Fld.one _ | rfl | (simp [Value.oneCell']; done)) rfl ?_); intro wn m; simp only [List.set_cons_succ, List.set_cons_zero, List.setIfInBounds_toArray] at m; have M := Lib.hid m; clear m; try have q0_1 := M.out.cell (j := 1) 0 rfl (by first | assumption | rfl)) | (go_at_call 26; go_must (first | (refine Calls.mono (calls_args (by with_reducible rfl) (pick_any 1 M.out g A c bs HB.out _ (by omega) _ rfl (M.out.sl HS.out) 4 (by first | decide | omega))) ?_; rintro e w_ ⟨a, rfl, a0, a1, k_a, sd_a, hk_a, m⟩; simp only [List.set_cons_succ, List.set_cons_zero, List.set_set] at m; have M := Lib.hid m; clear m; have ea : IntKind.i8.wrap a = a := IntWalk.i8_in _ (by omega)) | (refine Calls.mono (calls_args (by with_reducible rfl) (pick_any 1 M.out g A c bs HB.out _ (by omega) _ rfl (M.out.sl HS.out) F.high (by first | decide | omega))) ?_; rintro e w_ ⟨y, rfl, y0, y1, k_y, sd_y, hk_y, m⟩; simp only [List.set_cons_succ, List.set_cons_zero, List.set_set] at m; have M := Lib.hid m; clear m; obtain ⟨q, hq, hq1, hq2⟩ := cell_of (F := F) ⟨x0, by omega⟩ ⟨y0, by omega⟩ (by omega) (by omega); have e1 : IntKind.i64.wrap (10 * y) = 10 * y := IntWalk.i64_in _ (by omega); have e2 : IntKind.i64.wrap (x + 10 * y) = (q : Int) := (by rw [hq]; exact IntWalk.i64_in _ (by omega)); have e3 : IntKind.i16.wrap (q : Int) = (q : Int) := IntWalk.i16_in _ (by omega); have HH := Lib.hid hq2; clear hq hq2 y0 y1))))
        refine onward_normal (hK _ _ ⟨(by first | exact M.out | exact M.out.take 1), ?_⟩)
        clear hK K
        try simp only [Act.put, List.getElem_toArray, List.getElem_cons_succ, List.getElem_cons_zero, List.setIfInBounds_toArray, List.set_cons_succ, List.set_cons_zero]
        apply takeH (i := 2) 26 rfl (by kernel_rfl) (by kernel_rfl) (by kernel_rfl) (fun _ _ _ h => h) rfl (by first | exact M.out | exact M.out.take 1)
        case' hy =>
          refine Or.inl ⟨by first | rfl | (go_simp; done), ?_⟩
          intro w hS
          clear hS
          go_simp
          try with_reducible rfl
        try simp only [Act.put, List.getElem_toArray, List.getElem_cons_succ, List.getElem_cons_zero, List.setIfInBounds_toArray, List.set_cons_succ, List.set_cons_zero]
        refine any2H 8 13 (by kernel_rfl) rfl rfl (fun K hK => ?_) (fun K hK => ?_)
        rotate_right 1
        case' _ =>
          go_wp2_with (first | ((with_reducible refine gate_dst (N := 9) rfl ?_); go_must (refine M.out.ev_new rfl (by first | (go_simp; done) | (go_simp; rfl)) ?_); intro g9 w9 m; simp only [List.cons_append, List.nil_append] at m; have M := Lib.hid m; clear m) | ((with_reducible refine gate_store (x := .tmp 9) rfl ?_); go_must (refine M.out.ev_stw 3 _ _ _ rfl rfl rfl rfl _ rfl rfl sz45 (by simp [Value.oneCell']) rfl ?_); intro wn m; simp only [List.set_cons_zero, List.set_cons_succ] at m; have M := Lib.hid m; clear m) | ((with_reducible refine gate_dst (N := 30) rfl ?_); go_must (refine M.out.ev_ld 0 _ _ rfl rfl rfl Tryz.underlying24 rfl rfl (by first | assumption | rfl) ?_)) | ((with_reducible refine gate_dst (N := 9) rfl ?_); go_must (refine M.out.ev_new rfl (by first | (go_simp; done) | (go_simp; rfl)) ?_); intro g9 w9 m; simp only [List.cons_append, List.nil_append] at m; have M := Lib.hid m; clear m; try have q0_1 := M.out.cell (j := 1) 0 rfl (by first | assumption | rfl)) | ((with_reducible refine gate_store (x := .tmp 9) rfl ?_); go_must (refine M.out.ev_stw 3 _ _ _ rfl rfl rfl rfl _ rfl (by first | rfl | (simp only [S1.out]; rfl) | (simp only [S1.out, S2.out]; rfl) | (simp only [S3.out]; rfl) | (simp only [S1.out, S2.out, S3.out]; rfl)) (by first | exact sz45 | (rw [S1.out]; exact sz45) | (rw [S2.out]; exact sz45) | (rw [S3.out]; exact sz45)) (by first | exact ints_one _ _ | exact Fld.one _ | exact O1.out | exact Entry.one _ | exact Fld.one _ | rfl | (simp [Value.oneCell']; done)) rfl ?_); intro wn m; simp only [List.set_cons_succ, List.set_cons_zero, List.setIfInBounds_toArray] at m; have M := Lib.hid m; clear m; try have q0_1 := M.out.cell (j := 1) 0 rfl (by first | assumption | rfl)) | (go_at_call 26; go_must (first | (refine Calls.mono (calls_args (by with_reducible rfl) (pick_any 1 M.out g A c bs HB.out _ (by omega) _ rfl (M.out.sl HS.out) 4 (by first | decide | omega))) ?_; rintro e w_ ⟨a, rfl, a0, a1, k_a, sd_a, hk_a, m⟩; simp only [List.set_cons_succ, List.set_cons_zero, List.set_set] at m; have M := Lib.hid m; clear m; have ea : IntKind.i8.wrap a = a := IntWalk.i8_in _ (by omega)) | (refine Calls.mono (calls_args (by with_reducible rfl) (pick_any 1 M.out g A c bs HB.out _ (by omega) _ rfl (M.out.sl HS.out) F.high (by first | decide | omega))) ?_; rintro e w_ ⟨y, rfl, y0, y1, k_y, sd_y, hk_y, m⟩; simp only [List.set_cons_succ, List.set_cons_zero, List.set_set] at m; have M := Lib.hid m; clear m; obtain ⟨q, hq, hq1, hq2⟩ := cell_of (F := F) ⟨x0, by omega⟩ ⟨y0, by omega⟩ (by omega) (by omega); have e1 : IntKind.i64.wrap (10 * y) = 10 * y := IntWalk.i64_in _ (by omega); have e2 : IntKind.i64.wrap (x + 10 * y) = (q : Int) := (by rw [hq]; exact IntWalk.i64_in _ (by omega)); have e3 : IntKind.i16.wrap (q : Int) = (q : Int) := IntWalk.i16_in _ (by omega); have HH := Lib.hid hq2; clear hq hq2 y0 y1))))
          refine onward_normal (hK _ _ ⟨(by first | exact M.out | exact M.out.take 1), ?_⟩)
          clear hK K
          try simp only [Act.put, List.getElem_toArray, List.getElem_cons_succ, List.getElem_cons_zero, List.setIfInBounds_toArray, List.set_cons_succ, List.set_cons_zero]
          refine any1H 8 (by kernel_rfl) rfl (fun K hK => ?_)
          go_wp2_with (first | ((with_reducible refine gate_dst (N := 9) rfl ?_); go_must (refine M.out.ev_new rfl (by first | (go_simp; done) | (go_simp; rfl)) ?_); intro g9 w9 m; simp only [List.cons_append, List.nil_append] at m; have M := Lib.hid m; clear m) | ((with_reducible refine gate_store (x := .tmp 9) rfl ?_); go_must (refine M.out.ev_stw 3 _ _ _ rfl rfl rfl rfl _ rfl rfl sz45 (by simp [Value.oneCell']) rfl ?_); intro wn m; simp only [List.set_cons_zero, List.set_cons_succ] at m; have M := Lib.hid m; clear m) | ((with_reducible refine gate_dst (N := 30) rfl ?_); go_must (refine M.out.ev_ld 0 _ _ rfl rfl rfl Tryz.underlying24 rfl rfl (by first | assumption | rfl) ?_)) | ((with_reducible refine gate_dst (N := 9) rfl ?_); go_must (refine M.out.ev_new rfl (by first | (go_simp; done) | (go_simp; rfl)) ?_); intro g9 w9 m; simp only [List.cons_append, List.nil_append] at m; have M := Lib.hid m; clear m; try have q0_1 := M.out.cell (j := 1) 0 rfl (by first | assumption | rfl)) | ((with_reducible refine gate_store (x := .tmp 9) rfl ?_); go_must (refine M.out.ev_stw 3 _ _ _ rfl rfl rfl rfl _ rfl (by first | rfl | (simp only [S1.out]; rfl) | (simp only [S1.out, S2.out]; rfl) | (simp only [S3.out]; rfl) | (simp only [S1.out, S2.out, S3.out]; rfl)) (by first | exact sz45 | (rw [S1.out]; exact sz45) | (rw [S2.out]; exact sz45) | (rw [S3.out]; exact sz45)) (by first | exact ints_one _ _ | exact Fld.one _ | exact O1.out | exact Entry.one _ | exact Fld.one _ | rfl | (simp [Value.oneCell']; done)) rfl ?_); intro wn m; simp only [List.set_cons_succ, List.set_cons_zero, List.setIfInBounds_toArray] at m; have M := Lib.hid m; clear m; try have q0_1 := M.out.cell (j := 1) 0 rfl (by first | assumption | rfl)) | (go_at_call 26; go_must (first | (refine Calls.mono (calls_args (by with_reducible rfl) (pick_any 1 M.out g A c bs HB.out _ (by omega) _ rfl (M.out.sl HS.out) 4 (by first | decide | omega))) ?_; rintro e w_ ⟨a, rfl, a0, a1, k_a, sd_a, hk_a, m⟩; simp only [List.set_cons_succ, List.set_cons_zero, List.set_set] at m; have M := Lib.hid m; clear m; have ea : IntKind.i8.wrap a = a := IntWalk.i8_in _ (by omega)) | (refine Calls.mono (calls_args (by with_reducible rfl) (pick_any 1 M.out g A c bs HB.out _ (by omega) _ rfl (M.out.sl HS.out) F.high (by first | decide | omega))) ?_; rintro e w_ ⟨y, rfl, y0, y1, k_y, sd_y, hk_y, m⟩; simp only [List.set_cons_succ, List.set_cons_zero, List.set_set] at m; have M := Lib.hid m; clear m; obtain ⟨q, hq, hq1, hq2⟩ := cell_of (F := F) ⟨x0, by omega⟩ ⟨y0, by omega⟩ (by omega) (by omega); have e1 : IntKind.i64.wrap (10 * y) = 10 * y := IntWalk.i64_in _ (by omega); have e2 : IntKind.i64.wrap (x + 10 * y) = (q : Int) := (by rw [hq]; exact IntWalk.i64_in _ (by omega)); have e3 : IntKind.i16.wrap (q : Int) = (q : Int) := IntWalk.i16_in _ (by omega); have HH := Lib.hid hq2; clear hq hq2 y0 y1))))
          refine onward_normal (hK _ _ ⟨(by first | exact M.out | exact M.out.take 1), ?_⟩)
          clear hK K
          try simp only [Act.put, List.getElem_toArray, List.getElem_cons_succ, List.getElem_cons_zero, List.setIfInBounds_toArray, List.set_cons_succ, List.set_cons_zero]
          apply takeH (i := 9) 33 rfl (by kernel_rfl) (by kernel_rfl) (by kernel_rfl) (fun _ _ _ h => h) rfl (by first | exact M.out | exact M.out.take 1)
          case' hy =>
            refine Or.inl ⟨by first | rfl | (go_simp; done), ?_⟩
            intro w hS
            clear hS
            go_simp
            try with_reducible rfl
          try simp only [Act.put, List.getElem_toArray, List.getElem_cons_succ, List.getElem_cons_zero, List.setIfInBounds_toArray, List.set_cons_succ, List.set_cons_zero]
          apply takeH (i := 10) 34 rfl (by kernel_rfl) (by kernel_rfl) (by kernel_rfl) (fun _ _ _ h => h) rfl (by first | exact M.out | exact M.out.take 1)
          case' hy =>
            refine Or.inl ⟨by first | rfl | (go_simp; done), ?_⟩
            intro w hS
            clear hS
            go_simp
            try with_reducible rfl
          try simp only [Act.put, List.getElem_toArray, List.getElem_cons_succ, List.getElem_cons_zero, List.setIfInBounds_toArray, List.set_cons_succ, List.set_cons_zero]
          apply takeH (i := 11) 35 rfl (by kernel_rfl) (by kernel_rfl) (by kernel_rfl) (fun _ _ _ h => h) rfl (by first | exact M.out | exact M.out.take 1)
          case' hy =>
            refine Or.inl ⟨by first | rfl | (go_simp; done), ?_⟩
            intro w hS
            clear hS
            go_simp
            try with_reducible rfl
          try simp only [Act.put, List.getElem_toArray, List.getElem_cons_succ, List.getElem_cons_zero, List.setIfInBounds_toArray, List.set_cons_succ, List.set_cons_zero]
          apply takeH (i := 12) 36 rfl (by kernel_rfl) (by kernel_rfl) (by kernel_rfl) (fun _ _ _ h => h) rfl (by first | exact M.out | exact M.out.take 1)
          case' hy =>
            refine Or.inl ⟨by first | rfl | (go_simp; done), ?_⟩
            intro w hS
            clear hS
            go_simp
            try with_reducible rfl
          try simp only [Act.put, List.getElem_toArray, List.getElem_cons_succ, List.getElem_cons_zero, List.setIfInBounds_toArray, List.set_cons_succ, List.set_cons_zero]
          refine any1H 14 (by kernel_rfl) rfl (fun K hK => ?_)
          go_wp2_with (first | ((with_reducible refine gate_dst (N := 9) rfl ?_); go_must (refine M.out.ev_new rfl (by first | (go_simp; done) | (go_simp; rfl)) ?_); intro g9 w9 m; simp only [List.cons_append, List.nil_append] at m; have M := Lib.hid m; clear m) | ((with_reducible refine gate_store (x := .tmp 9) rfl ?_); go_must (refine M.out.ev_stw 3 _ _ _ rfl rfl rfl rfl _ rfl rfl sz45 (by simp [Value.oneCell']) rfl ?_); intro wn m; simp only [List.set_cons_zero, List.set_cons_succ] at m; have M := Lib.hid m; clear m) | ((with_reducible refine gate_dst (N := 30) rfl ?_); go_must (refine M.out.ev_ld 0 _ _ rfl rfl rfl Tryz.underlying24 rfl rfl (by first | assumption | rfl) ?_)) | ((with_reducible refine gate_dst (N := 9) rfl ?_); go_must (refine M.out.ev_new rfl (by first | (go_simp; done) | (go_simp; rfl)) ?_); intro g9 w9 m; simp only [List.cons_append, List.nil_append] at m; have M := Lib.hid m; clear m; try have q0_1 := M.out.cell (j := 1) 0 rfl (by first | assumption | rfl)) | ((with_reducible refine gate_store (x := .tmp 9) rfl ?_); go_must (refine M.out.ev_stw 3 _ _ _ rfl rfl rfl rfl _ rfl (by first | rfl | (simp only [S1.out]; rfl) | (simp only [S1.out, S2.out]; rfl) | (simp only [S3.out]; rfl) | (simp only [S1.out, S2.out, S3.out]; rfl)) (by first | exact sz45 | (rw [S1.out]; exact sz45) | (rw [S2.out]; exact sz45) | (rw [S3.out]; exact sz45)) (by first | exact ints_one _ _ | exact Fld.one _ | exact O1.out | exact Entry.one _ | exact Fld.one _ | rfl | (simp [Value.oneCell']; done)) rfl ?_); intro wn m; simp only [List.set_cons_succ, List.set_cons_zero, List.setIfInBounds_toArray] at m; have M := Lib.hid m; clear m; try have q0_1 := M.out.cell (j := 1) 0 rfl (by first | assumption | rfl)) | (go_at_call 26; go_must (first | (refine Calls.mono (calls_args (by with_reducible rfl) (pick_any 1 M.out g A c bs HB.out _ (by omega) _ rfl (M.out.sl HS.out) 4 (by first | decide | omega))) ?_; rintro e w_ ⟨a, rfl, a0, a1, k_a, sd_a, hk_a, m⟩; simp only [List.set_cons_succ, List.set_cons_zero, List.set_set] at m; have M := Lib.hid m; clear m; have ea : IntKind.i8.wrap a = a := IntWalk.i8_in _ (by omega)) | (refine Calls.mono (calls_args (by with_reducible rfl) (pick_any 1 M.out g A c bs HB.out _ (by omega) _ rfl (M.out.sl HS.out) F.high (by first | decide | omega))) ?_; rintro e w_ ⟨y, rfl, y0, y1, k_y, sd_y, hk_y, m⟩; simp only [List.set_cons_succ, List.set_cons_zero, List.set_set] at m; have M := Lib.hid m; clear m; obtain ⟨q, hq, hq1, hq2⟩ := cell_of (F := F) ⟨x0, by omega⟩ ⟨y0, by omega⟩ (by omega) (by omega); have e1 : IntKind.i64.wrap (10 * y) = 10 * y := IntWalk.i64_in _ (by omega); have e2 : IntKind.i64.wrap (x + 10 * y) = (q : Int) := (by rw [hq]; exact IntWalk.i64_in _ (by omega)); have e3 : IntKind.i16.wrap (q : Int) = (q : Int) := IntWalk.i16_in _ (by omega); have HH := Lib.hid hq2; clear hq hq2 y0 y1))))
          refine onward_normal (hK _ _ ⟨(by first | exact M.out | exact M.out.take 1), ?_⟩)
          clear hK K
          try simp only [Act.put, List.getElem_toArray, List.getElem_cons_succ, List.getElem_cons_zero, List.setIfInBounds_toArray, List.set_cons_succ, List.set_cons_zero]
          refine wpAnyH_done (by kernel_rfl) ?_ _
        rotate_right 1
        case' _ =>
          go_wp2_with (first | ((with_reducible refine gate_dst (N := 9) rfl ?_); go_must (refine M.out.ev_new rfl (by first | (go_simp; done) | (go_simp; rfl)) ?_); intro g9 w9 m; simp only [List.cons_append, List.nil_append] at m; have M := Lib.hid m; clear m) | ((with_reducible refine gate_store (x := .tmp 9) rfl ?_); go_must (refine M.out.ev_stw 3 _ _ _ rfl rfl rfl rfl _ rfl rfl sz45 (by simp [Value.oneCell']) rfl ?_); intro wn m; simp only [List.set_cons_zero, List.set_cons_succ] at m; have M := Lib.hid m; clear m) | ((with_reducible refine gate_dst (N := 30) rfl ?_); go_must (refine M.out.ev_ld 0 _ _ rfl rfl rfl Tryz.underlying24 rfl rfl (by first | assumption | rfl) ?_)) | ((with_reducible refine gate_dst (N := 9) rfl ?_); go_must (refine M.out.ev_new rfl (by first | (go_simp; done) | (go_simp; rfl)) ?_); intro g9 w9 m; simp only [List.cons_append, List.nil_append] at m; have M := Lib.hid m; clear m; try have q0_1 := M.out.cell (j := 1) 0 rfl (by first | assumption | rfl)) | ((with_reducible refine gate_store (x := .tmp 9) rfl ?_); go_must (refine M.out.ev_stw 3 _ _ _ rfl rfl rfl rfl _ rfl (by first | rfl | (simp only [S1.out]; rfl) | (simp only [S1.out, S2.out]; rfl) | (simp only [S3.out]; rfl) | (simp only [S1.out, S2.out, S3.out]; rfl)) (by first | exact sz45 | (rw [S1.out]; exact sz45) | (rw [S2.out]; exact sz45) | (rw [S3.out]; exact sz45)) (by first | exact ints_one _ _ | exact Fld.one _ | exact O1.out | exact Entry.one _ | exact Fld.one _ | rfl | (simp [Value.oneCell']; done)) rfl ?_); intro wn m; simp only [List.set_cons_succ, List.set_cons_zero, List.setIfInBounds_toArray] at m; have M := Lib.hid m; clear m; try have q0_1 := M.out.cell (j := 1) 0 rfl (by first | assumption | rfl)) | (go_at_call 26; go_must (first | (refine Calls.mono (calls_args (by with_reducible rfl) (pick_any 1 M.out g A c bs HB.out _ (by omega) _ rfl (M.out.sl HS.out) 4 (by first | decide | omega))) ?_; rintro e w_ ⟨a, rfl, a0, a1, k_a, sd_a, hk_a, m⟩; simp only [List.set_cons_succ, List.set_cons_zero, List.set_set] at m; have M := Lib.hid m; clear m; have ea : IntKind.i8.wrap a = a := IntWalk.i8_in _ (by omega)) | (refine Calls.mono (calls_args (by with_reducible rfl) (pick_any 1 M.out g A c bs HB.out _ (by omega) _ rfl (M.out.sl HS.out) F.high (by first | decide | omega))) ?_; rintro e w_ ⟨y, rfl, y0, y1, k_y, sd_y, hk_y, m⟩; simp only [List.set_cons_succ, List.set_cons_zero, List.set_set] at m; have M := Lib.hid m; clear m; obtain ⟨q, hq, hq1, hq2⟩ := cell_of (F := F) ⟨x0, by omega⟩ ⟨y0, by omega⟩ (by omega) (by omega); have e1 : IntKind.i64.wrap (10 * y) = 10 * y := IntWalk.i64_in _ (by omega); have e2 : IntKind.i64.wrap (x + 10 * y) = (q : Int) := (by rw [hq]; exact IntWalk.i64_in _ (by omega)); have e3 : IntKind.i16.wrap (q : Int) = (q : Int) := IntWalk.i16_in _ (by omega); have HH := Lib.hid hq2; clear hq hq2 y0 y1))))
          refine onward_normal (hK _ _ ⟨(by first | exact M.out | exact M.out.take 1), ?_⟩)
          clear hK K
          try simp only [Act.put, List.getElem_toArray, List.getElem_cons_succ, List.getElem_cons_zero, List.setIfInBounds_toArray, List.set_cons_succ, List.set_cons_zero]
          apply takeH (i := 9) 33 rfl (by kernel_rfl) (by kernel_rfl) (by kernel_rfl) (fun _ _ _ h => h) rfl (by first | exact M.out | exact M.out.take 1)
          case' hy =>
            refine Or.inl ⟨by first | rfl | (go_simp; done), ?_⟩
            intro w hS
            clear hS
            go_simp
            try with_reducible rfl
          try simp only [Act.put, List.getElem_toArray, List.getElem_cons_succ, List.getElem_cons_zero, List.setIfInBounds_toArray, List.set_cons_succ, List.set_cons_zero]
          apply takeH (i := 10) 34 rfl (by kernel_rfl) (by kernel_rfl) (by kernel_rfl) (fun _ _ _ h => h) rfl (by first | exact M.out | exact M.out.take 1)
          case' hy =>
            refine Or.inl ⟨by first | rfl | (go_simp; done), ?_⟩
            intro w hS
            clear hS
            go_simp
            try with_reducible rfl
          try simp only [Act.put, List.getElem_toArray, List.getElem_cons_succ, List.getElem_cons_zero, List.setIfInBounds_toArray, List.set_cons_succ, List.set_cons_zero]
          apply takeH (i := 11) 35 rfl (by kernel_rfl) (by kernel_rfl) (by kernel_rfl) (fun _ _ _ h => h) rfl (by first | exact M.out | exact M.out.take 1)
          case' hy =>
            refine Or.inl ⟨by first | rfl | (go_simp; done), ?_⟩
            intro w hS
            clear hS
            go_simp
            try with_reducible rfl
          try simp only [Act.put, List.getElem_toArray, List.getElem_cons_succ, List.getElem_cons_zero, List.setIfInBounds_toArray, List.set_cons_succ, List.set_cons_zero]
          apply takeH (i := 12) 36 rfl (by kernel_rfl) (by kernel_rfl) (by kernel_rfl) (fun _ _ _ h => h) rfl (by first | exact M.out | exact M.out.take 1)
          case' hy =>
            refine Or.inl ⟨by first | rfl | (go_simp; done), ?_⟩
            intro w hS
            clear hS
            go_simp
            try with_reducible rfl
          try simp only [Act.put, List.getElem_toArray, List.getElem_cons_succ, List.getElem_cons_zero, List.setIfInBounds_toArray, List.set_cons_succ, List.set_cons_zero]
          refine any1H 13 (by kernel_rfl) rfl (fun K hK => ?_)
          go_wp2_with (first | ((with_reducible refine gate_dst (N := 9) rfl ?_); go_must (refine M.out.ev_new rfl (by first | (go_simp; done) | (go_simp; rfl)) ?_); intro g9 w9 m; simp only [List.cons_append, List.nil_append] at m; have M := Lib.hid m; clear m) | ((with_reducible refine gate_store (x := .tmp 9) rfl ?_); go_must (refine M.out.ev_stw 3 _ _ _ rfl rfl rfl rfl _ rfl rfl sz45 (by simp [Value.oneCell']) rfl ?_); intro wn m; simp only [List.set_cons_zero, List.set_cons_succ] at m; have M := Lib.hid m; clear m) | ((with_reducible refine gate_dst (N := 30) rfl ?_); go_must (refine M.out.ev_ld 0 _ _ rfl rfl rfl Tryz.underlying24 rfl rfl (by first | assumption | rfl) ?_)) | ((with_reducible refine gate_dst (N := 9) rfl ?_); go_must (refine M.out.ev_new rfl (by first | (go_simp; done) | (go_simp; rfl)) ?_); intro g9 w9 m; simp only [List.cons_append, List.nil_append] at m; have M := Lib.hid m; clear m; try have q0_1 := M.out.cell (j := 1) 0 rfl (by first | assumption | rfl)) | ((with_reducible refine gate_store (x := .tmp 9) rfl ?_); go_must (refine M.out.ev_stw 3 _ _ _ rfl rfl rfl rfl _ rfl (by first | rfl | (simp only [S1.out]; rfl) | (simp only [S1.out, S2.out]; rfl) | (simp only [S3.out]; rfl) | (simp only [S1.out, S2.out, S3.out]; rfl)) (by first | exact sz45 | (rw [S1.out]; exact sz45) | (rw [S2.out]; exact sz45) | (rw [S3.out]; exact sz45)) (by first | exact ints_one _ _ | exact Fld.one _ | exact O1.out | exact Entry.one _ | exact Fld.one _ | rfl | (simp [Value.oneCell']; done)) rfl ?_); intro wn m; simp only [List.set_cons_succ, List.set_cons_zero, List.setIfInBounds_toArray] at m; have M := Lib.hid m; clear m; try have q0_1 := M.out.cell (j := 1) 0 rfl (by first | assumption | rfl)) | (go_at_call 26; go_must (first | (refine Calls.mono (calls_args (by with_reducible rfl) (pick_any 1 M.out g A c bs HB.out _ (by omega) _ rfl (M.out.sl HS.out) 4 (by first | decide | omega))) ?_; rintro e w_ ⟨a, rfl, a0, a1, k_a, sd_a, hk_a, m⟩; simp only [List.set_cons_succ, List.set_cons_zero, List.set_set] at m; have M := Lib.hid m; clear m; have ea : IntKind.i8.wrap a = a := IntWalk.i8_in _ (by omega)) | (refine Calls.mono (calls_args (by with_reducible rfl) (pick_any 1 M.out g A c bs HB.out _ (by omega) _ rfl (M.out.sl HS.out) F.high (by first | decide | omega))) ?_; rintro e w_ ⟨y, rfl, y0, y1, k_y, sd_y, hk_y, m⟩; simp only [List.set_cons_succ, List.set_cons_zero, List.set_set] at m; have M := Lib.hid m; clear m; obtain ⟨q, hq, hq1, hq2⟩ := cell_of (F := F) ⟨x0, by omega⟩ ⟨y0, by omega⟩ (by omega) (by omega); have e1 : IntKind.i64.wrap (10 * y) = 10 * y := IntWalk.i64_in _ (by omega); have e2 : IntKind.i64.wrap (x + 10 * y) = (q : Int) := (by rw [hq]; exact IntWalk.i64_in _ (by omega)); have e3 : IntKind.i16.wrap (q : Int) = (q : Int) := IntWalk.i16_in _ (by omega); have HH := Lib.hid hq2; clear hq hq2 y0 y1))))
          refine onward_normal (hK _ _ ⟨(by first | exact M.out | exact M.out.take 1), ?_⟩)
          clear hK K
          try simp only [Act.put, List.getElem_toArray, List.getElem_cons_succ, List.getElem_cons_zero, List.setIfInBounds_toArray, List.set_cons_succ, List.set_cons_zero]
          refine any1H 14 (by kernel_rfl) rfl (fun K hK => ?_)
          go_wp2_with (first | ((with_reducible refine gate_dst (N := 9) rfl ?_); go_must (refine M.out.ev_new rfl (by first | (go_simp; done) | (go_simp; rfl)) ?_); intro g9 w9 m; simp only [List.cons_append, List.nil_append] at m; have M := Lib.hid m; clear m) | ((with_reducible refine gate_store (x := .tmp 9) rfl ?_); go_must (refine M.out.ev_stw 3 _ _ _ rfl rfl rfl rfl _ rfl rfl sz45 (by simp [Value.oneCell']) rfl ?_); intro wn m; simp only [List.set_cons_zero, List.set_cons_succ] at m; have M := Lib.hid m; clear m) | ((with_reducible refine gate_dst (N := 30) rfl ?_); go_must (refine M.out.ev_ld 0 _ _ rfl rfl rfl Tryz.underlying24 rfl rfl (by first | assumption | rfl) ?_)) | ((with_reducible refine gate_dst (N := 9) rfl ?_); go_must (refine M.out.ev_new rfl (by first | (go_simp; done) | (go_simp; rfl)) ?_); intro g9 w9 m; simp only [List.cons_append, List.nil_append] at m; have M := Lib.hid m; clear m; try have q0_1 := M.out.cell (j := 1) 0 rfl (by first | assumption | rfl)) | ((with_reducible refine gate_store (x := .tmp 9) rfl ?_); go_must (refine M.out.ev_stw 3 _ _ _ rfl rfl rfl rfl _ rfl (by first | rfl | (simp only [S1.out]; rfl) | (simp only [S1.out, S2.out]; rfl) | (simp only [S3.out]; rfl) | (simp only [S1.out, S2.out, S3.out]; rfl)) (by first | exact sz45 | (rw [S1.out]; exact sz45) | (rw [S2.out]; exact sz45) | (rw [S3.out]; exact sz45)) (by first | exact ints_one _ _ | exact Fld.one _ | exact O1.out | exact Entry.one _ | exact Fld.one _ | rfl | (simp [Value.oneCell']; done)) rfl ?_); intro wn m; simp only [List.set_cons_succ, List.set_cons_zero, List.setIfInBounds_toArray] at m; have M := Lib.hid m; clear m; try have q0_1 := M.out.cell (j := 1) 0 rfl (by first | assumption | rfl)) | (go_at_call 26; go_must (first | (refine Calls.mono (calls_args (by with_reducible rfl) (pick_any 1 M.out g A c bs HB.out _ (by omega) _ rfl (M.out.sl HS.out) 4 (by first | decide | omega))) ?_; rintro e w_ ⟨a, rfl, a0, a1, k_a, sd_a, hk_a, m⟩; simp only [List.set_cons_succ, List.set_cons_zero, List.set_set] at m; have M := Lib.hid m; clear m; have ea : IntKind.i8.wrap a = a := IntWalk.i8_in _ (by omega)) | (refine Calls.mono (calls_args (by with_reducible rfl) (pick_any 1 M.out g A c bs HB.out _ (by omega) _ rfl (M.out.sl HS.out) F.high (by first | decide | omega))) ?_; rintro e w_ ⟨y, rfl, y0, y1, k_y, sd_y, hk_y, m⟩; simp only [List.set_cons_succ, List.set_cons_zero, List.set_set] at m; have M := Lib.hid m; clear m; obtain ⟨q, hq, hq1, hq2⟩ := cell_of (F := F) ⟨x0, by omega⟩ ⟨y0, by omega⟩ (by omega) (by omega); have e1 : IntKind.i64.wrap (10 * y) = 10 * y := IntWalk.i64_in _ (by omega); have e2 : IntKind.i64.wrap (x + 10 * y) = (q : Int) := (by rw [hq]; exact IntWalk.i64_in _ (by omega)); have e3 : IntKind.i16.wrap (q : Int) = (q : Int) := IntWalk.i16_in _ (by omega); have HH := Lib.hid hq2; clear hq hq2 y0 y1))))
          refine onward_normal (hK _ _ ⟨(by first | exact M.out | exact M.out.take 1), ?_⟩)
          clear hK K
          try simp only [Act.put, List.getElem_toArray, List.getElem_cons_succ, List.getElem_cons_zero, List.setIfInBounds_toArray, List.set_cons_succ, List.set_cons_zero]
          refine wpAnyH_done (by kernel_rfl) ?_ _
      all_goals
        go_wp2_with (first
          | (go_at_call 26; go_must (refine Calls.mono (calls_args (by with_reducible rfl) (pick_any 1 M.out g A c bs HB.out _ (by omega) _ rfl (M.out.sl HS.out) 6 (by first | decide | omega))) ?_; rintro e w_ ⟨z, rfl, z0, z1, k_z, sd_z, hk_z, m⟩; simp only [List.set_cons_succ, List.set_cons_zero, List.set_set] at m; have M := Lib.hid m; clear m; have ez : IntKind.i64.wrap (1 + z) = 1 + z := IntWalk.i64_in _ (by omega); have ey : IntKind.i16.wrap (1 + z) = 1 + z := IntWalk.i16_in _ (by omega)))
          | ((with_reducible refine gate_store (x := .tmp 41) rfl ?_); go_must (refine M.out.ev_put 3 _ _ _ rfl rfl rfl rfl (.int .i16 (1 + z)) rfl (by simp) sz26 rfl rfl ?_); intro wn m; simp only [List.set_cons_zero, List.set_cons_succ] at m; have M := Lib.hid m; clear m)
          | ((with_reducible refine gate_dst (N := 43) rfl ?_); go_must (refine M.out.ev_ldw 3 _ _ rfl rfl rfl Tryz.underlying45 rfl sz45 rfl ?_))
          | ((with_reducible refine gate_dst (N := 44) rfl ?_); go_must (refine M.out.ev_bs1 elem_Entry rfl _ rfl (Entry.vals ⟨a, q, 1 + z⟩).toArray rfl rfl (by decide) ?_); intro g44 w44 m; simp only [List.cons_append, List.nil_append] at m; have M := Lib.hid m; clear m)
          | ((with_reducible refine gate_dst (N := 45) rfl ?_); go_must (refine M.out.ev_append1 2 4 elem_Entry rfl _ _ rfl rfl rfl rfl rfl rfl (Entry.one _) (by omega) (by decide) ?_); intro v45 w45 m; simp only [List.set_cons_succ, List.set_cons_zero] at m; have M := Lib.hid m; clear m)
          )
        obtain ⟨A2, c2, rfl, hm2, _⟩ := M.out.row_slice 2 rfl
        have hdd := HD.out.add (a := a) (q := q) (d := z) ⟨a0, by omega⟩ ⟨by omega, by omega⟩ ⟨z0, by omega⟩
        have mm := M.out.take 3
        refine ⟨⟨n - 1, m' + 1, k_z, sd_z, xs ++ [⟨a, q, 1 + z⟩], A2, c2, by go_num, by simp, hdd, by omega, by omega, ?_⟩, by simp [intOf]; try omega⟩
        rw [show (xs ++ [(⟨a, q, 1 + z⟩ : Entry)]).length = xs.length + 1 by simp, flat_snoc]
        exact mm
    · obtain rfl : n = 0 := by omega
      go_wp2
      go_ret
      obtain ⟨_, _, he, h1, _⟩ := M.out.row_slice 2 rfl
      injection he with _ _ he
      exact ⟨xs, B, cp, rfl, ⟨by omega, HD.out.2⟩, by omega, M.out.only [2] (K := [_]) rfl (by decide)⟩
end Go.Proofs.YtaepgjjmfopiiaaGreatDoor
