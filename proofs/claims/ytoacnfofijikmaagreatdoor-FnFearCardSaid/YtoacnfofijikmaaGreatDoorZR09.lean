/- Texts of a proof, laid together: DrawS. -/
import Derived.Test.YtoacnfofijikmaaGreatDoorZR06
import Derived.Test.YtoacnfofijikmaaGreatDoorZR07
import Derived.Test.YtoacnfofijikmaaGreatDoorZR08
namespace Go.Proofs.YtoacnfofijikmaaGreatDoor
set_option linter.unusedSimpArgs false
set_option linter.unusedVariables false
open Go.RowKit
attribute [local go_sem] cell?_mk frozen?_mk
--ONES exact Scarecrow.one _ | exact Fld.one _

theorem scOk_snoc {F : Fld} {xs : List Scarecrow} {x : Scarecrow} (h : scOk F xs = true) (hl : xs.length < 20) (hp : x.plain = true) (hpl : F.place x.cell = true) (hs : standsAt xs x.cell = false) : scOk F (xs ++ [x]) = true := by
  refine scOk_of (by simp; omega) fun j hj => ?_
  have ha := (scOk_iff.1 h).2
  by_cases hjl : j < xs.length
  · have := ha j hjl
    unfold scAt at this ⊢
    rw [List.getElem?_append_left hjl, List.take_append_of_le_length (by omega)]
    exact this
  · obtain rfl : j = xs.length := by simp at hj; omega
    unfold scAt
    simp [hp, hpl, hs]
/-- Scarecrows that were drawn. -/
structure SDr (F : Fld) (xs : List Scarecrow) (n : Nat) : Prop where
  sc : scOk F xs = true
  len : xs.length ≤ n
  ok : ∀ x ∈ xs, x.ok
theorem SDr.nil (F : Fld) : SDr F [] 0 := ⟨scOk_of (by simp) (fun j hj => absurd hj (Nat.not_lt_zero j)), by simp, fun x hx => by cases hx⟩
theorem SDr.mono {F : Fld} {xs : List Scarecrow} {n m : Nat} (h : SDr F xs n) (hm : n ≤ m) : SDr F xs m := ⟨h.sc, Nat.le_trans h.len hm, h.ok⟩
theorem SDr.add {F : Fld} {xs : List Scarecrow} {n q : Nat} (h : SDr F xs n) (hn : n < 20) (hq : q < 100) (hh : F.has q = true) (ht : taken F xs q = false) {p a : Int} (hp : 0 ≤ p ∧ p < 60) (ha : 0 ≤ a ∧ a < 14) : SDr F (xs ++ [⟨q, 1 + p, a⟩]) (n + 1) := by
  unfold taken at ht
  rw [Bool.or_eq_false_iff] at ht
  have hl := h.len
  refine ⟨scOk_snoc h.sc (by omega) ?_ ?_ ht.1, by simp; omega, fun x hx => ?_⟩
  · refine Scarecrow.plain_iff.2 ⟨?_, ?_, ?_⟩
    · show 0 ≤ (q : Int) ∧ (q : Int) ≤ 99; omega
    · show 1 ≤ 1 + p ∧ 1 + p ≤ 1000; omega
    · show 0 ≤ a ∧ a ≤ 30; omega
  · show (F.has (q : Int) && (F.kind ((q : Int)).toNat != 3)) = true
    rw [hh, Int.toNat_natCast, Bool.true_and, bne, ht.2]
    rfl
  · rcases List.mem_append.1 hx with hx | hx
    · exact h.ok x hx
    · obtain rfl := List.mem_singleton.1 hx
      refine ⟨?_, ?_, ?_⟩
      · show -32768 ≤ (q : Int) ∧ (q : Int) ≤ 32767; omega
      · show -32768 ≤ 1 + p ∧ 1 + p ≤ 32767; omega
      · show -128 ≤ a ∧ a ≤ 127; omega
set_option maxRecDepth 100000 in
set_option maxHeartbeats 4000000 in
theorem l03Drawn_any (g g3 : Nat) (A : Option Addr) (c : Nat) (bs : List Int) (hb : Bytes bs) (F : Fld) (hF : FDr F 100) (w0 w : World) (M0 : Mem w0 w [.blk g3 29 F.cells, .blk g 100 (srcCells A bs.length c 0 0)]) (hs : Sl w0 1 A bs.length (flat oneB bs)) :
    Calls Tryz.prog 36 #[.pointer (some ⟨g, 0, none⟩), .pointer (some ⟨g3, 0, none⟩)] w fun e w' => ∃ (xs : List Scarecrow) (B : Option Addr) (d : Nat), e = .returned (.slice B xs.length d) ∧ SDr F xs 4 ∧ xs.length ≤ d ∧
      ∃ k' sd', Mem w0 w' [.blk g3 29 F.cells, .blk g 100 (srcCells A bs.length c k' sd'), .row (.slice B xs.length d) 60 3 xs.length (flat Scarecrow.vals xs)] := by
  have M := Lib.hid M0
  have HS := Lib.hid hs
  have HB := Lib.hid hb
  have FD := Lib.hid hF
  have hw := hF.w
  have hh := hF.h
  have ew : IntKind.i64.wrap F.wide = F.wide := IntWalk.i64_in _ (by omega)
  have eh : IntKind.i64.wrap F.high = F.high := IntWalk.i64_in _ (by omega)
  clear hs hF M0
  go_enter Tryz.func36, Tryz.ntmps36
  go_wp2_with (first
    | ((with_reducible refine gate_dst (N := 10) rfl ?_); go_must (refine M.out.ev_bs0 elem_Scarecrow rfl rfl ?_); intro g10 w10 m; simp only [List.cons_append, List.nil_append] at m; have M := Lib.hid m; clear m)
    | (go_at_call 37; go_must (refine Calls.mono (calls_args (by with_reducible rfl) (pick_any 1 M.out g A c bs HB.out _ (by omega) _ rfl (M.out.sl HS.out) 5 (by first | decide | omega))) ?_; rintro e w_ ⟨r, rfl, r0, r1, k_r, sd_r, hk_r, m⟩; simp only [List.set_cons_succ, List.set_cons_zero, List.set_set] at m; have M := Lib.hid m; clear m))
    )
  go_loopw [5, 6] (fun o v wr => ∃ (n m k' : Nat) (sd' : Int) (xs : List Scarecrow) (B : Option Addr) (cp : Nat), v = .int .i64 n ∧ o = .slice B xs.length cp ∧ SDr F xs m ∧ m + n ≤ 4 ∧ k' ≤ 200 - 20 * n ∧ Mem w0 wr [.blk g3 29 F.cells, .blk g 100 (srcCells A bs.length c k' sd'), .row (.slice B xs.length cp) 60 3 xs.length (flat Scarecrow.vals xs)])
    (fun _ v _ => (intOf v).toNat)
  case atStart => exact ⟨r.toNat, 0, k_r, sd_r, [], some ⟨g10, 0, none⟩, 0, by rw [Int.toNat_of_nonneg r0], rfl, SDr.nil F, by omega, by omega, M.out⟩
  case round =>
    clear M
    obtain ⟨n, m', k', sd', xs, B, cp, rfl, rfl, hd, hm, hk', m_⟩ := hrel
    have M := Lib.hid m_
    have HD := Lib.hid hd
    have hxl := hd.len
    clear m_ hd
    by_cases hn : 0 < n
    · have i0 : (0 : Int) < (n : Int) := by omega
      go_wp2_with (first
        | ((with_reducible refine gate_dst (N := 21) rfl ?_); go_must (refine M.out.ev_ld 0 _ _ rfl rfl rfl Tryz.underlying24 rfl rfl F.cell0 ?_))
        | ((with_reducible refine gate_dst (N := 29) rfl ?_); go_must (refine M.out.ev_ld 0 _ _ rfl rfl rfl Tryz.underlying24 rfl rfl F.cell1 ?_))
        | (go_at_call 37; go_must (first | (refine Calls.mono (calls_args (by with_reducible rfl) (pick_any 1 M.out g A c bs HB.out _ (by omega) _ rfl (M.out.sl HS.out) F.wide (by first | decide | omega))) ?_; rintro e w_ ⟨x, rfl, x0, x1, k_x, sd_x, hk_x, m⟩; simp only [List.set_cons_succ, List.set_cons_zero, List.set_set] at m; have M := Lib.hid m; clear m) | (refine Calls.mono (calls_args (by with_reducible rfl) (pick_any 1 M.out g A c bs HB.out _ (by omega) _ rfl (M.out.sl HS.out) F.high (by first | decide | omega))) ?_; rintro e w_ ⟨y, rfl, y0, y1, k_y, sd_y, hk_y, m⟩; simp only [List.set_cons_succ, List.set_cons_zero, List.set_set] at m; have M := Lib.hid m; clear m; obtain ⟨q, hq, hq1, hq2⟩ := cell_of (F := F) ⟨x0, by omega⟩ ⟨y0, by omega⟩ (by omega) (by omega); have e1 : IntKind.i64.wrap (10 * y) = 10 * y := IntWalk.i64_in _ (by omega); have e2 : IntKind.i64.wrap (x + 10 * y) = (q : Int) := (by rw [hq]; exact IntWalk.i64_in _ (by omega)); have HH := Lib.hid hq2; clear hq hq2 y0 y1; have e3 : IntKind.i16.wrap (q : Int) = (q : Int) := IntWalk.i16_in _ (by omega)) | (refine Calls.mono (calls_args (by with_reducible rfl) (pick_any 1 M.out g A c bs HB.out _ (by omega) _ rfl (M.out.sl HS.out) 60 (by first | decide | omega))) ?_; rintro e w_ ⟨p, rfl, p0, p1, k_p, sd_p, hk_p, m⟩; simp only [List.set_cons_succ, List.set_cons_zero, List.set_set] at m; have M := Lib.hid m; clear m; have f1 : IntKind.i64.wrap (1 + p) = 1 + p := IntWalk.i64_in _ (by omega); have f2 : IntKind.i16.wrap (1 + p) = 1 + p := IntWalk.i16_in _ (by omega)) | (refine Calls.mono (calls_args (by with_reducible rfl) (pick_any 1 M.out g A c bs HB.out _ (by omega) _ rfl (M.out.sl HS.out) 14 (by first | decide | omega))) ?_; rintro e w_ ⟨a, rfl, a0, a1, k_a, sd_a, hk_a, m⟩; simp only [List.set_cons_succ, List.set_cons_zero, List.set_set] at m; have M := Lib.hid m; clear m; have f3 : IntKind.i8.wrap a = a := IntWalk.i8_in _ (by omega))))
        | (go_at_call 81; go_must (refine (l03Taken_any g3 F FD.out.ok B cp xs HD.out.ok (by omega) q hq1 _ (M.out.blk 0 rfl) (M.out.slof 2 rfl)).mono ?_); rintro e w_ ⟨rfl, rfl⟩; cases htk : taken F xs q)
        | ((with_reducible refine gate_dst (N := 50) rfl ?_); go_must (refine M.out.ev_bs1 elem_Scarecrow rfl _ rfl (Scarecrow.vals ⟨q, 1 + p, a⟩).toArray rfl rfl (by decide) ?_); intro g50 w50 m; simp only [List.cons_append, List.nil_append] at m; have M := Lib.hid m; clear m)
        | ((with_reducible refine gate_dst (N := 51) rfl ?_); go_must (refine M.out.ev_append1 2 3 elem_Scarecrow rfl _ _ rfl rfl rfl rfl rfl rfl (Scarecrow.one _) (by omega) (by decide) ?_); intro v51 w51 m; simp only [List.set_cons_succ, List.set_cons_zero] at m; have M := Lib.hid m; clear m)
        )
      · obtain ⟨A2, c2, rfl, hm2, _⟩ := M.out.row_slice 2 rfl
        have hdd := HD.out.add (by omega) hq1 HH.out htk (p := p) (a := a) ⟨p0, by omega⟩ ⟨a0, by omega⟩
        have mm := M.out.take 3
        refine ⟨⟨n - 1, m' + 1, k_a, sd_a, xs ++ [⟨q, 1 + p, a⟩], A2, c2, by go_num, by simp, hdd, by omega, by omega, ?_⟩, by simp [intOf]; try omega⟩
        rw [show (xs ++ [(⟨q, 1 + p, a⟩ : Scarecrow)]).length = xs.length + 1 by simp, flat_snoc]
        exact mm
      · exact ⟨⟨n - 1, m', k_y, sd_y, xs, B, cp, by go_num, rfl, HD.out, by omega, by omega, M.out⟩, by simp [intOf]; try omega⟩
    · obtain rfl : n = 0 := by omega
      go_wp2
      go_ret
      obtain ⟨_, _, he, h1, _⟩ := M.out.row_slice 2 rfl
      injection he with _ _ he
      exact ⟨xs, B, cp, rfl, HD.out.mono (by omega), by omega, k', sd', M.out⟩
set_option maxRecDepth 100000 in
set_option maxHeartbeats 2000000 in
theorem P6Cell_any (A : Option Addr) (c : Nat) (bs : List Int) (hb : Bytes bs) (F : Fld) (hF : FDr F 100) (w : World) (hs : Sl w 1 A bs.length (flat oneB bs)) :
    Calls Tryz.prog 7 #[.slice A bs.length c, .agg F.cells] w fun e w' => ∃ q : Nat, e = .returned (.int .i64 q) ∧ q < 100 ∧ F.has (q : Int) = true ∧ Mem w w' [] := by
  have M := Lib.hid (Mem.start w)
  have HS := Lib.hid hs
  have HB := Lib.hid hb
  have S1 := Lib.hid (Fld.size hF.ok.toLen)
  have hw := hF.w
  have hh := hF.h
  have ew : IntKind.i64.wrap F.wide = F.wide := IntWalk.i64_in _ (by omega)
  have eh : IntKind.i64.wrap F.high = F.high := IntWalk.i64_in _ (by omega)
  clear hs hF
  go_enter Tryz.func7, Tryz.ntmps7
  go_wp2_with (first
    | ((with_reducible refine gate_dst (N := 11) rfl ?_); go_must (refine M.out.ev_ld 0 _ _ rfl rfl rfl Tryz.underlying24 rfl rfl F.cell0 ?_))
    | ((with_reducible refine gate_dst (N := 17) rfl ?_); go_must (refine M.out.ev_ld 0 _ _ rfl rfl rfl Tryz.underlying24 rfl rfl F.cell1 ?_))
    | ((with_reducible refine gate_dst (N := 3) rfl ?_); go_must (refine M.out.ev_new rfl (by first | (go_simp; done) | (go_simp; rfl)) ?_); intro g3 w3 m; simp only [List.cons_append, List.nil_append] at m; have M := Lib.hid m; clear m)
    | ((with_reducible refine gate_dst (N := 11) rfl ?_); go_must (refine M.out.ev_ld 0 _ _ rfl rfl rfl Tryz.underlying24 rfl rfl (by first | assumption | rfl) ?_))
    | ((with_reducible refine gate_dst (N := 17) rfl ?_); go_must (refine M.out.ev_ld 0 _ _ rfl rfl rfl Tryz.underlying24 rfl rfl (by first | assumption | rfl) ?_))
    | (go_at_call 35; go_must (refine (l00From_any A bs.length c _).mono ?_); rintro e w_ ⟨g, rfl, N_⟩; have m := M.out.join N_; clear N_; simp only [List.cons_append, List.nil_append, List.append_nil] at m; have M := Lib.hid m; clear m)
    | (go_at_call 37; go_must (first | (refine Calls.mono (calls_args (by with_reducible rfl) (pick_any 1 M.out g A c bs HB.out _ (by omega) _ rfl (M.out.sl HS.out) F.wide (by first | decide | omega))) ?_; rintro e w_ ⟨x, rfl, x0, x1, k_x, sd_x, hk_x, m⟩; simp only [List.set_cons_succ, List.set_cons_zero, List.set_set] at m; have M := Lib.hid m; clear m) | (refine Calls.mono (calls_args (by with_reducible rfl) (pick_any 1 M.out g A c bs HB.out _ (by omega) _ rfl (M.out.sl HS.out) F.high (by first | decide | omega))) ?_; rintro e w_ ⟨y, rfl, y0, y1, k_y, sd_y, hk_y, m⟩; simp only [List.set_cons_succ, List.set_cons_zero, List.set_set] at m; have M := Lib.hid m; clear m; obtain ⟨q, hq, hq1, hq2⟩ := cell_of (F := F) ⟨x0, by omega⟩ ⟨y0, by omega⟩ (by omega) (by omega); have e1 : IntKind.i64.wrap (10 * y) = 10 * y := IntWalk.i64_in _ (by omega); have e2 : IntKind.i64.wrap (x + 10 * y) = (q : Int) := (by rw [hq]; exact IntWalk.i64_in _ (by omega)); have HH := Lib.hid hq2; clear hq hq2 y0 y1)))
    )
  go_ret
  exact ⟨q, rfl, hq1, HH.out, M.out.take 0⟩
set_option maxRecDepth 100000 in
set_option maxHeartbeats 4000000 in
theorem P6Scares_any (A : Option Addr) (c : Nat) (bs : List Int) (hb : Bytes bs) (F : Fld) (hF : FDr F 100) (w : World) (hs : Sl w 1 A bs.length (flat oneB bs)) :
    Calls Tryz.prog 6 #[.slice A bs.length c, .agg F.cells] w fun e w' => ∃ (xs : List Scarecrow) (B : Option Addr) (d : Nat), e = .returned (.slice B xs.length d) ∧ SDr F xs 4 ∧ xs.length ≤ d ∧ Mem w w' [.row (.slice B xs.length d) 60 3 xs.length (flat Scarecrow.vals xs)] := by
  have M := Lib.hid (Mem.start w)
  have HS := Lib.hid hs
  have HB := Lib.hid hb
  have FD := Lib.hid hF
  have S1 := Lib.hid (Fld.size hF.ok.toLen)
  clear hs hF
  go_enter Tryz.func6, Tryz.ntmps6
  go_wp2_with (first
    | ((with_reducible refine gate_dst (N := 3) rfl ?_); go_must (refine M.out.ev_new rfl (by first | (go_simp; done) | (go_simp; rfl)) ?_); intro g3 w3 m; simp only [List.cons_append, List.nil_append] at m; have M := Lib.hid m; clear m)
    | (go_at_call 35; go_must (refine (l00From_any A bs.length c _).mono ?_); rintro e w_ ⟨g, rfl, N_⟩; have m := M.out.join N_; clear N_; simp only [List.cons_append, List.nil_append, List.append_nil] at m; have M := Lib.hid m; clear m)
    | (go_at_call 36; go_must (refine (l03Drawn_any g g3 A c bs HB.out F FD.out _ _ M.out HS.out).mono ?_); rintro e w_ ⟨xs, B, d, rfl, hX, hd, k9, sd9, m⟩; have M := Lib.hid m; clear m; have HX := Lib.hid hX; clear hX)
    )
  go_ret
  exact ⟨xs, B, d, rfl, HX.out, hd, M.out.only [2] (K := [_]) rfl (by decide)⟩
end Go.Proofs.YtoacnfofijikmaaGreatDoor
