/- Texts of a proof, laid together: Day. -/
import Derived.Test.YtlonbgomdabmmaaZF09
namespace Go.Proofs.Ytlonbgomdabmmaa
set_option linter.unusedSimpArgs false
set_option linter.unusedVariables false
open Go.RowKit
attribute [local go_sem] cell?_mk frozen?_mk

/-- The first flocks' day: the field behind it, the visits, and what each one still wants. -/
def dayTo (F : Fld) (fs : List Int) (xs : List Flock) : Nat → Fld × List Visit × List Int
  | 0 => (F, [], [])
  | k + 1 => match xs[k]? with
    | some x => ((feedOf (dayTo F fs xs k).1 fs x k).1, (dayTo F fs xs k).2.1 ++ (feedOf (dayTo F fs xs k).1 fs x k).2.1, (dayTo F fs xs k).2.2 ++ [(feedOf (dayTo F fs xs k).1 fs x k).2.2])
    | none => dayTo F fs xs k
def dayOf (F : Fld) (fs : List Int) (xs : List Flock) : Fld × List Visit × List Int := dayTo F fs xs xs.length
theorem dayTo_succ (F : Fld) (fs : List Int) {xs : List Flock} {k : Nat} (hk : k < xs.length) :
    dayTo F fs xs (k + 1) = ((feedOf (dayTo F fs xs k).1 fs xs[k] k).1, (dayTo F fs xs k).2.1 ++ (feedOf (dayTo F fs xs k).1 fs xs[k] k).2.1, (dayTo F fs xs k).2.2 ++ [(feedOf (dayTo F fs xs k).1 fs xs[k] k).2.2]) := by
  have h : xs[k]? = some xs[k] := List.getElem?_eq_getElem hk
  rw [dayTo]
  simp only [h]
theorem dayTo_ok {F : Fld} (hF : F.ok) (fs : List Int) {xs : List Flock} (hx : ∀ x ∈ xs, x.plain = true) : ∀ k, k ≤ xs.length → (dayTo F fs xs k).1.ok ∧ (dayTo F fs xs k).2.1.length ≤ 4 * k ∧ (dayTo F fs xs k).2.2.length = k
  | 0, _ => ⟨hF, Nat.le_refl _, rfl⟩
  | k + 1, hk => by
    have ih := dayTo_ok hF fs hx k (by omega)
    have f := feedOf_ok ih.1 fs (hx xs[k] (List.getElem_mem (by omega))) k
    rw [dayTo_succ F fs (by omega)]
    refine ⟨f.1, ?_, ?_⟩
    · rw [List.length_append]
      omega
    · rw [List.length_append, ih.2.2]
      rfl
set_option maxRecDepth 100000 in
set_option maxHeartbeats 4000000 in
theorem feedAll_any {w0 w : World} {E1 E2 : Ent} (g fb : Nat) {tf tb : TypeId} (F : Fld) (hF : F.ok) (fs : List Int) (hfl : fs.length = 100) (hff : ∀ x ∈ fs, -32768 ≤ x ∧ x ≤ 32767) (A : Option Addr) (n : Nat) (xs : List Flock) (hp : ∀ x ∈ xs, x.plain = true) (hl : xs.length ≤ 12) (M0 : Mem w0 w [.blk g tf F.cells, .blk fb tb (ints .i16 fs), E1, E2]) (hs : Sl w0 6 A xs.length (flat Flock.vals xs)) :
    Calls Try.prog 34 #[.pointer (some ⟨g, 0, none⟩), .pointer (some ⟨fb, 0, none⟩), .slice A xs.length n] w fun e w' => ∃ A1 c1 A2 c2, e = .returned (.tuple #[.slice A1 (dayOf F fs xs).2.1.length c1, .slice A2 (dayOf F fs xs).2.2.length c2]) ∧ (dayOf F fs xs).2.1.length ≤ c1 ∧ (dayOf F fs xs).2.2.length ≤ c2 ∧ Mem w0 w' [.blk g tf (dayOf F fs xs).1.cells, .blk fb tb (ints .i16 fs), E1, E2, .row (.slice A1 (dayOf F fs xs).2.1.length c1) 51 3 (dayOf F fs xs).2.1.length (flat Visit.vals (dayOf F fs xs).2.1), .row (.slice A2 (dayOf F fs xs).2.2.length c2) 2 1 (dayOf F fs xs).2.2.length (flat oneI (dayOf F fs xs).2.2)] := by
  have M := Lib.hid M0
  have HS := Lib.hid hs
  have HP := Lib.hid hp
  have HFF := Lib.hid hff
  have HF := Lib.hid hF
  clear M0 hs hp hff hF
  go_enter Try.func34, Try.ntmps34
  go_wp2_with (first
    | ((with_reducible refine gate_dst (N := 13) rfl ?_); go_must (refine M.out.ev_bs0 elem_Visit rfl rfl ?_); intro g13 w13 m; simp only [List.cons_append, List.nil_append] at m; have M := Lib.hid m; clear m)
    | ((with_reducible refine gate_dst (N := 14) rfl ?_); go_must (refine M.out.ev_bs0 elem_int64 rfl rfl ?_); intro g14 w14 m; simp only [List.cons_append, List.nil_append] at m; have M := Lib.hid m; clear m)
    )
  go_loopw [8, 9, 17] (fun s u v wr => ∃ k : Nat, k ≤ xs.length ∧ v = .int .i64 k ∧ Mem w0 wr [.blk g tf (dayTo F fs xs k).1.cells, .blk fb tb (ints .i16 fs), E1, E2, .row s 51 3 (dayTo F fs xs k).2.1.length (flat Visit.vals (dayTo F fs xs k).2.1), .row u 2 1 (dayTo F fs xs k).2.2.length (flat oneI (dayTo F fs xs k).2.2)])
    (fun _ _ v _ => xs.length - (intOf v).toNat)
  case atStart => exact ⟨0, by omega, rfl, M.out⟩
  case round =>
    clear M
    obtain ⟨k, hk, rfl, mm⟩ := hrel
    have M := Lib.hid mm
    clear mm
    by_cases hlt : k < xs.length
    · have hok := dayTo_ok HF.out fs HP.out k hk
      have hpx := HP.out xs[k] (List.getElem_mem hlt)
      have HFO := Lib.hid (feedOf_ok hok.1 fs hpx k)
      have HSU := Lib.hid (dayTo_succ F fs hlt)
      obtain ⟨b, off, rfl, hr⟩ := HS.out.2 (by omega)
      have R := Lib.hid (range_at Flock.vl hr (List.getElem?_eq_getElem hlt))
      have HPX := Lib.hid hpx
      have i0 : (0 : Int) ≤ (k : Int) := by omega
      have i1 : (k : Int) < (xs.length : Int) := by omega
      obtain ⟨D, hD⟩ : ∃ D, D = dayTo F fs xs k := ⟨_, rfl⟩
      rw [← hD] at M HFO HSU hok
      clear hD hr hpx
      have FE := Lib.hid (fun (wx : World) (E1 E2 E3 E4 : Ent) (m0 : Mem w0 wx [.blk g tf D.1.cells, .blk fb tb (ints .i16 fs), E1, E2, E3, E4]) => feed_any g fb b (off + k * 6) D.1 hok.1 fs hfl HFF.out xs[k] HPX.out k (by omega) m0 R.out)
      obtain ⟨Y, hY⟩ : ∃ Y, Y = feedOf D.1 fs xs[k] k := ⟨_, rfl⟩
      rw [← hY] at FE HFO HSU
      clear hY
      obtain ⟨f1, f2, f3, f4⟩ := HFO.out
      obtain ⟨d1, d2, d3⟩ := hok
      go_wp2_with (first
        | (go_at_call 63; go_must (refine (FE.out _ _ _ _ _ M.out).mono ?_); rintro e w_ ⟨A_, c_, rfl, hc_, m⟩; have M := Lib.hid m; clear m)
        | ((with_reducible refine gate_dst (N := 32) rfl ?_); go_must (refine M.out.ev_appends 4 elem_Visit rfl _ _ rfl rfl rfl rfl (M.out.slof 6 rfl) (M.out.row_none 6 rfl) hc_ (flat_one Visit.ones _) (by omega) (by decide) ?_); intro v32 w32 m; simp only [List.set_cons_succ, List.set_cons_zero] at m; have M := Lib.hid m; clear m)
        | ((with_reducible refine gate_dst (N := 35) rfl ?_); go_must (refine M.out.ev_bs1 elem_int64 rfl _ rfl #[.int .i64 Y.2.2] rfl rfl (by decide) ?_); intro g35 w35 m; simp only [List.cons_append, List.nil_append] at m; have M := Lib.hid m; clear m)
        | ((with_reducible refine gate_dst (N := 36) rfl ?_); go_must (refine M.out.ev_append1 5 7 elem_int64 rfl _ _ rfl rfl rfl rfl rfl rfl (by simp [Value.oneCell']) (by omega) (by decide) ?_); intro v36 w36 m; simp only [List.set_cons_succ, List.set_cons_zero] at m; have M := Lib.hid m; clear m)
        )
      refine ⟨⟨k + 1, by omega, by go_num, ?_⟩, by simp [intOf]; omega⟩
      have mm := M.out.take 6
      rw [HSU.out]
      simp only [List.length_append, flat_append, flat_oneI, List.map_append, List.map_cons, List.map_nil, List.length_cons, List.length_nil, Nat.zero_add]
      simp only [flat_oneI] at mm
      exact mm
    · obtain rfl : k = xs.length := by omega
      obtain ⟨A1, c1, rfl, h1, _⟩ := M.out.row_slice 4 rfl
      obtain ⟨A2, c2, rfl, h2, _⟩ := M.out.row_slice 5 rfl
      go_wp2
      go_ret2
      exact ⟨_, _, _, _, rfl, h1, h2, M.out⟩
set_option maxRecDepth 100000 in
set_option maxHeartbeats 4000000 in
theorem l02Day_any (fb : Nat) {tb : TypeId} (F : Fld) (hF : F.ok) (fs : List Int) (hfl : fs.length = 100) (hff : ∀ x ∈ fs, -32768 ≤ x ∧ x ≤ 32767) (A : Option Addr) (n : Nat) (xs : List Flock) (hp : ∀ x ∈ xs, x.plain = true) (hl : xs.length ≤ 12) (w : World) (hfb : Blk w fb tb (ints .i16 fs)) (hs : Sl w 6 A xs.length (flat Flock.vals xs)) :
    Calls Try.prog 36 #[.agg F.cells, .pointer (some ⟨fb, 0, none⟩), .slice A xs.length n] w fun e w' => ∃ A1 c1, e = .returned (.tuple #[.agg (dayOf F fs xs).1.cells, .slice A1 (dayOf F fs xs).2.1.length c1]) ∧ (dayOf F fs xs).2.1.length ≤ c1 ∧ Mem w w' [.row (.slice A1 (dayOf F fs xs).2.1.length c1) 51 3 (dayOf F fs xs).2.1.length (flat Visit.vals (dayOf F fs xs).2.1)] := by
  have M := Lib.hid (Mem.start w)
  have HS := Lib.hid hs
  have HP := Lib.hid hp
  have HFF := Lib.hid hff
  have HF := Lib.hid hF
  have HFB := Lib.hid hfb
  have S2 := Lib.hid (Fld.size Fld.z_len)
  have S1 := Lib.hid (Fld.size hF.toLen)
  clear hs hp hff hF hfb
  go_enter Try.func36, Try.ntmps36
  go_wp2_with (first
    | ((with_reducible refine gate_dst (N := 6) rfl ?_); go_must (refine M.out.ev_new rfl (by first | (go_simp; done) | (go_simp; rfl)) ?_); intro g6 w6 m; simp only [List.cons_append, List.nil_append, zeroFld] at m; have M := Lib.hid m; clear m)
    | ((with_reducible refine gate_dst (N := 12) rfl ?_); go_must (refine M.out.ev_bs0 elem_Visit rfl rfl ?_); intro g12 w12 m; simp only [List.cons_append, List.nil_append] at m; have M := Lib.hid m; clear m)
    | ((with_reducible refine gate_dst (N := 3) rfl ?_); go_must (refine M.out.ev_new rfl (by first | (go_simp; done) | (go_simp; rfl)) ?_); intro g3 w3 m; simp only [List.cons_append, List.nil_append] at m; have M := Lib.hid m; clear m)
    | ((with_reducible refine gate_dst (N := 6) rfl ?_); go_must (refine M.out.ev_new rfl (by first | (go_simp; done) | (go_simp; rfl)) ?_); intro g6 w6 m; simp only [List.cons_append, List.nil_append] at m; have M := Lib.hid m; clear m)
    | ((with_reducible refine gate_dst (N := 20) rfl ?_); go_must (refine M.out.ev_ldw 0 _ _ rfl rfl rfl Try.underlying29 rfl (by first | exact sz29 | (rw [S1.out]; exact sz29) | (rw [S2.out]; exact sz29) | (rw [S3.out]; exact sz29)) rfl ?_))
    | ((with_reducible refine gate_dst (N := 10) rfl ?_); go_must (refine M.out.ev_new rfl (by first | (go_simp; done) | (go_simp; rfl)) ?_); intro g10 w10 m; simp only [List.cons_append, List.nil_append] at m; have M := Lib.hid m; clear m)
    | ((with_reducible refine gate_store (x := .tmp 10) rfl ?_); go_must (refine M.out.ev_stw 2 _ _ _ rfl rfl rfl rfl _ rfl (by first | rfl | (simp only [S1.out]; rfl) | (simp only [S1.out, S2.out]; rfl) | (simp only [S3.out]; rfl) | (simp only [S1.out, S2.out, S3.out]; rfl)) (by first | exact sz29 | (rw [S1.out]; exact sz29) | (rw [S2.out]; exact sz29) | (rw [S3.out]; exact sz29)) (by first | exact ints_one _ _ | exact Fld.one _ | exact O1.out | rfl | (simp [Value.oneCell']; done)) rfl ?_); intro wn m; simp only [List.set_cons_succ, List.set_cons_zero, List.setIfInBounds_toArray] at m; have M := Lib.hid m; clear m)
    | ((with_reducible refine gate_dst (N := 29) rfl ?_); go_must (refine M.out.ev_ldw 2 _ _ rfl rfl rfl Try.underlying29 rfl (by first | exact sz29 | (rw [S1.out]; exact sz29) | (rw [S2.out]; exact sz29) | (rw [S3.out]; exact sz29)) rfl ?_))
    | ((with_reducible refine gate_store (x := .tmp 3) rfl ?_); go_must (refine M.out.ev_stw 0 _ _ _ rfl rfl rfl rfl _ rfl (by first | rfl | (simp only [S1.out]; rfl) | (simp only [S1.out, S2.out]; rfl) | (simp only [S3.out]; rfl) | (simp only [S1.out, S2.out, S3.out]; rfl)) (by first | exact sz29 | (rw [S1.out]; exact sz29) | (rw [S2.out]; exact sz29) | (rw [S3.out]; exact sz29)) (by first | exact ints_one _ _ | exact Fld.one _ | exact O1.out | rfl | (simp [Value.oneCell']; done)) rfl ?_); intro wn m; simp only [List.set_cons_succ, List.set_cons_zero, List.setIfInBounds_toArray] at m; have M := Lib.hid m; clear m)
    | ((with_reducible refine gate_dst (N := 33) rfl ?_); go_must (refine M.out.ev_ldw 0 _ _ rfl rfl rfl Try.underlying29 rfl (by first | exact sz29 | (rw [S1.out]; exact sz29) | (rw [S2.out]; exact sz29) | (rw [S3.out]; exact sz29)) rfl ?_))
    | ((with_reducible refine gate_store (x := .tmp 6) rfl ?_); go_must (refine M.out.ev_stw 1 _ _ _ rfl rfl rfl rfl _ rfl (by first | rfl | (simp only [S1.out]; rfl) | (simp only [S1.out, S2.out]; rfl) | (simp only [S3.out]; rfl) | (simp only [S1.out, S2.out, S3.out]; rfl)) (by first | exact sz29 | (rw [S1.out]; exact sz29) | (rw [S2.out]; exact sz29) | (rw [S3.out]; exact sz29)) (by first | exact ints_one _ _ | exact Fld.one _ | exact O1.out | rfl | (simp [Value.oneCell']; done)) rfl ?_); intro wn m; simp only [List.set_cons_succ, List.set_cons_zero, List.setIfInBounds_toArray] at m; have M := Lib.hid m; clear m)
    )
  go_loopw [8, 9] (fun s v wr => ∃ k : Nat, k ≤ xs.length ∧ v = .int .i64 k ∧ Mem w wr [.blk g3 29 (dayTo F fs xs k).1.cells, .blk g6 29 Fld.z.cells, .row s 51 3 (dayTo F fs xs k).2.1.length (flat Visit.vals (dayTo F fs xs k).2.1)])
    (fun _ v _ => xs.length - (intOf v).toNat)
  case atStart => exact ⟨0, by omega, rfl, M.out⟩
  case round =>
    clear M
    obtain ⟨k, hk, rfl, mm⟩ := hrel
    have M := Lib.hid mm
    clear mm
    have hok := dayTo_ok HF.out fs HP.out k hk
    have S1 := Lib.hid (Fld.size hok.1.toLen)
    by_cases hlt : k < xs.length
    · have hpx := HP.out xs[k] (List.getElem_mem hlt)
      have HFO := Lib.hid (feedOf_ok hok.1 fs hpx k)
      have HSU := Lib.hid (dayTo_succ F fs hlt)
      obtain ⟨b, off, rfl, hr⟩ := HS.out.2 (by omega)
      have R := Lib.hid (range_at Flock.vl hr (List.getElem?_eq_getElem hlt))
      have HPX := Lib.hid hpx
      have i0 : (0 : Int) ≤ (k : Int) := by omega
      have i1 : (k : Int) < (xs.length : Int) := by omega
      obtain ⟨D, hD⟩ : ∃ D, D = dayTo F fs xs k := ⟨_, rfl⟩
      rw [← hD] at M HFO HSU hok S1
      clear hD hr hpx
      have FE := Lib.hid (fun (wx : World) (h1 : Blk wx fb tb (ints .i16 fs)) (h2 : wx.rangeAt b (off + k * 6) xs[k].vals) => l02Feed_any fb b (off + k * 6) D.1 hok.1 fs hfl HFF.out xs[k] HPX.out k (by omega) wx h1 h2)
      obtain ⟨Y, hY⟩ : ∃ Y, Y = feedOf D.1 fs xs[k] k := ⟨_, rfl⟩
      rw [← hY] at FE HFO HSU
      clear hY
      obtain ⟨f1, f2, f3, f4⟩ := HFO.out
      obtain ⟨d1, d2, d3⟩ := hok
      have S3 := Lib.hid (Fld.size f1.toLen)
      have O1 := Lib.hid (Fld.one Y.1)
      go_wp2
      refine region_anyH (fun w' => Mem w w' [.blk g3 29 D.1.cells, .blk g6 29 Fld.z.cells]) (by kernel_rfl) ?_
      have M9 := M.out.drew
      clear M
      apply merge3
      case hA =>
        intro REST0
        apply merge3
        case hA =>
          intro REST1
          have M := Lib.hid M9
          apply takeH (i := 0) 20 rfl (by kernel_rfl) (by kernel_rfl) (by kernel_rfl) (fun _ _ _ h => h) rfl (by first | exact M.out | exact M.out.take 2)
          case' hy => exact yldw _ _ rfl rfl Try.underlying29 rfl (by first | exact sz29 | (rw [S1.out]; exact sz29) | (rw [S2.out]; exact sz29) | (rw [S3.out]; exact sz29)) rfl (fun w' hS => hS.blk 0 rfl)
          try simp only [Act.put, List.getElem_toArray, List.getElem_cons_succ, List.getElem_cons_zero, List.setIfInBounds_toArray, List.set_cons_succ, List.set_cons_zero]
          apply takeH (i := 1) 21 rfl (by kernel_rfl) (by kernel_rfl) (by kernel_rfl) (fun _ _ _ h => h) rfl (by first | exact M.out | exact M.out.take 2)
          case' hy =>
            refine Or.inl ⟨by first | rfl | (go_simp; done), ?_⟩
            intro w hS
            clear hS
            go_simp
            try with_reducible rfl
          try simp only [Act.put, List.getElem_toArray, List.getElem_cons_succ, List.getElem_cons_zero, List.setIfInBounds_toArray, List.set_cons_succ, List.set_cons_zero]
          apply takeH (i := 2) 22 rfl (by kernel_rfl) (by kernel_rfl) (by kernel_rfl) (fun _ _ _ h => h) rfl (by first | exact M.out | exact M.out.take 2)
          case' hy =>
            refine Or.inl ⟨by first | rfl | (go_simp; done), ?_⟩
            intro w hS
            clear hS
            go_simp
            try with_reducible rfl
          try simp only [Act.put, List.getElem_toArray, List.getElem_cons_succ, List.getElem_cons_zero, List.setIfInBounds_toArray, List.set_cons_succ, List.set_cons_zero]
          apply takeH (i := 3) 23 rfl (by kernel_rfl) (by kernel_rfl) (by kernel_rfl) (fun _ _ _ h => h) rfl (by first | exact M.out | exact M.out.take 2)
          case' hy =>
            refine Or.inl ⟨by first | rfl | (go_simp; done), ?_⟩
            intro w hS
            clear hS
            go_simp
            try with_reducible rfl
          try simp only [Act.put, List.getElem_toArray, List.getElem_cons_succ, List.getElem_cons_zero, List.setIfInBounds_toArray, List.set_cons_succ, List.set_cons_zero]
          apply takeH (i := 4) 24 rfl (by kernel_rfl) (by kernel_rfl) (by kernel_rfl) (fun _ _ _ h => h) rfl (by first | exact M.out | exact M.out.take 2)
          case' hy =>
            refine Or.inl ⟨by first | rfl | (go_simp; done), ?_⟩
            intro w hS
            clear hS
            go_simp
            try with_reducible rfl
          try simp only [Act.put, List.getElem_toArray, List.getElem_cons_succ, List.getElem_cons_zero, List.setIfInBounds_toArray, List.set_cons_succ, List.set_cons_zero]
          apply takeH (i := 5) 25 rfl (by kernel_rfl) (by kernel_rfl) (by kernel_rfl) (fun _ _ _ h => h) rfl (by first | exact M.out | exact M.out.take 2)
          case' hy =>
            refine Or.inl ⟨by first | rfl | (go_simp; done), ?_⟩
            intro w hS
            clear hS
            go_simp
            try with_reducible rfl
          try simp only [Act.put, List.getElem_toArray, List.getElem_cons_succ, List.getElem_cons_zero, List.setIfInBounds_toArray, List.set_cons_succ, List.set_cons_zero]
          refine any2H 6 10 (by kernel_rfl) rfl rfl (fun K hK => ?_) (fun K hK => ?_)
          rotate_right 1
          case' _ =>
            go_wp2_with (first | ((with_reducible refine gate_dst (N := 10) rfl ?_); go_must (refine M.out.ev_new rfl (by first | (go_simp; done) | (go_simp; rfl)) ?_); intro g10 w10 m; simp only [List.cons_append, List.nil_append] at m; have M := Lib.hid m; clear m))
            refine onward_normal (hK _ _ ⟨(by first | exact M.out | exact M.out.take 2), ?_⟩)
            clear hK K
            try simp only [Act.put, List.getElem_toArray, List.getElem_cons_succ, List.getElem_cons_zero, List.setIfInBounds_toArray, List.set_cons_succ, List.set_cons_zero]
            refine any1H 6 (by kernel_rfl) rfl (fun K hK => ?_)
            go_wp2_with (first | (go_at_call 48; go_must (refine (FE.out _ (M.out.arg HFB.out) (M.out.argrange R.out)).mono ?_); rintro e w_ ⟨A26, c26, rfl, hc26, N_⟩; have m := M.out.join N_; clear N_; simp only [List.cons_append, List.nil_append, List.append_nil] at m; have M := Lib.hid m; clear m))
            refine onward_normal (hK _ _ ⟨(by first | exact M.out | exact M.out.take 2), ?_⟩)
            clear hK K
            try simp only [Act.put, List.getElem_toArray, List.getElem_cons_succ, List.getElem_cons_zero, List.setIfInBounds_toArray, List.set_cons_succ, List.set_cons_zero]
            apply takeH (i := 7) 19 rfl (by kernel_rfl) (by kernel_rfl) (by kernel_rfl) (fun _ _ _ h => h) rfl (by first | exact M.out | exact M.out.take 2)
            case' hy =>
              refine Or.inl ⟨by first | rfl | (go_simp; done), ?_⟩
              intro w hS
              clear hS
              go_simp
              try with_reducible rfl
            try simp only [Act.put, List.getElem_toArray, List.getElem_cons_succ, List.getElem_cons_zero, List.setIfInBounds_toArray, List.set_cons_succ, List.set_cons_zero]
            apply takeH (i := 8) 27 rfl (by kernel_rfl) (by kernel_rfl) (by kernel_rfl) (fun _ _ _ h => h) rfl (by first | exact M.out | exact M.out.take 2)
            case' hy =>
              refine Or.inl ⟨by first | rfl | (go_simp; done), ?_⟩
              intro w hS
              clear hS
              go_simp
              try with_reducible rfl
            try simp only [Act.put, List.getElem_toArray, List.getElem_cons_succ, List.getElem_cons_zero, List.setIfInBounds_toArray, List.set_cons_succ, List.set_cons_zero]
            apply takeH (i := 9) 28 rfl (by kernel_rfl) (by kernel_rfl) (by kernel_rfl) (fun _ _ _ h => h) rfl (by first | exact M.out | exact M.out.take 2)
            case' hy =>
              refine Or.inl ⟨by first | rfl | (go_simp; done), ?_⟩
              intro w hS
              clear hS
              go_simp
              try with_reducible rfl
            try simp only [Act.put, List.getElem_toArray, List.getElem_cons_succ, List.getElem_cons_zero, List.setIfInBounds_toArray, List.set_cons_succ, List.set_cons_zero]
            have m := M.out.only [0, 1, 2, 4, 3] (K := [_, _, _, _, _]) rfl (by decide)
            exact REST1 A26 c26 g10 w_ m
          rotate_right 1
          case' _ =>
            go_wp2_with (first | (go_at_call 48; go_must (refine (FE.out _ (M.out.arg HFB.out) (M.out.argrange R.out)).mono ?_); rintro e w_ ⟨A26, c26, rfl, hc26, N_⟩; have m := M.out.join N_; clear N_; simp only [List.cons_append, List.nil_append, List.append_nil] at m; have M := Lib.hid m; clear m))
            refine onward_normal (hK _ _ ⟨(by first | exact M.out | exact M.out.take 2), ?_⟩)
            clear hK K
            try simp only [Act.put, List.getElem_toArray, List.getElem_cons_succ, List.getElem_cons_zero, List.setIfInBounds_toArray, List.set_cons_succ, List.set_cons_zero]
            apply takeH (i := 7) 19 rfl (by kernel_rfl) (by kernel_rfl) (by kernel_rfl) (fun _ _ _ h => h) rfl (by first | exact M.out | exact M.out.take 2)
            case' hy =>
              refine Or.inl ⟨by first | rfl | (go_simp; done), ?_⟩
              intro w hS
              clear hS
              go_simp
              try with_reducible rfl
            try simp only [Act.put, List.getElem_toArray, List.getElem_cons_succ, List.getElem_cons_zero, List.setIfInBounds_toArray, List.set_cons_succ, List.set_cons_zero]
            apply takeH (i := 8) 27 rfl (by kernel_rfl) (by kernel_rfl) (by kernel_rfl) (fun _ _ _ h => h) rfl (by first | exact M.out | exact M.out.take 2)
            case' hy =>
              refine Or.inl ⟨by first | rfl | (go_simp; done), ?_⟩
              intro w hS
              clear hS
              go_simp
              try with_reducible rfl
            try simp only [Act.put, List.getElem_toArray, List.getElem_cons_succ, List.getElem_cons_zero, List.setIfInBounds_toArray, List.set_cons_succ, List.set_cons_zero]
            apply takeH (i := 9) 28 rfl (by kernel_rfl) (by kernel_rfl) (by kernel_rfl) (fun _ _ _ h => h) rfl (by first | exact M.out | exact M.out.take 2)
            case' hy =>
              refine Or.inl ⟨by first | rfl | (go_simp; done), ?_⟩
              intro w hS
              clear hS
              go_simp
              try with_reducible rfl
            try simp only [Act.put, List.getElem_toArray, List.getElem_cons_succ, List.getElem_cons_zero, List.setIfInBounds_toArray, List.set_cons_succ, List.set_cons_zero]
            refine any1H 10 (by kernel_rfl) rfl (fun K hK => ?_)
            go_wp2_with (first | ((with_reducible refine gate_dst (N := 10) rfl ?_); go_must (refine M.out.ev_new rfl (by first | (go_simp; done) | (go_simp; rfl)) ?_); intro g10 w10 m; simp only [List.cons_append, List.nil_append] at m; have M := Lib.hid m; clear m))
            refine onward_normal (hK _ _ ⟨(by first | exact M.out | exact M.out.take 2), ?_⟩)
            clear hK K
            try simp only [Act.put, List.getElem_toArray, List.getElem_cons_succ, List.getElem_cons_zero, List.setIfInBounds_toArray, List.set_cons_succ, List.set_cons_zero]
            exact REST1 A26 c26 g10 w10 M.out
        case hB =>
          intro A26 c26 g10 w_ m
          have M := Lib.hid m
          clear m
          refine any1H 11 (by kernel_rfl) rfl (fun K hK => ?_)
          go_wp2_with (first | ((with_reducible refine gate_store (x := .tmp 10) rfl ?_); go_must (first | (refine M.out.ev_stw 3 _ _ _ rfl rfl rfl rfl _ rfl (by first | rfl | (simp only [S1.out]; rfl) | (simp only [S1.out, S2.out]; rfl) | (simp only [S3.out]; rfl) | (simp only [S1.out, S2.out, S3.out]; rfl)) (by first | exact sz29 | (rw [S1.out]; exact sz29) | (rw [S2.out]; exact sz29) | (rw [S3.out]; exact sz29)) (by first | exact ints_one _ _ | exact Fld.one _ | exact O1.out | rfl | (simp [Value.oneCell']; done)) rfl ?_) | (refine M.out.ev_stw 4 _ _ _ rfl rfl rfl rfl _ rfl (by first | rfl | (simp only [S1.out]; rfl) | (simp only [S1.out, S2.out]; rfl) | (simp only [S3.out]; rfl) | (simp only [S1.out, S2.out, S3.out]; rfl)) (by first | exact sz29 | (rw [S1.out]; exact sz29) | (rw [S2.out]; exact sz29) | (rw [S3.out]; exact sz29)) (by first | exact ints_one _ _ | exact Fld.one _ | exact O1.out | rfl | (simp [Value.oneCell']; done)) rfl ?_)); intro wn m; simp only [List.set_cons_succ, List.set_cons_zero, List.setIfInBounds_toArray] at m; have M := Lib.hid m; clear m))
          refine onward_normal (hK _ _ ⟨(by first | exact M.out | exact M.out.take 2), ?_⟩)
          clear hK K
          try simp only [Act.put, List.getElem_toArray, List.getElem_cons_succ, List.getElem_cons_zero, List.setIfInBounds_toArray, List.set_cons_succ, List.set_cons_zero]
          apply takeH (i := 12) 11 rfl (by kernel_rfl) (by kernel_rfl) (by kernel_rfl) (fun _ _ _ h => h) rfl (by first | exact M.out | exact M.out.take 2)
          case' hy =>
            refine Or.inl ⟨by first | rfl | (go_simp; done), ?_⟩
            intro w hS
            clear hS
            go_simp
            try with_reducible rfl
          try simp only [Act.put, List.getElem_toArray, List.getElem_cons_succ, List.getElem_cons_zero, List.setIfInBounds_toArray, List.set_cons_succ, List.set_cons_zero]
          exact REST0 A26 c26 g10 wn M.out
      intro A26 c26 g10 w_ m
      have M := Lib.hid m
      clear m M9
      refine wpAnyH_done (by kernel_rfl) ?_ _
      have hc26 := (M.out.row_le 3 rfl).1
      go_wp2_with (first
        | ((with_reducible refine gate_dst (N := 29) rfl ?_); go_must (refine M.out.ev_ldw 4 _ _ rfl rfl rfl Try.underlying29 rfl (by rw [S3.out]; exact sz29) rfl ?_))
        | ((with_reducible refine gate_store (x := .tmp 3) rfl ?_); go_must (refine M.out.ev_stw 0 _ _ _ rfl rfl rfl rfl Y.1.cells rfl (by rw [S1.out, S3.out]) (by rw [S3.out]; exact sz29) O1.out rfl ?_); intro wn m; simp only [List.set_cons_succ, List.set_cons_zero] at m; have M := Lib.hid m; clear m)
        | ((with_reducible refine gate_dst (N := 32) rfl ?_); go_must (refine M.out.ev_appends 2 elem_Visit rfl _ _ rfl rfl rfl rfl (M.out.slof 3 rfl) (M.out.row_none 3 rfl) hc26 (flat_one Visit.ones _) (by omega) (by decide) ?_); intro v32 w32 m; simp only [List.set_cons_succ, List.set_cons_zero] at m; have M := Lib.hid m; clear m)
        )
      refine ⟨⟨k + 1, by omega, by go_num, ?_⟩, by simp [intOf]; omega⟩
      have mm := M.out.take 3
      rw [HSU.out]
      simp only [List.length_append, flat_append]
      exact mm
    · obtain rfl : k = xs.length := by omega
      clear hok
      obtain ⟨D, hD⟩ : ∃ D, D = dayTo F fs xs xs.length := ⟨_, rfl⟩
      rw [← hD] at M S1
      obtain ⟨A1, c1, rfl, h1, _⟩ := M.out.row_slice 2 rfl
      have O1 := Lib.hid (Fld.one D.1)
      have HDD := Lib.hid (show dayOf F fs xs = D from hD.symm)
      clear hD
      go_wp2_with (first
        | ((with_reducible refine gate_dst (N := 33) rfl ?_); go_must (refine M.out.ev_ldw 0 _ _ rfl rfl rfl Try.underlying29 rfl (by rw [S1.out]; exact sz29) rfl ?_))
        | ((with_reducible refine gate_store (x := .tmp 6) rfl ?_); go_must (refine M.out.ev_stw 1 _ _ _ rfl rfl rfl rfl D.1.cells rfl (by rw [S1.out, S2.out]) (by rw [S1.out]; exact sz29) O1.out rfl ?_); intro wn m; simp only [List.set_cons_succ, List.set_cons_zero] at m; have M := Lib.hid m; clear m)
        )
      rw [HDD.out]
      exact ret_ct rfl ((M.out.blk 1 rfl).var Try.underlying29 rfl (by rw [S1.out]; exact sz29)) ⟨_, _, rfl, h1, M.out.only [2] (K := [_]) rfl (by decide)⟩
end Go.Proofs.Ytlonbgomdabmmaa
