/- Texts of a proof, laid together: BestS. -/
import Derived.Test.YtdnofkngljjbmaaZP23
import Derived.Test.YtdnofkngljjbmaaZP15
namespace Go.Proofs.Ytdnofkngljjbmaa
set_option linter.unusedSimpArgs false
set_option linter.unusedVariables false
open Go.RowKit
attribute [local go_sem] cell?_mk frozen?_mk
--ONES exact Plot.one _

/-- How many plots each day has. -/
def usedOf (p : List Int) : List Int := (List.range 20).map fun e : Nat => ((p.count (e : Int) : Nat) : Int)
def lenV : Value → Nat | .slice _ n _ => n | _ => 0
theorem usedOf_len (p : List Int) : (usedOf p).length = 20 := by simp [usedOf]
theorem usedOf_gi (p : List Int) {e : Nat} (he : e < 20) : gi (usedOf p) e = ((p.count (e : Int) : Nat) : Int) := by
  unfold gi
  rw [List.getD_eq_getElem?_getD]
  simp [usedOf, he]
theorem usedOf_neg (p : List Int) : usedOf (p ++ [-1]) = usedOf p :=
  List.map_congr_left fun e _ => by
    rw [List.count_append, List.count_singleton, if_neg (by rw [beq_iff_eq]; omega)]
    rfl
theorem usedOf_set (p : List Int) {y : Nat} (hy : y < 20) : usedOf (p ++ [(y : Int)]) = (usedOf p).set y (gi (usedOf p) y + 1) := by
  refine List.ext_getElem (by simp [usedOf]) fun e h1 h2 => ?_
  rw [usedOf_len] at h1
  have a1 : ∀ q (hh : e < (usedOf q).length), (usedOf q)[e] = gi (usedOf q) e := fun q hh => by unfold gi; rw [List.getD_eq_getElem?_getD, List.getElem?_eq_getElem hh]; rfl
  rw [List.getElem_set, a1, a1, usedOf_gi _ h1, usedOf_gi _ h1, usedOf_gi _ hy, List.count_append, List.count_singleton]
  by_cases hye : y = e
  · subst hye
    rw [if_pos (by simp), if_pos rfl]
    omega
  · rw [if_neg (by rw [beq_iff_eq]; omega), if_neg hye]
    omega
set_option maxRecDepth 100000 in
set_option maxHeartbeats 8000000 in
theorem l07Planned_any (A : Option Addr) (n : Nat) (xs : List Plot) (hx : ∀ x ∈ xs, x.fine = true) (hl : xs.length ≤ 6) (hn : xs.length ≤ n) (hA : SlOk A n) (h : Int) (h0 : 0 ≤ h) (h1 : h ≤ 3) (D : Nat) (hD : D ≤ 20) (w : World) (hs : Sl w 4 A xs.length (flat Plot.vals xs)) :
    Calls Try.prog 58 #[.slice A xs.length n, .int .i64 h, .int .i64 D] w fun e w' => ∃ B c, e = .returned (.slice B xs.length c) ∧ xs.length ≤ c ∧ Mem w w' [.row (.slice B xs.length c) 2 1 xs.length (flat oneI (bpTo xs h D xs.length))] := by
  have M := Lib.hid (Mem.start w)
  have HS := Lib.hid hs
  have BD := Lib.hid (fun k (hk : k < xs.length) => bp_day hx hl (bp_ok hx hl h0 hD k (by omega)) hD (by rw [bpTo_len]; omega))
  have BK := Lib.hid (fun k (hk : k ≤ xs.length) => bp_ok hx hl h0 hD k hk)
  have HV0 := Lib.hid (bp_shut hx hl (bp_ok hx hl h0 hD 0 (by omega)))
  have TA0 := Lib.hid (fun B nb (w : World) hs ht => try1_any A n xs hx hl hn hA h h0 h1 D hD B nb [] (by simp) (fun _ h => absurd h (by simp)) (fun e _ => by rw [capOf_nil]; omega) w hs ht)
  have TAP := Lib.hid (fun k (hk : k < xs.length) (d : Int) (hd : -1 ≤ d ∧ d ≤ 19) (hcp : ∀ e : Nat, e < D → 0 ≤ capOf h (bpTo xs h D k ++ [d]) e) B nb (w : World) hs (ht : Sl w 1 B (k + 1) (flat oneI (bpTo xs h D k) ++ [.int .i64 d])) => (show Calls Try.prog 74 #[.slice A xs.length n, .int .i64 h, .int .i64 D, .slice B (k + 1) nb] w fun e w' => e = .returned (.int .i64 (mostOf xs h D (bpTo xs h D k ++ [d]))) ∧ Mem w w' [] by
    have hlk : (bpTo xs h D k ++ [d]).length = k + 1 := by rw [List.length_append, bpTo_len]; rfl
    have := try1_any A n xs hx hl hn hA h h0 h1 D hD B nb (bpTo xs h D k ++ [d]) (by omega) (fun e he => by
      rcases List.mem_append.1 he with h | h
      · have := (bp_ok hx hl h0 hD k (by omega)).days e h; omega
      · rw [List.mem_singleton] at h; omega) hcp w hs (by rw [hlk, flat_snoc]; exact ht)
    rwa [hlk] at this))
  have HBT := Lib.hid (fun k => show bpTo xs h D (k + 1) = bpTo xs h D k ++ [bday xs h D (mostOf xs h D []) (bpTo xs h D k)] from rfl)
  have HBL := Lib.hid (bpTo_len xs h D)
  clear hx hs
  obtain ⟨V, hV⟩ : ∃ V, V = mostOf xs h D [] := ⟨_, rfl⟩
  have HVE := Lib.hid hV
  rw [← hV] at TA0 HBT BD HV0
  clear hV
  go_enter Try.func58, Try.ntmps58
  go_wp2_with (first
    | ((with_reducible refine gate_dst (N := 15) rfl ?_); go_must (refine M.out.ev_bs0 elem_int64 rfl rfl ?_); intro gv15 wv15 m; simp only [List.cons_append, List.nil_append] at m; have M := Lib.hid m; clear m)
    | (go_at_call 74; go_must (refine (TA0.out _ _ _ (M.out.sl HS.out) (M.out.slof 0 rfl)).mono ?_); rintro e w_ ⟨rfl, N_⟩; have m := M.out.join N_; clear N_; simp only [List.cons_append, List.nil_append, List.append_nil] at m; have M := Lib.hid m; clear m)
    | ((with_reducible refine gate_dst (N := 17) rfl ?_); go_must (refine M.out.ev_bs0 elem_int64 rfl rfl ?_); intro gv17 wv17 m; simp only [List.cons_append, List.nil_append] at m; have M := Lib.hid m; clear m)
    | ((with_reducible refine gate_dst (N := 9) rfl ?_); go_must (refine M.out.ev_new rfl (by first | (go_simp; done) | (go_simp; rfl)) ?_); intro g9 w9 m; simp only [List.cons_append, List.nil_append] at m; have M := Lib.hid m; clear m)
    | ((with_reducible refine gate_store (x := .tmp 9) rfl ?_); go_must (refine M.out.ev_stw 2 _ _ _ rfl rfl rfl rfl _ rfl (by first | rfl | (simp only [S1.out]; rfl) | (simp only [S1.out, S2.out]; rfl) | (simp only [S3.out]; rfl) | (simp only [S1.out, S2.out, S3.out]; rfl)) (by first | exact sz98 | (rw [S1.out]; exact sz98) | (rw [S2.out]; exact sz98) | (rw [S3.out]; exact sz98)) (by first | exact ints_one _ _ | exact Fld.one _ | exact O1.out | exact Plot.one _ | rfl | (simp [Value.oneCell']; done)) rfl ?_); intro wn m; simp only [List.set_cons_succ, List.set_cons_zero, List.setIfInBounds_toArray] at m; have M := Lib.hid m; clear m)
    | ((with_reducible refine gate_dst (N := 54) rfl ?_); go_must (refine M.out.ev_ld 2 _ _ rfl rfl rfl Try.underlying2 rfl rfl (by first | assumption | rfl) ?_))
    | ((with_reducible refine gate_store (x := .tmp 56) rfl ?_); go_must (refine M.out.ev_put 2 _ _ _ rfl rfl rfl rfl (.int _ _) rfl (by first | assumption | exact Fld.lt0 _ | exact Fld.lt1 _ | (simp; done) | (simp only [ints_size]; omega)) sz2 rfl rfl ?_); intro wn m; simp only [List.set_cons_succ, List.set_cons_zero, List.setIfInBounds_toArray] at m; have M := Lib.hid m; clear m)
    )
  try simp only [Act.put, List.getElem_toArray, List.getElem_cons_succ, List.getElem_cons_zero, List.setIfInBounds_toArray, List.set_cons_succ, List.set_cons_zero]
  go_loopw [8] (fun s wr => ∃ k : Nat, k ≤ xs.length ∧ Mem w wr [.row s 2 1 k (flat oneI (bpTo xs h D k)), .blk g9 98 (ints .i64 (usedOf (bpTo xs h D k)))] ∧ (∃ B c, s = .slice B k c))
    (fun s _ => xs.length - lenV s)
  case atStart => exact ⟨0, by omega, M.out.only [1, 2] rfl (by decide), _, _, rfl⟩
  case round =>
    clear M
    obtain ⟨k, hk, m, B, c, rfl⟩ := hrel
    have M := Lib.hid m
    clear m
    by_cases hlt : k < xs.length
    · have hc := (M.out.row_le 0 rfl).1
      have i1 : (k : Int) < (xs.length : Int) := by omega
      obtain ⟨j0, hj0, hb0, H0, hl0⟩ := BD.out k hlt
      have HB1 := Lib.hid (HBT.out k)
      rw [hb0] at HB1
      have HL0 := Lib.hid hl0
      have TAK := Lib.hid (TAP.out k hlt)
      have HE0 := Lib.hid H0.val
      have HC0 := Lib.hid H0.caps
      rw [← HVE.out] at HE0
      have HLK := Lib.hid (HBL.out k)
      have HCK := Lib.hid (BK.out k hk).caps
      obtain ⟨p, hp⟩ : ∃ p, p = bpTo xs h D k := ⟨_, rfl⟩
      rw [← hp] at HB1 HL0 TAK HE0 M HLK HCK HC0
      clear hb0 H0 hl0 hp
      go_wp2
      go_loopw [10] (fun v wr => ∃ (j : Nat) (d : Int), j ≤ j0 ∧ d = (j : Int) - 1 ∧ v = .int .i64 d ∧ Mem w wr [.row (.slice B k c) 2 1 k (flat oneI p), .blk g9 98 (ints .i64 (usedOf p))])
        (fun v _ => j0 + 1 - (intOf v + 1).toNat)
      case atStart => exact ⟨0, -1, by omega, rfl, rfl, M.out⟩
      case round =>
        clear M
        obtain ⟨j, d, hj, hjd, rfl, m⟩ := hrel
        have M := Lib.hid m
        clear m
        have hq : j < j0 ∧ mostOf xs h D (p ++ [d]) < V ∨ j = j0 ∧ mostOf xs h D (p ++ [d]) = V := by
          rw [hjd]
          rcases Nat.lt_or_ge j j0 with h9 | h9
          · exact .inl ⟨h9, HL0.out j h9⟩
          · have : j = j0 := by omega
            subst this
            exact .inr ⟨rfl, HE0.out⟩
        have HJD := Lib.hid hjd
        have hcj : j = j0 → ∀ e : Nat, e < D → 0 ≤ capOf h (p ++ [d]) e := fun h9 => by rw [hjd, h9]; exact HC0.out
        have w1 : IntKind.i64.wrap (d + 1) = d + 1 := IntWalk.i64_in _ (by omega)
        by_cases hd0 : d < 0
        · obtain rfl : d = -1 := by omega
          obtain rfl : j = 0 := by omega
          have TAJ := Lib.hid (TAK.out (-1) (by omega) (fun e he => by rw [capOf_snoc, if_neg (by omega)]; have := HCK.out e he; omega))
          obtain ⟨q, hqe⟩ : ∃ q, q = mostOf xs h D (p ++ [-1]) := ⟨_, rfl⟩
          rw [← hqe] at TAJ hq
          clear hqe hcj hjd
          rcases hq with ⟨hjj, hq⟩ | ⟨hjj, hq⟩
          · have HJ := Lib.hid hjj
            have q2 : (q == V) = false := by rw [beq_eq_false_iff_ne]; omega
            clear hjj
            go_wp2_with (first
              | ((with_reducible refine gate_dst (N := 38) rfl ?_); refine gate_want rfl ?_; go_must (refine M.out.ev_bs0 elem_int64 rfl rfl ?_); intro gv38 wv38 m; simp only [List.cons_append, List.nil_append] at m; have M := Lib.hid m; clear m)
              | ((with_reducible refine gate_dst (N := 40) rfl ?_); refine gate_want rfl ?_; go_must (refine M.out.ev_appends 2 elem_int64 rfl _ _ rfl rfl rfl rfl ((M.out.slof 0 rfl)) (M.out.row_none 0 rfl) (by omega) (flat_one oneI_ones _) (by omega) (by decide) ?_); intro v40 w40 m; simp only [List.set_cons_succ, List.set_cons_zero, List.nil_append, Nat.zero_add] at m; have M := Lib.hid m; clear m)
              | ((with_reducible refine gate_dst (N := 42) rfl ?_); refine gate_want rfl ?_; go_must (refine M.out.ev_bs1 elem_int64 rfl _ rfl #[.int .i64 (-1)] rfl rfl (by decide) ?_); intro g42 w42 m; simp only [List.cons_append, List.nil_append] at m; have M := Lib.hid m; clear m)
              | ((with_reducible refine gate_dst (N := 43) rfl ?_); refine gate_want rfl ?_; go_must (refine M.out.ev_append1 2 3 elem_int64 rfl _ _ rfl rfl rfl rfl rfl rfl (by simp [Value.oneCell']) (by omega) (by decide) ?_); intro v43 w43 m; simp only [List.set_cons_succ, List.set_cons_zero] at m; have M := Lib.hid m; clear m; obtain ⟨B43, c43, rfl, hc43, _⟩ := M.out.row_slice 2 rfl)
              | (go_at_call 74; go_must (refine (TAJ.out _ _ _ (M.out.sl HS.out) (M.out.slof 2 rfl)).mono ?_); rintro e w_ ⟨rfl, N_⟩; have m := M.out.join N_; clear N_; simp only [List.cons_append, List.nil_append, List.append_nil] at m; have M := Lib.hid m; clear m)
              )
            have hjj := HJ.out
            exact ⟨⟨1, 0, by omega, by omega, rfl, M.out.take 2⟩, by simp [intOf]; try omega⟩
          · have HJ := Lib.hid hjj
            subst hq
            have q2 : (q == q) = true := by simp
            clear hjj
            go_wp2_with (first
              | ((with_reducible refine gate_dst (N := 38) rfl ?_); refine gate_want rfl ?_; go_must (refine M.out.ev_bs0 elem_int64 rfl rfl ?_); intro gv38 wv38 m; simp only [List.cons_append, List.nil_append] at m; have M := Lib.hid m; clear m)
              | ((with_reducible refine gate_dst (N := 40) rfl ?_); refine gate_want rfl ?_; go_must (refine M.out.ev_appends 2 elem_int64 rfl _ _ rfl rfl rfl rfl ((M.out.slof 0 rfl)) (M.out.row_none 0 rfl) (by omega) (flat_one oneI_ones _) (by omega) (by decide) ?_); intro v40 w40 m; simp only [List.set_cons_succ, List.set_cons_zero, List.nil_append, Nat.zero_add] at m; have M := Lib.hid m; clear m)
              | ((with_reducible refine gate_dst (N := 42) rfl ?_); refine gate_want rfl ?_; go_must (refine M.out.ev_bs1 elem_int64 rfl _ rfl #[.int .i64 (-1)] rfl rfl (by decide) ?_); intro g42 w42 m; simp only [List.cons_append, List.nil_append] at m; have M := Lib.hid m; clear m)
              | ((with_reducible refine gate_dst (N := 43) rfl ?_); refine gate_want rfl ?_; go_must (refine M.out.ev_append1 2 3 elem_int64 rfl _ _ rfl rfl rfl rfl rfl rfl (by simp [Value.oneCell']) (by omega) (by decide) ?_); intro v43 w43 m; simp only [List.set_cons_succ, List.set_cons_zero] at m; have M := Lib.hid m; clear m; obtain ⟨B43, c43, rfl, hc43, _⟩ := M.out.row_slice 2 rfl)
              | (go_at_call 74; go_must (refine (TAJ.out _ _ _ (M.out.sl HS.out) (M.out.slof 2 rfl)).mono ?_); rintro e w_ ⟨rfl, N_⟩; have m := M.out.join N_; clear N_; simp only [List.cons_append, List.nil_append, List.append_nil] at m; have M := Lib.hid m; clear m)
              | ((with_reducible refine gate_dst (N := 59) rfl ?_); go_must (refine M.out.ev_bs1 elem_int64 rfl _ rfl #[.int .i64 (-1)] rfl rfl (by decide) ?_); intro g59 w59 m; simp only [List.cons_append, List.nil_append] at m; have M := Lib.hid m; clear m)
              | ((with_reducible refine gate_dst (N := 60) rfl ?_); go_must (refine M.out.ev_append1 0 4 elem_int64 rfl _ _ rfl rfl rfl rfl rfl rfl (by simp [Value.oneCell']) (by omega) (by decide) ?_); intro v60 w60 m; simp only [List.set_cons_succ, List.set_cons_zero] at m; have M := Lib.hid m; clear m)
              | ((with_reducible refine gate_dst (N := 9) rfl ?_); go_must (refine M.out.ev_new rfl (by first | (go_simp; done) | (go_simp; rfl)) ?_); intro g9 w9 m; simp only [List.cons_append, List.nil_append] at m; have M := Lib.hid m; clear m)
              | ((with_reducible refine gate_store (x := .tmp 9) rfl ?_); go_must (refine M.out.ev_stw 1 _ _ _ rfl rfl rfl rfl _ rfl (by first | rfl | (simp only [S1.out]; rfl) | (simp only [S1.out, S2.out]; rfl) | (simp only [S3.out]; rfl) | (simp only [S1.out, S2.out, S3.out]; rfl)) (by first | exact sz98 | (rw [S1.out]; exact sz98) | (rw [S2.out]; exact sz98) | (rw [S3.out]; exact sz98)) (by first | exact ints_one _ _ | exact Fld.one _ | exact O1.out | exact Plot.one _ | rfl | (simp [Value.oneCell']; done)) rfl ?_); intro wn m; simp only [List.set_cons_succ, List.set_cons_zero, List.setIfInBounds_toArray] at m; have M := Lib.hid m; clear m)
              | ((with_reducible refine gate_dst (N := 54) rfl ?_); go_must (refine M.out.ev_ld 1 _ _ rfl rfl rfl Try.underlying2 rfl rfl (by first | assumption | rfl) ?_))
              | ((with_reducible refine gate_store (x := .tmp 56) rfl ?_); go_must (refine M.out.ev_put 1 _ _ _ rfl rfl rfl rfl (.int _ _) rfl (by first | assumption | exact Fld.lt0 _ | exact Fld.lt1 _ | (simp; done) | (simp only [ints_size]; omega)) sz2 rfl rfl ?_); intro wn m; simp only [List.set_cons_succ, List.set_cons_zero, List.setIfInBounds_toArray] at m; have M := Lib.hid m; clear m)
              )
            have hjj := HJ.out
            subst hjj
            have hgl : lenV v60 = k + 1 := by obtain ⟨B60, c60, rfl, _⟩ := M.out.row_slice 0 rfl; rfl
            refine ⟨⟨k + 1, by omega, ?_, by obtain ⟨B60, c60, rfl, _⟩ := M.out.row_slice 0 rfl; exact ⟨_, _, rfl⟩⟩, by rw [hgl]; simp [lenV]; try omega⟩
            have m := M.out.take 2
            rw [HB1.out, flat_snoc, show ((0 : Nat) : Int) - 1 = -1 from rfl, usedOf_neg]
            exact m
        · obtain ⟨y, rfl⟩ : ∃ y : Nat, d = y := ⟨d.toNat, by omega⟩
          obtain rfl : j = y + 1 := by omega
          have i2 : (0 : Int) ≤ (y : Int) := by omega
          have i3 : (y : Int) < 20 := by omega
          have HUG := Lib.hid (usedOf_gi p (e := y) (by omega))
          have q28 : (ints .i64 (usedOf p))[y]? = some (.int .i64 (gi (usedOf p) y)) := ints_at (by rw [usedOf_len]; omega)
          have hsz : y < (ints .i64 (usedOf p)).size := by rw [ints_size, usedOf_len]; omega
          have HUS := Lib.hid (usedOf_set p (y := y) (by omega))
          have hcl := List.count_le_length (a := (y : Int)) (l := p)
          rw [HLK.out] at hcl
          have x0 : wr.cell? ⟨g9, y, none⟩ = some (.int .i64 (gi (usedOf p) y)) := M.out.cell 1 rfl q28
          have hcd : capOf h (p ++ [(y : Int)]) y = h - gi (usedOf p) y - 1 := by rw [capOf_snoc, if_pos rfl, HUG.out]; rfl
          have hce : ∀ e : Nat, e < D → gi (usedOf p) y < h → 0 ≤ capOf h (p ++ [(y : Int)]) e := fun e he hu => by
            by_cases hye : y = e
            · subst hye; omega
            · rw [capOf_snoc, if_neg (by omega)]; have := HCK.out e he; omega
          have hub : 0 ≤ gi (usedOf p) y ∧ gi (usedOf p) y ≤ 6 := by rw [HUG.out]; omega
          have hcy : y + 1 = j0 → gi (usedOf p) y < h := fun h9 => by have := hcj h9 y (by omega); omega
          obtain ⟨u, hu⟩ : ∃ u, u = gi (usedOf p) y := ⟨_, rfl⟩
          rw [← hu] at q28 HUS x0 hce hub hcy
          have w2 : IntKind.i64.wrap (u + 1) = u + 1 := IntWalk.i64_in _ (by omega)
          clear hcd hcj hjd hcl HUG hd0 hu
          by_cases huh : u < h
          · have TAJ := Lib.hid (TAK.out (y : Int) (by omega) (fun e he => hce e he huh))
            obtain ⟨q, hqe⟩ : ∃ q, q = mostOf xs h D (p ++ [(y : Int)]) := ⟨_, rfl⟩
            rw [← hqe] at TAJ hq
            clear hqe hce hcy
            rcases hq with ⟨hjj, hq⟩ | ⟨hjj, hq⟩
            · have HJ := Lib.hid hjj
              have q2 : (q == V) = false := by rw [beq_eq_false_iff_ne]; omega
              clear hjj
              go_wp2_with (first
                | ((with_reducible refine gate_dst (N := 38) rfl ?_); refine gate_want rfl ?_; go_must (refine M.out.ev_bs0 elem_int64 rfl rfl ?_); intro gv38 wv38 m; simp only [List.cons_append, List.nil_append] at m; have M := Lib.hid m; clear m)
                | ((with_reducible refine gate_dst (N := 40) rfl ?_); refine gate_want rfl ?_; go_must (refine M.out.ev_appends 2 elem_int64 rfl _ _ rfl rfl rfl rfl ((M.out.slof 0 rfl)) (M.out.row_none 0 rfl) (by omega) (flat_one oneI_ones _) (by omega) (by decide) ?_); intro v40 w40 m; simp only [List.set_cons_succ, List.set_cons_zero, List.nil_append, Nat.zero_add] at m; have M := Lib.hid m; clear m)
                | ((with_reducible refine gate_dst (N := 42) rfl ?_); refine gate_want rfl ?_; go_must (refine M.out.ev_bs1 elem_int64 rfl _ rfl #[.int .i64 (y : Int)] rfl rfl (by decide) ?_); intro g42 w42 m; simp only [List.cons_append, List.nil_append] at m; have M := Lib.hid m; clear m)
                | ((with_reducible refine gate_dst (N := 43) rfl ?_); refine gate_want rfl ?_; go_must (refine M.out.ev_append1 2 3 elem_int64 rfl _ _ rfl rfl rfl rfl rfl rfl (by simp [Value.oneCell']) (by omega) (by decide) ?_); intro v43 w43 m; simp only [List.set_cons_succ, List.set_cons_zero] at m; have M := Lib.hid m; clear m; obtain ⟨B43, c43, rfl, hc43, _⟩ := M.out.row_slice 2 rfl)
                | (go_at_call 74; go_must (refine (TAJ.out _ _ _ (M.out.sl HS.out) (M.out.slof 2 rfl)).mono ?_); rintro e w_ ⟨rfl, N_⟩; have m := M.out.join N_; clear N_; simp only [List.cons_append, List.nil_append, List.append_nil] at m; have M := Lib.hid m; clear m)
                )
              have hjj := HJ.out
              exact ⟨⟨y + 2, y + 1, by omega, by omega, by go_num, M.out.take 2⟩, by simp [intOf]; try omega⟩
            · have HJ := Lib.hid hjj
              subst hq
              have q2 : (q == q) = true := by simp
              clear hjj
              go_wp2_with (first
                | ((with_reducible refine gate_dst (N := 38) rfl ?_); refine gate_want rfl ?_; go_must (refine M.out.ev_bs0 elem_int64 rfl rfl ?_); intro gv38 wv38 m; simp only [List.cons_append, List.nil_append] at m; have M := Lib.hid m; clear m)
                | ((with_reducible refine gate_dst (N := 40) rfl ?_); refine gate_want rfl ?_; go_must (refine M.out.ev_appends 2 elem_int64 rfl _ _ rfl rfl rfl rfl ((M.out.slof 0 rfl)) (M.out.row_none 0 rfl) (by omega) (flat_one oneI_ones _) (by omega) (by decide) ?_); intro v40 w40 m; simp only [List.set_cons_succ, List.set_cons_zero, List.nil_append, Nat.zero_add] at m; have M := Lib.hid m; clear m)
                | ((with_reducible refine gate_dst (N := 42) rfl ?_); refine gate_want rfl ?_; go_must (refine M.out.ev_bs1 elem_int64 rfl _ rfl #[.int .i64 (y : Int)] rfl rfl (by decide) ?_); intro g42 w42 m; simp only [List.cons_append, List.nil_append] at m; have M := Lib.hid m; clear m)
                | ((with_reducible refine gate_dst (N := 43) rfl ?_); refine gate_want rfl ?_; go_must (refine M.out.ev_append1 2 3 elem_int64 rfl _ _ rfl rfl rfl rfl rfl rfl (by simp [Value.oneCell']) (by omega) (by decide) ?_); intro v43 w43 m; simp only [List.set_cons_succ, List.set_cons_zero] at m; have M := Lib.hid m; clear m; obtain ⟨B43, c43, rfl, hc43, _⟩ := M.out.row_slice 2 rfl)
                | (go_at_call 74; go_must (refine (TAJ.out _ _ _ (M.out.sl HS.out) (M.out.slof 2 rfl)).mono ?_); rintro e w_ ⟨rfl, N_⟩; have m := M.out.join N_; clear N_; simp only [List.cons_append, List.nil_append, List.append_nil] at m; have M := Lib.hid m; clear m)
                | ((with_reducible refine gate_dst (N := 59) rfl ?_); go_must (refine M.out.ev_bs1 elem_int64 rfl _ rfl #[.int .i64 (y : Int)] rfl rfl (by decide) ?_); intro g59 w59 m; simp only [List.cons_append, List.nil_append] at m; have M := Lib.hid m; clear m)
                | ((with_reducible refine gate_dst (N := 60) rfl ?_); go_must (refine M.out.ev_append1 0 4 elem_int64 rfl _ _ rfl rfl rfl rfl rfl rfl (by simp [Value.oneCell']) (by omega) (by decide) ?_); intro v60 w60 m; simp only [List.set_cons_succ, List.set_cons_zero] at m; have M := Lib.hid m; clear m)
                | ((with_reducible refine gate_dst (N := 9) rfl ?_); go_must (refine M.out.ev_new rfl (by first | (go_simp; done) | (go_simp; rfl)) ?_); intro g9 w9 m; simp only [List.cons_append, List.nil_append] at m; have M := Lib.hid m; clear m)
                | ((with_reducible refine gate_store (x := .tmp 9) rfl ?_); go_must (refine M.out.ev_stw 1 _ _ _ rfl rfl rfl rfl _ rfl (by first | rfl | (simp only [S1.out]; rfl) | (simp only [S1.out, S2.out]; rfl) | (simp only [S3.out]; rfl) | (simp only [S1.out, S2.out, S3.out]; rfl)) (by first | exact sz98 | (rw [S1.out]; exact sz98) | (rw [S2.out]; exact sz98) | (rw [S3.out]; exact sz98)) (by first | exact ints_one _ _ | exact Fld.one _ | exact O1.out | exact Plot.one _ | rfl | (simp [Value.oneCell']; done)) rfl ?_); intro wn m; simp only [List.set_cons_succ, List.set_cons_zero, List.setIfInBounds_toArray] at m; have M := Lib.hid m; clear m)
                | ((with_reducible refine gate_dst (N := 54) rfl ?_); go_must (refine M.out.ev_ld 1 _ _ rfl rfl rfl Try.underlying2 rfl rfl (by first | assumption | rfl) ?_))
                | ((with_reducible refine gate_store (x := .tmp 56) rfl ?_); go_must (refine M.out.ev_put 1 _ _ _ rfl rfl rfl rfl (.int _ _) rfl (by first | assumption | exact Fld.lt0 _ | exact Fld.lt1 _ | (simp; done) | (simp only [ints_size]; omega)) sz2 rfl rfl ?_); intro wn m; simp only [List.set_cons_succ, List.set_cons_zero, List.setIfInBounds_toArray] at m; have M := Lib.hid m; clear m)
                )
              have hjj := HJ.out
              subst hjj
              have hgl : lenV v60 = k + 1 := by obtain ⟨B60, c60, rfl, _⟩ := M.out.row_slice 0 rfl; rfl
              refine ⟨⟨k + 1, by omega, ?_, by obtain ⟨B60, c60, rfl, _⟩ := M.out.row_slice 0 rfl; exact ⟨_, _, rfl⟩⟩, by rw [hgl]; simp [lenV]; try omega⟩
              have m := M.out.take 2
              rw [HB1.out, flat_snoc, show (((y + 1 : Nat) : Int) - 1) = (y : Int) by omega, HUS.out, ← ints_set]
              exact m
          · have HJ := Lib.hid (show y + 1 < j0 by
              rcases hq with ⟨hjj, _⟩ | ⟨hjj, _⟩
              · exact hjj
              · exact absurd (hcy hjj) huh)
            clear hq hce hcy
            go_wp2
            have hjj := HJ.out
            exact ⟨⟨y + 2, y + 1, by omega, by omega, by go_num, M.out.take 2⟩, by simp [intOf]; try omega⟩
    · obtain rfl : k = xs.length := by omega
      have hc := (M.out.row_le 0 rfl).1
      have i1 : ¬ ((xs.length : Int) < (xs.length : Int)) := by omega
      go_wp2
      go_ret
      exact ⟨_, _, rfl, hc, M.out.take 1⟩
end Go.Proofs.Ytdnofkngljjbmaa
