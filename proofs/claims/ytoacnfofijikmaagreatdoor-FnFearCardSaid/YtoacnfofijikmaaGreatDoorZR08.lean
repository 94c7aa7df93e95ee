/- Texts of a proof, laid together: Add. -/
import Derived.Test.YtoacnfofijikmaaGreatDoorZR07
import Derived.Test.YtoacnfofijikmaaGreatDoorZR06
namespace Go.Proofs.YtoacnfofijikmaaGreatDoor
set_option linter.unusedSimpArgs false
set_option linter.unusedVariables false
open Go.RowKit
attribute [local go_sem] cell?_mk frozen?_mk

/-- Whether a cell is a tree, or a scarecrow stands there. -/
def taken (F : Fld) (xs : List Scarecrow) (k : Nat) : Bool := standsAt xs k || (F.kind k == 3)
set_option maxRecDepth 100000 in
set_option maxHeartbeats 1000000 in
theorem l03Taken_any (g : Nat) {t : TypeId} (F : Fld) (hF : F.ok) (A : Option Addr) (n : Nat) (xs : List Scarecrow) (hx : ∀ x ∈ xs, x.ok) (hl : xs.length ≤ 1048576) (k : Nat) (hk : k < 100) (w : World) (hb : Blk w g t F.cells) (hs : Sl w 3 A xs.length (flat Scarecrow.vals xs)) :
    Calls Tryz.prog 81 #[.pointer (some ⟨g, 0, none⟩), .slice A xs.length n, .int .i64 k] w fun e w' => e = .returned (.bool (taken F xs k)) ∧ w = w' := by
  have HX := Lib.hid hx
  have HS := Lib.hid hs
  have hc0 := hb.cellv (Fld.cellK hF.toLen (k := k) hk)
  have kb := hF.kb k
  have i0 : (0 : Int) ≤ (k : Int) := by omega
  have i1 : (k : Int) < 100 := by omega
  clear hx hs hb
  go_enter Tryz.func81, Tryz.ntmps81
  go_wp2
  go_loop [7] (fun v => ∃ j : Nat, j ≤ xs.length ∧ v = .int .i64 j ∧ standsAt (xs.take j) k = false)
    (fun v => xs.length - (intOf v).toNat)
  case atStart => exact ⟨0, by omega, rfl, rfl⟩
  case round =>
    obtain ⟨j, hj, rfl, he⟩ := hrel
    have HE := Lib.hid he
    clear he
    by_cases hlt : j < xs.length
    · obtain ⟨b, off, rfl, hr⟩ := HS.out.2 (by omega)
      have R := range_at Scarecrow.vl hr (List.getElem?_eq_getElem hlt)
      have x0 : w.cell? ⟨b, off + j * 3, none⟩ = some (.int .i16 xs[j].cell) := R 0 _ rfl
      obtain ⟨o0, o1⟩ := (HX.out xs[j] (List.getElem_mem hlt)).cell
      have ea : IntKind.i64.wrap xs[j].cell = xs[j].cell := IntWalk.i64_in _ (by omega)
      clear hr R
      by_cases hq : xs[j].cell = k
      · have hst : standsAt xs k = true := by
          rw [standsAt, List.any_eq_true]
          exact ⟨xs[j], List.getElem_mem hlt, by simp [hq]⟩
        have HT := Lib.hid hst
        have HQ := Lib.hid hq
        have hqb : (xs[j].cell == (k : Int)) = true := by simp [hq]
        clear hst hq
        go_wp2
        go_ret
        exact ⟨ret_bool (by rw [taken, HT.out]; rfl), rfl⟩
      · have HQ := Lib.hid hq
        have hqb : (xs[j].cell == (k : Int)) = false := by simp [hq]
        clear hq
        go_wp2
        refine ⟨⟨j + 1, by omega, by go_num, ?_⟩, by simp [intOf]; omega⟩
        rw [List.take_succ_eq_append_getElem hlt, standsAt, List.any_append]
        have := HE.out
        rw [standsAt] at this
        rw [this]
        simp [HQ.out]
    · obtain rfl : j = xs.length := by omega
      go_wp2
      go_ret
      have := HE.out
      rw [List.take_length] at this
      exact ⟨ret_bool (by rw [taken, this]; rfl), rfl⟩

def addFine (F : Fld) (c p : Int) : Bool := F.has c && inB p 1 1000
def addCode (F : Fld) (xs : List Scarecrow) (c p : Int) : Int := if scCode F xs (addFine F c p) ≠ 0 then scCode F xs (addFine F c p) else if taken F xs c.toNat = true then 4 else if xs.length = 20 then 3 else 0
def addRes (F : Fld) (xs : List Scarecrow) (c p : Int) : List Scarecrow := if addCode F xs c p = 0 then xs ++ [⟨c, p, 0⟩] else []
set_option maxRecDepth 100000 in
set_option maxHeartbeats 1000000 in
theorem addIs_any (g h k : Nat) {t t' t'' : TypeId} (F : Fld) (hF : F.ok) (c p : Int) (w : World) (hb : Blk w g t F.cells) (hc : Blk w h t' #[.int .i64 c]) (hp : Blk w k t'' #[.int .i64 p]) :
    Calls Tryz.prog 78 #[.pointer (some ⟨g, 0, none⟩), .pointer (some ⟨h, 0, none⟩), .pointer (some ⟨k, 0, none⟩)] w fun e w' => e = .returned (.bool (addFine F c p)) ∧ Mem w w' [] := by
  have M := Lib.hid (Mem.start w)
  have HB := Lib.hid hb
  have hc0 := hc.cellv (i := 0) rfl
  have hp0 := hp.cellv (i := 0) rfl
  clear hb hc hp
  cases hq : F.has c <;>
  · have HQ := Lib.hid hq
    clear hq
    go_enter Tryz.func78, Tryz.ntmps78
    go_wp2_with (first
      | (go_at_call 47; go_must (refine (has_any g F hF c _ HB.out).mono ?_); rintro e w_ ⟨rfl, rfl⟩; rw [HQ.out])
      | (go_at_call 54; go_must (refine (isPower_any _ _).mono ?_); rintro e w_ ⟨rfl, rfl⟩)
      )
    go_ret
    exact ⟨ret_bool (by simp [addFine, HQ.out]), M.out⟩
set_option maxRecDepth 100000 in
set_option maxHeartbeats 2000000 in
theorem impl_AddScare_any (F : Fld) (hF : F.ok) (A : Option Addr) (n : Nat) (xs : List Scarecrow) (hx : ∀ x ∈ xs, x.ok) (hl : xs.length ≤ 1048576) (hc : xs.length ≤ n) (hn : n ≤ 9223372036854775807) (hA : A = none → n = 0) (c p : Int) (w : World) (hs : Sl w 3 A xs.length (flat Scarecrow.vals xs)) :
    Calls Tryz.prog 30 #[.agg F.cells, .slice A xs.length n, .int .i64 c, .int .i64 p] w (RetRowC w 60 3 (addRes F xs c p).length (flat Scarecrow.vals (addRes F xs c p)) (addCode F xs c p)) := by
  have M := Lib.hid (Mem.start w)
  have HX := Lib.hid hx
  have HS := Lib.hid hs
  have HF := Lib.hid hF
  have S1 := Lib.hid (Fld.size hF.toLen)
  have hm : xs.length ≤ 9223372036854775807 := by omega
  clear hx hs hF
  by_cases hd : scCode F xs (addFine F c p) = 0
  · obtain ⟨h1, h2, h3⟩ := scCode_0 hd
    rw [addFine, Bool.and_eq_true] at h3
    obtain ⟨⟨c0, c1⟩, _⟩ := Fld.has_iff.1 h3.1
    obtain ⟨p0, p1⟩ := inB_iff.1 h3.2
    have HQ := Lib.hid h3.1
    have hl20 := (scOk_iff.1 h2).1
    have HD := Lib.hid hd
    have hdd : (scCode F xs (addFine F c p) != 0) = false := by simp [hd]
    obtain ⟨k, rfl⟩ : ∃ k : Nat, c = k := ⟨c.toNat, by omega⟩
    have hk : k < 100 := by omega
    have e1 : IntKind.i16.wrap (k : Int) = k := IntWalk.i16_in _ (by omega)
    have e2 : IntKind.i16.wrap p = p := IntWalk.i16_in _ (by omega)
    have hpl : F.place k = !(F.kind k == 3) := by
      have := h3.1
      simp only [Fld.place, this, Bool.true_and, Int.toNat_natCast]
      rfl
    clear h1 h2 h3 hd
    cases hst : standsAt xs k <;> cases hki : (F.kind k == 3)
    · have HST := Lib.hid hst
      have HPL := Lib.hid (show F.place k = true by rw [hpl, hki]; rfl)
      have HT := Lib.hid (show taken F xs k = false by rw [taken, hst, hki]; rfl)
      clear hst hki hpl
      by_cases h20 : xs.length = 20
      · have H20 := Lib.hid h20
        have hb20 : ((xs.length : Int) == 20) = true := by simp [h20]
        clear h20
        go_enter Tryz.func30, Tryz.ntmps30
        go_wp2_with (first
          | ((with_reducible refine gate_dst (N := 4) rfl ?_); go_must (refine M.out.ev_new rfl (by first | (go_simp; done) | (go_simp; rfl)) ?_); intro g4 w4 m; simp only [List.cons_append, List.nil_append] at m; have M := Lib.hid m; clear m; try have q1_0 := M.out.cell (j := 0) 1 rfl (by first | assumption | rfl); try have q2_0 := M.out.cell (j := 0) 2 rfl (by first | assumption | rfl))
          | ((with_reducible refine gate_dst (N := 6) rfl ?_); go_must (refine M.out.ev_new rfl (by first | (go_simp; done) | (go_simp; rfl)) ?_); intro g6 w6 m; simp only [List.cons_append, List.nil_append] at m; have M := Lib.hid m; clear m; try have q1_0 := M.out.cell (j := 0) 1 rfl (by first | assumption | rfl); try have q2_0 := M.out.cell (j := 0) 2 rfl (by first | assumption | rfl))
          | ((with_reducible refine gate_dst (N := 7) rfl ?_); go_must (refine M.out.ev_new rfl (by first | (go_simp; done) | (go_simp; rfl)) ?_); intro g7 w7 m; simp only [List.cons_append, List.nil_append] at m; have M := Lib.hid m; clear m; try have q1_0 := M.out.cell (j := 0) 1 rfl (by first | assumption | rfl); try have q2_0 := M.out.cell (j := 0) 2 rfl (by first | assumption | rfl))
          | ((with_reducible refine gate_dst (N := 19) rfl ?_); go_must (refine M.out.ev_ld 1 _ _ rfl rfl rfl Tryz.underlying2 rfl rfl (by first | assumption | rfl) ?_))
          | ((with_reducible refine gate_dst (N := 33) rfl ?_); go_must (refine M.out.ev_ld 1 _ _ rfl rfl rfl Tryz.underlying2 rfl rfl (by first | assumption | rfl) ?_))
          | ((with_reducible refine gate_dst (N := 35) rfl ?_); go_must (refine M.out.ev_ld 2 _ _ rfl rfl rfl Tryz.underlying2 rfl rfl (by first | assumption | rfl) ?_))
          | (go_at_call 45; go_must (refine (scaresCode_any _ F HF.out A n xs HX.out hc hn 78 _ (addFine F (k : Int) p) _ (M.out.blk 0 rfl) (M.out.sl HS.out) (fun _ _ => by go_simp) (fun _ w1 m1 => addIs_any _ _ _ F HF.out (k : Int) p w1 ((M.out.join m1).blk 0 rfl) ((M.out.join m1).blk 1 rfl) ((M.out.join m1).blk 2 rfl))).mono ?_); rintro e w_ ⟨rfl, N_⟩; have m := M.out.join N_; clear N_; simp only [List.cons_append, List.nil_append, List.append_nil] at m; have M := Lib.hid m; clear m; have q1 := M.out.cell (j := 0) (v := .int .i64 (k : Int)) 1 rfl rfl)
          | (go_at_call 79; go_must (refine (isPlace_any _ F HF.out _ _ (M.out.blk 0 rfl)).mono ?_); rintro e w_ ⟨rfl, rfl⟩; rw [HPL.out])
          | (go_at_call 80; go_must (refine (stands_any A n xs HX.out hl _ _ (M.out.sl HS.out)).mono ?_); rintro e w_ ⟨rfl, N_⟩; have m := M.out.join N_; clear N_; simp only [List.cons_append, List.nil_append, List.append_nil] at m; have M := Lib.hid m; clear m; rw [HST.out])
          )
        go_ret2
        have m := (M.out.take 0).nilrow 60 3
        have hac : addCode F xs k p = 3 := by simp [addCode, HD.out, HT.out, H20.out]
        rw [addRes, hac]
        exact ⟨none, 0, rfl, Nat.le_refl _, m⟩
      · have H20 := Lib.hid h20
        have hb20 : ((xs.length : Int) == 20) = false := by simp; omega
        clear h20
        go_enter Tryz.func30, Tryz.ntmps30
        go_wp2_with (first
          | ((with_reducible refine gate_dst (N := 4) rfl ?_); go_must (refine M.out.ev_new rfl (by first | (go_simp; done) | (go_simp; rfl)) ?_); intro g4 w4 m; simp only [List.cons_append, List.nil_append] at m; have M := Lib.hid m; clear m; try have q1_0 := M.out.cell (j := 0) 1 rfl (by first | assumption | rfl); try have q2_0 := M.out.cell (j := 0) 2 rfl (by first | assumption | rfl))
          | ((with_reducible refine gate_dst (N := 6) rfl ?_); go_must (refine M.out.ev_new rfl (by first | (go_simp; done) | (go_simp; rfl)) ?_); intro g6 w6 m; simp only [List.cons_append, List.nil_append] at m; have M := Lib.hid m; clear m; try have q1_0 := M.out.cell (j := 0) 1 rfl (by first | assumption | rfl); try have q2_0 := M.out.cell (j := 0) 2 rfl (by first | assumption | rfl))
          | ((with_reducible refine gate_dst (N := 7) rfl ?_); go_must (refine M.out.ev_new rfl (by first | (go_simp; done) | (go_simp; rfl)) ?_); intro g7 w7 m; simp only [List.cons_append, List.nil_append] at m; have M := Lib.hid m; clear m; try have q1_0 := M.out.cell (j := 0) 1 rfl (by first | assumption | rfl); try have q2_0 := M.out.cell (j := 0) 2 rfl (by first | assumption | rfl))
          | ((with_reducible refine gate_dst (N := 19) rfl ?_); go_must (refine M.out.ev_ld 1 _ _ rfl rfl rfl Tryz.underlying2 rfl rfl (by first | assumption | rfl) ?_))
          | ((with_reducible refine gate_dst (N := 33) rfl ?_); go_must (refine M.out.ev_ld 1 _ _ rfl rfl rfl Tryz.underlying2 rfl rfl (by first | assumption | rfl) ?_))
          | ((with_reducible refine gate_dst (N := 35) rfl ?_); go_must (refine M.out.ev_ld 2 _ _ rfl rfl rfl Tryz.underlying2 rfl rfl (by first | assumption | rfl) ?_))
          | (go_at_call 45; go_must (refine (scaresCode_any _ F HF.out A n xs HX.out hc hn 78 _ (addFine F (k : Int) p) _ (M.out.blk 0 rfl) (M.out.sl HS.out) (fun _ _ => by go_simp) (fun _ w1 m1 => addIs_any _ _ _ F HF.out (k : Int) p w1 ((M.out.join m1).blk 0 rfl) ((M.out.join m1).blk 1 rfl) ((M.out.join m1).blk 2 rfl))).mono ?_); rintro e w_ ⟨rfl, N_⟩; have m := M.out.join N_; clear N_; simp only [List.cons_append, List.nil_append, List.append_nil] at m; have M := Lib.hid m; clear m; have q1 := M.out.cell (j := 0) (v := .int .i64 (k : Int)) 1 rfl rfl)
          | (go_at_call 79; go_must (refine (isPlace_any _ F HF.out _ _ (M.out.blk 0 rfl)).mono ?_); rintro e w_ ⟨rfl, rfl⟩; rw [HPL.out])
          | (go_at_call 80; go_must (refine (stands_any A n xs HX.out hl _ _ (M.out.sl HS.out)).mono ?_); rintro e w_ ⟨rfl, N_⟩; have m := M.out.join N_; clear N_; simp only [List.cons_append, List.nil_append, List.append_nil] at m; have M := Lib.hid m; clear m; rw [HST.out])
          )
        refine region_any (by kernel_rfl) ?_
        have m := M.out.drew
        clear M
        have M := Lib.hid m
        clear m
        refine takeD (i := 0) (v := ?v0) 31 rfl (by kernel_rfl) (by kernel_rfl) (by kernel_rfl) (fun _ _ _ h => h) rfl (Or.inl ⟨by first | rfl | (go_simp; done), ?y0⟩) ?r0
        case' y0 =>
          intro w
          go_simp
          try with_reducible rfl
        case' r0 =>
          try simp only [Act.put, List.setIfInBounds_toArray, List.set_cons_succ, List.set_cons_zero]
          refine any3k 1 2 4 (by kernel_rfl) rfl rfl rfl (fun K hK => ?x1_1) (fun K hK => ?x1_2) (fun K hK => ?x1_3)
          case' x1_3 =>
            go_wp2_with (first | ((with_reducible refine gate_dst (N := 33) rfl ?_); go_must (refine M.out.ev_ld 1 _ _ rfl rfl rfl Tryz.underlying2 rfl rfl (by first | assumption | rfl) ?_)) | ((with_reducible refine gate_dst (N := 35) rfl ?_); go_must (refine M.out.ev_ld 2 _ _ rfl rfl rfl Tryz.underlying2 rfl rfl (by first | assumption | rfl) ?_)) | (go_at_call 73; go_must (refine (cloneS_any A n xs hl hc hA _ (M.out.sl HS.out)).mono ?_); rintro e w_ ⟨A_, c_, rfl, hc_, N_⟩; have m := M.out.join N_; clear N_; simp only [List.cons_append, List.nil_append, List.append_nil] at m; have M := Lib.hid m; clear m) | ((with_reducible refine gate_dst (N := 38) rfl ?_); go_must (refine M.out.ev_bs1 elem_Scarecrow rfl _ rfl (Scarecrow.vals ⟨k, p, 0⟩).toArray rfl rfl (by decide) ?_); intro g38 w38 m; simp only [List.cons_append, List.nil_append] at m; have M := Lib.hid m; clear m) | ((with_reducible refine gate_dst (N := 39) rfl ?_); go_must (first | (refine M.out.ev_append1 3 4 elem_Scarecrow rfl _ _ rfl rfl rfl rfl rfl rfl (Scarecrow.one _) (by omega) (by decide) ?_) | (refine M.out.ev_append1 4 3 elem_Scarecrow rfl _ _ rfl rfl rfl rfl rfl rfl (Scarecrow.one _) (by omega) (by decide) ?_)); intro v39 w39 m; simp only [List.set_cons_succ, List.set_cons_zero] at m; have M := Lib.hid m; clear m))
            refine onward_normal (hK _ _ ?_)
            clear hK K
            try simp only [Act.put, List.getElem_toArray, List.getElem_cons_succ, List.getElem_cons_zero, List.setIfInBounds_toArray, List.set_cons_succ, List.set_cons_zero]
            refine takeD (i := 5) (v := ?v2) 36 rfl (by kernel_rfl) (by kernel_rfl) (by kernel_rfl) (fun _ _ _ h => h) rfl (Or.inl ⟨by first | rfl | (go_simp; done), ?y2⟩) ?r2
            case' y2 =>
              intro w
              go_simp
              try with_reducible rfl
            case' r2 =>
              try simp only [Act.put, List.setIfInBounds_toArray, List.set_cons_succ, List.set_cons_zero]
              refine any2k 1 2 (by kernel_rfl) rfl rfl (fun K hK => ?x3_1) (fun K hK => ?x3_2)
              case' x3_2 =>
                go_wp2_with (first | ((with_reducible refine gate_dst (N := 33) rfl ?_); go_must (refine M.out.ev_ld 1 _ _ rfl rfl rfl Tryz.underlying2 rfl rfl (by first | assumption | rfl) ?_)) | ((with_reducible refine gate_dst (N := 35) rfl ?_); go_must (refine M.out.ev_ld 2 _ _ rfl rfl rfl Tryz.underlying2 rfl rfl (by first | assumption | rfl) ?_)) | (go_at_call 73; go_must (refine (cloneS_any A n xs hl hc hA _ (M.out.sl HS.out)).mono ?_); rintro e w_ ⟨A_, c_, rfl, hc_, N_⟩; have m := M.out.join N_; clear N_; simp only [List.cons_append, List.nil_append, List.append_nil] at m; have M := Lib.hid m; clear m) | ((with_reducible refine gate_dst (N := 38) rfl ?_); go_must (refine M.out.ev_bs1 elem_Scarecrow rfl _ rfl (Scarecrow.vals ⟨k, p, 0⟩).toArray rfl rfl (by decide) ?_); intro g38 w38 m; simp only [List.cons_append, List.nil_append] at m; have M := Lib.hid m; clear m) | ((with_reducible refine gate_dst (N := 39) rfl ?_); go_must (first | (refine M.out.ev_append1 3 4 elem_Scarecrow rfl _ _ rfl rfl rfl rfl rfl rfl (Scarecrow.one _) (by omega) (by decide) ?_) | (refine M.out.ev_append1 4 3 elem_Scarecrow rfl _ _ rfl rfl rfl rfl rfl rfl (Scarecrow.one _) (by omega) (by decide) ?_)); intro v39 w39 m; simp only [List.set_cons_succ, List.set_cons_zero] at m; have M := Lib.hid m; clear m))
                refine onward_normal (hK _ _ ?_)
                clear hK K
                try simp only [Act.put, List.getElem_toArray, List.getElem_cons_succ, List.getElem_cons_zero, List.setIfInBounds_toArray, List.set_cons_succ, List.set_cons_zero]
                refine takeD (i := 3) (v := ?v4) 34 rfl (by kernel_rfl) (by kernel_rfl) (by kernel_rfl) (fun _ _ _ h => h) rfl (Or.inl ⟨by first | rfl | (go_simp; done), ?y4⟩) ?r4
                case' y4 =>
                  intro w
                  go_simp
                  try with_reducible rfl
                case' r4 =>
                  try simp only [Act.put, List.setIfInBounds_toArray, List.set_cons_succ, List.set_cons_zero]
                  refine takeD (i := 6) (v := ?v5) 37 rfl (by kernel_rfl) (by kernel_rfl) (by kernel_rfl) (fun _ _ _ h => h) rfl (Or.inl ⟨by first | rfl | (go_simp; done), ?y5⟩) ?r5
                  case' y5 =>
                    intro w
                    go_simp
                    try with_reducible rfl
                  case' r5 =>
                    try simp only [Act.put, List.setIfInBounds_toArray, List.set_cons_succ, List.set_cons_zero]
                    refine any2k 1 7 (by kernel_rfl) rfl rfl (fun K hK => ?x6_1) (fun K hK => ?x6_2)
                    case' x6_2 =>
                      go_wp2_with (first | ((with_reducible refine gate_dst (N := 33) rfl ?_); go_must (refine M.out.ev_ld 1 _ _ rfl rfl rfl Tryz.underlying2 rfl rfl (by first | assumption | rfl) ?_)) | ((with_reducible refine gate_dst (N := 35) rfl ?_); go_must (refine M.out.ev_ld 2 _ _ rfl rfl rfl Tryz.underlying2 rfl rfl (by first | assumption | rfl) ?_)) | (go_at_call 73; go_must (refine (cloneS_any A n xs hl hc hA _ (M.out.sl HS.out)).mono ?_); rintro e w_ ⟨A_, c_, rfl, hc_, N_⟩; have m := M.out.join N_; clear N_; simp only [List.cons_append, List.nil_append, List.append_nil] at m; have M := Lib.hid m; clear m) | ((with_reducible refine gate_dst (N := 38) rfl ?_); go_must (refine M.out.ev_bs1 elem_Scarecrow rfl _ rfl (Scarecrow.vals ⟨k, p, 0⟩).toArray rfl rfl (by decide) ?_); intro g38 w38 m; simp only [List.cons_append, List.nil_append] at m; have M := Lib.hid m; clear m) | ((with_reducible refine gate_dst (N := 39) rfl ?_); go_must (first | (refine M.out.ev_append1 3 4 elem_Scarecrow rfl _ _ rfl rfl rfl rfl rfl rfl (Scarecrow.one _) (by omega) (by decide) ?_) | (refine M.out.ev_append1 4 3 elem_Scarecrow rfl _ _ rfl rfl rfl rfl rfl rfl (Scarecrow.one _) (by omega) (by decide) ?_)); intro v39 w39 m; simp only [List.set_cons_succ, List.set_cons_zero] at m; have M := Lib.hid m; clear m))
                      refine onward_normal (hK _ _ ?_)
                      clear hK K
                      try simp only [Act.put, List.getElem_toArray, List.getElem_cons_succ, List.getElem_cons_zero, List.setIfInBounds_toArray, List.set_cons_succ, List.set_cons_zero]
                      refine any1k 1 (by kernel_rfl) rfl (fun K hK => ?_)
                      go_wp2_with (first | ((with_reducible refine gate_dst (N := 33) rfl ?_); go_must (refine M.out.ev_ld 1 _ _ rfl rfl rfl Tryz.underlying2 rfl rfl (by first | assumption | rfl) ?_)) | ((with_reducible refine gate_dst (N := 35) rfl ?_); go_must (refine M.out.ev_ld 2 _ _ rfl rfl rfl Tryz.underlying2 rfl rfl (by first | assumption | rfl) ?_)) | (go_at_call 73; go_must (refine (cloneS_any A n xs hl hc hA _ (M.out.sl HS.out)).mono ?_); rintro e w_ ⟨A_, c_, rfl, hc_, N_⟩; have m := M.out.join N_; clear N_; simp only [List.cons_append, List.nil_append, List.append_nil] at m; have M := Lib.hid m; clear m) | ((with_reducible refine gate_dst (N := 38) rfl ?_); go_must (refine M.out.ev_bs1 elem_Scarecrow rfl _ rfl (Scarecrow.vals ⟨k, p, 0⟩).toArray rfl rfl (by decide) ?_); intro g38 w38 m; simp only [List.cons_append, List.nil_append] at m; have M := Lib.hid m; clear m) | ((with_reducible refine gate_dst (N := 39) rfl ?_); go_must (first | (refine M.out.ev_append1 3 4 elem_Scarecrow rfl _ _ rfl rfl rfl rfl rfl rfl (Scarecrow.one _) (by omega) (by decide) ?_) | (refine M.out.ev_append1 4 3 elem_Scarecrow rfl _ _ rfl rfl rfl rfl rfl rfl (Scarecrow.one _) (by omega) (by decide) ?_)); intro v39 w39 m; simp only [List.set_cons_succ, List.set_cons_zero] at m; have M := Lib.hid m; clear m))
                      refine onward_normal (hK _ _ ?_)
                      clear hK K
                      try simp only [Act.put, List.getElem_toArray, List.getElem_cons_succ, List.getElem_cons_zero, List.setIfInBounds_toArray, List.set_cons_succ, List.set_cons_zero]
                      refine any1k 8 (by kernel_rfl) rfl (fun K hK => ?_)
                      go_wp2_with (first | ((with_reducible refine gate_dst (N := 33) rfl ?_); go_must (refine M.out.ev_ld 1 _ _ rfl rfl rfl Tryz.underlying2 rfl rfl (by first | assumption | rfl) ?_)) | ((with_reducible refine gate_dst (N := 35) rfl ?_); go_must (refine M.out.ev_ld 2 _ _ rfl rfl rfl Tryz.underlying2 rfl rfl (by first | assumption | rfl) ?_)) | (go_at_call 73; go_must (refine (cloneS_any A n xs hl hc hA _ (M.out.sl HS.out)).mono ?_); rintro e w_ ⟨A_, c_, rfl, hc_, N_⟩; have m := M.out.join N_; clear N_; simp only [List.cons_append, List.nil_append, List.append_nil] at m; have M := Lib.hid m; clear m) | ((with_reducible refine gate_dst (N := 38) rfl ?_); go_must (refine M.out.ev_bs1 elem_Scarecrow rfl _ rfl (Scarecrow.vals ⟨k, p, 0⟩).toArray rfl rfl (by decide) ?_); intro g38 w38 m; simp only [List.cons_append, List.nil_append] at m; have M := Lib.hid m; clear m) | ((with_reducible refine gate_dst (N := 39) rfl ?_); go_must (first | (refine M.out.ev_append1 3 4 elem_Scarecrow rfl _ _ rfl rfl rfl rfl rfl rfl (Scarecrow.one _) (by omega) (by decide) ?_) | (refine M.out.ev_append1 4 3 elem_Scarecrow rfl _ _ rfl rfl rfl rfl rfl rfl (Scarecrow.one _) (by omega) (by decide) ?_)); intro v39 w39 m; simp only [List.set_cons_succ, List.set_cons_zero] at m; have M := Lib.hid m; clear m))
                      refine onward_normal (hK _ _ ?_)
                      clear hK K
                      try simp only [Act.put, List.getElem_toArray, List.getElem_cons_succ, List.getElem_cons_zero, List.setIfInBounds_toArray, List.set_cons_succ, List.set_cons_zero]
                      refine any1k 9 (by kernel_rfl) rfl (fun K hK => ?_)
                      go_wp2
                      refine onward_normal (hK _ _ ?_)
                      clear hK K
                      try simp only [Act.put, List.getElem_toArray, List.getElem_cons_succ, List.getElem_cons_zero, List.setIfInBounds_toArray, List.set_cons_succ, List.set_cons_zero]
                      refine any1k 10 (by kernel_rfl) rfl (fun K hK => ?_)
                      go_wp2
                      refine onward_normal (hK _ _ ?_)
                      clear hK K
                      try simp only [Act.put, List.getElem_toArray, List.getElem_cons_succ, List.getElem_cons_zero, List.setIfInBounds_toArray, List.set_cons_succ, List.set_cons_zero]
                      refine wpAny_done (by kernel_rfl) ?_ _
                    case' x6_1 =>
                      go_wp2_with (first | ((with_reducible refine gate_dst (N := 33) rfl ?_); go_must (refine M.out.ev_ld 1 _ _ rfl rfl rfl Tryz.underlying2 rfl rfl (by first | assumption | rfl) ?_)) | ((with_reducible refine gate_dst (N := 35) rfl ?_); go_must (refine M.out.ev_ld 2 _ _ rfl rfl rfl Tryz.underlying2 rfl rfl (by first | assumption | rfl) ?_)) | (go_at_call 73; go_must (refine (cloneS_any A n xs hl hc hA _ (M.out.sl HS.out)).mono ?_); rintro e w_ ⟨A_, c_, rfl, hc_, N_⟩; have m := M.out.join N_; clear N_; simp only [List.cons_append, List.nil_append, List.append_nil] at m; have M := Lib.hid m; clear m) | ((with_reducible refine gate_dst (N := 38) rfl ?_); go_must (refine M.out.ev_bs1 elem_Scarecrow rfl _ rfl (Scarecrow.vals ⟨k, p, 0⟩).toArray rfl rfl (by decide) ?_); intro g38 w38 m; simp only [List.cons_append, List.nil_append] at m; have M := Lib.hid m; clear m) | ((with_reducible refine gate_dst (N := 39) rfl ?_); go_must (first | (refine M.out.ev_append1 3 4 elem_Scarecrow rfl _ _ rfl rfl rfl rfl rfl rfl (Scarecrow.one _) (by omega) (by decide) ?_) | (refine M.out.ev_append1 4 3 elem_Scarecrow rfl _ _ rfl rfl rfl rfl rfl rfl (Scarecrow.one _) (by omega) (by decide) ?_)); intro v39 w39 m; simp only [List.set_cons_succ, List.set_cons_zero] at m; have M := Lib.hid m; clear m))
                      refine onward_normal (hK _ _ ?_)
                      clear hK K
                      try simp only [Act.put, List.getElem_toArray, List.getElem_cons_succ, List.getElem_cons_zero, List.setIfInBounds_toArray, List.set_cons_succ, List.set_cons_zero]
                      refine any1k 7 (by kernel_rfl) rfl (fun K hK => ?_)
                      go_wp2_with (first | ((with_reducible refine gate_dst (N := 33) rfl ?_); go_must (refine M.out.ev_ld 1 _ _ rfl rfl rfl Tryz.underlying2 rfl rfl (by first | assumption | rfl) ?_)) | ((with_reducible refine gate_dst (N := 35) rfl ?_); go_must (refine M.out.ev_ld 2 _ _ rfl rfl rfl Tryz.underlying2 rfl rfl (by first | assumption | rfl) ?_)) | (go_at_call 73; go_must (refine (cloneS_any A n xs hl hc hA _ (M.out.sl HS.out)).mono ?_); rintro e w_ ⟨A_, c_, rfl, hc_, N_⟩; have m := M.out.join N_; clear N_; simp only [List.cons_append, List.nil_append, List.append_nil] at m; have M := Lib.hid m; clear m) | ((with_reducible refine gate_dst (N := 38) rfl ?_); go_must (refine M.out.ev_bs1 elem_Scarecrow rfl _ rfl (Scarecrow.vals ⟨k, p, 0⟩).toArray rfl rfl (by decide) ?_); intro g38 w38 m; simp only [List.cons_append, List.nil_append] at m; have M := Lib.hid m; clear m) | ((with_reducible refine gate_dst (N := 39) rfl ?_); go_must (first | (refine M.out.ev_append1 3 4 elem_Scarecrow rfl _ _ rfl rfl rfl rfl rfl rfl (Scarecrow.one _) (by omega) (by decide) ?_) | (refine M.out.ev_append1 4 3 elem_Scarecrow rfl _ _ rfl rfl rfl rfl rfl rfl (Scarecrow.one _) (by omega) (by decide) ?_)); intro v39 w39 m; simp only [List.set_cons_succ, List.set_cons_zero] at m; have M := Lib.hid m; clear m))
                      refine onward_normal (hK _ _ ?_)
                      clear hK K
                      try simp only [Act.put, List.getElem_toArray, List.getElem_cons_succ, List.getElem_cons_zero, List.setIfInBounds_toArray, List.set_cons_succ, List.set_cons_zero]
                      refine any1k 8 (by kernel_rfl) rfl (fun K hK => ?_)
                      go_wp2_with (first | ((with_reducible refine gate_dst (N := 33) rfl ?_); go_must (refine M.out.ev_ld 1 _ _ rfl rfl rfl Tryz.underlying2 rfl rfl (by first | assumption | rfl) ?_)) | ((with_reducible refine gate_dst (N := 35) rfl ?_); go_must (refine M.out.ev_ld 2 _ _ rfl rfl rfl Tryz.underlying2 rfl rfl (by first | assumption | rfl) ?_)) | (go_at_call 73; go_must (refine (cloneS_any A n xs hl hc hA _ (M.out.sl HS.out)).mono ?_); rintro e w_ ⟨A_, c_, rfl, hc_, N_⟩; have m := M.out.join N_; clear N_; simp only [List.cons_append, List.nil_append, List.append_nil] at m; have M := Lib.hid m; clear m) | ((with_reducible refine gate_dst (N := 38) rfl ?_); go_must (refine M.out.ev_bs1 elem_Scarecrow rfl _ rfl (Scarecrow.vals ⟨k, p, 0⟩).toArray rfl rfl (by decide) ?_); intro g38 w38 m; simp only [List.cons_append, List.nil_append] at m; have M := Lib.hid m; clear m) | ((with_reducible refine gate_dst (N := 39) rfl ?_); go_must (first | (refine M.out.ev_append1 3 4 elem_Scarecrow rfl _ _ rfl rfl rfl rfl rfl rfl (Scarecrow.one _) (by omega) (by decide) ?_) | (refine M.out.ev_append1 4 3 elem_Scarecrow rfl _ _ rfl rfl rfl rfl rfl rfl (Scarecrow.one _) (by omega) (by decide) ?_)); intro v39 w39 m; simp only [List.set_cons_succ, List.set_cons_zero] at m; have M := Lib.hid m; clear m))
                      refine onward_normal (hK _ _ ?_)
                      clear hK K
                      try simp only [Act.put, List.getElem_toArray, List.getElem_cons_succ, List.getElem_cons_zero, List.setIfInBounds_toArray, List.set_cons_succ, List.set_cons_zero]
                      refine any1k 9 (by kernel_rfl) rfl (fun K hK => ?_)
                      go_wp2
                      refine onward_normal (hK _ _ ?_)
                      clear hK K
                      try simp only [Act.put, List.getElem_toArray, List.getElem_cons_succ, List.getElem_cons_zero, List.setIfInBounds_toArray, List.set_cons_succ, List.set_cons_zero]
                      refine any1k 10 (by kernel_rfl) rfl (fun K hK => ?_)
                      go_wp2
                      refine onward_normal (hK _ _ ?_)
                      clear hK K
                      try simp only [Act.put, List.getElem_toArray, List.getElem_cons_succ, List.getElem_cons_zero, List.setIfInBounds_toArray, List.set_cons_succ, List.set_cons_zero]
                      refine wpAny_done (by kernel_rfl) ?_ _
              case' x3_1 =>
                go_wp2_with (first | ((with_reducible refine gate_dst (N := 33) rfl ?_); go_must (refine M.out.ev_ld 1 _ _ rfl rfl rfl Tryz.underlying2 rfl rfl (by first | assumption | rfl) ?_)) | ((with_reducible refine gate_dst (N := 35) rfl ?_); go_must (refine M.out.ev_ld 2 _ _ rfl rfl rfl Tryz.underlying2 rfl rfl (by first | assumption | rfl) ?_)) | (go_at_call 73; go_must (refine (cloneS_any A n xs hl hc hA _ (M.out.sl HS.out)).mono ?_); rintro e w_ ⟨A_, c_, rfl, hc_, N_⟩; have m := M.out.join N_; clear N_; simp only [List.cons_append, List.nil_append, List.append_nil] at m; have M := Lib.hid m; clear m) | ((with_reducible refine gate_dst (N := 38) rfl ?_); go_must (refine M.out.ev_bs1 elem_Scarecrow rfl _ rfl (Scarecrow.vals ⟨k, p, 0⟩).toArray rfl rfl (by decide) ?_); intro g38 w38 m; simp only [List.cons_append, List.nil_append] at m; have M := Lib.hid m; clear m) | ((with_reducible refine gate_dst (N := 39) rfl ?_); go_must (first | (refine M.out.ev_append1 3 4 elem_Scarecrow rfl _ _ rfl rfl rfl rfl rfl rfl (Scarecrow.one _) (by omega) (by decide) ?_) | (refine M.out.ev_append1 4 3 elem_Scarecrow rfl _ _ rfl rfl rfl rfl rfl rfl (Scarecrow.one _) (by omega) (by decide) ?_)); intro v39 w39 m; simp only [List.set_cons_succ, List.set_cons_zero] at m; have M := Lib.hid m; clear m))
                refine onward_normal (hK _ _ ?_)
                clear hK K
                try simp only [Act.put, List.getElem_toArray, List.getElem_cons_succ, List.getElem_cons_zero, List.setIfInBounds_toArray, List.set_cons_succ, List.set_cons_zero]
                refine any1k 2 (by kernel_rfl) rfl (fun K hK => ?_)
                go_wp2_with (first | ((with_reducible refine gate_dst (N := 33) rfl ?_); go_must (refine M.out.ev_ld 1 _ _ rfl rfl rfl Tryz.underlying2 rfl rfl (by first | assumption | rfl) ?_)) | ((with_reducible refine gate_dst (N := 35) rfl ?_); go_must (refine M.out.ev_ld 2 _ _ rfl rfl rfl Tryz.underlying2 rfl rfl (by first | assumption | rfl) ?_)) | (go_at_call 73; go_must (refine (cloneS_any A n xs hl hc hA _ (M.out.sl HS.out)).mono ?_); rintro e w_ ⟨A_, c_, rfl, hc_, N_⟩; have m := M.out.join N_; clear N_; simp only [List.cons_append, List.nil_append, List.append_nil] at m; have M := Lib.hid m; clear m) | ((with_reducible refine gate_dst (N := 38) rfl ?_); go_must (refine M.out.ev_bs1 elem_Scarecrow rfl _ rfl (Scarecrow.vals ⟨k, p, 0⟩).toArray rfl rfl (by decide) ?_); intro g38 w38 m; simp only [List.cons_append, List.nil_append] at m; have M := Lib.hid m; clear m) | ((with_reducible refine gate_dst (N := 39) rfl ?_); go_must (first | (refine M.out.ev_append1 3 4 elem_Scarecrow rfl _ _ rfl rfl rfl rfl rfl rfl (Scarecrow.one _) (by omega) (by decide) ?_) | (refine M.out.ev_append1 4 3 elem_Scarecrow rfl _ _ rfl rfl rfl rfl rfl rfl (Scarecrow.one _) (by omega) (by decide) ?_)); intro v39 w39 m; simp only [List.set_cons_succ, List.set_cons_zero] at m; have M := Lib.hid m; clear m))
                refine onward_normal (hK _ _ ?_)
                clear hK K
                try simp only [Act.put, List.getElem_toArray, List.getElem_cons_succ, List.getElem_cons_zero, List.setIfInBounds_toArray, List.set_cons_succ, List.set_cons_zero]
                refine any1k 3 (by kernel_rfl) rfl (fun K hK => ?_)
                go_wp2
                refine onward_normal (hK _ _ ?_)
                clear hK K
                try simp only [Act.put, List.getElem_toArray, List.getElem_cons_succ, List.getElem_cons_zero, List.setIfInBounds_toArray, List.set_cons_succ, List.set_cons_zero]
                refine any1k 6 (by kernel_rfl) rfl (fun K hK => ?_)
                go_wp2
                refine onward_normal (hK _ _ ?_)
                clear hK K
                try simp only [Act.put, List.getElem_toArray, List.getElem_cons_succ, List.getElem_cons_zero, List.setIfInBounds_toArray, List.set_cons_succ, List.set_cons_zero]
                refine any1k 7 (by kernel_rfl) rfl (fun K hK => ?_)
                go_wp2_with (first | ((with_reducible refine gate_dst (N := 33) rfl ?_); go_must (refine M.out.ev_ld 1 _ _ rfl rfl rfl Tryz.underlying2 rfl rfl (by first | assumption | rfl) ?_)) | ((with_reducible refine gate_dst (N := 35) rfl ?_); go_must (refine M.out.ev_ld 2 _ _ rfl rfl rfl Tryz.underlying2 rfl rfl (by first | assumption | rfl) ?_)) | (go_at_call 73; go_must (refine (cloneS_any A n xs hl hc hA _ (M.out.sl HS.out)).mono ?_); rintro e w_ ⟨A_, c_, rfl, hc_, N_⟩; have m := M.out.join N_; clear N_; simp only [List.cons_append, List.nil_append, List.append_nil] at m; have M := Lib.hid m; clear m) | ((with_reducible refine gate_dst (N := 38) rfl ?_); go_must (refine M.out.ev_bs1 elem_Scarecrow rfl _ rfl (Scarecrow.vals ⟨k, p, 0⟩).toArray rfl rfl (by decide) ?_); intro g38 w38 m; simp only [List.cons_append, List.nil_append] at m; have M := Lib.hid m; clear m) | ((with_reducible refine gate_dst (N := 39) rfl ?_); go_must (first | (refine M.out.ev_append1 3 4 elem_Scarecrow rfl _ _ rfl rfl rfl rfl rfl rfl (Scarecrow.one _) (by omega) (by decide) ?_) | (refine M.out.ev_append1 4 3 elem_Scarecrow rfl _ _ rfl rfl rfl rfl rfl rfl (Scarecrow.one _) (by omega) (by decide) ?_)); intro v39 w39 m; simp only [List.set_cons_succ, List.set_cons_zero] at m; have M := Lib.hid m; clear m))
                refine onward_normal (hK _ _ ?_)
                clear hK K
                try simp only [Act.put, List.getElem_toArray, List.getElem_cons_succ, List.getElem_cons_zero, List.setIfInBounds_toArray, List.set_cons_succ, List.set_cons_zero]
                refine any1k 8 (by kernel_rfl) rfl (fun K hK => ?_)
                go_wp2_with (first | ((with_reducible refine gate_dst (N := 33) rfl ?_); go_must (refine M.out.ev_ld 1 _ _ rfl rfl rfl Tryz.underlying2 rfl rfl (by first | assumption | rfl) ?_)) | ((with_reducible refine gate_dst (N := 35) rfl ?_); go_must (refine M.out.ev_ld 2 _ _ rfl rfl rfl Tryz.underlying2 rfl rfl (by first | assumption | rfl) ?_)) | (go_at_call 73; go_must (refine (cloneS_any A n xs hl hc hA _ (M.out.sl HS.out)).mono ?_); rintro e w_ ⟨A_, c_, rfl, hc_, N_⟩; have m := M.out.join N_; clear N_; simp only [List.cons_append, List.nil_append, List.append_nil] at m; have M := Lib.hid m; clear m) | ((with_reducible refine gate_dst (N := 38) rfl ?_); go_must (refine M.out.ev_bs1 elem_Scarecrow rfl _ rfl (Scarecrow.vals ⟨k, p, 0⟩).toArray rfl rfl (by decide) ?_); intro g38 w38 m; simp only [List.cons_append, List.nil_append] at m; have M := Lib.hid m; clear m) | ((with_reducible refine gate_dst (N := 39) rfl ?_); go_must (first | (refine M.out.ev_append1 3 4 elem_Scarecrow rfl _ _ rfl rfl rfl rfl rfl rfl (Scarecrow.one _) (by omega) (by decide) ?_) | (refine M.out.ev_append1 4 3 elem_Scarecrow rfl _ _ rfl rfl rfl rfl rfl rfl (Scarecrow.one _) (by omega) (by decide) ?_)); intro v39 w39 m; simp only [List.set_cons_succ, List.set_cons_zero] at m; have M := Lib.hid m; clear m))
                refine onward_normal (hK _ _ ?_)
                clear hK K
                try simp only [Act.put, List.getElem_toArray, List.getElem_cons_succ, List.getElem_cons_zero, List.setIfInBounds_toArray, List.set_cons_succ, List.set_cons_zero]
                refine any1k 9 (by kernel_rfl) rfl (fun K hK => ?_)
                go_wp2
                refine onward_normal (hK _ _ ?_)
                clear hK K
                try simp only [Act.put, List.getElem_toArray, List.getElem_cons_succ, List.getElem_cons_zero, List.setIfInBounds_toArray, List.set_cons_succ, List.set_cons_zero]
                refine any1k 10 (by kernel_rfl) rfl (fun K hK => ?_)
                go_wp2
                refine onward_normal (hK _ _ ?_)
                clear hK K
                try simp only [Act.put, List.getElem_toArray, List.getElem_cons_succ, List.getElem_cons_zero, List.setIfInBounds_toArray, List.set_cons_succ, List.set_cons_zero]
                refine wpAny_done (by kernel_rfl) ?_ _
          case' x1_2 =>
            go_wp2_with (first | ((with_reducible refine gate_dst (N := 33) rfl ?_); go_must (refine M.out.ev_ld 1 _ _ rfl rfl rfl Tryz.underlying2 rfl rfl (by first | assumption | rfl) ?_)) | ((with_reducible refine gate_dst (N := 35) rfl ?_); go_must (refine M.out.ev_ld 2 _ _ rfl rfl rfl Tryz.underlying2 rfl rfl (by first | assumption | rfl) ?_)) | (go_at_call 73; go_must (refine (cloneS_any A n xs hl hc hA _ (M.out.sl HS.out)).mono ?_); rintro e w_ ⟨A_, c_, rfl, hc_, N_⟩; have m := M.out.join N_; clear N_; simp only [List.cons_append, List.nil_append, List.append_nil] at m; have M := Lib.hid m; clear m) | ((with_reducible refine gate_dst (N := 38) rfl ?_); go_must (refine M.out.ev_bs1 elem_Scarecrow rfl _ rfl (Scarecrow.vals ⟨k, p, 0⟩).toArray rfl rfl (by decide) ?_); intro g38 w38 m; simp only [List.cons_append, List.nil_append] at m; have M := Lib.hid m; clear m) | ((with_reducible refine gate_dst (N := 39) rfl ?_); go_must (first | (refine M.out.ev_append1 3 4 elem_Scarecrow rfl _ _ rfl rfl rfl rfl rfl rfl (Scarecrow.one _) (by omega) (by decide) ?_) | (refine M.out.ev_append1 4 3 elem_Scarecrow rfl _ _ rfl rfl rfl rfl rfl rfl (Scarecrow.one _) (by omega) (by decide) ?_)); intro v39 w39 m; simp only [List.set_cons_succ, List.set_cons_zero] at m; have M := Lib.hid m; clear m))
            refine onward_normal (hK _ _ ?_)
            clear hK K
            try simp only [Act.put, List.getElem_toArray, List.getElem_cons_succ, List.getElem_cons_zero, List.setIfInBounds_toArray, List.set_cons_succ, List.set_cons_zero]
            refine takeD (i := 3) (v := ?v7) 34 rfl (by kernel_rfl) (by kernel_rfl) (by kernel_rfl) (fun _ _ _ h => h) rfl (Or.inl ⟨by first | rfl | (go_simp; done), ?y7⟩) ?r7
            case' y7 =>
              intro w
              go_simp
              try with_reducible rfl
            case' r7 =>
              try simp only [Act.put, List.setIfInBounds_toArray, List.set_cons_succ, List.set_cons_zero]
              refine any2k 1 4 (by kernel_rfl) rfl rfl (fun K hK => ?x8_1) (fun K hK => ?x8_2)
              case' x8_2 =>
                go_wp2_with (first | ((with_reducible refine gate_dst (N := 33) rfl ?_); go_must (refine M.out.ev_ld 1 _ _ rfl rfl rfl Tryz.underlying2 rfl rfl (by first | assumption | rfl) ?_)) | ((with_reducible refine gate_dst (N := 35) rfl ?_); go_must (refine M.out.ev_ld 2 _ _ rfl rfl rfl Tryz.underlying2 rfl rfl (by first | assumption | rfl) ?_)) | (go_at_call 73; go_must (refine (cloneS_any A n xs hl hc hA _ (M.out.sl HS.out)).mono ?_); rintro e w_ ⟨A_, c_, rfl, hc_, N_⟩; have m := M.out.join N_; clear N_; simp only [List.cons_append, List.nil_append, List.append_nil] at m; have M := Lib.hid m; clear m) | ((with_reducible refine gate_dst (N := 38) rfl ?_); go_must (refine M.out.ev_bs1 elem_Scarecrow rfl _ rfl (Scarecrow.vals ⟨k, p, 0⟩).toArray rfl rfl (by decide) ?_); intro g38 w38 m; simp only [List.cons_append, List.nil_append] at m; have M := Lib.hid m; clear m) | ((with_reducible refine gate_dst (N := 39) rfl ?_); go_must (first | (refine M.out.ev_append1 3 4 elem_Scarecrow rfl _ _ rfl rfl rfl rfl rfl rfl (Scarecrow.one _) (by omega) (by decide) ?_) | (refine M.out.ev_append1 4 3 elem_Scarecrow rfl _ _ rfl rfl rfl rfl rfl rfl (Scarecrow.one _) (by omega) (by decide) ?_)); intro v39 w39 m; simp only [List.set_cons_succ, List.set_cons_zero] at m; have M := Lib.hid m; clear m))
                refine onward_normal (hK _ _ ?_)
                clear hK K
                try simp only [Act.put, List.getElem_toArray, List.getElem_cons_succ, List.getElem_cons_zero, List.setIfInBounds_toArray, List.set_cons_succ, List.set_cons_zero]
                refine takeD (i := 5) (v := ?v9) 36 rfl (by kernel_rfl) (by kernel_rfl) (by kernel_rfl) (fun _ _ _ h => h) rfl (Or.inl ⟨by first | rfl | (go_simp; done), ?y9⟩) ?r9
                case' y9 =>
                  intro w
                  go_simp
                  try with_reducible rfl
                case' r9 =>
                  try simp only [Act.put, List.setIfInBounds_toArray, List.set_cons_succ, List.set_cons_zero]
                  refine takeD (i := 6) (v := ?v10) 37 rfl (by kernel_rfl) (by kernel_rfl) (by kernel_rfl) (fun _ _ _ h => h) rfl (Or.inl ⟨by first | rfl | (go_simp; done), ?y10⟩) ?r10
                  case' y10 =>
                    intro w
                    go_simp
                    try with_reducible rfl
                  case' r10 =>
                    try simp only [Act.put, List.setIfInBounds_toArray, List.set_cons_succ, List.set_cons_zero]
                    refine any2k 1 7 (by kernel_rfl) rfl rfl (fun K hK => ?x11_1) (fun K hK => ?x11_2)
                    case' x11_2 =>
                      go_wp2_with (first | ((with_reducible refine gate_dst (N := 33) rfl ?_); go_must (refine M.out.ev_ld 1 _ _ rfl rfl rfl Tryz.underlying2 rfl rfl (by first | assumption | rfl) ?_)) | ((with_reducible refine gate_dst (N := 35) rfl ?_); go_must (refine M.out.ev_ld 2 _ _ rfl rfl rfl Tryz.underlying2 rfl rfl (by first | assumption | rfl) ?_)) | (go_at_call 73; go_must (refine (cloneS_any A n xs hl hc hA _ (M.out.sl HS.out)).mono ?_); rintro e w_ ⟨A_, c_, rfl, hc_, N_⟩; have m := M.out.join N_; clear N_; simp only [List.cons_append, List.nil_append, List.append_nil] at m; have M := Lib.hid m; clear m) | ((with_reducible refine gate_dst (N := 38) rfl ?_); go_must (refine M.out.ev_bs1 elem_Scarecrow rfl _ rfl (Scarecrow.vals ⟨k, p, 0⟩).toArray rfl rfl (by decide) ?_); intro g38 w38 m; simp only [List.cons_append, List.nil_append] at m; have M := Lib.hid m; clear m) | ((with_reducible refine gate_dst (N := 39) rfl ?_); go_must (first | (refine M.out.ev_append1 3 4 elem_Scarecrow rfl _ _ rfl rfl rfl rfl rfl rfl (Scarecrow.one _) (by omega) (by decide) ?_) | (refine M.out.ev_append1 4 3 elem_Scarecrow rfl _ _ rfl rfl rfl rfl rfl rfl (Scarecrow.one _) (by omega) (by decide) ?_)); intro v39 w39 m; simp only [List.set_cons_succ, List.set_cons_zero] at m; have M := Lib.hid m; clear m))
                      refine onward_normal (hK _ _ ?_)
                      clear hK K
                      try simp only [Act.put, List.getElem_toArray, List.getElem_cons_succ, List.getElem_cons_zero, List.setIfInBounds_toArray, List.set_cons_succ, List.set_cons_zero]
                      refine any1k 1 (by kernel_rfl) rfl (fun K hK => ?_)
                      go_wp2_with (first | ((with_reducible refine gate_dst (N := 33) rfl ?_); go_must (refine M.out.ev_ld 1 _ _ rfl rfl rfl Tryz.underlying2 rfl rfl (by first | assumption | rfl) ?_)) | ((with_reducible refine gate_dst (N := 35) rfl ?_); go_must (refine M.out.ev_ld 2 _ _ rfl rfl rfl Tryz.underlying2 rfl rfl (by first | assumption | rfl) ?_)) | (go_at_call 73; go_must (refine (cloneS_any A n xs hl hc hA _ (M.out.sl HS.out)).mono ?_); rintro e w_ ⟨A_, c_, rfl, hc_, N_⟩; have m := M.out.join N_; clear N_; simp only [List.cons_append, List.nil_append, List.append_nil] at m; have M := Lib.hid m; clear m) | ((with_reducible refine gate_dst (N := 38) rfl ?_); go_must (refine M.out.ev_bs1 elem_Scarecrow rfl _ rfl (Scarecrow.vals ⟨k, p, 0⟩).toArray rfl rfl (by decide) ?_); intro g38 w38 m; simp only [List.cons_append, List.nil_append] at m; have M := Lib.hid m; clear m) | ((with_reducible refine gate_dst (N := 39) rfl ?_); go_must (first | (refine M.out.ev_append1 3 4 elem_Scarecrow rfl _ _ rfl rfl rfl rfl rfl rfl (Scarecrow.one _) (by omega) (by decide) ?_) | (refine M.out.ev_append1 4 3 elem_Scarecrow rfl _ _ rfl rfl rfl rfl rfl rfl (Scarecrow.one _) (by omega) (by decide) ?_)); intro v39 w39 m; simp only [List.set_cons_succ, List.set_cons_zero] at m; have M := Lib.hid m; clear m))
                      refine onward_normal (hK _ _ ?_)
                      clear hK K
                      try simp only [Act.put, List.getElem_toArray, List.getElem_cons_succ, List.getElem_cons_zero, List.setIfInBounds_toArray, List.set_cons_succ, List.set_cons_zero]
                      refine any1k 8 (by kernel_rfl) rfl (fun K hK => ?_)
                      go_wp2_with (first | ((with_reducible refine gate_dst (N := 33) rfl ?_); go_must (refine M.out.ev_ld 1 _ _ rfl rfl rfl Tryz.underlying2 rfl rfl (by first | assumption | rfl) ?_)) | ((with_reducible refine gate_dst (N := 35) rfl ?_); go_must (refine M.out.ev_ld 2 _ _ rfl rfl rfl Tryz.underlying2 rfl rfl (by first | assumption | rfl) ?_)) | (go_at_call 73; go_must (refine (cloneS_any A n xs hl hc hA _ (M.out.sl HS.out)).mono ?_); rintro e w_ ⟨A_, c_, rfl, hc_, N_⟩; have m := M.out.join N_; clear N_; simp only [List.cons_append, List.nil_append, List.append_nil] at m; have M := Lib.hid m; clear m) | ((with_reducible refine gate_dst (N := 38) rfl ?_); go_must (refine M.out.ev_bs1 elem_Scarecrow rfl _ rfl (Scarecrow.vals ⟨k, p, 0⟩).toArray rfl rfl (by decide) ?_); intro g38 w38 m; simp only [List.cons_append, List.nil_append] at m; have M := Lib.hid m; clear m) | ((with_reducible refine gate_dst (N := 39) rfl ?_); go_must (first | (refine M.out.ev_append1 3 4 elem_Scarecrow rfl _ _ rfl rfl rfl rfl rfl rfl (Scarecrow.one _) (by omega) (by decide) ?_) | (refine M.out.ev_append1 4 3 elem_Scarecrow rfl _ _ rfl rfl rfl rfl rfl rfl (Scarecrow.one _) (by omega) (by decide) ?_)); intro v39 w39 m; simp only [List.set_cons_succ, List.set_cons_zero] at m; have M := Lib.hid m; clear m))
                      refine onward_normal (hK _ _ ?_)
                      clear hK K
                      try simp only [Act.put, List.getElem_toArray, List.getElem_cons_succ, List.getElem_cons_zero, List.setIfInBounds_toArray, List.set_cons_succ, List.set_cons_zero]
                      refine any1k 9 (by kernel_rfl) rfl (fun K hK => ?_)
                      go_wp2
                      refine onward_normal (hK _ _ ?_)
                      clear hK K
                      try simp only [Act.put, List.getElem_toArray, List.getElem_cons_succ, List.getElem_cons_zero, List.setIfInBounds_toArray, List.set_cons_succ, List.set_cons_zero]
                      refine any1k 10 (by kernel_rfl) rfl (fun K hK => ?_)
                      go_wp2
                      refine onward_normal (hK _ _ ?_)
                      clear hK K
                      try simp only [Act.put, List.getElem_toArray, List.getElem_cons_succ, List.getElem_cons_zero, List.setIfInBounds_toArray, List.set_cons_succ, List.set_cons_zero]
                      refine wpAny_done (by kernel_rfl) ?_ _
                    case' x11_1 =>
                      go_wp2_with (first | ((with_reducible refine gate_dst (N := 33) rfl ?_); go_must (refine M.out.ev_ld 1 _ _ rfl rfl rfl Tryz.underlying2 rfl rfl (by first | assumption | rfl) ?_)) | ((with_reducible refine gate_dst (N := 35) rfl ?_); go_must (refine M.out.ev_ld 2 _ _ rfl rfl rfl Tryz.underlying2 rfl rfl (by first | assumption | rfl) ?_)) | (go_at_call 73; go_must (refine (cloneS_any A n xs hl hc hA _ (M.out.sl HS.out)).mono ?_); rintro e w_ ⟨A_, c_, rfl, hc_, N_⟩; have m := M.out.join N_; clear N_; simp only [List.cons_append, List.nil_append, List.append_nil] at m; have M := Lib.hid m; clear m) | ((with_reducible refine gate_dst (N := 38) rfl ?_); go_must (refine M.out.ev_bs1 elem_Scarecrow rfl _ rfl (Scarecrow.vals ⟨k, p, 0⟩).toArray rfl rfl (by decide) ?_); intro g38 w38 m; simp only [List.cons_append, List.nil_append] at m; have M := Lib.hid m; clear m) | ((with_reducible refine gate_dst (N := 39) rfl ?_); go_must (first | (refine M.out.ev_append1 3 4 elem_Scarecrow rfl _ _ rfl rfl rfl rfl rfl rfl (Scarecrow.one _) (by omega) (by decide) ?_) | (refine M.out.ev_append1 4 3 elem_Scarecrow rfl _ _ rfl rfl rfl rfl rfl rfl (Scarecrow.one _) (by omega) (by decide) ?_)); intro v39 w39 m; simp only [List.set_cons_succ, List.set_cons_zero] at m; have M := Lib.hid m; clear m))
                      refine onward_normal (hK _ _ ?_)
                      clear hK K
                      try simp only [Act.put, List.getElem_toArray, List.getElem_cons_succ, List.getElem_cons_zero, List.setIfInBounds_toArray, List.set_cons_succ, List.set_cons_zero]
                      refine any1k 7 (by kernel_rfl) rfl (fun K hK => ?_)
                      go_wp2_with (first | ((with_reducible refine gate_dst (N := 33) rfl ?_); go_must (refine M.out.ev_ld 1 _ _ rfl rfl rfl Tryz.underlying2 rfl rfl (by first | assumption | rfl) ?_)) | ((with_reducible refine gate_dst (N := 35) rfl ?_); go_must (refine M.out.ev_ld 2 _ _ rfl rfl rfl Tryz.underlying2 rfl rfl (by first | assumption | rfl) ?_)) | (go_at_call 73; go_must (refine (cloneS_any A n xs hl hc hA _ (M.out.sl HS.out)).mono ?_); rintro e w_ ⟨A_, c_, rfl, hc_, N_⟩; have m := M.out.join N_; clear N_; simp only [List.cons_append, List.nil_append, List.append_nil] at m; have M := Lib.hid m; clear m) | ((with_reducible refine gate_dst (N := 38) rfl ?_); go_must (refine M.out.ev_bs1 elem_Scarecrow rfl _ rfl (Scarecrow.vals ⟨k, p, 0⟩).toArray rfl rfl (by decide) ?_); intro g38 w38 m; simp only [List.cons_append, List.nil_append] at m; have M := Lib.hid m; clear m) | ((with_reducible refine gate_dst (N := 39) rfl ?_); go_must (first | (refine M.out.ev_append1 3 4 elem_Scarecrow rfl _ _ rfl rfl rfl rfl rfl rfl (Scarecrow.one _) (by omega) (by decide) ?_) | (refine M.out.ev_append1 4 3 elem_Scarecrow rfl _ _ rfl rfl rfl rfl rfl rfl (Scarecrow.one _) (by omega) (by decide) ?_)); intro v39 w39 m; simp only [List.set_cons_succ, List.set_cons_zero] at m; have M := Lib.hid m; clear m))
                      refine onward_normal (hK _ _ ?_)
                      clear hK K
                      try simp only [Act.put, List.getElem_toArray, List.getElem_cons_succ, List.getElem_cons_zero, List.setIfInBounds_toArray, List.set_cons_succ, List.set_cons_zero]
                      refine any1k 8 (by kernel_rfl) rfl (fun K hK => ?_)
                      go_wp2_with (first | ((with_reducible refine gate_dst (N := 33) rfl ?_); go_must (refine M.out.ev_ld 1 _ _ rfl rfl rfl Tryz.underlying2 rfl rfl (by first | assumption | rfl) ?_)) | ((with_reducible refine gate_dst (N := 35) rfl ?_); go_must (refine M.out.ev_ld 2 _ _ rfl rfl rfl Tryz.underlying2 rfl rfl (by first | assumption | rfl) ?_)) | (go_at_call 73; go_must (refine (cloneS_any A n xs hl hc hA _ (M.out.sl HS.out)).mono ?_); rintro e w_ ⟨A_, c_, rfl, hc_, N_⟩; have m := M.out.join N_; clear N_; simp only [List.cons_append, List.nil_append, List.append_nil] at m; have M := Lib.hid m; clear m) | ((with_reducible refine gate_dst (N := 38) rfl ?_); go_must (refine M.out.ev_bs1 elem_Scarecrow rfl _ rfl (Scarecrow.vals ⟨k, p, 0⟩).toArray rfl rfl (by decide) ?_); intro g38 w38 m; simp only [List.cons_append, List.nil_append] at m; have M := Lib.hid m; clear m) | ((with_reducible refine gate_dst (N := 39) rfl ?_); go_must (first | (refine M.out.ev_append1 3 4 elem_Scarecrow rfl _ _ rfl rfl rfl rfl rfl rfl (Scarecrow.one _) (by omega) (by decide) ?_) | (refine M.out.ev_append1 4 3 elem_Scarecrow rfl _ _ rfl rfl rfl rfl rfl rfl (Scarecrow.one _) (by omega) (by decide) ?_)); intro v39 w39 m; simp only [List.set_cons_succ, List.set_cons_zero] at m; have M := Lib.hid m; clear m))
                      refine onward_normal (hK _ _ ?_)
                      clear hK K
                      try simp only [Act.put, List.getElem_toArray, List.getElem_cons_succ, List.getElem_cons_zero, List.setIfInBounds_toArray, List.set_cons_succ, List.set_cons_zero]
                      refine any1k 9 (by kernel_rfl) rfl (fun K hK => ?_)
                      go_wp2
                      refine onward_normal (hK _ _ ?_)
                      clear hK K
                      try simp only [Act.put, List.getElem_toArray, List.getElem_cons_succ, List.getElem_cons_zero, List.setIfInBounds_toArray, List.set_cons_succ, List.set_cons_zero]
                      refine any1k 10 (by kernel_rfl) rfl (fun K hK => ?_)
                      go_wp2
                      refine onward_normal (hK _ _ ?_)
                      clear hK K
                      try simp only [Act.put, List.getElem_toArray, List.getElem_cons_succ, List.getElem_cons_zero, List.setIfInBounds_toArray, List.set_cons_succ, List.set_cons_zero]
                      refine wpAny_done (by kernel_rfl) ?_ _
              case' x8_1 =>
                go_wp2_with (first | ((with_reducible refine gate_dst (N := 33) rfl ?_); go_must (refine M.out.ev_ld 1 _ _ rfl rfl rfl Tryz.underlying2 rfl rfl (by first | assumption | rfl) ?_)) | ((with_reducible refine gate_dst (N := 35) rfl ?_); go_must (refine M.out.ev_ld 2 _ _ rfl rfl rfl Tryz.underlying2 rfl rfl (by first | assumption | rfl) ?_)) | (go_at_call 73; go_must (refine (cloneS_any A n xs hl hc hA _ (M.out.sl HS.out)).mono ?_); rintro e w_ ⟨A_, c_, rfl, hc_, N_⟩; have m := M.out.join N_; clear N_; simp only [List.cons_append, List.nil_append, List.append_nil] at m; have M := Lib.hid m; clear m) | ((with_reducible refine gate_dst (N := 38) rfl ?_); go_must (refine M.out.ev_bs1 elem_Scarecrow rfl _ rfl (Scarecrow.vals ⟨k, p, 0⟩).toArray rfl rfl (by decide) ?_); intro g38 w38 m; simp only [List.cons_append, List.nil_append] at m; have M := Lib.hid m; clear m) | ((with_reducible refine gate_dst (N := 39) rfl ?_); go_must (first | (refine M.out.ev_append1 3 4 elem_Scarecrow rfl _ _ rfl rfl rfl rfl rfl rfl (Scarecrow.one _) (by omega) (by decide) ?_) | (refine M.out.ev_append1 4 3 elem_Scarecrow rfl _ _ rfl rfl rfl rfl rfl rfl (Scarecrow.one _) (by omega) (by decide) ?_)); intro v39 w39 m; simp only [List.set_cons_succ, List.set_cons_zero] at m; have M := Lib.hid m; clear m))
                refine onward_normal (hK _ _ ?_)
                clear hK K
                try simp only [Act.put, List.getElem_toArray, List.getElem_cons_succ, List.getElem_cons_zero, List.setIfInBounds_toArray, List.set_cons_succ, List.set_cons_zero]
                refine any1k 4 (by kernel_rfl) rfl (fun K hK => ?_)
                go_wp2_with (first | ((with_reducible refine gate_dst (N := 33) rfl ?_); go_must (refine M.out.ev_ld 1 _ _ rfl rfl rfl Tryz.underlying2 rfl rfl (by first | assumption | rfl) ?_)) | ((with_reducible refine gate_dst (N := 35) rfl ?_); go_must (refine M.out.ev_ld 2 _ _ rfl rfl rfl Tryz.underlying2 rfl rfl (by first | assumption | rfl) ?_)) | (go_at_call 73; go_must (refine (cloneS_any A n xs hl hc hA _ (M.out.sl HS.out)).mono ?_); rintro e w_ ⟨A_, c_, rfl, hc_, N_⟩; have m := M.out.join N_; clear N_; simp only [List.cons_append, List.nil_append, List.append_nil] at m; have M := Lib.hid m; clear m) | ((with_reducible refine gate_dst (N := 38) rfl ?_); go_must (refine M.out.ev_bs1 elem_Scarecrow rfl _ rfl (Scarecrow.vals ⟨k, p, 0⟩).toArray rfl rfl (by decide) ?_); intro g38 w38 m; simp only [List.cons_append, List.nil_append] at m; have M := Lib.hid m; clear m) | ((with_reducible refine gate_dst (N := 39) rfl ?_); go_must (first | (refine M.out.ev_append1 3 4 elem_Scarecrow rfl _ _ rfl rfl rfl rfl rfl rfl (Scarecrow.one _) (by omega) (by decide) ?_) | (refine M.out.ev_append1 4 3 elem_Scarecrow rfl _ _ rfl rfl rfl rfl rfl rfl (Scarecrow.one _) (by omega) (by decide) ?_)); intro v39 w39 m; simp only [List.set_cons_succ, List.set_cons_zero] at m; have M := Lib.hid m; clear m))
                refine onward_normal (hK _ _ ?_)
                clear hK K
                try simp only [Act.put, List.getElem_toArray, List.getElem_cons_succ, List.getElem_cons_zero, List.setIfInBounds_toArray, List.set_cons_succ, List.set_cons_zero]
                refine any1k 5 (by kernel_rfl) rfl (fun K hK => ?_)
                go_wp2
                refine onward_normal (hK _ _ ?_)
                clear hK K
                try simp only [Act.put, List.getElem_toArray, List.getElem_cons_succ, List.getElem_cons_zero, List.setIfInBounds_toArray, List.set_cons_succ, List.set_cons_zero]
                refine any1k 6 (by kernel_rfl) rfl (fun K hK => ?_)
                go_wp2
                refine onward_normal (hK _ _ ?_)
                clear hK K
                try simp only [Act.put, List.getElem_toArray, List.getElem_cons_succ, List.getElem_cons_zero, List.setIfInBounds_toArray, List.set_cons_succ, List.set_cons_zero]
                refine any1k 7 (by kernel_rfl) rfl (fun K hK => ?_)
                go_wp2_with (first | ((with_reducible refine gate_dst (N := 33) rfl ?_); go_must (refine M.out.ev_ld 1 _ _ rfl rfl rfl Tryz.underlying2 rfl rfl (by first | assumption | rfl) ?_)) | ((with_reducible refine gate_dst (N := 35) rfl ?_); go_must (refine M.out.ev_ld 2 _ _ rfl rfl rfl Tryz.underlying2 rfl rfl (by first | assumption | rfl) ?_)) | (go_at_call 73; go_must (refine (cloneS_any A n xs hl hc hA _ (M.out.sl HS.out)).mono ?_); rintro e w_ ⟨A_, c_, rfl, hc_, N_⟩; have m := M.out.join N_; clear N_; simp only [List.cons_append, List.nil_append, List.append_nil] at m; have M := Lib.hid m; clear m) | ((with_reducible refine gate_dst (N := 38) rfl ?_); go_must (refine M.out.ev_bs1 elem_Scarecrow rfl _ rfl (Scarecrow.vals ⟨k, p, 0⟩).toArray rfl rfl (by decide) ?_); intro g38 w38 m; simp only [List.cons_append, List.nil_append] at m; have M := Lib.hid m; clear m) | ((with_reducible refine gate_dst (N := 39) rfl ?_); go_must (first | (refine M.out.ev_append1 3 4 elem_Scarecrow rfl _ _ rfl rfl rfl rfl rfl rfl (Scarecrow.one _) (by omega) (by decide) ?_) | (refine M.out.ev_append1 4 3 elem_Scarecrow rfl _ _ rfl rfl rfl rfl rfl rfl (Scarecrow.one _) (by omega) (by decide) ?_)); intro v39 w39 m; simp only [List.set_cons_succ, List.set_cons_zero] at m; have M := Lib.hid m; clear m))
                refine onward_normal (hK _ _ ?_)
                clear hK K
                try simp only [Act.put, List.getElem_toArray, List.getElem_cons_succ, List.getElem_cons_zero, List.setIfInBounds_toArray, List.set_cons_succ, List.set_cons_zero]
                refine any1k 8 (by kernel_rfl) rfl (fun K hK => ?_)
                go_wp2_with (first | ((with_reducible refine gate_dst (N := 33) rfl ?_); go_must (refine M.out.ev_ld 1 _ _ rfl rfl rfl Tryz.underlying2 rfl rfl (by first | assumption | rfl) ?_)) | ((with_reducible refine gate_dst (N := 35) rfl ?_); go_must (refine M.out.ev_ld 2 _ _ rfl rfl rfl Tryz.underlying2 rfl rfl (by first | assumption | rfl) ?_)) | (go_at_call 73; go_must (refine (cloneS_any A n xs hl hc hA _ (M.out.sl HS.out)).mono ?_); rintro e w_ ⟨A_, c_, rfl, hc_, N_⟩; have m := M.out.join N_; clear N_; simp only [List.cons_append, List.nil_append, List.append_nil] at m; have M := Lib.hid m; clear m) | ((with_reducible refine gate_dst (N := 38) rfl ?_); go_must (refine M.out.ev_bs1 elem_Scarecrow rfl _ rfl (Scarecrow.vals ⟨k, p, 0⟩).toArray rfl rfl (by decide) ?_); intro g38 w38 m; simp only [List.cons_append, List.nil_append] at m; have M := Lib.hid m; clear m) | ((with_reducible refine gate_dst (N := 39) rfl ?_); go_must (first | (refine M.out.ev_append1 3 4 elem_Scarecrow rfl _ _ rfl rfl rfl rfl rfl rfl (Scarecrow.one _) (by omega) (by decide) ?_) | (refine M.out.ev_append1 4 3 elem_Scarecrow rfl _ _ rfl rfl rfl rfl rfl rfl (Scarecrow.one _) (by omega) (by decide) ?_)); intro v39 w39 m; simp only [List.set_cons_succ, List.set_cons_zero] at m; have M := Lib.hid m; clear m))
                refine onward_normal (hK _ _ ?_)
                clear hK K
                try simp only [Act.put, List.getElem_toArray, List.getElem_cons_succ, List.getElem_cons_zero, List.setIfInBounds_toArray, List.set_cons_succ, List.set_cons_zero]
                refine any1k 9 (by kernel_rfl) rfl (fun K hK => ?_)
                go_wp2
                refine onward_normal (hK _ _ ?_)
                clear hK K
                try simp only [Act.put, List.getElem_toArray, List.getElem_cons_succ, List.getElem_cons_zero, List.setIfInBounds_toArray, List.set_cons_succ, List.set_cons_zero]
                refine any1k 10 (by kernel_rfl) rfl (fun K hK => ?_)
                go_wp2
                refine onward_normal (hK _ _ ?_)
                clear hK K
                try simp only [Act.put, List.getElem_toArray, List.getElem_cons_succ, List.getElem_cons_zero, List.setIfInBounds_toArray, List.set_cons_succ, List.set_cons_zero]
                refine wpAny_done (by kernel_rfl) ?_ _
          case' x1_1 =>
            go_wp2_with (first | ((with_reducible refine gate_dst (N := 33) rfl ?_); go_must (refine M.out.ev_ld 1 _ _ rfl rfl rfl Tryz.underlying2 rfl rfl (by first | assumption | rfl) ?_)) | ((with_reducible refine gate_dst (N := 35) rfl ?_); go_must (refine M.out.ev_ld 2 _ _ rfl rfl rfl Tryz.underlying2 rfl rfl (by first | assumption | rfl) ?_)) | (go_at_call 73; go_must (refine (cloneS_any A n xs hl hc hA _ (M.out.sl HS.out)).mono ?_); rintro e w_ ⟨A_, c_, rfl, hc_, N_⟩; have m := M.out.join N_; clear N_; simp only [List.cons_append, List.nil_append, List.append_nil] at m; have M := Lib.hid m; clear m) | ((with_reducible refine gate_dst (N := 38) rfl ?_); go_must (refine M.out.ev_bs1 elem_Scarecrow rfl _ rfl (Scarecrow.vals ⟨k, p, 0⟩).toArray rfl rfl (by decide) ?_); intro g38 w38 m; simp only [List.cons_append, List.nil_append] at m; have M := Lib.hid m; clear m) | ((with_reducible refine gate_dst (N := 39) rfl ?_); go_must (first | (refine M.out.ev_append1 3 4 elem_Scarecrow rfl _ _ rfl rfl rfl rfl rfl rfl (Scarecrow.one _) (by omega) (by decide) ?_) | (refine M.out.ev_append1 4 3 elem_Scarecrow rfl _ _ rfl rfl rfl rfl rfl rfl (Scarecrow.one _) (by omega) (by decide) ?_)); intro v39 w39 m; simp only [List.set_cons_succ, List.set_cons_zero] at m; have M := Lib.hid m; clear m))
            refine onward_normal (hK _ _ ?_)
            clear hK K
            try simp only [Act.put, List.getElem_toArray, List.getElem_cons_succ, List.getElem_cons_zero, List.setIfInBounds_toArray, List.set_cons_succ, List.set_cons_zero]
            refine any2k 2 4 (by kernel_rfl) rfl rfl (fun K hK => ?x12_1) (fun K hK => ?x12_2)
            case' x12_2 =>
              go_wp2_with (first | ((with_reducible refine gate_dst (N := 33) rfl ?_); go_must (refine M.out.ev_ld 1 _ _ rfl rfl rfl Tryz.underlying2 rfl rfl (by first | assumption | rfl) ?_)) | ((with_reducible refine gate_dst (N := 35) rfl ?_); go_must (refine M.out.ev_ld 2 _ _ rfl rfl rfl Tryz.underlying2 rfl rfl (by first | assumption | rfl) ?_)) | (go_at_call 73; go_must (refine (cloneS_any A n xs hl hc hA _ (M.out.sl HS.out)).mono ?_); rintro e w_ ⟨A_, c_, rfl, hc_, N_⟩; have m := M.out.join N_; clear N_; simp only [List.cons_append, List.nil_append, List.append_nil] at m; have M := Lib.hid m; clear m) | ((with_reducible refine gate_dst (N := 38) rfl ?_); go_must (refine M.out.ev_bs1 elem_Scarecrow rfl _ rfl (Scarecrow.vals ⟨k, p, 0⟩).toArray rfl rfl (by decide) ?_); intro g38 w38 m; simp only [List.cons_append, List.nil_append] at m; have M := Lib.hid m; clear m) | ((with_reducible refine gate_dst (N := 39) rfl ?_); go_must (first | (refine M.out.ev_append1 3 4 elem_Scarecrow rfl _ _ rfl rfl rfl rfl rfl rfl (Scarecrow.one _) (by omega) (by decide) ?_) | (refine M.out.ev_append1 4 3 elem_Scarecrow rfl _ _ rfl rfl rfl rfl rfl rfl (Scarecrow.one _) (by omega) (by decide) ?_)); intro v39 w39 m; simp only [List.set_cons_succ, List.set_cons_zero] at m; have M := Lib.hid m; clear m))
              refine onward_normal (hK _ _ ?_)
              clear hK K
              try simp only [Act.put, List.getElem_toArray, List.getElem_cons_succ, List.getElem_cons_zero, List.setIfInBounds_toArray, List.set_cons_succ, List.set_cons_zero]
              refine takeD (i := 5) (v := ?v13) 36 rfl (by kernel_rfl) (by kernel_rfl) (by kernel_rfl) (fun _ _ _ h => h) rfl (Or.inl ⟨by first | rfl | (go_simp; done), ?y13⟩) ?r13
              case' y13 =>
                intro w
                go_simp
                try with_reducible rfl
              case' r13 =>
                try simp only [Act.put, List.setIfInBounds_toArray, List.set_cons_succ, List.set_cons_zero]
                refine any1k 2 (by kernel_rfl) rfl (fun K hK => ?_)
                go_wp2_with (first | ((with_reducible refine gate_dst (N := 33) rfl ?_); go_must (refine M.out.ev_ld 1 _ _ rfl rfl rfl Tryz.underlying2 rfl rfl (by first | assumption | rfl) ?_)) | ((with_reducible refine gate_dst (N := 35) rfl ?_); go_must (refine M.out.ev_ld 2 _ _ rfl rfl rfl Tryz.underlying2 rfl rfl (by first | assumption | rfl) ?_)) | (go_at_call 73; go_must (refine (cloneS_any A n xs hl hc hA _ (M.out.sl HS.out)).mono ?_); rintro e w_ ⟨A_, c_, rfl, hc_, N_⟩; have m := M.out.join N_; clear N_; simp only [List.cons_append, List.nil_append, List.append_nil] at m; have M := Lib.hid m; clear m) | ((with_reducible refine gate_dst (N := 38) rfl ?_); go_must (refine M.out.ev_bs1 elem_Scarecrow rfl _ rfl (Scarecrow.vals ⟨k, p, 0⟩).toArray rfl rfl (by decide) ?_); intro g38 w38 m; simp only [List.cons_append, List.nil_append] at m; have M := Lib.hid m; clear m) | ((with_reducible refine gate_dst (N := 39) rfl ?_); go_must (first | (refine M.out.ev_append1 3 4 elem_Scarecrow rfl _ _ rfl rfl rfl rfl rfl rfl (Scarecrow.one _) (by omega) (by decide) ?_) | (refine M.out.ev_append1 4 3 elem_Scarecrow rfl _ _ rfl rfl rfl rfl rfl rfl (Scarecrow.one _) (by omega) (by decide) ?_)); intro v39 w39 m; simp only [List.set_cons_succ, List.set_cons_zero] at m; have M := Lib.hid m; clear m))
                refine onward_normal (hK _ _ ?_)
                clear hK K
                try simp only [Act.put, List.getElem_toArray, List.getElem_cons_succ, List.getElem_cons_zero, List.setIfInBounds_toArray, List.set_cons_succ, List.set_cons_zero]
                refine any1k 3 (by kernel_rfl) rfl (fun K hK => ?_)
                go_wp2
                refine onward_normal (hK _ _ ?_)
                clear hK K
                try simp only [Act.put, List.getElem_toArray, List.getElem_cons_succ, List.getElem_cons_zero, List.setIfInBounds_toArray, List.set_cons_succ, List.set_cons_zero]
                refine any1k 6 (by kernel_rfl) rfl (fun K hK => ?_)
                go_wp2
                refine onward_normal (hK _ _ ?_)
                clear hK K
                try simp only [Act.put, List.getElem_toArray, List.getElem_cons_succ, List.getElem_cons_zero, List.setIfInBounds_toArray, List.set_cons_succ, List.set_cons_zero]
                refine any1k 7 (by kernel_rfl) rfl (fun K hK => ?_)
                go_wp2_with (first | ((with_reducible refine gate_dst (N := 33) rfl ?_); go_must (refine M.out.ev_ld 1 _ _ rfl rfl rfl Tryz.underlying2 rfl rfl (by first | assumption | rfl) ?_)) | ((with_reducible refine gate_dst (N := 35) rfl ?_); go_must (refine M.out.ev_ld 2 _ _ rfl rfl rfl Tryz.underlying2 rfl rfl (by first | assumption | rfl) ?_)) | (go_at_call 73; go_must (refine (cloneS_any A n xs hl hc hA _ (M.out.sl HS.out)).mono ?_); rintro e w_ ⟨A_, c_, rfl, hc_, N_⟩; have m := M.out.join N_; clear N_; simp only [List.cons_append, List.nil_append, List.append_nil] at m; have M := Lib.hid m; clear m) | ((with_reducible refine gate_dst (N := 38) rfl ?_); go_must (refine M.out.ev_bs1 elem_Scarecrow rfl _ rfl (Scarecrow.vals ⟨k, p, 0⟩).toArray rfl rfl (by decide) ?_); intro g38 w38 m; simp only [List.cons_append, List.nil_append] at m; have M := Lib.hid m; clear m) | ((with_reducible refine gate_dst (N := 39) rfl ?_); go_must (first | (refine M.out.ev_append1 3 4 elem_Scarecrow rfl _ _ rfl rfl rfl rfl rfl rfl (Scarecrow.one _) (by omega) (by decide) ?_) | (refine M.out.ev_append1 4 3 elem_Scarecrow rfl _ _ rfl rfl rfl rfl rfl rfl (Scarecrow.one _) (by omega) (by decide) ?_)); intro v39 w39 m; simp only [List.set_cons_succ, List.set_cons_zero] at m; have M := Lib.hid m; clear m))
                refine onward_normal (hK _ _ ?_)
                clear hK K
                try simp only [Act.put, List.getElem_toArray, List.getElem_cons_succ, List.getElem_cons_zero, List.setIfInBounds_toArray, List.set_cons_succ, List.set_cons_zero]
                refine any1k 8 (by kernel_rfl) rfl (fun K hK => ?_)
                go_wp2_with (first | ((with_reducible refine gate_dst (N := 33) rfl ?_); go_must (refine M.out.ev_ld 1 _ _ rfl rfl rfl Tryz.underlying2 rfl rfl (by first | assumption | rfl) ?_)) | ((with_reducible refine gate_dst (N := 35) rfl ?_); go_must (refine M.out.ev_ld 2 _ _ rfl rfl rfl Tryz.underlying2 rfl rfl (by first | assumption | rfl) ?_)) | (go_at_call 73; go_must (refine (cloneS_any A n xs hl hc hA _ (M.out.sl HS.out)).mono ?_); rintro e w_ ⟨A_, c_, rfl, hc_, N_⟩; have m := M.out.join N_; clear N_; simp only [List.cons_append, List.nil_append, List.append_nil] at m; have M := Lib.hid m; clear m) | ((with_reducible refine gate_dst (N := 38) rfl ?_); go_must (refine M.out.ev_bs1 elem_Scarecrow rfl _ rfl (Scarecrow.vals ⟨k, p, 0⟩).toArray rfl rfl (by decide) ?_); intro g38 w38 m; simp only [List.cons_append, List.nil_append] at m; have M := Lib.hid m; clear m) | ((with_reducible refine gate_dst (N := 39) rfl ?_); go_must (first | (refine M.out.ev_append1 3 4 elem_Scarecrow rfl _ _ rfl rfl rfl rfl rfl rfl (Scarecrow.one _) (by omega) (by decide) ?_) | (refine M.out.ev_append1 4 3 elem_Scarecrow rfl _ _ rfl rfl rfl rfl rfl rfl (Scarecrow.one _) (by omega) (by decide) ?_)); intro v39 w39 m; simp only [List.set_cons_succ, List.set_cons_zero] at m; have M := Lib.hid m; clear m))
                refine onward_normal (hK _ _ ?_)
                clear hK K
                try simp only [Act.put, List.getElem_toArray, List.getElem_cons_succ, List.getElem_cons_zero, List.setIfInBounds_toArray, List.set_cons_succ, List.set_cons_zero]
                refine any1k 9 (by kernel_rfl) rfl (fun K hK => ?_)
                go_wp2
                refine onward_normal (hK _ _ ?_)
                clear hK K
                try simp only [Act.put, List.getElem_toArray, List.getElem_cons_succ, List.getElem_cons_zero, List.setIfInBounds_toArray, List.set_cons_succ, List.set_cons_zero]
                refine any1k 10 (by kernel_rfl) rfl (fun K hK => ?_)
                go_wp2
                refine onward_normal (hK _ _ ?_)
                clear hK K
                try simp only [Act.put, List.getElem_toArray, List.getElem_cons_succ, List.getElem_cons_zero, List.setIfInBounds_toArray, List.set_cons_succ, List.set_cons_zero]
                refine wpAny_done (by kernel_rfl) ?_ _
            case' x12_1 =>
              go_wp2_with (first | ((with_reducible refine gate_dst (N := 33) rfl ?_); go_must (refine M.out.ev_ld 1 _ _ rfl rfl rfl Tryz.underlying2 rfl rfl (by first | assumption | rfl) ?_)) | ((with_reducible refine gate_dst (N := 35) rfl ?_); go_must (refine M.out.ev_ld 2 _ _ rfl rfl rfl Tryz.underlying2 rfl rfl (by first | assumption | rfl) ?_)) | (go_at_call 73; go_must (refine (cloneS_any A n xs hl hc hA _ (M.out.sl HS.out)).mono ?_); rintro e w_ ⟨A_, c_, rfl, hc_, N_⟩; have m := M.out.join N_; clear N_; simp only [List.cons_append, List.nil_append, List.append_nil] at m; have M := Lib.hid m; clear m) | ((with_reducible refine gate_dst (N := 38) rfl ?_); go_must (refine M.out.ev_bs1 elem_Scarecrow rfl _ rfl (Scarecrow.vals ⟨k, p, 0⟩).toArray rfl rfl (by decide) ?_); intro g38 w38 m; simp only [List.cons_append, List.nil_append] at m; have M := Lib.hid m; clear m) | ((with_reducible refine gate_dst (N := 39) rfl ?_); go_must (first | (refine M.out.ev_append1 3 4 elem_Scarecrow rfl _ _ rfl rfl rfl rfl rfl rfl (Scarecrow.one _) (by omega) (by decide) ?_) | (refine M.out.ev_append1 4 3 elem_Scarecrow rfl _ _ rfl rfl rfl rfl rfl rfl (Scarecrow.one _) (by omega) (by decide) ?_)); intro v39 w39 m; simp only [List.set_cons_succ, List.set_cons_zero] at m; have M := Lib.hid m; clear m))
              refine onward_normal (hK _ _ ?_)
              clear hK K
              try simp only [Act.put, List.getElem_toArray, List.getElem_cons_succ, List.getElem_cons_zero, List.setIfInBounds_toArray, List.set_cons_succ, List.set_cons_zero]
              refine takeD (i := 3) (v := ?v14) 34 rfl (by kernel_rfl) (by kernel_rfl) (by kernel_rfl) (fun _ _ _ h => h) rfl (Or.inl ⟨by first | rfl | (go_simp; done), ?y14⟩) ?r14
              case' y14 =>
                intro w
                go_simp
                try with_reducible rfl
              case' r14 =>
                try simp only [Act.put, List.setIfInBounds_toArray, List.set_cons_succ, List.set_cons_zero]
                refine any1k 4 (by kernel_rfl) rfl (fun K hK => ?_)
                go_wp2_with (first | ((with_reducible refine gate_dst (N := 33) rfl ?_); go_must (refine M.out.ev_ld 1 _ _ rfl rfl rfl Tryz.underlying2 rfl rfl (by first | assumption | rfl) ?_)) | ((with_reducible refine gate_dst (N := 35) rfl ?_); go_must (refine M.out.ev_ld 2 _ _ rfl rfl rfl Tryz.underlying2 rfl rfl (by first | assumption | rfl) ?_)) | (go_at_call 73; go_must (refine (cloneS_any A n xs hl hc hA _ (M.out.sl HS.out)).mono ?_); rintro e w_ ⟨A_, c_, rfl, hc_, N_⟩; have m := M.out.join N_; clear N_; simp only [List.cons_append, List.nil_append, List.append_nil] at m; have M := Lib.hid m; clear m) | ((with_reducible refine gate_dst (N := 38) rfl ?_); go_must (refine M.out.ev_bs1 elem_Scarecrow rfl _ rfl (Scarecrow.vals ⟨k, p, 0⟩).toArray rfl rfl (by decide) ?_); intro g38 w38 m; simp only [List.cons_append, List.nil_append] at m; have M := Lib.hid m; clear m) | ((with_reducible refine gate_dst (N := 39) rfl ?_); go_must (first | (refine M.out.ev_append1 3 4 elem_Scarecrow rfl _ _ rfl rfl rfl rfl rfl rfl (Scarecrow.one _) (by omega) (by decide) ?_) | (refine M.out.ev_append1 4 3 elem_Scarecrow rfl _ _ rfl rfl rfl rfl rfl rfl (Scarecrow.one _) (by omega) (by decide) ?_)); intro v39 w39 m; simp only [List.set_cons_succ, List.set_cons_zero] at m; have M := Lib.hid m; clear m))
                refine onward_normal (hK _ _ ?_)
                clear hK K
                try simp only [Act.put, List.getElem_toArray, List.getElem_cons_succ, List.getElem_cons_zero, List.setIfInBounds_toArray, List.set_cons_succ, List.set_cons_zero]
                refine any1k 5 (by kernel_rfl) rfl (fun K hK => ?_)
                go_wp2
                refine onward_normal (hK _ _ ?_)
                clear hK K
                try simp only [Act.put, List.getElem_toArray, List.getElem_cons_succ, List.getElem_cons_zero, List.setIfInBounds_toArray, List.set_cons_succ, List.set_cons_zero]
                refine any1k 6 (by kernel_rfl) rfl (fun K hK => ?_)
                go_wp2
                refine onward_normal (hK _ _ ?_)
                clear hK K
                try simp only [Act.put, List.getElem_toArray, List.getElem_cons_succ, List.getElem_cons_zero, List.setIfInBounds_toArray, List.set_cons_succ, List.set_cons_zero]
                refine any1k 7 (by kernel_rfl) rfl (fun K hK => ?_)
                go_wp2_with (first | ((with_reducible refine gate_dst (N := 33) rfl ?_); go_must (refine M.out.ev_ld 1 _ _ rfl rfl rfl Tryz.underlying2 rfl rfl (by first | assumption | rfl) ?_)) | ((with_reducible refine gate_dst (N := 35) rfl ?_); go_must (refine M.out.ev_ld 2 _ _ rfl rfl rfl Tryz.underlying2 rfl rfl (by first | assumption | rfl) ?_)) | (go_at_call 73; go_must (refine (cloneS_any A n xs hl hc hA _ (M.out.sl HS.out)).mono ?_); rintro e w_ ⟨A_, c_, rfl, hc_, N_⟩; have m := M.out.join N_; clear N_; simp only [List.cons_append, List.nil_append, List.append_nil] at m; have M := Lib.hid m; clear m) | ((with_reducible refine gate_dst (N := 38) rfl ?_); go_must (refine M.out.ev_bs1 elem_Scarecrow rfl _ rfl (Scarecrow.vals ⟨k, p, 0⟩).toArray rfl rfl (by decide) ?_); intro g38 w38 m; simp only [List.cons_append, List.nil_append] at m; have M := Lib.hid m; clear m) | ((with_reducible refine gate_dst (N := 39) rfl ?_); go_must (first | (refine M.out.ev_append1 3 4 elem_Scarecrow rfl _ _ rfl rfl rfl rfl rfl rfl (Scarecrow.one _) (by omega) (by decide) ?_) | (refine M.out.ev_append1 4 3 elem_Scarecrow rfl _ _ rfl rfl rfl rfl rfl rfl (Scarecrow.one _) (by omega) (by decide) ?_)); intro v39 w39 m; simp only [List.set_cons_succ, List.set_cons_zero] at m; have M := Lib.hid m; clear m))
                refine onward_normal (hK _ _ ?_)
                clear hK K
                try simp only [Act.put, List.getElem_toArray, List.getElem_cons_succ, List.getElem_cons_zero, List.setIfInBounds_toArray, List.set_cons_succ, List.set_cons_zero]
                refine any1k 8 (by kernel_rfl) rfl (fun K hK => ?_)
                go_wp2_with (first | ((with_reducible refine gate_dst (N := 33) rfl ?_); go_must (refine M.out.ev_ld 1 _ _ rfl rfl rfl Tryz.underlying2 rfl rfl (by first | assumption | rfl) ?_)) | ((with_reducible refine gate_dst (N := 35) rfl ?_); go_must (refine M.out.ev_ld 2 _ _ rfl rfl rfl Tryz.underlying2 rfl rfl (by first | assumption | rfl) ?_)) | (go_at_call 73; go_must (refine (cloneS_any A n xs hl hc hA _ (M.out.sl HS.out)).mono ?_); rintro e w_ ⟨A_, c_, rfl, hc_, N_⟩; have m := M.out.join N_; clear N_; simp only [List.cons_append, List.nil_append, List.append_nil] at m; have M := Lib.hid m; clear m) | ((with_reducible refine gate_dst (N := 38) rfl ?_); go_must (refine M.out.ev_bs1 elem_Scarecrow rfl _ rfl (Scarecrow.vals ⟨k, p, 0⟩).toArray rfl rfl (by decide) ?_); intro g38 w38 m; simp only [List.cons_append, List.nil_append] at m; have M := Lib.hid m; clear m) | ((with_reducible refine gate_dst (N := 39) rfl ?_); go_must (first | (refine M.out.ev_append1 3 4 elem_Scarecrow rfl _ _ rfl rfl rfl rfl rfl rfl (Scarecrow.one _) (by omega) (by decide) ?_) | (refine M.out.ev_append1 4 3 elem_Scarecrow rfl _ _ rfl rfl rfl rfl rfl rfl (Scarecrow.one _) (by omega) (by decide) ?_)); intro v39 w39 m; simp only [List.set_cons_succ, List.set_cons_zero] at m; have M := Lib.hid m; clear m))
                refine onward_normal (hK _ _ ?_)
                clear hK K
                try simp only [Act.put, List.getElem_toArray, List.getElem_cons_succ, List.getElem_cons_zero, List.setIfInBounds_toArray, List.set_cons_succ, List.set_cons_zero]
                refine any1k 9 (by kernel_rfl) rfl (fun K hK => ?_)
                go_wp2
                refine onward_normal (hK _ _ ?_)
                clear hK K
                try simp only [Act.put, List.getElem_toArray, List.getElem_cons_succ, List.getElem_cons_zero, List.setIfInBounds_toArray, List.set_cons_succ, List.set_cons_zero]
                refine any1k 10 (by kernel_rfl) rfl (fun K hK => ?_)
                go_wp2
                refine onward_normal (hK _ _ ?_)
                clear hK K
                try simp only [Act.put, List.getElem_toArray, List.getElem_cons_succ, List.getElem_cons_zero, List.setIfInBounds_toArray, List.set_cons_succ, List.set_cons_zero]
                refine wpAny_done (by kernel_rfl) ?_ _
        all_goals
          go_wp2
          have hac : addCode F xs k p = 0 := by simp [addCode, HD.out, HT.out, H20.out]
          first
            | (have m := M.out.only [3] (K := [.row _ 60 3 (xs.length + 1) _]) rfl (by decide)
               obtain ⟨B, cB, rfl, hcB, _⟩ := m.row_slice 0 rfl
               go_ret2
               rw [addRes, hac, if_pos rfl, flat_append, List.length_append]
               exact ⟨B, cB, rfl, hcB, m⟩)
            | (have m := M.out.only [4] (K := [.row _ 60 3 (xs.length + 1) _]) rfl (by decide)
               obtain ⟨B, cB, rfl, hcB, _⟩ := m.row_slice 0 rfl
               go_ret2
               rw [addRes, hac, if_pos rfl, flat_append, List.length_append]
               exact ⟨B, cB, rfl, hcB, m⟩)
    · have HST := Lib.hid hst
      have HPL := Lib.hid (show F.place k = false by rw [hpl, hki]; rfl)
      have HT := Lib.hid (show taken F xs k = true by rw [taken, hst, hki]; rfl)
      clear hst hki hpl
      go_enter Tryz.func30, Tryz.ntmps30
      go_wp2_with (first
        | ((with_reducible refine gate_dst (N := 4) rfl ?_); go_must (refine M.out.ev_new rfl (by first | (go_simp; done) | (go_simp; rfl)) ?_); intro g4 w4 m; simp only [List.cons_append, List.nil_append] at m; have M := Lib.hid m; clear m; try have q1_0 := M.out.cell (j := 0) 1 rfl (by first | assumption | rfl); try have q2_0 := M.out.cell (j := 0) 2 rfl (by first | assumption | rfl))
        | ((with_reducible refine gate_dst (N := 6) rfl ?_); go_must (refine M.out.ev_new rfl (by first | (go_simp; done) | (go_simp; rfl)) ?_); intro g6 w6 m; simp only [List.cons_append, List.nil_append] at m; have M := Lib.hid m; clear m; try have q1_0 := M.out.cell (j := 0) 1 rfl (by first | assumption | rfl); try have q2_0 := M.out.cell (j := 0) 2 rfl (by first | assumption | rfl))
        | ((with_reducible refine gate_dst (N := 7) rfl ?_); go_must (refine M.out.ev_new rfl (by first | (go_simp; done) | (go_simp; rfl)) ?_); intro g7 w7 m; simp only [List.cons_append, List.nil_append] at m; have M := Lib.hid m; clear m; try have q1_0 := M.out.cell (j := 0) 1 rfl (by first | assumption | rfl); try have q2_0 := M.out.cell (j := 0) 2 rfl (by first | assumption | rfl))
        | ((with_reducible refine gate_dst (N := 19) rfl ?_); go_must (refine M.out.ev_ld 1 _ _ rfl rfl rfl Tryz.underlying2 rfl rfl (by first | assumption | rfl) ?_))
        | ((with_reducible refine gate_dst (N := 33) rfl ?_); go_must (refine M.out.ev_ld 1 _ _ rfl rfl rfl Tryz.underlying2 rfl rfl (by first | assumption | rfl) ?_))
        | ((with_reducible refine gate_dst (N := 35) rfl ?_); go_must (refine M.out.ev_ld 2 _ _ rfl rfl rfl Tryz.underlying2 rfl rfl (by first | assumption | rfl) ?_))
        | (go_at_call 45; go_must (refine (scaresCode_any _ F HF.out A n xs HX.out hc hn 78 _ (addFine F (k : Int) p) _ (M.out.blk 0 rfl) (M.out.sl HS.out) (fun _ _ => by go_simp) (fun _ w1 m1 => addIs_any _ _ _ F HF.out (k : Int) p w1 ((M.out.join m1).blk 0 rfl) ((M.out.join m1).blk 1 rfl) ((M.out.join m1).blk 2 rfl))).mono ?_); rintro e w_ ⟨rfl, N_⟩; have m := M.out.join N_; clear N_; simp only [List.cons_append, List.nil_append, List.append_nil] at m; have M := Lib.hid m; clear m; have q1 := M.out.cell (j := 0) (v := .int .i64 (k : Int)) 1 rfl rfl)
        | (go_at_call 79; go_must (refine (isPlace_any _ F HF.out _ _ (M.out.blk 0 rfl)).mono ?_); rintro e w_ ⟨rfl, rfl⟩; rw [HPL.out])
        | (go_at_call 80; go_must (refine (stands_any A n xs HX.out hl _ _ (M.out.sl HS.out)).mono ?_); rintro e w_ ⟨rfl, N_⟩; have m := M.out.join N_; clear N_; simp only [List.cons_append, List.nil_append, List.append_nil] at m; have M := Lib.hid m; clear m; rw [HST.out])
        )
      go_ret2
      have m := (M.out.take 0).nilrow 60 3
      have hac : addCode F xs k p = 4 := by simp [addCode, HD.out, HT.out]
      rw [addRes, hac]
      exact ⟨none, 0, rfl, Nat.le_refl _, m⟩
    · have HST := Lib.hid hst
      have HPL := Lib.hid (show F.place k = true by rw [hpl, hki]; rfl)
      have HT := Lib.hid (show taken F xs k = true by rw [taken, hst, hki]; rfl)
      clear hst hki hpl
      go_enter Tryz.func30, Tryz.ntmps30
      go_wp2_with (first
        | ((with_reducible refine gate_dst (N := 4) rfl ?_); go_must (refine M.out.ev_new rfl (by first | (go_simp; done) | (go_simp; rfl)) ?_); intro g4 w4 m; simp only [List.cons_append, List.nil_append] at m; have M := Lib.hid m; clear m; try have q1_0 := M.out.cell (j := 0) 1 rfl (by first | assumption | rfl); try have q2_0 := M.out.cell (j := 0) 2 rfl (by first | assumption | rfl))
        | ((with_reducible refine gate_dst (N := 6) rfl ?_); go_must (refine M.out.ev_new rfl (by first | (go_simp; done) | (go_simp; rfl)) ?_); intro g6 w6 m; simp only [List.cons_append, List.nil_append] at m; have M := Lib.hid m; clear m; try have q1_0 := M.out.cell (j := 0) 1 rfl (by first | assumption | rfl); try have q2_0 := M.out.cell (j := 0) 2 rfl (by first | assumption | rfl))
        | ((with_reducible refine gate_dst (N := 7) rfl ?_); go_must (refine M.out.ev_new rfl (by first | (go_simp; done) | (go_simp; rfl)) ?_); intro g7 w7 m; simp only [List.cons_append, List.nil_append] at m; have M := Lib.hid m; clear m; try have q1_0 := M.out.cell (j := 0) 1 rfl (by first | assumption | rfl); try have q2_0 := M.out.cell (j := 0) 2 rfl (by first | assumption | rfl))
        | ((with_reducible refine gate_dst (N := 19) rfl ?_); go_must (refine M.out.ev_ld 1 _ _ rfl rfl rfl Tryz.underlying2 rfl rfl (by first | assumption | rfl) ?_))
        | ((with_reducible refine gate_dst (N := 33) rfl ?_); go_must (refine M.out.ev_ld 1 _ _ rfl rfl rfl Tryz.underlying2 rfl rfl (by first | assumption | rfl) ?_))
        | ((with_reducible refine gate_dst (N := 35) rfl ?_); go_must (refine M.out.ev_ld 2 _ _ rfl rfl rfl Tryz.underlying2 rfl rfl (by first | assumption | rfl) ?_))
        | (go_at_call 45; go_must (refine (scaresCode_any _ F HF.out A n xs HX.out hc hn 78 _ (addFine F (k : Int) p) _ (M.out.blk 0 rfl) (M.out.sl HS.out) (fun _ _ => by go_simp) (fun _ w1 m1 => addIs_any _ _ _ F HF.out (k : Int) p w1 ((M.out.join m1).blk 0 rfl) ((M.out.join m1).blk 1 rfl) ((M.out.join m1).blk 2 rfl))).mono ?_); rintro e w_ ⟨rfl, N_⟩; have m := M.out.join N_; clear N_; simp only [List.cons_append, List.nil_append, List.append_nil] at m; have M := Lib.hid m; clear m; have q1 := M.out.cell (j := 0) (v := .int .i64 (k : Int)) 1 rfl rfl)
        | (go_at_call 79; go_must (refine (isPlace_any _ F HF.out _ _ (M.out.blk 0 rfl)).mono ?_); rintro e w_ ⟨rfl, rfl⟩; rw [HPL.out])
        | (go_at_call 80; go_must (refine (stands_any A n xs HX.out hl _ _ (M.out.sl HS.out)).mono ?_); rintro e w_ ⟨rfl, N_⟩; have m := M.out.join N_; clear N_; simp only [List.cons_append, List.nil_append, List.append_nil] at m; have M := Lib.hid m; clear m; rw [HST.out])
        )
      go_ret2
      have m := (M.out.take 0).nilrow 60 3
      have hac : addCode F xs k p = 4 := by simp [addCode, HD.out, HT.out]
      rw [addRes, hac]
      exact ⟨none, 0, rfl, Nat.le_refl _, m⟩
    · have HST := Lib.hid hst
      have HPL := Lib.hid (show F.place k = false by rw [hpl, hki]; rfl)
      have HT := Lib.hid (show taken F xs k = true by rw [taken, hst, hki]; rfl)
      clear hst hki hpl
      go_enter Tryz.func30, Tryz.ntmps30
      go_wp2_with (first
        | ((with_reducible refine gate_dst (N := 4) rfl ?_); go_must (refine M.out.ev_new rfl (by first | (go_simp; done) | (go_simp; rfl)) ?_); intro g4 w4 m; simp only [List.cons_append, List.nil_append] at m; have M := Lib.hid m; clear m; try have q1_0 := M.out.cell (j := 0) 1 rfl (by first | assumption | rfl); try have q2_0 := M.out.cell (j := 0) 2 rfl (by first | assumption | rfl))
        | ((with_reducible refine gate_dst (N := 6) rfl ?_); go_must (refine M.out.ev_new rfl (by first | (go_simp; done) | (go_simp; rfl)) ?_); intro g6 w6 m; simp only [List.cons_append, List.nil_append] at m; have M := Lib.hid m; clear m; try have q1_0 := M.out.cell (j := 0) 1 rfl (by first | assumption | rfl); try have q2_0 := M.out.cell (j := 0) 2 rfl (by first | assumption | rfl))
        | ((with_reducible refine gate_dst (N := 7) rfl ?_); go_must (refine M.out.ev_new rfl (by first | (go_simp; done) | (go_simp; rfl)) ?_); intro g7 w7 m; simp only [List.cons_append, List.nil_append] at m; have M := Lib.hid m; clear m; try have q1_0 := M.out.cell (j := 0) 1 rfl (by first | assumption | rfl); try have q2_0 := M.out.cell (j := 0) 2 rfl (by first | assumption | rfl))
        | ((with_reducible refine gate_dst (N := 19) rfl ?_); go_must (refine M.out.ev_ld 1 _ _ rfl rfl rfl Tryz.underlying2 rfl rfl (by first | assumption | rfl) ?_))
        | ((with_reducible refine gate_dst (N := 33) rfl ?_); go_must (refine M.out.ev_ld 1 _ _ rfl rfl rfl Tryz.underlying2 rfl rfl (by first | assumption | rfl) ?_))
        | ((with_reducible refine gate_dst (N := 35) rfl ?_); go_must (refine M.out.ev_ld 2 _ _ rfl rfl rfl Tryz.underlying2 rfl rfl (by first | assumption | rfl) ?_))
        | (go_at_call 45; go_must (refine (scaresCode_any _ F HF.out A n xs HX.out hc hn 78 _ (addFine F (k : Int) p) _ (M.out.blk 0 rfl) (M.out.sl HS.out) (fun _ _ => by go_simp) (fun _ w1 m1 => addIs_any _ _ _ F HF.out (k : Int) p w1 ((M.out.join m1).blk 0 rfl) ((M.out.join m1).blk 1 rfl) ((M.out.join m1).blk 2 rfl))).mono ?_); rintro e w_ ⟨rfl, N_⟩; have m := M.out.join N_; clear N_; simp only [List.cons_append, List.nil_append, List.append_nil] at m; have M := Lib.hid m; clear m; have q1 := M.out.cell (j := 0) (v := .int .i64 (k : Int)) 1 rfl rfl)
        | (go_at_call 79; go_must (refine (isPlace_any _ F HF.out _ _ (M.out.blk 0 rfl)).mono ?_); rintro e w_ ⟨rfl, rfl⟩; rw [HPL.out])
        | (go_at_call 80; go_must (refine (stands_any A n xs HX.out hl _ _ (M.out.sl HS.out)).mono ?_); rintro e w_ ⟨rfl, N_⟩; have m := M.out.join N_; clear N_; simp only [List.cons_append, List.nil_append, List.append_nil] at m; have M := Lib.hid m; clear m; rw [HST.out])
        )
      go_ret2
      have m := (M.out.take 0).nilrow 60 3
      have hac : addCode F xs k p = 4 := by simp [addCode, HD.out, HT.out]
      rw [addRes, hac]
      exact ⟨none, 0, rfl, Nat.le_refl _, m⟩
  · have HD := Lib.hid hd
    have hdd : (scCode F xs (addFine F c p) != 0) = true := by simp [hd]
    have hac : addCode F xs c p = scCode F xs (addFine F c p) := by rw [addCode, if_pos hd]
    have HAC := Lib.hid hac
    clear hd hac
    go_enter Tryz.func30, Tryz.ntmps30
    go_wp2_with (first
      | ((with_reducible refine gate_dst (N := 4) rfl ?_); go_must (refine M.out.ev_new rfl (by first | (go_simp; done) | (go_simp; rfl)) ?_); intro g4 w4 m; simp only [List.cons_append, List.nil_append] at m; have M := Lib.hid m; clear m; try have q1_0 := M.out.cell (j := 0) 1 rfl (by first | assumption | rfl); try have q2_0 := M.out.cell (j := 0) 2 rfl (by first | assumption | rfl))
      | ((with_reducible refine gate_dst (N := 6) rfl ?_); go_must (refine M.out.ev_new rfl (by first | (go_simp; done) | (go_simp; rfl)) ?_); intro g6 w6 m; simp only [List.cons_append, List.nil_append] at m; have M := Lib.hid m; clear m; try have q1_0 := M.out.cell (j := 0) 1 rfl (by first | assumption | rfl); try have q2_0 := M.out.cell (j := 0) 2 rfl (by first | assumption | rfl))
      | ((with_reducible refine gate_dst (N := 7) rfl ?_); go_must (refine M.out.ev_new rfl (by first | (go_simp; done) | (go_simp; rfl)) ?_); intro g7 w7 m; simp only [List.cons_append, List.nil_append] at m; have M := Lib.hid m; clear m; try have q1_0 := M.out.cell (j := 0) 1 rfl (by first | assumption | rfl); try have q2_0 := M.out.cell (j := 0) 2 rfl (by first | assumption | rfl))
      | ((with_reducible refine gate_dst (N := 19) rfl ?_); go_must (refine M.out.ev_ld 1 _ _ rfl rfl rfl Tryz.underlying2 rfl rfl (by first | assumption | rfl) ?_))
      | ((with_reducible refine gate_dst (N := 33) rfl ?_); go_must (refine M.out.ev_ld 1 _ _ rfl rfl rfl Tryz.underlying2 rfl rfl (by first | assumption | rfl) ?_))
      | ((with_reducible refine gate_dst (N := 35) rfl ?_); go_must (refine M.out.ev_ld 2 _ _ rfl rfl rfl Tryz.underlying2 rfl rfl (by first | assumption | rfl) ?_))
      | (go_at_call 45; go_must (refine (scaresCode_any _ F HF.out A n xs HX.out hc hn 78 _ (addFine F c p) _ (M.out.blk 0 rfl) (M.out.sl HS.out) (fun _ _ => by go_simp) (fun _ w1 m1 => addIs_any _ _ _ F HF.out c p w1 ((M.out.join m1).blk 0 rfl) ((M.out.join m1).blk 1 rfl) ((M.out.join m1).blk 2 rfl))).mono ?_); rintro e w_ ⟨rfl, N_⟩; have m := M.out.join N_; clear N_; simp only [List.cons_append, List.nil_append, List.append_nil] at m; have M := Lib.hid m; clear m; have q1 := M.out.cell (j := 0) (v := .int .i64 c) 1 rfl rfl)
      )
    go_ret2
    have m := (M.out.take 0).nilrow 60 3
    rw [addRes, HAC.out, if_neg HD.out]
    exact ⟨none, 0, rfl, Nat.le_refl _, m⟩
set_option maxRecDepth 100000 in
set_option maxHeartbeats 2000000 in
theorem spec_AddScare_any (F : Fld) (hF : F.ok) (A : Option Addr) (n : Nat) (xs : List Scarecrow) (hx : ∀ x ∈ xs, x.ok) (hl : xs.length ≤ 1048576) (hc : xs.length ≤ n) (hn : n ≤ 9223372036854775807) (hA : A = none → n = 0) (c p : Int) (w : World) (hs : Sl w 3 A xs.length (flat Scarecrow.vals xs)) :
    Calls Tryz.prog 31 #[.agg F.cells, .slice A xs.length n, .int .i64 c, .int .i64 p] w (RetRowC w 60 3 (addRes F xs c p).length (flat Scarecrow.vals (addRes F xs c p)) (addCode F xs c p)) := by
  have M := Lib.hid (Mem.start w)
  have HX := Lib.hid hx
  have HS := Lib.hid hs
  have HF := Lib.hid hF
  have S1 := Lib.hid (Fld.size hF.toLen)
  have hm : xs.length ≤ 9223372036854775807 := by omega
  clear hx hs hF
  by_cases hd : scCode F xs (addFine F c p) = 0
  · obtain ⟨h1, h2, h3⟩ := scCode_0 hd
    rw [addFine, Bool.and_eq_true] at h3
    obtain ⟨⟨c0, c1⟩, _⟩ := Fld.has_iff.1 h3.1
    obtain ⟨p0, p1⟩ := inB_iff.1 h3.2
    have HQ := Lib.hid h3.1
    have hl20 := (scOk_iff.1 h2).1
    have HD := Lib.hid hd
    have hdd : (scCode F xs (addFine F c p) != 0) = false := by simp [hd]
    obtain ⟨k, rfl⟩ : ∃ k : Nat, c = k := ⟨c.toNat, by omega⟩
    have hk : k < 100 := by omega
    have e1 : IntKind.i16.wrap (k : Int) = k := IntWalk.i16_in _ (by omega)
    have e2 : IntKind.i16.wrap p = p := IntWalk.i16_in _ (by omega)
    have hpl : F.place k = !(F.kind k == 3) := by
      have := h3.1
      simp only [Fld.place, this, Bool.true_and, Int.toNat_natCast]
      rfl
    clear h1 h2 h3 hd
    cases ht : taken F xs k
    · have HT := Lib.hid ht
      clear ht
      by_cases h20 : xs.length = 20
      · have H20 := Lib.hid h20
        have hb20 : ((xs.length : Int) == 20) = true := by simp [h20]
        clear h20
        go_enter Tryz.func31, Tryz.ntmps31
        go_wp2_with (first
          | ((with_reducible refine gate_dst (N := 4) rfl ?_); go_must (refine M.out.ev_new rfl (by first | (go_simp; done) | (go_simp; rfl)) ?_); intro g4 w4 m; simp only [List.cons_append, List.nil_append] at m; have M := Lib.hid m; clear m)
          | ((with_reducible refine gate_dst (N := 11) rfl ?_); go_must (refine M.out.ev_new rfl (by first | (go_simp; done) | (go_simp; rfl)) ?_); intro g11 w11 m; simp only [List.cons_append, List.nil_append] at m; have M := Lib.hid m; clear m)
          | ((with_reducible refine gate_store (x := .tmp 11) rfl ?_); go_must (refine M.out.ev_stw 1 _ _ _ rfl rfl rfl rfl _ rfl (by first | rfl | (simp only [S1.out]; rfl) | (simp only [S1.out, S2.out]; rfl) | (simp only [S3.out]; rfl) | (simp only [S1.out, S2.out, S3.out]; rfl)) (by first | exact sz60 | (rw [S1.out]; exact sz60) | (rw [S2.out]; exact sz60) | (rw [S3.out]; exact sz60)) (by first | exact ints_one _ _ | exact Fld.one _ | exact O1.out | rfl | (simp [Value.oneCell']; done)) rfl ?_); intro wn m; simp only [List.set_cons_succ, List.set_cons_zero, List.setIfInBounds_toArray] at m; have M := Lib.hid m; clear m)
          | ((with_reducible refine gate_dst (N := 40) rfl ?_); go_must (refine M.out.ev_ldw 1 _ _ rfl rfl rfl Tryz.underlying60 rfl (by first | exact sz60 | (rw [S1.out]; exact sz60) | (rw [S2.out]; exact sz60) | (rw [S3.out]; exact sz60)) rfl ?_))
          | (go_at_call 50; go_must (refine (l01Is_any _ F HF.out (k : Int) _ (M.out.blk 0 rfl)).mono ?_); rintro e w_ ⟨rfl, rfl⟩; rw [HQ.out])
          | (go_at_call 56; go_must (refine (l03Power_any _ _).mono ?_); rintro e w_ ⟨rfl, rfl⟩)
          | (go_at_call 49; go_must (refine (l03Asked_any _ F HF.out A n xs HX.out hm _ _ (M.out.blk 0 rfl) (M.out.sl HS.out)).mono ?_); rintro e w_ ⟨rfl, N_⟩; have m := M.out.join N_; clear N_; simp only [List.cons_append, List.nil_append, List.append_nil] at m; have M := Lib.hid m; clear m; first | rw [show inB p 1 1000 = addFine F (k : Int) p by rw [addFine, HQ.out]; rfl] | rw [show false = addFine F (k : Int) p by rw [addFine, HQ.out]; rfl])
          | (go_at_call 81; go_must (refine (l03Taken_any _ F HF.out A n xs HX.out hl k hk _ (M.out.blk 0 rfl) (M.out.sl HS.out)).mono ?_); rintro e w_ ⟨rfl, rfl⟩; rw [HT.out])
          | ((with_reducible refine gate_dst (N := 31) rfl ?_); go_must (refine M.out.ev_bs0 elem_Scarecrow rfl rfl ?_); intro g31 w31 m; simp only [List.cons_append, List.nil_append] at m; have M := Lib.hid m; clear m)
          )
        go_ret2
        have m := M.out.only [1] (K := [_]) rfl (by decide)
        have hac : addCode F xs k p = 3 := by simp [addCode, HD.out, HT.out, H20.out]
        rw [addRes, hac]
        exact ⟨_, 0, rfl, Nat.le_refl _, m⟩
      · have H20 := Lib.hid h20
        have hb20 : ((xs.length : Int) == 20) = false := by simp; omega
        clear h20
        go_enter Tryz.func31, Tryz.ntmps31
        go_wp2_with (first
          | ((with_reducible refine gate_dst (N := 4) rfl ?_); go_must (refine M.out.ev_new rfl (by first | (go_simp; done) | (go_simp; rfl)) ?_); intro g4 w4 m; simp only [List.cons_append, List.nil_append] at m; have M := Lib.hid m; clear m)
          | ((with_reducible refine gate_dst (N := 11) rfl ?_); go_must (refine M.out.ev_new rfl (by first | (go_simp; done) | (go_simp; rfl)) ?_); intro g11 w11 m; simp only [List.cons_append, List.nil_append] at m; have M := Lib.hid m; clear m)
          | ((with_reducible refine gate_store (x := .tmp 11) rfl ?_); go_must (refine M.out.ev_stw 1 _ _ _ rfl rfl rfl rfl _ rfl (by first | rfl | (simp only [S1.out]; rfl) | (simp only [S1.out, S2.out]; rfl) | (simp only [S3.out]; rfl) | (simp only [S1.out, S2.out, S3.out]; rfl)) (by first | exact sz60 | (rw [S1.out]; exact sz60) | (rw [S2.out]; exact sz60) | (rw [S3.out]; exact sz60)) (by first | exact ints_one _ _ | exact Fld.one _ | exact O1.out | rfl | (simp [Value.oneCell']; done)) rfl ?_); intro wn m; simp only [List.set_cons_succ, List.set_cons_zero, List.setIfInBounds_toArray] at m; have M := Lib.hid m; clear m)
          | ((with_reducible refine gate_dst (N := 40) rfl ?_); go_must (refine M.out.ev_ldw 1 _ _ rfl rfl rfl Tryz.underlying60 rfl (by first | exact sz60 | (rw [S1.out]; exact sz60) | (rw [S2.out]; exact sz60) | (rw [S3.out]; exact sz60)) rfl ?_))
          | (go_at_call 50; go_must (refine (l01Is_any _ F HF.out (k : Int) _ (M.out.blk 0 rfl)).mono ?_); rintro e w_ ⟨rfl, rfl⟩; rw [HQ.out])
          | (go_at_call 56; go_must (refine (l03Power_any _ _).mono ?_); rintro e w_ ⟨rfl, rfl⟩)
          | (go_at_call 49; go_must (refine (l03Asked_any _ F HF.out A n xs HX.out hm _ _ (M.out.blk 0 rfl) (M.out.sl HS.out)).mono ?_); rintro e w_ ⟨rfl, N_⟩; have m := M.out.join N_; clear N_; simp only [List.cons_append, List.nil_append, List.append_nil] at m; have M := Lib.hid m; clear m; first | rw [show inB p 1 1000 = addFine F (k : Int) p by rw [addFine, HQ.out]; rfl] | rw [show false = addFine F (k : Int) p by rw [addFine, HQ.out]; rfl])
          | (go_at_call 81; go_must (refine (l03Taken_any _ F HF.out A n xs HX.out hl k hk _ (M.out.blk 0 rfl) (M.out.sl HS.out)).mono ?_); rintro e w_ ⟨rfl, rfl⟩; rw [HT.out])
          )
        refine region_any (by kernel_rfl) ?_
        have m := M.out.drew
        clear M
        have M := Lib.hid m
        clear m
        refine takeD (i := 1) (v := ?v15) 38 rfl (by kernel_rfl) (by kernel_rfl) (by kernel_rfl) (fun _ _ _ h => h) rfl (Or.inl ⟨by first | rfl | (go_simp; done), ?y15⟩) ?r15
        case' y15 =>
          intro w
          go_simp
          try with_reducible rfl
        case' r15 =>
          try simp only [Act.put, List.setIfInBounds_toArray, List.set_cons_succ, List.set_cons_zero]
          refine any2k 0 3 (by kernel_rfl) rfl rfl (fun K hK => ?x16_1) (fun K hK => ?x16_2)
          case' x16_2 =>
            go_wp2_with (first | ((with_reducible refine gate_dst (N := 40) rfl ?_); go_must (refine M.out.ev_ldw 1 _ _ rfl rfl rfl Tryz.underlying60 rfl (by first | exact sz60 | (rw [S1.out]; exact sz60) | (rw [S2.out]; exact sz60) | (rw [S3.out]; exact sz60)) rfl ?_)) | ((with_reducible refine gate_dst (N := 37) rfl ?_); go_must (refine M.out.ev_bs0 elem_Scarecrow rfl rfl ?_); intro g37 w37 m; simp only [List.cons_append, List.nil_append] at m; have M := Lib.hid m; clear m) | ((with_reducible refine gate_dst (N := 39) rfl ?_); go_must (first | (refine M.out.ev_appends 2 elem_Scarecrow rfl _ _ rfl rfl rfl rfl (M.out.sl HS.out) hA hc (flat_one Scarecrow.ones xs) (by omega) (by decide) ?_) | (refine M.out.ev_appends 3 elem_Scarecrow rfl _ _ rfl rfl rfl rfl (M.out.sl HS.out) hA hc (flat_one Scarecrow.ones xs) (by omega) (by decide) ?_)); intro v39 w39 m; simp only [List.set_cons_succ, List.set_cons_zero, List.nil_append, Nat.zero_add] at m; have M := Lib.hid m; clear m) | ((with_reducible refine gate_dst (N := 41) rfl ?_); go_must (refine M.out.ev_bs1 elem_Scarecrow rfl _ rfl (Scarecrow.vals ⟨k, p, 0⟩).toArray rfl rfl (by decide) ?_); intro g41 w41 m; simp only [List.cons_append, List.nil_append] at m; have M := Lib.hid m; clear m) | ((with_reducible refine gate_dst (N := 42) rfl ?_); go_must (first | (refine M.out.ev_append1 2 3 elem_Scarecrow rfl _ _ rfl rfl rfl rfl rfl rfl (Scarecrow.one _) (by omega) (by decide) ?_) | (refine M.out.ev_append1 3 2 elem_Scarecrow rfl _ _ rfl rfl rfl rfl rfl rfl (Scarecrow.one _) (by omega) (by decide) ?_)); intro v42 w42 m; simp only [List.set_cons_succ, List.set_cons_zero] at m; have M := Lib.hid m; clear m))
            refine onward_normal (hK _ _ ?_)
            clear hK K
            try simp only [Act.put, List.getElem_toArray, List.getElem_cons_succ, List.getElem_cons_zero, List.setIfInBounds_toArray, List.set_cons_succ, List.set_cons_zero]
            refine any2k 0 4 (by kernel_rfl) rfl rfl (fun K hK => ?x17_1) (fun K hK => ?x17_2)
            case' x17_2 =>
              go_wp2_with (first | ((with_reducible refine gate_dst (N := 40) rfl ?_); go_must (refine M.out.ev_ldw 1 _ _ rfl rfl rfl Tryz.underlying60 rfl (by first | exact sz60 | (rw [S1.out]; exact sz60) | (rw [S2.out]; exact sz60) | (rw [S3.out]; exact sz60)) rfl ?_)) | ((with_reducible refine gate_dst (N := 37) rfl ?_); go_must (refine M.out.ev_bs0 elem_Scarecrow rfl rfl ?_); intro g37 w37 m; simp only [List.cons_append, List.nil_append] at m; have M := Lib.hid m; clear m) | ((with_reducible refine gate_dst (N := 39) rfl ?_); go_must (first | (refine M.out.ev_appends 2 elem_Scarecrow rfl _ _ rfl rfl rfl rfl (M.out.sl HS.out) hA hc (flat_one Scarecrow.ones xs) (by omega) (by decide) ?_) | (refine M.out.ev_appends 3 elem_Scarecrow rfl _ _ rfl rfl rfl rfl (M.out.sl HS.out) hA hc (flat_one Scarecrow.ones xs) (by omega) (by decide) ?_)); intro v39 w39 m; simp only [List.set_cons_succ, List.set_cons_zero, List.nil_append, Nat.zero_add] at m; have M := Lib.hid m; clear m) | ((with_reducible refine gate_dst (N := 41) rfl ?_); go_must (refine M.out.ev_bs1 elem_Scarecrow rfl _ rfl (Scarecrow.vals ⟨k, p, 0⟩).toArray rfl rfl (by decide) ?_); intro g41 w41 m; simp only [List.cons_append, List.nil_append] at m; have M := Lib.hid m; clear m) | ((with_reducible refine gate_dst (N := 42) rfl ?_); go_must (first | (refine M.out.ev_append1 2 3 elem_Scarecrow rfl _ _ rfl rfl rfl rfl rfl rfl (Scarecrow.one _) (by omega) (by decide) ?_) | (refine M.out.ev_append1 3 2 elem_Scarecrow rfl _ _ rfl rfl rfl rfl rfl rfl (Scarecrow.one _) (by omega) (by decide) ?_)); intro v42 w42 m; simp only [List.set_cons_succ, List.set_cons_zero] at m; have M := Lib.hid m; clear m))
              refine onward_normal (hK _ _ ?_)
              clear hK K
              try simp only [Act.put, List.getElem_toArray, List.getElem_cons_succ, List.getElem_cons_zero, List.setIfInBounds_toArray, List.set_cons_succ, List.set_cons_zero]
              refine any1k 0 (by kernel_rfl) rfl (fun K hK => ?_)
              go_wp2_with (first | ((with_reducible refine gate_dst (N := 40) rfl ?_); go_must (refine M.out.ev_ldw 1 _ _ rfl rfl rfl Tryz.underlying60 rfl (by first | exact sz60 | (rw [S1.out]; exact sz60) | (rw [S2.out]; exact sz60) | (rw [S3.out]; exact sz60)) rfl ?_)) | ((with_reducible refine gate_dst (N := 37) rfl ?_); go_must (refine M.out.ev_bs0 elem_Scarecrow rfl rfl ?_); intro g37 w37 m; simp only [List.cons_append, List.nil_append] at m; have M := Lib.hid m; clear m) | ((with_reducible refine gate_dst (N := 39) rfl ?_); go_must (first | (refine M.out.ev_appends 2 elem_Scarecrow rfl _ _ rfl rfl rfl rfl (M.out.sl HS.out) hA hc (flat_one Scarecrow.ones xs) (by omega) (by decide) ?_) | (refine M.out.ev_appends 3 elem_Scarecrow rfl _ _ rfl rfl rfl rfl (M.out.sl HS.out) hA hc (flat_one Scarecrow.ones xs) (by omega) (by decide) ?_)); intro v39 w39 m; simp only [List.set_cons_succ, List.set_cons_zero, List.nil_append, Nat.zero_add] at m; have M := Lib.hid m; clear m) | ((with_reducible refine gate_dst (N := 41) rfl ?_); go_must (refine M.out.ev_bs1 elem_Scarecrow rfl _ rfl (Scarecrow.vals ⟨k, p, 0⟩).toArray rfl rfl (by decide) ?_); intro g41 w41 m; simp only [List.cons_append, List.nil_append] at m; have M := Lib.hid m; clear m) | ((with_reducible refine gate_dst (N := 42) rfl ?_); go_must (first | (refine M.out.ev_append1 2 3 elem_Scarecrow rfl _ _ rfl rfl rfl rfl rfl rfl (Scarecrow.one _) (by omega) (by decide) ?_) | (refine M.out.ev_append1 3 2 elem_Scarecrow rfl _ _ rfl rfl rfl rfl rfl rfl (Scarecrow.one _) (by omega) (by decide) ?_)); intro v42 w42 m; simp only [List.set_cons_succ, List.set_cons_zero] at m; have M := Lib.hid m; clear m))
              refine onward_normal (hK _ _ ?_)
              clear hK K
              try simp only [Act.put, List.getElem_toArray, List.getElem_cons_succ, List.getElem_cons_zero, List.setIfInBounds_toArray, List.set_cons_succ, List.set_cons_zero]
              refine any1k 2 (by kernel_rfl) rfl (fun K hK => ?_)
              go_wp2_with (first | ((with_reducible refine gate_dst (N := 40) rfl ?_); go_must (refine M.out.ev_ldw 1 _ _ rfl rfl rfl Tryz.underlying60 rfl (by first | exact sz60 | (rw [S1.out]; exact sz60) | (rw [S2.out]; exact sz60) | (rw [S3.out]; exact sz60)) rfl ?_)) | ((with_reducible refine gate_dst (N := 37) rfl ?_); go_must (refine M.out.ev_bs0 elem_Scarecrow rfl rfl ?_); intro g37 w37 m; simp only [List.cons_append, List.nil_append] at m; have M := Lib.hid m; clear m) | ((with_reducible refine gate_dst (N := 39) rfl ?_); go_must (first | (refine M.out.ev_appends 2 elem_Scarecrow rfl _ _ rfl rfl rfl rfl (M.out.sl HS.out) hA hc (flat_one Scarecrow.ones xs) (by omega) (by decide) ?_) | (refine M.out.ev_appends 3 elem_Scarecrow rfl _ _ rfl rfl rfl rfl (M.out.sl HS.out) hA hc (flat_one Scarecrow.ones xs) (by omega) (by decide) ?_)); intro v39 w39 m; simp only [List.set_cons_succ, List.set_cons_zero, List.nil_append, Nat.zero_add] at m; have M := Lib.hid m; clear m) | ((with_reducible refine gate_dst (N := 41) rfl ?_); go_must (refine M.out.ev_bs1 elem_Scarecrow rfl _ rfl (Scarecrow.vals ⟨k, p, 0⟩).toArray rfl rfl (by decide) ?_); intro g41 w41 m; simp only [List.cons_append, List.nil_append] at m; have M := Lib.hid m; clear m) | ((with_reducible refine gate_dst (N := 42) rfl ?_); go_must (first | (refine M.out.ev_append1 2 3 elem_Scarecrow rfl _ _ rfl rfl rfl rfl rfl rfl (Scarecrow.one _) (by omega) (by decide) ?_) | (refine M.out.ev_append1 3 2 elem_Scarecrow rfl _ _ rfl rfl rfl rfl rfl rfl (Scarecrow.one _) (by omega) (by decide) ?_)); intro v42 w42 m; simp only [List.set_cons_succ, List.set_cons_zero] at m; have M := Lib.hid m; clear m))
              refine onward_normal (hK _ _ ?_)
              clear hK K
              try simp only [Act.put, List.getElem_toArray, List.getElem_cons_succ, List.getElem_cons_zero, List.setIfInBounds_toArray, List.set_cons_succ, List.set_cons_zero]
              refine any1k 5 (by kernel_rfl) rfl (fun K hK => ?_)
              go_wp2_with (first | ((with_reducible refine gate_dst (N := 40) rfl ?_); go_must (refine M.out.ev_ldw 1 _ _ rfl rfl rfl Tryz.underlying60 rfl (by first | exact sz60 | (rw [S1.out]; exact sz60) | (rw [S2.out]; exact sz60) | (rw [S3.out]; exact sz60)) rfl ?_)) | ((with_reducible refine gate_dst (N := 37) rfl ?_); go_must (refine M.out.ev_bs0 elem_Scarecrow rfl rfl ?_); intro g37 w37 m; simp only [List.cons_append, List.nil_append] at m; have M := Lib.hid m; clear m) | ((with_reducible refine gate_dst (N := 39) rfl ?_); go_must (first | (refine M.out.ev_appends 2 elem_Scarecrow rfl _ _ rfl rfl rfl rfl (M.out.sl HS.out) hA hc (flat_one Scarecrow.ones xs) (by omega) (by decide) ?_) | (refine M.out.ev_appends 3 elem_Scarecrow rfl _ _ rfl rfl rfl rfl (M.out.sl HS.out) hA hc (flat_one Scarecrow.ones xs) (by omega) (by decide) ?_)); intro v39 w39 m; simp only [List.set_cons_succ, List.set_cons_zero, List.nil_append, Nat.zero_add] at m; have M := Lib.hid m; clear m) | ((with_reducible refine gate_dst (N := 41) rfl ?_); go_must (refine M.out.ev_bs1 elem_Scarecrow rfl _ rfl (Scarecrow.vals ⟨k, p, 0⟩).toArray rfl rfl (by decide) ?_); intro g41 w41 m; simp only [List.cons_append, List.nil_append] at m; have M := Lib.hid m; clear m) | ((with_reducible refine gate_dst (N := 42) rfl ?_); go_must (first | (refine M.out.ev_append1 2 3 elem_Scarecrow rfl _ _ rfl rfl rfl rfl rfl rfl (Scarecrow.one _) (by omega) (by decide) ?_) | (refine M.out.ev_append1 3 2 elem_Scarecrow rfl _ _ rfl rfl rfl rfl rfl rfl (Scarecrow.one _) (by omega) (by decide) ?_)); intro v42 w42 m; simp only [List.set_cons_succ, List.set_cons_zero] at m; have M := Lib.hid m; clear m))
              refine onward_normal (hK _ _ ?_)
              clear hK K
              try simp only [Act.put, List.getElem_toArray, List.getElem_cons_succ, List.getElem_cons_zero, List.setIfInBounds_toArray, List.set_cons_succ, List.set_cons_zero]
              refine any1k 6 (by kernel_rfl) rfl (fun K hK => ?_)
              go_wp2
              refine onward_normal (hK _ _ ?_)
              clear hK K
              try simp only [Act.put, List.getElem_toArray, List.getElem_cons_succ, List.getElem_cons_zero, List.setIfInBounds_toArray, List.set_cons_succ, List.set_cons_zero]
              refine any1k 7 (by kernel_rfl) rfl (fun K hK => ?_)
              go_wp2
              refine onward_normal (hK _ _ ?_)
              clear hK K
              try simp only [Act.put, List.getElem_toArray, List.getElem_cons_succ, List.getElem_cons_zero, List.setIfInBounds_toArray, List.set_cons_succ, List.set_cons_zero]
              refine wpAny_done (by kernel_rfl) ?_ _
            case' x17_1 =>
              go_wp2_with (first | ((with_reducible refine gate_dst (N := 40) rfl ?_); go_must (refine M.out.ev_ldw 1 _ _ rfl rfl rfl Tryz.underlying60 rfl (by first | exact sz60 | (rw [S1.out]; exact sz60) | (rw [S2.out]; exact sz60) | (rw [S3.out]; exact sz60)) rfl ?_)) | ((with_reducible refine gate_dst (N := 37) rfl ?_); go_must (refine M.out.ev_bs0 elem_Scarecrow rfl rfl ?_); intro g37 w37 m; simp only [List.cons_append, List.nil_append] at m; have M := Lib.hid m; clear m) | ((with_reducible refine gate_dst (N := 39) rfl ?_); go_must (first | (refine M.out.ev_appends 2 elem_Scarecrow rfl _ _ rfl rfl rfl rfl (M.out.sl HS.out) hA hc (flat_one Scarecrow.ones xs) (by omega) (by decide) ?_) | (refine M.out.ev_appends 3 elem_Scarecrow rfl _ _ rfl rfl rfl rfl (M.out.sl HS.out) hA hc (flat_one Scarecrow.ones xs) (by omega) (by decide) ?_)); intro v39 w39 m; simp only [List.set_cons_succ, List.set_cons_zero, List.nil_append, Nat.zero_add] at m; have M := Lib.hid m; clear m) | ((with_reducible refine gate_dst (N := 41) rfl ?_); go_must (refine M.out.ev_bs1 elem_Scarecrow rfl _ rfl (Scarecrow.vals ⟨k, p, 0⟩).toArray rfl rfl (by decide) ?_); intro g41 w41 m; simp only [List.cons_append, List.nil_append] at m; have M := Lib.hid m; clear m) | ((with_reducible refine gate_dst (N := 42) rfl ?_); go_must (first | (refine M.out.ev_append1 2 3 elem_Scarecrow rfl _ _ rfl rfl rfl rfl rfl rfl (Scarecrow.one _) (by omega) (by decide) ?_) | (refine M.out.ev_append1 3 2 elem_Scarecrow rfl _ _ rfl rfl rfl rfl rfl rfl (Scarecrow.one _) (by omega) (by decide) ?_)); intro v42 w42 m; simp only [List.set_cons_succ, List.set_cons_zero] at m; have M := Lib.hid m; clear m))
              refine onward_normal (hK _ _ ?_)
              clear hK K
              try simp only [Act.put, List.getElem_toArray, List.getElem_cons_succ, List.getElem_cons_zero, List.setIfInBounds_toArray, List.set_cons_succ, List.set_cons_zero]
              refine any2k 2 4 (by kernel_rfl) rfl rfl (fun K hK => ?x18_1) (fun K hK => ?x18_2)
              case' x18_2 =>
                go_wp2_with (first | ((with_reducible refine gate_dst (N := 40) rfl ?_); go_must (refine M.out.ev_ldw 1 _ _ rfl rfl rfl Tryz.underlying60 rfl (by first | exact sz60 | (rw [S1.out]; exact sz60) | (rw [S2.out]; exact sz60) | (rw [S3.out]; exact sz60)) rfl ?_)) | ((with_reducible refine gate_dst (N := 37) rfl ?_); go_must (refine M.out.ev_bs0 elem_Scarecrow rfl rfl ?_); intro g37 w37 m; simp only [List.cons_append, List.nil_append] at m; have M := Lib.hid m; clear m) | ((with_reducible refine gate_dst (N := 39) rfl ?_); go_must (first | (refine M.out.ev_appends 2 elem_Scarecrow rfl _ _ rfl rfl rfl rfl (M.out.sl HS.out) hA hc (flat_one Scarecrow.ones xs) (by omega) (by decide) ?_) | (refine M.out.ev_appends 3 elem_Scarecrow rfl _ _ rfl rfl rfl rfl (M.out.sl HS.out) hA hc (flat_one Scarecrow.ones xs) (by omega) (by decide) ?_)); intro v39 w39 m; simp only [List.set_cons_succ, List.set_cons_zero, List.nil_append, Nat.zero_add] at m; have M := Lib.hid m; clear m) | ((with_reducible refine gate_dst (N := 41) rfl ?_); go_must (refine M.out.ev_bs1 elem_Scarecrow rfl _ rfl (Scarecrow.vals ⟨k, p, 0⟩).toArray rfl rfl (by decide) ?_); intro g41 w41 m; simp only [List.cons_append, List.nil_append] at m; have M := Lib.hid m; clear m) | ((with_reducible refine gate_dst (N := 42) rfl ?_); go_must (first | (refine M.out.ev_append1 2 3 elem_Scarecrow rfl _ _ rfl rfl rfl rfl rfl rfl (Scarecrow.one _) (by omega) (by decide) ?_) | (refine M.out.ev_append1 3 2 elem_Scarecrow rfl _ _ rfl rfl rfl rfl rfl rfl (Scarecrow.one _) (by omega) (by decide) ?_)); intro v42 w42 m; simp only [List.set_cons_succ, List.set_cons_zero] at m; have M := Lib.hid m; clear m))
                refine onward_normal (hK _ _ ?_)
                clear hK K
                try simp only [Act.put, List.getElem_toArray, List.getElem_cons_succ, List.getElem_cons_zero, List.setIfInBounds_toArray, List.set_cons_succ, List.set_cons_zero]
                refine any1k 2 (by kernel_rfl) rfl (fun K hK => ?_)
                go_wp2_with (first | ((with_reducible refine gate_dst (N := 40) rfl ?_); go_must (refine M.out.ev_ldw 1 _ _ rfl rfl rfl Tryz.underlying60 rfl (by first | exact sz60 | (rw [S1.out]; exact sz60) | (rw [S2.out]; exact sz60) | (rw [S3.out]; exact sz60)) rfl ?_)) | ((with_reducible refine gate_dst (N := 37) rfl ?_); go_must (refine M.out.ev_bs0 elem_Scarecrow rfl rfl ?_); intro g37 w37 m; simp only [List.cons_append, List.nil_append] at m; have M := Lib.hid m; clear m) | ((with_reducible refine gate_dst (N := 39) rfl ?_); go_must (first | (refine M.out.ev_appends 2 elem_Scarecrow rfl _ _ rfl rfl rfl rfl (M.out.sl HS.out) hA hc (flat_one Scarecrow.ones xs) (by omega) (by decide) ?_) | (refine M.out.ev_appends 3 elem_Scarecrow rfl _ _ rfl rfl rfl rfl (M.out.sl HS.out) hA hc (flat_one Scarecrow.ones xs) (by omega) (by decide) ?_)); intro v39 w39 m; simp only [List.set_cons_succ, List.set_cons_zero, List.nil_append, Nat.zero_add] at m; have M := Lib.hid m; clear m) | ((with_reducible refine gate_dst (N := 41) rfl ?_); go_must (refine M.out.ev_bs1 elem_Scarecrow rfl _ rfl (Scarecrow.vals ⟨k, p, 0⟩).toArray rfl rfl (by decide) ?_); intro g41 w41 m; simp only [List.cons_append, List.nil_append] at m; have M := Lib.hid m; clear m) | ((with_reducible refine gate_dst (N := 42) rfl ?_); go_must (first | (refine M.out.ev_append1 2 3 elem_Scarecrow rfl _ _ rfl rfl rfl rfl rfl rfl (Scarecrow.one _) (by omega) (by decide) ?_) | (refine M.out.ev_append1 3 2 elem_Scarecrow rfl _ _ rfl rfl rfl rfl rfl rfl (Scarecrow.one _) (by omega) (by decide) ?_)); intro v42 w42 m; simp only [List.set_cons_succ, List.set_cons_zero] at m; have M := Lib.hid m; clear m))
                refine onward_normal (hK _ _ ?_)
                clear hK K
                try simp only [Act.put, List.getElem_toArray, List.getElem_cons_succ, List.getElem_cons_zero, List.setIfInBounds_toArray, List.set_cons_succ, List.set_cons_zero]
                refine any1k 5 (by kernel_rfl) rfl (fun K hK => ?_)
                go_wp2_with (first | ((with_reducible refine gate_dst (N := 40) rfl ?_); go_must (refine M.out.ev_ldw 1 _ _ rfl rfl rfl Tryz.underlying60 rfl (by first | exact sz60 | (rw [S1.out]; exact sz60) | (rw [S2.out]; exact sz60) | (rw [S3.out]; exact sz60)) rfl ?_)) | ((with_reducible refine gate_dst (N := 37) rfl ?_); go_must (refine M.out.ev_bs0 elem_Scarecrow rfl rfl ?_); intro g37 w37 m; simp only [List.cons_append, List.nil_append] at m; have M := Lib.hid m; clear m) | ((with_reducible refine gate_dst (N := 39) rfl ?_); go_must (first | (refine M.out.ev_appends 2 elem_Scarecrow rfl _ _ rfl rfl rfl rfl (M.out.sl HS.out) hA hc (flat_one Scarecrow.ones xs) (by omega) (by decide) ?_) | (refine M.out.ev_appends 3 elem_Scarecrow rfl _ _ rfl rfl rfl rfl (M.out.sl HS.out) hA hc (flat_one Scarecrow.ones xs) (by omega) (by decide) ?_)); intro v39 w39 m; simp only [List.set_cons_succ, List.set_cons_zero, List.nil_append, Nat.zero_add] at m; have M := Lib.hid m; clear m) | ((with_reducible refine gate_dst (N := 41) rfl ?_); go_must (refine M.out.ev_bs1 elem_Scarecrow rfl _ rfl (Scarecrow.vals ⟨k, p, 0⟩).toArray rfl rfl (by decide) ?_); intro g41 w41 m; simp only [List.cons_append, List.nil_append] at m; have M := Lib.hid m; clear m) | ((with_reducible refine gate_dst (N := 42) rfl ?_); go_must (first | (refine M.out.ev_append1 2 3 elem_Scarecrow rfl _ _ rfl rfl rfl rfl rfl rfl (Scarecrow.one _) (by omega) (by decide) ?_) | (refine M.out.ev_append1 3 2 elem_Scarecrow rfl _ _ rfl rfl rfl rfl rfl rfl (Scarecrow.one _) (by omega) (by decide) ?_)); intro v42 w42 m; simp only [List.set_cons_succ, List.set_cons_zero] at m; have M := Lib.hid m; clear m))
                refine onward_normal (hK _ _ ?_)
                clear hK K
                try simp only [Act.put, List.getElem_toArray, List.getElem_cons_succ, List.getElem_cons_zero, List.setIfInBounds_toArray, List.set_cons_succ, List.set_cons_zero]
                refine any1k 6 (by kernel_rfl) rfl (fun K hK => ?_)
                go_wp2
                refine onward_normal (hK _ _ ?_)
                clear hK K
                try simp only [Act.put, List.getElem_toArray, List.getElem_cons_succ, List.getElem_cons_zero, List.setIfInBounds_toArray, List.set_cons_succ, List.set_cons_zero]
                refine any1k 7 (by kernel_rfl) rfl (fun K hK => ?_)
                go_wp2
                refine onward_normal (hK _ _ ?_)
                clear hK K
                try simp only [Act.put, List.getElem_toArray, List.getElem_cons_succ, List.getElem_cons_zero, List.setIfInBounds_toArray, List.set_cons_succ, List.set_cons_zero]
                refine wpAny_done (by kernel_rfl) ?_ _
              case' x18_1 =>
                go_wp2_with (first | ((with_reducible refine gate_dst (N := 40) rfl ?_); go_must (refine M.out.ev_ldw 1 _ _ rfl rfl rfl Tryz.underlying60 rfl (by first | exact sz60 | (rw [S1.out]; exact sz60) | (rw [S2.out]; exact sz60) | (rw [S3.out]; exact sz60)) rfl ?_)) | ((with_reducible refine gate_dst (N := 37) rfl ?_); go_must (refine M.out.ev_bs0 elem_Scarecrow rfl rfl ?_); intro g37 w37 m; simp only [List.cons_append, List.nil_append] at m; have M := Lib.hid m; clear m) | ((with_reducible refine gate_dst (N := 39) rfl ?_); go_must (first | (refine M.out.ev_appends 2 elem_Scarecrow rfl _ _ rfl rfl rfl rfl (M.out.sl HS.out) hA hc (flat_one Scarecrow.ones xs) (by omega) (by decide) ?_) | (refine M.out.ev_appends 3 elem_Scarecrow rfl _ _ rfl rfl rfl rfl (M.out.sl HS.out) hA hc (flat_one Scarecrow.ones xs) (by omega) (by decide) ?_)); intro v39 w39 m; simp only [List.set_cons_succ, List.set_cons_zero, List.nil_append, Nat.zero_add] at m; have M := Lib.hid m; clear m) | ((with_reducible refine gate_dst (N := 41) rfl ?_); go_must (refine M.out.ev_bs1 elem_Scarecrow rfl _ rfl (Scarecrow.vals ⟨k, p, 0⟩).toArray rfl rfl (by decide) ?_); intro g41 w41 m; simp only [List.cons_append, List.nil_append] at m; have M := Lib.hid m; clear m) | ((with_reducible refine gate_dst (N := 42) rfl ?_); go_must (first | (refine M.out.ev_append1 2 3 elem_Scarecrow rfl _ _ rfl rfl rfl rfl rfl rfl (Scarecrow.one _) (by omega) (by decide) ?_) | (refine M.out.ev_append1 3 2 elem_Scarecrow rfl _ _ rfl rfl rfl rfl rfl rfl (Scarecrow.one _) (by omega) (by decide) ?_)); intro v42 w42 m; simp only [List.set_cons_succ, List.set_cons_zero] at m; have M := Lib.hid m; clear m))
                refine onward_normal (hK _ _ ?_)
                clear hK K
                try simp only [Act.put, List.getElem_toArray, List.getElem_cons_succ, List.getElem_cons_zero, List.setIfInBounds_toArray, List.set_cons_succ, List.set_cons_zero]
                refine any1k 4 (by kernel_rfl) rfl (fun K hK => ?_)
                go_wp2_with (first | ((with_reducible refine gate_dst (N := 40) rfl ?_); go_must (refine M.out.ev_ldw 1 _ _ rfl rfl rfl Tryz.underlying60 rfl (by first | exact sz60 | (rw [S1.out]; exact sz60) | (rw [S2.out]; exact sz60) | (rw [S3.out]; exact sz60)) rfl ?_)) | ((with_reducible refine gate_dst (N := 37) rfl ?_); go_must (refine M.out.ev_bs0 elem_Scarecrow rfl rfl ?_); intro g37 w37 m; simp only [List.cons_append, List.nil_append] at m; have M := Lib.hid m; clear m) | ((with_reducible refine gate_dst (N := 39) rfl ?_); go_must (first | (refine M.out.ev_appends 2 elem_Scarecrow rfl _ _ rfl rfl rfl rfl (M.out.sl HS.out) hA hc (flat_one Scarecrow.ones xs) (by omega) (by decide) ?_) | (refine M.out.ev_appends 3 elem_Scarecrow rfl _ _ rfl rfl rfl rfl (M.out.sl HS.out) hA hc (flat_one Scarecrow.ones xs) (by omega) (by decide) ?_)); intro v39 w39 m; simp only [List.set_cons_succ, List.set_cons_zero, List.nil_append, Nat.zero_add] at m; have M := Lib.hid m; clear m) | ((with_reducible refine gate_dst (N := 41) rfl ?_); go_must (refine M.out.ev_bs1 elem_Scarecrow rfl _ rfl (Scarecrow.vals ⟨k, p, 0⟩).toArray rfl rfl (by decide) ?_); intro g41 w41 m; simp only [List.cons_append, List.nil_append] at m; have M := Lib.hid m; clear m) | ((with_reducible refine gate_dst (N := 42) rfl ?_); go_must (first | (refine M.out.ev_append1 2 3 elem_Scarecrow rfl _ _ rfl rfl rfl rfl rfl rfl (Scarecrow.one _) (by omega) (by decide) ?_) | (refine M.out.ev_append1 3 2 elem_Scarecrow rfl _ _ rfl rfl rfl rfl rfl rfl (Scarecrow.one _) (by omega) (by decide) ?_)); intro v42 w42 m; simp only [List.set_cons_succ, List.set_cons_zero] at m; have M := Lib.hid m; clear m))
                refine onward_normal (hK _ _ ?_)
                clear hK K
                try simp only [Act.put, List.getElem_toArray, List.getElem_cons_succ, List.getElem_cons_zero, List.setIfInBounds_toArray, List.set_cons_succ, List.set_cons_zero]
                refine any1k 5 (by kernel_rfl) rfl (fun K hK => ?_)
                go_wp2_with (first | ((with_reducible refine gate_dst (N := 40) rfl ?_); go_must (refine M.out.ev_ldw 1 _ _ rfl rfl rfl Tryz.underlying60 rfl (by first | exact sz60 | (rw [S1.out]; exact sz60) | (rw [S2.out]; exact sz60) | (rw [S3.out]; exact sz60)) rfl ?_)) | ((with_reducible refine gate_dst (N := 37) rfl ?_); go_must (refine M.out.ev_bs0 elem_Scarecrow rfl rfl ?_); intro g37 w37 m; simp only [List.cons_append, List.nil_append] at m; have M := Lib.hid m; clear m) | ((with_reducible refine gate_dst (N := 39) rfl ?_); go_must (first | (refine M.out.ev_appends 2 elem_Scarecrow rfl _ _ rfl rfl rfl rfl (M.out.sl HS.out) hA hc (flat_one Scarecrow.ones xs) (by omega) (by decide) ?_) | (refine M.out.ev_appends 3 elem_Scarecrow rfl _ _ rfl rfl rfl rfl (M.out.sl HS.out) hA hc (flat_one Scarecrow.ones xs) (by omega) (by decide) ?_)); intro v39 w39 m; simp only [List.set_cons_succ, List.set_cons_zero, List.nil_append, Nat.zero_add] at m; have M := Lib.hid m; clear m) | ((with_reducible refine gate_dst (N := 41) rfl ?_); go_must (refine M.out.ev_bs1 elem_Scarecrow rfl _ rfl (Scarecrow.vals ⟨k, p, 0⟩).toArray rfl rfl (by decide) ?_); intro g41 w41 m; simp only [List.cons_append, List.nil_append] at m; have M := Lib.hid m; clear m) | ((with_reducible refine gate_dst (N := 42) rfl ?_); go_must (first | (refine M.out.ev_append1 2 3 elem_Scarecrow rfl _ _ rfl rfl rfl rfl rfl rfl (Scarecrow.one _) (by omega) (by decide) ?_) | (refine M.out.ev_append1 3 2 elem_Scarecrow rfl _ _ rfl rfl rfl rfl rfl rfl (Scarecrow.one _) (by omega) (by decide) ?_)); intro v42 w42 m; simp only [List.set_cons_succ, List.set_cons_zero] at m; have M := Lib.hid m; clear m))
                refine onward_normal (hK _ _ ?_)
                clear hK K
                try simp only [Act.put, List.getElem_toArray, List.getElem_cons_succ, List.getElem_cons_zero, List.setIfInBounds_toArray, List.set_cons_succ, List.set_cons_zero]
                refine any1k 6 (by kernel_rfl) rfl (fun K hK => ?_)
                go_wp2
                refine onward_normal (hK _ _ ?_)
                clear hK K
                try simp only [Act.put, List.getElem_toArray, List.getElem_cons_succ, List.getElem_cons_zero, List.setIfInBounds_toArray, List.set_cons_succ, List.set_cons_zero]
                refine any1k 7 (by kernel_rfl) rfl (fun K hK => ?_)
                go_wp2
                refine onward_normal (hK _ _ ?_)
                clear hK K
                try simp only [Act.put, List.getElem_toArray, List.getElem_cons_succ, List.getElem_cons_zero, List.setIfInBounds_toArray, List.set_cons_succ, List.set_cons_zero]
                refine wpAny_done (by kernel_rfl) ?_ _
          case' x16_1 =>
            go_wp2_with (first | ((with_reducible refine gate_dst (N := 40) rfl ?_); go_must (refine M.out.ev_ldw 1 _ _ rfl rfl rfl Tryz.underlying60 rfl (by first | exact sz60 | (rw [S1.out]; exact sz60) | (rw [S2.out]; exact sz60) | (rw [S3.out]; exact sz60)) rfl ?_)) | ((with_reducible refine gate_dst (N := 37) rfl ?_); go_must (refine M.out.ev_bs0 elem_Scarecrow rfl rfl ?_); intro g37 w37 m; simp only [List.cons_append, List.nil_append] at m; have M := Lib.hid m; clear m) | ((with_reducible refine gate_dst (N := 39) rfl ?_); go_must (first | (refine M.out.ev_appends 2 elem_Scarecrow rfl _ _ rfl rfl rfl rfl (M.out.sl HS.out) hA hc (flat_one Scarecrow.ones xs) (by omega) (by decide) ?_) | (refine M.out.ev_appends 3 elem_Scarecrow rfl _ _ rfl rfl rfl rfl (M.out.sl HS.out) hA hc (flat_one Scarecrow.ones xs) (by omega) (by decide) ?_)); intro v39 w39 m; simp only [List.set_cons_succ, List.set_cons_zero, List.nil_append, Nat.zero_add] at m; have M := Lib.hid m; clear m) | ((with_reducible refine gate_dst (N := 41) rfl ?_); go_must (refine M.out.ev_bs1 elem_Scarecrow rfl _ rfl (Scarecrow.vals ⟨k, p, 0⟩).toArray rfl rfl (by decide) ?_); intro g41 w41 m; simp only [List.cons_append, List.nil_append] at m; have M := Lib.hid m; clear m) | ((with_reducible refine gate_dst (N := 42) rfl ?_); go_must (first | (refine M.out.ev_append1 2 3 elem_Scarecrow rfl _ _ rfl rfl rfl rfl rfl rfl (Scarecrow.one _) (by omega) (by decide) ?_) | (refine M.out.ev_append1 3 2 elem_Scarecrow rfl _ _ rfl rfl rfl rfl rfl rfl (Scarecrow.one _) (by omega) (by decide) ?_)); intro v42 w42 m; simp only [List.set_cons_succ, List.set_cons_zero] at m; have M := Lib.hid m; clear m))
            refine onward_normal (hK _ _ ?_)
            clear hK K
            try simp only [Act.put, List.getElem_toArray, List.getElem_cons_succ, List.getElem_cons_zero, List.setIfInBounds_toArray, List.set_cons_succ, List.set_cons_zero]
            refine any2k 2 3 (by kernel_rfl) rfl rfl (fun K hK => ?x19_1) (fun K hK => ?x19_2)
            case' x19_2 =>
              go_wp2_with (first | ((with_reducible refine gate_dst (N := 40) rfl ?_); go_must (refine M.out.ev_ldw 1 _ _ rfl rfl rfl Tryz.underlying60 rfl (by first | exact sz60 | (rw [S1.out]; exact sz60) | (rw [S2.out]; exact sz60) | (rw [S3.out]; exact sz60)) rfl ?_)) | ((with_reducible refine gate_dst (N := 37) rfl ?_); go_must (refine M.out.ev_bs0 elem_Scarecrow rfl rfl ?_); intro g37 w37 m; simp only [List.cons_append, List.nil_append] at m; have M := Lib.hid m; clear m) | ((with_reducible refine gate_dst (N := 39) rfl ?_); go_must (first | (refine M.out.ev_appends 2 elem_Scarecrow rfl _ _ rfl rfl rfl rfl (M.out.sl HS.out) hA hc (flat_one Scarecrow.ones xs) (by omega) (by decide) ?_) | (refine M.out.ev_appends 3 elem_Scarecrow rfl _ _ rfl rfl rfl rfl (M.out.sl HS.out) hA hc (flat_one Scarecrow.ones xs) (by omega) (by decide) ?_)); intro v39 w39 m; simp only [List.set_cons_succ, List.set_cons_zero, List.nil_append, Nat.zero_add] at m; have M := Lib.hid m; clear m) | ((with_reducible refine gate_dst (N := 41) rfl ?_); go_must (refine M.out.ev_bs1 elem_Scarecrow rfl _ rfl (Scarecrow.vals ⟨k, p, 0⟩).toArray rfl rfl (by decide) ?_); intro g41 w41 m; simp only [List.cons_append, List.nil_append] at m; have M := Lib.hid m; clear m) | ((with_reducible refine gate_dst (N := 42) rfl ?_); go_must (first | (refine M.out.ev_append1 2 3 elem_Scarecrow rfl _ _ rfl rfl rfl rfl rfl rfl (Scarecrow.one _) (by omega) (by decide) ?_) | (refine M.out.ev_append1 3 2 elem_Scarecrow rfl _ _ rfl rfl rfl rfl rfl rfl (Scarecrow.one _) (by omega) (by decide) ?_)); intro v42 w42 m; simp only [List.set_cons_succ, List.set_cons_zero] at m; have M := Lib.hid m; clear m))
              refine onward_normal (hK _ _ ?_)
              clear hK K
              try simp only [Act.put, List.getElem_toArray, List.getElem_cons_succ, List.getElem_cons_zero, List.setIfInBounds_toArray, List.set_cons_succ, List.set_cons_zero]
              refine any2k 2 4 (by kernel_rfl) rfl rfl (fun K hK => ?x20_1) (fun K hK => ?x20_2)
              case' x20_2 =>
                go_wp2_with (first | ((with_reducible refine gate_dst (N := 40) rfl ?_); go_must (refine M.out.ev_ldw 1 _ _ rfl rfl rfl Tryz.underlying60 rfl (by first | exact sz60 | (rw [S1.out]; exact sz60) | (rw [S2.out]; exact sz60) | (rw [S3.out]; exact sz60)) rfl ?_)) | ((with_reducible refine gate_dst (N := 37) rfl ?_); go_must (refine M.out.ev_bs0 elem_Scarecrow rfl rfl ?_); intro g37 w37 m; simp only [List.cons_append, List.nil_append] at m; have M := Lib.hid m; clear m) | ((with_reducible refine gate_dst (N := 39) rfl ?_); go_must (first | (refine M.out.ev_appends 2 elem_Scarecrow rfl _ _ rfl rfl rfl rfl (M.out.sl HS.out) hA hc (flat_one Scarecrow.ones xs) (by omega) (by decide) ?_) | (refine M.out.ev_appends 3 elem_Scarecrow rfl _ _ rfl rfl rfl rfl (M.out.sl HS.out) hA hc (flat_one Scarecrow.ones xs) (by omega) (by decide) ?_)); intro v39 w39 m; simp only [List.set_cons_succ, List.set_cons_zero, List.nil_append, Nat.zero_add] at m; have M := Lib.hid m; clear m) | ((with_reducible refine gate_dst (N := 41) rfl ?_); go_must (refine M.out.ev_bs1 elem_Scarecrow rfl _ rfl (Scarecrow.vals ⟨k, p, 0⟩).toArray rfl rfl (by decide) ?_); intro g41 w41 m; simp only [List.cons_append, List.nil_append] at m; have M := Lib.hid m; clear m) | ((with_reducible refine gate_dst (N := 42) rfl ?_); go_must (first | (refine M.out.ev_append1 2 3 elem_Scarecrow rfl _ _ rfl rfl rfl rfl rfl rfl (Scarecrow.one _) (by omega) (by decide) ?_) | (refine M.out.ev_append1 3 2 elem_Scarecrow rfl _ _ rfl rfl rfl rfl rfl rfl (Scarecrow.one _) (by omega) (by decide) ?_)); intro v42 w42 m; simp only [List.set_cons_succ, List.set_cons_zero] at m; have M := Lib.hid m; clear m))
                refine onward_normal (hK _ _ ?_)
                clear hK K
                try simp only [Act.put, List.getElem_toArray, List.getElem_cons_succ, List.getElem_cons_zero, List.setIfInBounds_toArray, List.set_cons_succ, List.set_cons_zero]
                refine any1k 2 (by kernel_rfl) rfl (fun K hK => ?_)
                go_wp2_with (first | ((with_reducible refine gate_dst (N := 40) rfl ?_); go_must (refine M.out.ev_ldw 1 _ _ rfl rfl rfl Tryz.underlying60 rfl (by first | exact sz60 | (rw [S1.out]; exact sz60) | (rw [S2.out]; exact sz60) | (rw [S3.out]; exact sz60)) rfl ?_)) | ((with_reducible refine gate_dst (N := 37) rfl ?_); go_must (refine M.out.ev_bs0 elem_Scarecrow rfl rfl ?_); intro g37 w37 m; simp only [List.cons_append, List.nil_append] at m; have M := Lib.hid m; clear m) | ((with_reducible refine gate_dst (N := 39) rfl ?_); go_must (first | (refine M.out.ev_appends 2 elem_Scarecrow rfl _ _ rfl rfl rfl rfl (M.out.sl HS.out) hA hc (flat_one Scarecrow.ones xs) (by omega) (by decide) ?_) | (refine M.out.ev_appends 3 elem_Scarecrow rfl _ _ rfl rfl rfl rfl (M.out.sl HS.out) hA hc (flat_one Scarecrow.ones xs) (by omega) (by decide) ?_)); intro v39 w39 m; simp only [List.set_cons_succ, List.set_cons_zero, List.nil_append, Nat.zero_add] at m; have M := Lib.hid m; clear m) | ((with_reducible refine gate_dst (N := 41) rfl ?_); go_must (refine M.out.ev_bs1 elem_Scarecrow rfl _ rfl (Scarecrow.vals ⟨k, p, 0⟩).toArray rfl rfl (by decide) ?_); intro g41 w41 m; simp only [List.cons_append, List.nil_append] at m; have M := Lib.hid m; clear m) | ((with_reducible refine gate_dst (N := 42) rfl ?_); go_must (first | (refine M.out.ev_append1 2 3 elem_Scarecrow rfl _ _ rfl rfl rfl rfl rfl rfl (Scarecrow.one _) (by omega) (by decide) ?_) | (refine M.out.ev_append1 3 2 elem_Scarecrow rfl _ _ rfl rfl rfl rfl rfl rfl (Scarecrow.one _) (by omega) (by decide) ?_)); intro v42 w42 m; simp only [List.set_cons_succ, List.set_cons_zero] at m; have M := Lib.hid m; clear m))
                refine onward_normal (hK _ _ ?_)
                clear hK K
                try simp only [Act.put, List.getElem_toArray, List.getElem_cons_succ, List.getElem_cons_zero, List.setIfInBounds_toArray, List.set_cons_succ, List.set_cons_zero]
                refine any1k 5 (by kernel_rfl) rfl (fun K hK => ?_)
                go_wp2_with (first | ((with_reducible refine gate_dst (N := 40) rfl ?_); go_must (refine M.out.ev_ldw 1 _ _ rfl rfl rfl Tryz.underlying60 rfl (by first | exact sz60 | (rw [S1.out]; exact sz60) | (rw [S2.out]; exact sz60) | (rw [S3.out]; exact sz60)) rfl ?_)) | ((with_reducible refine gate_dst (N := 37) rfl ?_); go_must (refine M.out.ev_bs0 elem_Scarecrow rfl rfl ?_); intro g37 w37 m; simp only [List.cons_append, List.nil_append] at m; have M := Lib.hid m; clear m) | ((with_reducible refine gate_dst (N := 39) rfl ?_); go_must (first | (refine M.out.ev_appends 2 elem_Scarecrow rfl _ _ rfl rfl rfl rfl (M.out.sl HS.out) hA hc (flat_one Scarecrow.ones xs) (by omega) (by decide) ?_) | (refine M.out.ev_appends 3 elem_Scarecrow rfl _ _ rfl rfl rfl rfl (M.out.sl HS.out) hA hc (flat_one Scarecrow.ones xs) (by omega) (by decide) ?_)); intro v39 w39 m; simp only [List.set_cons_succ, List.set_cons_zero, List.nil_append, Nat.zero_add] at m; have M := Lib.hid m; clear m) | ((with_reducible refine gate_dst (N := 41) rfl ?_); go_must (refine M.out.ev_bs1 elem_Scarecrow rfl _ rfl (Scarecrow.vals ⟨k, p, 0⟩).toArray rfl rfl (by decide) ?_); intro g41 w41 m; simp only [List.cons_append, List.nil_append] at m; have M := Lib.hid m; clear m) | ((with_reducible refine gate_dst (N := 42) rfl ?_); go_must (first | (refine M.out.ev_append1 2 3 elem_Scarecrow rfl _ _ rfl rfl rfl rfl rfl rfl (Scarecrow.one _) (by omega) (by decide) ?_) | (refine M.out.ev_append1 3 2 elem_Scarecrow rfl _ _ rfl rfl rfl rfl rfl rfl (Scarecrow.one _) (by omega) (by decide) ?_)); intro v42 w42 m; simp only [List.set_cons_succ, List.set_cons_zero] at m; have M := Lib.hid m; clear m))
                refine onward_normal (hK _ _ ?_)
                clear hK K
                try simp only [Act.put, List.getElem_toArray, List.getElem_cons_succ, List.getElem_cons_zero, List.setIfInBounds_toArray, List.set_cons_succ, List.set_cons_zero]
                refine any1k 6 (by kernel_rfl) rfl (fun K hK => ?_)
                go_wp2
                refine onward_normal (hK _ _ ?_)
                clear hK K
                try simp only [Act.put, List.getElem_toArray, List.getElem_cons_succ, List.getElem_cons_zero, List.setIfInBounds_toArray, List.set_cons_succ, List.set_cons_zero]
                refine any1k 7 (by kernel_rfl) rfl (fun K hK => ?_)
                go_wp2
                refine onward_normal (hK _ _ ?_)
                clear hK K
                try simp only [Act.put, List.getElem_toArray, List.getElem_cons_succ, List.getElem_cons_zero, List.setIfInBounds_toArray, List.set_cons_succ, List.set_cons_zero]
                refine wpAny_done (by kernel_rfl) ?_ _
              case' x20_1 =>
                go_wp2_with (first | ((with_reducible refine gate_dst (N := 40) rfl ?_); go_must (refine M.out.ev_ldw 1 _ _ rfl rfl rfl Tryz.underlying60 rfl (by first | exact sz60 | (rw [S1.out]; exact sz60) | (rw [S2.out]; exact sz60) | (rw [S3.out]; exact sz60)) rfl ?_)) | ((with_reducible refine gate_dst (N := 37) rfl ?_); go_must (refine M.out.ev_bs0 elem_Scarecrow rfl rfl ?_); intro g37 w37 m; simp only [List.cons_append, List.nil_append] at m; have M := Lib.hid m; clear m) | ((with_reducible refine gate_dst (N := 39) rfl ?_); go_must (first | (refine M.out.ev_appends 2 elem_Scarecrow rfl _ _ rfl rfl rfl rfl (M.out.sl HS.out) hA hc (flat_one Scarecrow.ones xs) (by omega) (by decide) ?_) | (refine M.out.ev_appends 3 elem_Scarecrow rfl _ _ rfl rfl rfl rfl (M.out.sl HS.out) hA hc (flat_one Scarecrow.ones xs) (by omega) (by decide) ?_)); intro v39 w39 m; simp only [List.set_cons_succ, List.set_cons_zero, List.nil_append, Nat.zero_add] at m; have M := Lib.hid m; clear m) | ((with_reducible refine gate_dst (N := 41) rfl ?_); go_must (refine M.out.ev_bs1 elem_Scarecrow rfl _ rfl (Scarecrow.vals ⟨k, p, 0⟩).toArray rfl rfl (by decide) ?_); intro g41 w41 m; simp only [List.cons_append, List.nil_append] at m; have M := Lib.hid m; clear m) | ((with_reducible refine gate_dst (N := 42) rfl ?_); go_must (first | (refine M.out.ev_append1 2 3 elem_Scarecrow rfl _ _ rfl rfl rfl rfl rfl rfl (Scarecrow.one _) (by omega) (by decide) ?_) | (refine M.out.ev_append1 3 2 elem_Scarecrow rfl _ _ rfl rfl rfl rfl rfl rfl (Scarecrow.one _) (by omega) (by decide) ?_)); intro v42 w42 m; simp only [List.set_cons_succ, List.set_cons_zero] at m; have M := Lib.hid m; clear m))
                refine onward_normal (hK _ _ ?_)
                clear hK K
                try simp only [Act.put, List.getElem_toArray, List.getElem_cons_succ, List.getElem_cons_zero, List.setIfInBounds_toArray, List.set_cons_succ, List.set_cons_zero]
                refine any1k 4 (by kernel_rfl) rfl (fun K hK => ?_)
                go_wp2_with (first | ((with_reducible refine gate_dst (N := 40) rfl ?_); go_must (refine M.out.ev_ldw 1 _ _ rfl rfl rfl Tryz.underlying60 rfl (by first | exact sz60 | (rw [S1.out]; exact sz60) | (rw [S2.out]; exact sz60) | (rw [S3.out]; exact sz60)) rfl ?_)) | ((with_reducible refine gate_dst (N := 37) rfl ?_); go_must (refine M.out.ev_bs0 elem_Scarecrow rfl rfl ?_); intro g37 w37 m; simp only [List.cons_append, List.nil_append] at m; have M := Lib.hid m; clear m) | ((with_reducible refine gate_dst (N := 39) rfl ?_); go_must (first | (refine M.out.ev_appends 2 elem_Scarecrow rfl _ _ rfl rfl rfl rfl (M.out.sl HS.out) hA hc (flat_one Scarecrow.ones xs) (by omega) (by decide) ?_) | (refine M.out.ev_appends 3 elem_Scarecrow rfl _ _ rfl rfl rfl rfl (M.out.sl HS.out) hA hc (flat_one Scarecrow.ones xs) (by omega) (by decide) ?_)); intro v39 w39 m; simp only [List.set_cons_succ, List.set_cons_zero, List.nil_append, Nat.zero_add] at m; have M := Lib.hid m; clear m) | ((with_reducible refine gate_dst (N := 41) rfl ?_); go_must (refine M.out.ev_bs1 elem_Scarecrow rfl _ rfl (Scarecrow.vals ⟨k, p, 0⟩).toArray rfl rfl (by decide) ?_); intro g41 w41 m; simp only [List.cons_append, List.nil_append] at m; have M := Lib.hid m; clear m) | ((with_reducible refine gate_dst (N := 42) rfl ?_); go_must (first | (refine M.out.ev_append1 2 3 elem_Scarecrow rfl _ _ rfl rfl rfl rfl rfl rfl (Scarecrow.one _) (by omega) (by decide) ?_) | (refine M.out.ev_append1 3 2 elem_Scarecrow rfl _ _ rfl rfl rfl rfl rfl rfl (Scarecrow.one _) (by omega) (by decide) ?_)); intro v42 w42 m; simp only [List.set_cons_succ, List.set_cons_zero] at m; have M := Lib.hid m; clear m))
                refine onward_normal (hK _ _ ?_)
                clear hK K
                try simp only [Act.put, List.getElem_toArray, List.getElem_cons_succ, List.getElem_cons_zero, List.setIfInBounds_toArray, List.set_cons_succ, List.set_cons_zero]
                refine any1k 5 (by kernel_rfl) rfl (fun K hK => ?_)
                go_wp2_with (first | ((with_reducible refine gate_dst (N := 40) rfl ?_); go_must (refine M.out.ev_ldw 1 _ _ rfl rfl rfl Tryz.underlying60 rfl (by first | exact sz60 | (rw [S1.out]; exact sz60) | (rw [S2.out]; exact sz60) | (rw [S3.out]; exact sz60)) rfl ?_)) | ((with_reducible refine gate_dst (N := 37) rfl ?_); go_must (refine M.out.ev_bs0 elem_Scarecrow rfl rfl ?_); intro g37 w37 m; simp only [List.cons_append, List.nil_append] at m; have M := Lib.hid m; clear m) | ((with_reducible refine gate_dst (N := 39) rfl ?_); go_must (first | (refine M.out.ev_appends 2 elem_Scarecrow rfl _ _ rfl rfl rfl rfl (M.out.sl HS.out) hA hc (flat_one Scarecrow.ones xs) (by omega) (by decide) ?_) | (refine M.out.ev_appends 3 elem_Scarecrow rfl _ _ rfl rfl rfl rfl (M.out.sl HS.out) hA hc (flat_one Scarecrow.ones xs) (by omega) (by decide) ?_)); intro v39 w39 m; simp only [List.set_cons_succ, List.set_cons_zero, List.nil_append, Nat.zero_add] at m; have M := Lib.hid m; clear m) | ((with_reducible refine gate_dst (N := 41) rfl ?_); go_must (refine M.out.ev_bs1 elem_Scarecrow rfl _ rfl (Scarecrow.vals ⟨k, p, 0⟩).toArray rfl rfl (by decide) ?_); intro g41 w41 m; simp only [List.cons_append, List.nil_append] at m; have M := Lib.hid m; clear m) | ((with_reducible refine gate_dst (N := 42) rfl ?_); go_must (first | (refine M.out.ev_append1 2 3 elem_Scarecrow rfl _ _ rfl rfl rfl rfl rfl rfl (Scarecrow.one _) (by omega) (by decide) ?_) | (refine M.out.ev_append1 3 2 elem_Scarecrow rfl _ _ rfl rfl rfl rfl rfl rfl (Scarecrow.one _) (by omega) (by decide) ?_)); intro v42 w42 m; simp only [List.set_cons_succ, List.set_cons_zero] at m; have M := Lib.hid m; clear m))
                refine onward_normal (hK _ _ ?_)
                clear hK K
                try simp only [Act.put, List.getElem_toArray, List.getElem_cons_succ, List.getElem_cons_zero, List.setIfInBounds_toArray, List.set_cons_succ, List.set_cons_zero]
                refine any1k 6 (by kernel_rfl) rfl (fun K hK => ?_)
                go_wp2
                refine onward_normal (hK _ _ ?_)
                clear hK K
                try simp only [Act.put, List.getElem_toArray, List.getElem_cons_succ, List.getElem_cons_zero, List.setIfInBounds_toArray, List.set_cons_succ, List.set_cons_zero]
                refine any1k 7 (by kernel_rfl) rfl (fun K hK => ?_)
                go_wp2
                refine onward_normal (hK _ _ ?_)
                clear hK K
                try simp only [Act.put, List.getElem_toArray, List.getElem_cons_succ, List.getElem_cons_zero, List.setIfInBounds_toArray, List.set_cons_succ, List.set_cons_zero]
                refine wpAny_done (by kernel_rfl) ?_ _
            case' x19_1 =>
              go_wp2_with (first | ((with_reducible refine gate_dst (N := 40) rfl ?_); go_must (refine M.out.ev_ldw 1 _ _ rfl rfl rfl Tryz.underlying60 rfl (by first | exact sz60 | (rw [S1.out]; exact sz60) | (rw [S2.out]; exact sz60) | (rw [S3.out]; exact sz60)) rfl ?_)) | ((with_reducible refine gate_dst (N := 37) rfl ?_); go_must (refine M.out.ev_bs0 elem_Scarecrow rfl rfl ?_); intro g37 w37 m; simp only [List.cons_append, List.nil_append] at m; have M := Lib.hid m; clear m) | ((with_reducible refine gate_dst (N := 39) rfl ?_); go_must (first | (refine M.out.ev_appends 2 elem_Scarecrow rfl _ _ rfl rfl rfl rfl (M.out.sl HS.out) hA hc (flat_one Scarecrow.ones xs) (by omega) (by decide) ?_) | (refine M.out.ev_appends 3 elem_Scarecrow rfl _ _ rfl rfl rfl rfl (M.out.sl HS.out) hA hc (flat_one Scarecrow.ones xs) (by omega) (by decide) ?_)); intro v39 w39 m; simp only [List.set_cons_succ, List.set_cons_zero, List.nil_append, Nat.zero_add] at m; have M := Lib.hid m; clear m) | ((with_reducible refine gate_dst (N := 41) rfl ?_); go_must (refine M.out.ev_bs1 elem_Scarecrow rfl _ rfl (Scarecrow.vals ⟨k, p, 0⟩).toArray rfl rfl (by decide) ?_); intro g41 w41 m; simp only [List.cons_append, List.nil_append] at m; have M := Lib.hid m; clear m) | ((with_reducible refine gate_dst (N := 42) rfl ?_); go_must (first | (refine M.out.ev_append1 2 3 elem_Scarecrow rfl _ _ rfl rfl rfl rfl rfl rfl (Scarecrow.one _) (by omega) (by decide) ?_) | (refine M.out.ev_append1 3 2 elem_Scarecrow rfl _ _ rfl rfl rfl rfl rfl rfl (Scarecrow.one _) (by omega) (by decide) ?_)); intro v42 w42 m; simp only [List.set_cons_succ, List.set_cons_zero] at m; have M := Lib.hid m; clear m))
              refine onward_normal (hK _ _ ?_)
              clear hK K
              try simp only [Act.put, List.getElem_toArray, List.getElem_cons_succ, List.getElem_cons_zero, List.setIfInBounds_toArray, List.set_cons_succ, List.set_cons_zero]
              refine any1k 3 (by kernel_rfl) rfl (fun K hK => ?_)
              go_wp2_with (first | ((with_reducible refine gate_dst (N := 40) rfl ?_); go_must (refine M.out.ev_ldw 1 _ _ rfl rfl rfl Tryz.underlying60 rfl (by first | exact sz60 | (rw [S1.out]; exact sz60) | (rw [S2.out]; exact sz60) | (rw [S3.out]; exact sz60)) rfl ?_)) | ((with_reducible refine gate_dst (N := 37) rfl ?_); go_must (refine M.out.ev_bs0 elem_Scarecrow rfl rfl ?_); intro g37 w37 m; simp only [List.cons_append, List.nil_append] at m; have M := Lib.hid m; clear m) | ((with_reducible refine gate_dst (N := 39) rfl ?_); go_must (first | (refine M.out.ev_appends 2 elem_Scarecrow rfl _ _ rfl rfl rfl rfl (M.out.sl HS.out) hA hc (flat_one Scarecrow.ones xs) (by omega) (by decide) ?_) | (refine M.out.ev_appends 3 elem_Scarecrow rfl _ _ rfl rfl rfl rfl (M.out.sl HS.out) hA hc (flat_one Scarecrow.ones xs) (by omega) (by decide) ?_)); intro v39 w39 m; simp only [List.set_cons_succ, List.set_cons_zero, List.nil_append, Nat.zero_add] at m; have M := Lib.hid m; clear m) | ((with_reducible refine gate_dst (N := 41) rfl ?_); go_must (refine M.out.ev_bs1 elem_Scarecrow rfl _ rfl (Scarecrow.vals ⟨k, p, 0⟩).toArray rfl rfl (by decide) ?_); intro g41 w41 m; simp only [List.cons_append, List.nil_append] at m; have M := Lib.hid m; clear m) | ((with_reducible refine gate_dst (N := 42) rfl ?_); go_must (first | (refine M.out.ev_append1 2 3 elem_Scarecrow rfl _ _ rfl rfl rfl rfl rfl rfl (Scarecrow.one _) (by omega) (by decide) ?_) | (refine M.out.ev_append1 3 2 elem_Scarecrow rfl _ _ rfl rfl rfl rfl rfl rfl (Scarecrow.one _) (by omega) (by decide) ?_)); intro v42 w42 m; simp only [List.set_cons_succ, List.set_cons_zero] at m; have M := Lib.hid m; clear m))
              refine onward_normal (hK _ _ ?_)
              clear hK K
              try simp only [Act.put, List.getElem_toArray, List.getElem_cons_succ, List.getElem_cons_zero, List.setIfInBounds_toArray, List.set_cons_succ, List.set_cons_zero]
              refine any1k 4 (by kernel_rfl) rfl (fun K hK => ?_)
              go_wp2_with (first | ((with_reducible refine gate_dst (N := 40) rfl ?_); go_must (refine M.out.ev_ldw 1 _ _ rfl rfl rfl Tryz.underlying60 rfl (by first | exact sz60 | (rw [S1.out]; exact sz60) | (rw [S2.out]; exact sz60) | (rw [S3.out]; exact sz60)) rfl ?_)) | ((with_reducible refine gate_dst (N := 37) rfl ?_); go_must (refine M.out.ev_bs0 elem_Scarecrow rfl rfl ?_); intro g37 w37 m; simp only [List.cons_append, List.nil_append] at m; have M := Lib.hid m; clear m) | ((with_reducible refine gate_dst (N := 39) rfl ?_); go_must (first | (refine M.out.ev_appends 2 elem_Scarecrow rfl _ _ rfl rfl rfl rfl (M.out.sl HS.out) hA hc (flat_one Scarecrow.ones xs) (by omega) (by decide) ?_) | (refine M.out.ev_appends 3 elem_Scarecrow rfl _ _ rfl rfl rfl rfl (M.out.sl HS.out) hA hc (flat_one Scarecrow.ones xs) (by omega) (by decide) ?_)); intro v39 w39 m; simp only [List.set_cons_succ, List.set_cons_zero, List.nil_append, Nat.zero_add] at m; have M := Lib.hid m; clear m) | ((with_reducible refine gate_dst (N := 41) rfl ?_); go_must (refine M.out.ev_bs1 elem_Scarecrow rfl _ rfl (Scarecrow.vals ⟨k, p, 0⟩).toArray rfl rfl (by decide) ?_); intro g41 w41 m; simp only [List.cons_append, List.nil_append] at m; have M := Lib.hid m; clear m) | ((with_reducible refine gate_dst (N := 42) rfl ?_); go_must (first | (refine M.out.ev_append1 2 3 elem_Scarecrow rfl _ _ rfl rfl rfl rfl rfl rfl (Scarecrow.one _) (by omega) (by decide) ?_) | (refine M.out.ev_append1 3 2 elem_Scarecrow rfl _ _ rfl rfl rfl rfl rfl rfl (Scarecrow.one _) (by omega) (by decide) ?_)); intro v42 w42 m; simp only [List.set_cons_succ, List.set_cons_zero] at m; have M := Lib.hid m; clear m))
              refine onward_normal (hK _ _ ?_)
              clear hK K
              try simp only [Act.put, List.getElem_toArray, List.getElem_cons_succ, List.getElem_cons_zero, List.setIfInBounds_toArray, List.set_cons_succ, List.set_cons_zero]
              refine any1k 5 (by kernel_rfl) rfl (fun K hK => ?_)
              go_wp2_with (first | ((with_reducible refine gate_dst (N := 40) rfl ?_); go_must (refine M.out.ev_ldw 1 _ _ rfl rfl rfl Tryz.underlying60 rfl (by first | exact sz60 | (rw [S1.out]; exact sz60) | (rw [S2.out]; exact sz60) | (rw [S3.out]; exact sz60)) rfl ?_)) | ((with_reducible refine gate_dst (N := 37) rfl ?_); go_must (refine M.out.ev_bs0 elem_Scarecrow rfl rfl ?_); intro g37 w37 m; simp only [List.cons_append, List.nil_append] at m; have M := Lib.hid m; clear m) | ((with_reducible refine gate_dst (N := 39) rfl ?_); go_must (first | (refine M.out.ev_appends 2 elem_Scarecrow rfl _ _ rfl rfl rfl rfl (M.out.sl HS.out) hA hc (flat_one Scarecrow.ones xs) (by omega) (by decide) ?_) | (refine M.out.ev_appends 3 elem_Scarecrow rfl _ _ rfl rfl rfl rfl (M.out.sl HS.out) hA hc (flat_one Scarecrow.ones xs) (by omega) (by decide) ?_)); intro v39 w39 m; simp only [List.set_cons_succ, List.set_cons_zero, List.nil_append, Nat.zero_add] at m; have M := Lib.hid m; clear m) | ((with_reducible refine gate_dst (N := 41) rfl ?_); go_must (refine M.out.ev_bs1 elem_Scarecrow rfl _ rfl (Scarecrow.vals ⟨k, p, 0⟩).toArray rfl rfl (by decide) ?_); intro g41 w41 m; simp only [List.cons_append, List.nil_append] at m; have M := Lib.hid m; clear m) | ((with_reducible refine gate_dst (N := 42) rfl ?_); go_must (first | (refine M.out.ev_append1 2 3 elem_Scarecrow rfl _ _ rfl rfl rfl rfl rfl rfl (Scarecrow.one _) (by omega) (by decide) ?_) | (refine M.out.ev_append1 3 2 elem_Scarecrow rfl _ _ rfl rfl rfl rfl rfl rfl (Scarecrow.one _) (by omega) (by decide) ?_)); intro v42 w42 m; simp only [List.set_cons_succ, List.set_cons_zero] at m; have M := Lib.hid m; clear m))
              refine onward_normal (hK _ _ ?_)
              clear hK K
              try simp only [Act.put, List.getElem_toArray, List.getElem_cons_succ, List.getElem_cons_zero, List.setIfInBounds_toArray, List.set_cons_succ, List.set_cons_zero]
              refine any1k 6 (by kernel_rfl) rfl (fun K hK => ?_)
              go_wp2
              refine onward_normal (hK _ _ ?_)
              clear hK K
              try simp only [Act.put, List.getElem_toArray, List.getElem_cons_succ, List.getElem_cons_zero, List.setIfInBounds_toArray, List.set_cons_succ, List.set_cons_zero]
              refine any1k 7 (by kernel_rfl) rfl (fun K hK => ?_)
              go_wp2
              refine onward_normal (hK _ _ ?_)
              clear hK K
              try simp only [Act.put, List.getElem_toArray, List.getElem_cons_succ, List.getElem_cons_zero, List.setIfInBounds_toArray, List.set_cons_succ, List.set_cons_zero]
              refine wpAny_done (by kernel_rfl) ?_ _
        all_goals
          go_wp2
          have hac : addCode F xs k p = 0 := by simp [addCode, HD.out, HT.out, H20.out]
          first
            | (have m := M.out.only [2] (K := [.row _ 60 3 (xs.length + 1) _]) rfl (by decide)
               obtain ⟨B, cB, rfl, hcB, _⟩ := m.row_slice 0 rfl
               go_ret2
               rw [addRes, hac, if_pos rfl, flat_append, List.length_append]
               exact ⟨B, cB, rfl, hcB, m⟩)
            | (have m := M.out.only [3] (K := [.row _ 60 3 (xs.length + 1) _]) rfl (by decide)
               obtain ⟨B, cB, rfl, hcB, _⟩ := m.row_slice 0 rfl
               go_ret2
               rw [addRes, hac, if_pos rfl, flat_append, List.length_append]
               exact ⟨B, cB, rfl, hcB, m⟩)
    · have HT := Lib.hid ht
      clear ht
      go_enter Tryz.func31, Tryz.ntmps31
      go_wp2_with (first
        | ((with_reducible refine gate_dst (N := 4) rfl ?_); go_must (refine M.out.ev_new rfl (by first | (go_simp; done) | (go_simp; rfl)) ?_); intro g4 w4 m; simp only [List.cons_append, List.nil_append] at m; have M := Lib.hid m; clear m)
        | ((with_reducible refine gate_dst (N := 11) rfl ?_); go_must (refine M.out.ev_new rfl (by first | (go_simp; done) | (go_simp; rfl)) ?_); intro g11 w11 m; simp only [List.cons_append, List.nil_append] at m; have M := Lib.hid m; clear m)
        | ((with_reducible refine gate_store (x := .tmp 11) rfl ?_); go_must (refine M.out.ev_stw 1 _ _ _ rfl rfl rfl rfl _ rfl (by first | rfl | (simp only [S1.out]; rfl) | (simp only [S1.out, S2.out]; rfl) | (simp only [S3.out]; rfl) | (simp only [S1.out, S2.out, S3.out]; rfl)) (by first | exact sz60 | (rw [S1.out]; exact sz60) | (rw [S2.out]; exact sz60) | (rw [S3.out]; exact sz60)) (by first | exact ints_one _ _ | exact Fld.one _ | exact O1.out | rfl | (simp [Value.oneCell']; done)) rfl ?_); intro wn m; simp only [List.set_cons_succ, List.set_cons_zero, List.setIfInBounds_toArray] at m; have M := Lib.hid m; clear m)
        | ((with_reducible refine gate_dst (N := 40) rfl ?_); go_must (refine M.out.ev_ldw 1 _ _ rfl rfl rfl Tryz.underlying60 rfl (by first | exact sz60 | (rw [S1.out]; exact sz60) | (rw [S2.out]; exact sz60) | (rw [S3.out]; exact sz60)) rfl ?_))
        | (go_at_call 50; go_must (refine (l01Is_any _ F HF.out (k : Int) _ (M.out.blk 0 rfl)).mono ?_); rintro e w_ ⟨rfl, rfl⟩; rw [HQ.out])
        | (go_at_call 56; go_must (refine (l03Power_any _ _).mono ?_); rintro e w_ ⟨rfl, rfl⟩)
        | (go_at_call 49; go_must (refine (l03Asked_any _ F HF.out A n xs HX.out hm _ _ (M.out.blk 0 rfl) (M.out.sl HS.out)).mono ?_); rintro e w_ ⟨rfl, N_⟩; have m := M.out.join N_; clear N_; simp only [List.cons_append, List.nil_append, List.append_nil] at m; have M := Lib.hid m; clear m; first | rw [show inB p 1 1000 = addFine F (k : Int) p by rw [addFine, HQ.out]; rfl] | rw [show false = addFine F (k : Int) p by rw [addFine, HQ.out]; rfl])
        | (go_at_call 81; go_must (refine (l03Taken_any _ F HF.out A n xs HX.out hl k hk _ (M.out.blk 0 rfl) (M.out.sl HS.out)).mono ?_); rintro e w_ ⟨rfl, rfl⟩; rw [HT.out])
        | ((with_reducible refine gate_dst (N := 27) rfl ?_); go_must (refine M.out.ev_bs0 elem_Scarecrow rfl rfl ?_); intro g27 w27 m; simp only [List.cons_append, List.nil_append] at m; have M := Lib.hid m; clear m)
        )
      go_ret2
      have m := M.out.only [1] (K := [_]) rfl (by decide)
      have hac : addCode F xs k p = 4 := by simp [addCode, HD.out, HT.out]
      rw [addRes, hac]
      exact ⟨_, 0, rfl, Nat.le_refl _, m⟩
  · have HD := Lib.hid hd
    have hdd : (scCode F xs (addFine F c p) != 0) = true := by simp [hd]
    have hac : addCode F xs c p = scCode F xs (addFine F c p) := by rw [addCode, if_pos hd]
    have HAC := Lib.hid hac
    clear hd hac
    cases hq : F.has c <;>
    · have HQ := Lib.hid hq
      clear hq
      go_enter Tryz.func31, Tryz.ntmps31
      go_wp2_with (first
        | ((with_reducible refine gate_dst (N := 4) rfl ?_); go_must (refine M.out.ev_new rfl (by first | (go_simp; done) | (go_simp; rfl)) ?_); intro g4 w4 m; simp only [List.cons_append, List.nil_append] at m; have M := Lib.hid m; clear m)
        | ((with_reducible refine gate_dst (N := 11) rfl ?_); go_must (refine M.out.ev_new rfl (by first | (go_simp; done) | (go_simp; rfl)) ?_); intro g11 w11 m; simp only [List.cons_append, List.nil_append] at m; have M := Lib.hid m; clear m)
        | ((with_reducible refine gate_store (x := .tmp 11) rfl ?_); go_must (refine M.out.ev_stw 1 _ _ _ rfl rfl rfl rfl _ rfl (by first | rfl | (simp only [S1.out]; rfl) | (simp only [S1.out, S2.out]; rfl) | (simp only [S3.out]; rfl) | (simp only [S1.out, S2.out, S3.out]; rfl)) (by first | exact sz60 | (rw [S1.out]; exact sz60) | (rw [S2.out]; exact sz60) | (rw [S3.out]; exact sz60)) (by first | exact ints_one _ _ | exact Fld.one _ | exact O1.out | rfl | (simp [Value.oneCell']; done)) rfl ?_); intro wn m; simp only [List.set_cons_succ, List.set_cons_zero, List.setIfInBounds_toArray] at m; have M := Lib.hid m; clear m)
        | ((with_reducible refine gate_dst (N := 40) rfl ?_); go_must (refine M.out.ev_ldw 1 _ _ rfl rfl rfl Tryz.underlying60 rfl (by first | exact sz60 | (rw [S1.out]; exact sz60) | (rw [S2.out]; exact sz60) | (rw [S3.out]; exact sz60)) rfl ?_))
        | (go_at_call 50; go_must (refine (l01Is_any _ F HF.out c _ (M.out.blk 0 rfl)).mono ?_); rintro e w_ ⟨rfl, rfl⟩; rw [HQ.out])
        | (go_at_call 56; go_must (refine (l03Power_any _ _).mono ?_); rintro e w_ ⟨rfl, rfl⟩)
        | (go_at_call 49; go_must (refine (l03Asked_any _ F HF.out A n xs HX.out hm _ _ (M.out.blk 0 rfl) (M.out.sl HS.out)).mono ?_); rintro e w_ ⟨rfl, N_⟩; have m := M.out.join N_; clear N_; simp only [List.cons_append, List.nil_append, List.append_nil] at m; have M := Lib.hid m; clear m; first | rw [show inB p 1 1000 = addFine F c p by rw [addFine, HQ.out]; rfl] | rw [show false = addFine F c p by rw [addFine, HQ.out]; rfl])
        | ((with_reducible refine gate_dst (N := 22) rfl ?_); go_must (refine M.out.ev_bs0 elem_Scarecrow rfl rfl ?_); intro g22 w22 m; simp only [List.cons_append, List.nil_append] at m; have M := Lib.hid m; clear m)
        )
      go_ret2
      have m := M.out.only [1] (K := [_]) rfl (by decide)
      rw [addRes, HAC.out, if_neg HD.out]
      exact ⟨_, 0, rfl, Nat.le_refl _, m⟩
end Go.Proofs.YtoacnfofijikmaaGreatDoor
