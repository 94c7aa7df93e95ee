/- The set of the soil cells with fear enough: the walks of both. -/
import Derived.Test.YteecfclccfhdhaaDaysLaw
import Derived.Test.YteecfclccfhdhaaSets
import Derived.Test.YteecfclccfhdhaaDrawn3
namespace Go.Proofs.Yteecfclccfhdhaa
set_option linter.unusedSimpArgs false
set_option linter.unusedVariables false
open Go.RowKit
attribute [local go_sem] cell?_mk frozen?_mk

theorem calls_caps {P : Program} {f : FuncId} {x : Value} {caps : List Value} {w : World} {Q : Ending → World → Prop} (h : Calls P f (x :: caps).toArray w Q) : Calls P f (#[x] ++ caps.toArray) w Q := by simpa using h
theorem filter_lt {F : Fld} {p : Nat → Bool} {k : Nat} : ∀ j ∈ (F.all.take k).filter p, j < 128 := fun j hj => by
  have := (Fld.all_has (List.mem_of_mem_take (List.mem_filter.1 hj).1)).1
  omega
set_option maxRecDepth 100000 in
set_option maxHeartbeats 2000000 in
theorem those_any (g : Nat) {t : TypeId} (F : Fld) (hF : F.ok) (f : FuncId) (caps : Array Value) (p : Nat → Bool) (w : World) (hb : Blk w g t F.cells)
    (HF : ∀ (vs : Array Value) (w : World), Sem.run Try.prog (callFunc f vs) w = Result.ok (Next.enter f vs) w)
    (H : ∀ k : Nat, k < 100 → F.has k = true → ∀ w1, Mem w w1 [] → Calls Try.prog f (#[.int .i64 k] ++ caps) w1 fun e w' => e = .returned (.bool (p k)) ∧ Mem w1 w' []) :
    Calls Try.prog 122 #[.pointer (some ⟨g, 0, none⟩), .func (.func f) #[] caps] w fun e w' => e = .returned (.agg (setOf (F.all.filter p)).cells) ∧ Mem w w' [] := by
  have M := Lib.hid (Mem.start w)
  have HB := Lib.hid hb
  have HH := Lib.hid H
  have HFF := Lib.hid hF
  have O1 := Lib.hid (Cs.one (setOf (F.all.filter p)))
  clear hb H hF
  go_enter Try.func122, Try.ntmps122
  go_wp2_with (first
    | ((with_reducible refine gate_dst (N := 4) rfl ?_); go_must (refine M.out.ev_new rfl (by first | (go_simp; done) | (go_simp; rfl)) ?_); intro g4 w4 m; simp only [List.cons_append, List.nil_append] at m; have M := Lib.hid m; clear m)
    | ((with_reducible refine gate_dst (N := 5) rfl ?_); go_must (refine M.out.ev_new rfl (by first | (go_simp; done) | (go_simp; rfl)) ?_); intro g5 w5 m; simp only [List.cons_append, List.nil_append] at m; have M := Lib.hid m; clear m)
    | ((with_reducible refine gate_store (x := .tmp 5) rfl ?_); go_must (refine M.out.ev_stw 1 _ _ _ rfl rfl rfl rfl _ rfl (by first | rfl | (simp only [S1.out]; rfl) | (simp only [S1.out, S2.out]; rfl) | (simp only [S3.out]; rfl) | (simp only [S1.out, S2.out, S3.out]; rfl)) (by first | exact sz50 | (rw [S1.out]; exact sz50) | (rw [S2.out]; exact sz50) | (rw [S3.out]; exact sz50)) (by first | exact ints_one _ _ | exact Fld.one _ | exact O1.out | rfl | (simp [Value.oneCell']; done)) rfl ?_); intro wn m; simp only [List.set_cons_succ, List.set_cons_zero, List.setIfInBounds_toArray] at m; have M := Lib.hid m; clear m)
    | ((with_reducible refine gate_dst (N := 22) rfl ?_); go_must (refine M.out.ev_ldw 1 _ _ rfl rfl rfl Try.underlying50 rfl (by first | exact sz50 | (rw [S1.out]; exact sz50) | (rw [S2.out]; exact sz50) | (rw [S3.out]; exact sz50)) rfl ?_))
    | ((with_reducible refine gate_store (x := .tmp 4) rfl ?_); go_must (refine M.out.ev_stw 0 _ _ _ rfl rfl rfl rfl _ rfl (by first | rfl | (simp only [S1.out]; rfl) | (simp only [S1.out, S2.out]; rfl) | (simp only [S3.out]; rfl) | (simp only [S1.out, S2.out, S3.out]; rfl)) (by first | exact sz50 | (rw [S1.out]; exact sz50) | (rw [S2.out]; exact sz50) | (rw [S3.out]; exact sz50)) (by first | exact ints_one _ _ | exact Fld.one _ | exact O1.out | rfl | (simp [Value.oneCell']; done)) rfl ?_); intro wn m; simp only [List.set_cons_succ, List.set_cons_zero, List.setIfInBounds_toArray] at m; have M := Lib.hid m; clear m)
    | (go_at_call 69; go_must (refine (cells_any g F HFF.out _ (M.out.arg HB.out)).mono ?_); rintro e w_ ⟨A_, c_, rfl, hc_, N_⟩; have m := M.out.join N_; clear N_; simp only [List.cons_append, List.nil_append, List.append_nil] at m; have M := Lib.hid m; clear m)
    )
  go_loopw [12] (fun v wr => ∃ k : Nat, k ≤ F.all.length ∧ v = .int .i64 k ∧ Mem w wr [.blk g4 50 Cs.z.cells, .blk g5 50 (setOf ((F.all.take k).filter p)).cells, .row (.slice A_ F.all.length c_) 2 1 F.all.length (flat one64 F.all)])
    (fun v _ => F.all.length - (intOf v).toNat)
  case atStart => exact ⟨0, by omega, rfl, M.out⟩
  case round =>
    clear M
    obtain ⟨k, hk, rfl, m⟩ := hrel
    have M := Lib.hid m
    clear m
    have hal : F.all.length ≤ 100 := F.below_len 100
    have CO := Lib.hid (setOf_ok _ (filter_lt (F := F) (p := p) (k := k)))
    by_cases hlt : k < F.all.length
    · obtain ⟨b, off, rfl, hr⟩ := (M.out.slof 2 rfl).2 (by omega)
      have hxk : F.all[k]? = some F.all[k] := List.getElem?_eq_getElem hlt
      have hmem := Fld.all_has (List.getElem_mem hlt)
      obtain ⟨j, hj⟩ : ∃ j, j = F.all[k] := ⟨_, rfl⟩
      have R := range_at one64_len hr hxk
      have HT := Lib.hid (show F.all.take (k + 1) = F.all.take k ++ [j] by rw [List.take_succ_eq_append_getElem hlt, hj])
      rw [← hj] at R hmem
      have x0 : wr.cell? ⟨b, off + k, none⟩ = some (.int .i64 j) := by
        have := R 0 _ rfl
        simpa [nat64] using this
      obtain ⟨j0, j1⟩ := hmem
      have i0 : (0 : Int) ≤ (j : Int) := by omega
      have J1 := Lib.hid j1
      clear hr hxk R hj j1
      cases hp : p j
      · have HP := Lib.hid hp
        clear hp
        go_wp2_with (first
          | (refine (HH.out j j0 J1.out _ (M.out.take 0)).mono ?_; rintro e w_ ⟨rfl, N_⟩; have m := M.out.join N_; clear N_; simp only [List.cons_append, List.nil_append, List.append_nil] at m; have M := Lib.hid m; clear m; rw [HP.out])
          )
        refine ⟨⟨k + 1, by omega, by go_num, ?_⟩, by simp [intOf]; omega⟩
        rw [HT.out, List.filter_append]
        simpa [HP.out] using M.out
      · have HP := Lib.hid hp
        clear hp
        go_wp2_with (first
          | (refine (HH.out j j0 J1.out _ (M.out.take 0)).mono ?_; rintro e w_ ⟨rfl, N_⟩; have m := M.out.join N_; clear N_; simp only [List.cons_append, List.nil_append, List.append_nil] at m; have M := Lib.hid m; clear m; rw [HP.out])
          | (go_at_call 141; go_must (refine (put_any 1 M.out _ _ CO.out rfl j j0).mono ?_); rintro e w_ ⟨rfl, m⟩; simp only [List.set_cons_succ, List.set_cons_zero] at m; have M := Lib.hid m; clear m)
          )
        refine ⟨⟨k + 1, by omega, by go_num, ?_⟩, by simp [intOf]; omega⟩
        rw [HT.out, List.filter_append, show [j].filter p = [j] by simp [HP.out], setOf_snoc]
        exact M.out
    · obtain rfl : k = F.all.length := by omega
      rw [List.take_length] at M
      go_wp2_with (first
        | ((with_reducible refine gate_dst (N := 4) rfl ?_); go_must (refine M.out.ev_new rfl (by first | (go_simp; done) | (go_simp; rfl)) ?_); intro g4 w4 m; simp only [List.cons_append, List.nil_append] at m; have M := Lib.hid m; clear m)
        | ((with_reducible refine gate_dst (N := 5) rfl ?_); go_must (refine M.out.ev_new rfl (by first | (go_simp; done) | (go_simp; rfl)) ?_); intro g5 w5 m; simp only [List.cons_append, List.nil_append] at m; have M := Lib.hid m; clear m)
        | ((with_reducible refine gate_store (x := .tmp 5) rfl ?_); go_must (refine M.out.ev_stw 1 _ _ _ rfl rfl rfl rfl _ rfl (by first | rfl | (simp only [S1.out]; rfl) | (simp only [S1.out, S2.out]; rfl) | (simp only [S3.out]; rfl) | (simp only [S1.out, S2.out, S3.out]; rfl)) (by first | exact sz50 | (rw [S1.out]; exact sz50) | (rw [S2.out]; exact sz50) | (rw [S3.out]; exact sz50)) (by first | exact ints_one _ _ | exact Fld.one _ | exact O1.out | rfl | (simp [Value.oneCell']; done)) rfl ?_); intro wn m; simp only [List.set_cons_succ, List.set_cons_zero, List.setIfInBounds_toArray] at m; have M := Lib.hid m; clear m)
        | ((with_reducible refine gate_dst (N := 22) rfl ?_); go_must (refine M.out.ev_ldw 1 _ _ rfl rfl rfl Try.underlying50 rfl (by first | exact sz50 | (rw [S1.out]; exact sz50) | (rw [S2.out]; exact sz50) | (rw [S3.out]; exact sz50)) rfl ?_))
        | ((with_reducible refine gate_store (x := .tmp 4) rfl ?_); go_must (refine M.out.ev_stw 0 _ _ _ rfl rfl rfl rfl _ rfl (by first | rfl | (simp only [S1.out]; rfl) | (simp only [S1.out, S2.out]; rfl) | (simp only [S3.out]; rfl) | (simp only [S1.out, S2.out, S3.out]; rfl)) (by first | exact sz50 | (rw [S1.out]; exact sz50) | (rw [S2.out]; exact sz50) | (rw [S3.out]; exact sz50)) (by first | exact ints_one _ _ | exact Fld.one _ | exact O1.out | rfl | (simp [Value.oneCell']; done)) rfl ?_); intro wn m; simp only [List.set_cons_succ, List.set_cons_zero, List.setIfInBounds_toArray] at m; have M := Lib.hid m; clear m)
        )
      exact ret_cell rfl (M.out.blk 0 rfl) Try.underlying50 rfl sz50 rfl ⟨rfl, M.out.take 0⟩

def safeP (F : Fld) (xs : List Scarecrow) (least : Int) (k : Nat) : Bool := (F.kind k == 0) && decide (least ≤ fearAt xs k)
def safeSet (F : Fld) (xs : List Scarecrow) (least : Int) : Cs := setOf (F.all.filter (safeP F xs least))
set_option maxRecDepth 100000 in
set_option maxHeartbeats 2000000 in
theorem safeIs_any (g a b d : Nat) {t ta tb td : TypeId} (F : Fld) (hF : F.ok) (A : Option Addr) (n : Nat) (xs : List Scarecrow) (hx : ∀ x ∈ xs, x.plain = true) (hl : xs.length ≤ 1048576) (least : Int) (k : Nat) (hk : k < 100) (w : World) (hb : Blk w g t F.cells)
    (h1 : Blk w a ta #[.pointer (some ⟨g, 0, none⟩)]) (h2 : Blk w b tb #[.slice A xs.length n]) (h3 : Blk w d td #[.int .i64 least]) (hs : Sl w 3 A xs.length (flat Scarecrow.vals xs)) :
    Calls Try.prog 123 #[.int .i64 k, .pointer (some ⟨a, 0, none⟩), .pointer (some ⟨b, 0, none⟩), .pointer (some ⟨d, 0, none⟩)] w fun e w' => e = .returned (.bool (safeP F xs least k)) ∧ Mem w w' [] := by
  have M := Lib.hid (Mem.start w)
  have HX := Lib.hid hx
  have HS := Lib.hid hs
  have y1 := h1.cellv (i := 0) rfl
  have y2 := h2.cellv (i := 0) rfl
  have y3 := h3.cellv (i := 0) rfl
  have H3 := Lib.hid y3
  have y4 := hb.cellv (Fld.cellK hF.toLen (k := k) hk)
  have kb := hF.kb k
  have i0 : (0 : Int) ≤ (k : Int) := by omega
  have i1 : (k : Int) < 100 := by omega
  clear hx hs hb h1 h2 h3
  by_cases hk0 : F.kind k = 0
  · have HK := Lib.hid hk0
    have hkb : (F.kind k == 0) = true := by simp [hk0]
    go_enter Try.func123, Try.ntmps123
    go_wp2_with fail
    refine region_any (by kernel_rfl) ?_
    have m := M.out.drew
    clear M
    have M := Lib.hid m
    clear m
    refine takeD (i := 1) (v := ?v0) 7 rfl (by kernel_rfl) (by kernel_rfl) (by kernel_rfl) (fun _ _ _ h => h) rfl (Or.inl ⟨by first | rfl | (go_simp; done), ?y0⟩) ?r0
    case' y0 =>
      intro w
      go_simp
      try with_reducible rfl
    case' r0 =>
      try simp only [Act.put, List.setIfInBounds_toArray, List.set_cons_succ, List.set_cons_zero]
      refine any1k 0 (by kernel_rfl) rfl (fun K hK => ?_)
      go_wp2_with (first | (go_at_call 66; go_must (refine (fearOf_any A n xs HX.out hl k i0 (by omega) _ (M.out.sl HS.out)).mono ?_); rintro e w_ ⟨rfl, N_⟩; have m := M.out.join N_; clear N_; simp only [List.cons_append, List.nil_append, List.append_nil] at m; have M := Lib.hid m; clear m; have y3 := M.out.argcell H3.out))
      refine onward_normal (hK _ _ ?_)
      clear hK K
      try simp only [Act.put, List.getElem_toArray, List.getElem_cons_succ, List.getElem_cons_zero, List.setIfInBounds_toArray, List.set_cons_succ, List.set_cons_zero]
      refine any1k 2 (by kernel_rfl) rfl (fun K hK => ?_)
      go_wp2
      refine onward_normal (hK _ _ ?_)
      clear hK K
      try simp only [Act.put, List.getElem_toArray, List.getElem_cons_succ, List.getElem_cons_zero, List.setIfInBounds_toArray, List.set_cons_succ, List.set_cons_zero]
      refine any1k 3 (by kernel_rfl) rfl (fun K hK => ?_)
      go_wp2
      refine onward_normal (hK _ _ ?_)
      clear hK K
      try simp only [Act.put, List.getElem_toArray, List.getElem_cons_succ, List.getElem_cons_zero, List.setIfInBounds_toArray, List.set_cons_succ, List.set_cons_zero]
      refine any1k 4 (by kernel_rfl) rfl (fun K hK => ?_)
      go_wp2
      refine onward_normal (hK _ _ ?_)
      clear hK K
      try simp only [Act.put, List.getElem_toArray, List.getElem_cons_succ, List.getElem_cons_zero, List.setIfInBounds_toArray, List.set_cons_succ, List.set_cons_zero]
      refine any1k 5 (by kernel_rfl) rfl (fun K hK => ?_)
      go_wp2_with (first | (go_at_call 66; go_must (refine (fearOf_any A n xs HX.out hl k i0 (by omega) _ (M.out.sl HS.out)).mono ?_); rintro e w_ ⟨rfl, N_⟩; have m := M.out.join N_; clear N_; simp only [List.cons_append, List.nil_append, List.append_nil] at m; have M := Lib.hid m; clear m; have y3 := M.out.argcell H3.out))
      refine onward_normal (hK _ _ ?_)
      clear hK K
      try simp only [Act.put, List.getElem_toArray, List.getElem_cons_succ, List.getElem_cons_zero, List.setIfInBounds_toArray, List.set_cons_succ, List.set_cons_zero]
      refine any1k 6 (by kernel_rfl) rfl (fun K hK => ?_)
      go_wp2
      refine onward_normal (hK _ _ ?_)
      clear hK K
      try simp only [Act.put, List.getElem_toArray, List.getElem_cons_succ, List.getElem_cons_zero, List.setIfInBounds_toArray, List.set_cons_succ, List.set_cons_zero]
      refine any1k 7 (by kernel_rfl) rfl (fun K hK => ?_)
      go_wp2
      refine onward_normal (hK _ _ ?_)
      clear hK K
      try simp only [Act.put, List.getElem_toArray, List.getElem_cons_succ, List.getElem_cons_zero, List.setIfInBounds_toArray, List.set_cons_succ, List.set_cons_zero]
      refine takeD (i := 9) (v := ?v1) 15 rfl (by kernel_rfl) (by kernel_rfl) (by kernel_rfl) (fun _ _ _ h => h) rfl (Or.inl ⟨by first | rfl | (go_simp; done), ?y1⟩) ?r1
      case' y1 =>
        intro w
        go_simp
        try with_reducible rfl
      case' r1 =>
        try simp only [Act.put, List.setIfInBounds_toArray, List.set_cons_succ, List.set_cons_zero]
        refine any2k 8 11 (by kernel_rfl) rfl rfl (fun K hK => ?x2_1) (fun K hK => ?x2_2)
        case' x2_2 =>
          go_wp2_with (first | (go_at_call 66; go_must (refine (fearOf_any A n xs HX.out hl k i0 (by omega) _ (M.out.sl HS.out)).mono ?_); rintro e w_ ⟨rfl, N_⟩; have m := M.out.join N_; clear N_; simp only [List.cons_append, List.nil_append, List.append_nil] at m; have M := Lib.hid m; clear m; have y3 := M.out.argcell H3.out))
          refine onward_normal (hK _ _ ?_)
          clear hK K
          try simp only [Act.put, List.getElem_toArray, List.getElem_cons_succ, List.getElem_cons_zero, List.setIfInBounds_toArray, List.set_cons_succ, List.set_cons_zero]
          refine any1k 8 (by kernel_rfl) rfl (fun K hK => ?_)
          go_wp2_with (first | (go_at_call 66; go_must (refine (fearOf_any A n xs HX.out hl k i0 (by omega) _ (M.out.sl HS.out)).mono ?_); rintro e w_ ⟨rfl, N_⟩; have m := M.out.join N_; clear N_; simp only [List.cons_append, List.nil_append, List.append_nil] at m; have M := Lib.hid m; clear m; have y3 := M.out.argcell H3.out))
          refine onward_normal (hK _ _ ?_)
          clear hK K
          try simp only [Act.put, List.getElem_toArray, List.getElem_cons_succ, List.getElem_cons_zero, List.setIfInBounds_toArray, List.set_cons_succ, List.set_cons_zero]
          refine any1k 10 (by kernel_rfl) rfl (fun K hK => ?_)
          go_wp2_with (first | (go_at_call 66; go_must (refine (fearOf_any A n xs HX.out hl k i0 (by omega) _ (M.out.sl HS.out)).mono ?_); rintro e w_ ⟨rfl, N_⟩; have m := M.out.join N_; clear N_; simp only [List.cons_append, List.nil_append, List.append_nil] at m; have M := Lib.hid m; clear m; have y3 := M.out.argcell H3.out))
          refine onward_normal (hK _ _ ?_)
          clear hK K
          try simp only [Act.put, List.getElem_toArray, List.getElem_cons_succ, List.getElem_cons_zero, List.setIfInBounds_toArray, List.set_cons_succ, List.set_cons_zero]
          refine any1k 12 (by kernel_rfl) rfl (fun K hK => ?_)
          go_wp2
          refine onward_normal (hK _ _ ?_)
          clear hK K
          try simp only [Act.put, List.getElem_toArray, List.getElem_cons_succ, List.getElem_cons_zero, List.setIfInBounds_toArray, List.set_cons_succ, List.set_cons_zero]
          refine any1k 13 (by kernel_rfl) rfl (fun K hK => ?_)
          go_wp2
          refine onward_normal (hK _ _ ?_)
          clear hK K
          try simp only [Act.put, List.getElem_toArray, List.getElem_cons_succ, List.getElem_cons_zero, List.setIfInBounds_toArray, List.set_cons_succ, List.set_cons_zero]
          refine any1k 14 (by kernel_rfl) rfl (fun K hK => ?_)
          go_wp2
          refine onward_normal (hK _ _ ?_)
          clear hK K
          try simp only [Act.put, List.getElem_toArray, List.getElem_cons_succ, List.getElem_cons_zero, List.setIfInBounds_toArray, List.set_cons_succ, List.set_cons_zero]
          refine wpAny_done (by kernel_rfl) ?_ _
        case' x2_1 =>
          go_wp2_with (first | (go_at_call 66; go_must (refine (fearOf_any A n xs HX.out hl k i0 (by omega) _ (M.out.sl HS.out)).mono ?_); rintro e w_ ⟨rfl, N_⟩; have m := M.out.join N_; clear N_; simp only [List.cons_append, List.nil_append, List.append_nil] at m; have M := Lib.hid m; clear m; have y3 := M.out.argcell H3.out))
          refine onward_normal (hK _ _ ?_)
          clear hK K
          try simp only [Act.put, List.getElem_toArray, List.getElem_cons_succ, List.getElem_cons_zero, List.setIfInBounds_toArray, List.set_cons_succ, List.set_cons_zero]
          refine any2k 10 11 (by kernel_rfl) rfl rfl (fun K hK => ?x3_1) (fun K hK => ?x3_2)
          case' x3_2 =>
            go_wp2_with (first | (go_at_call 66; go_must (refine (fearOf_any A n xs HX.out hl k i0 (by omega) _ (M.out.sl HS.out)).mono ?_); rintro e w_ ⟨rfl, N_⟩; have m := M.out.join N_; clear N_; simp only [List.cons_append, List.nil_append, List.append_nil] at m; have M := Lib.hid m; clear m; have y3 := M.out.argcell H3.out))
            refine onward_normal (hK _ _ ?_)
            clear hK K
            try simp only [Act.put, List.getElem_toArray, List.getElem_cons_succ, List.getElem_cons_zero, List.setIfInBounds_toArray, List.set_cons_succ, List.set_cons_zero]
            refine any1k 10 (by kernel_rfl) rfl (fun K hK => ?_)
            go_wp2_with (first | (go_at_call 66; go_must (refine (fearOf_any A n xs HX.out hl k i0 (by omega) _ (M.out.sl HS.out)).mono ?_); rintro e w_ ⟨rfl, N_⟩; have m := M.out.join N_; clear N_; simp only [List.cons_append, List.nil_append, List.append_nil] at m; have M := Lib.hid m; clear m; have y3 := M.out.argcell H3.out))
            refine onward_normal (hK _ _ ?_)
            clear hK K
            try simp only [Act.put, List.getElem_toArray, List.getElem_cons_succ, List.getElem_cons_zero, List.setIfInBounds_toArray, List.set_cons_succ, List.set_cons_zero]
            refine any1k 12 (by kernel_rfl) rfl (fun K hK => ?_)
            go_wp2
            refine onward_normal (hK _ _ ?_)
            clear hK K
            try simp only [Act.put, List.getElem_toArray, List.getElem_cons_succ, List.getElem_cons_zero, List.setIfInBounds_toArray, List.set_cons_succ, List.set_cons_zero]
            refine any1k 13 (by kernel_rfl) rfl (fun K hK => ?_)
            go_wp2
            refine onward_normal (hK _ _ ?_)
            clear hK K
            try simp only [Act.put, List.getElem_toArray, List.getElem_cons_succ, List.getElem_cons_zero, List.setIfInBounds_toArray, List.set_cons_succ, List.set_cons_zero]
            refine any1k 14 (by kernel_rfl) rfl (fun K hK => ?_)
            go_wp2
            refine onward_normal (hK _ _ ?_)
            clear hK K
            try simp only [Act.put, List.getElem_toArray, List.getElem_cons_succ, List.getElem_cons_zero, List.setIfInBounds_toArray, List.set_cons_succ, List.set_cons_zero]
            refine wpAny_done (by kernel_rfl) ?_ _
          case' x3_1 =>
            go_wp2_with (first | (go_at_call 66; go_must (refine (fearOf_any A n xs HX.out hl k i0 (by omega) _ (M.out.sl HS.out)).mono ?_); rintro e w_ ⟨rfl, N_⟩; have m := M.out.join N_; clear N_; simp only [List.cons_append, List.nil_append, List.append_nil] at m; have M := Lib.hid m; clear m; have y3 := M.out.argcell H3.out))
            refine onward_normal (hK _ _ ?_)
            clear hK K
            try simp only [Act.put, List.getElem_toArray, List.getElem_cons_succ, List.getElem_cons_zero, List.setIfInBounds_toArray, List.set_cons_succ, List.set_cons_zero]
            refine any1k 11 (by kernel_rfl) rfl (fun K hK => ?_)
            go_wp2_with (first | (go_at_call 66; go_must (refine (fearOf_any A n xs HX.out hl k i0 (by omega) _ (M.out.sl HS.out)).mono ?_); rintro e w_ ⟨rfl, N_⟩; have m := M.out.join N_; clear N_; simp only [List.cons_append, List.nil_append, List.append_nil] at m; have M := Lib.hid m; clear m; have y3 := M.out.argcell H3.out))
            refine onward_normal (hK _ _ ?_)
            clear hK K
            try simp only [Act.put, List.getElem_toArray, List.getElem_cons_succ, List.getElem_cons_zero, List.setIfInBounds_toArray, List.set_cons_succ, List.set_cons_zero]
            refine any1k 12 (by kernel_rfl) rfl (fun K hK => ?_)
            go_wp2
            refine onward_normal (hK _ _ ?_)
            clear hK K
            try simp only [Act.put, List.getElem_toArray, List.getElem_cons_succ, List.getElem_cons_zero, List.setIfInBounds_toArray, List.set_cons_succ, List.set_cons_zero]
            refine any1k 13 (by kernel_rfl) rfl (fun K hK => ?_)
            go_wp2
            refine onward_normal (hK _ _ ?_)
            clear hK K
            try simp only [Act.put, List.getElem_toArray, List.getElem_cons_succ, List.getElem_cons_zero, List.setIfInBounds_toArray, List.set_cons_succ, List.set_cons_zero]
            refine any1k 14 (by kernel_rfl) rfl (fun K hK => ?_)
            go_wp2
            refine onward_normal (hK _ _ ?_)
            clear hK K
            try simp only [Act.put, List.getElem_toArray, List.getElem_cons_succ, List.getElem_cons_zero, List.setIfInBounds_toArray, List.set_cons_succ, List.set_cons_zero]
            refine wpAny_done (by kernel_rfl) ?_ _
    all_goals
      go_wp2
      go_ret
      exact ⟨ret_bool (by simp [safeP, HK.out]), M.out⟩
  · have HK := Lib.hid hk0
    have hkb : (F.kind k == 0) = false := by simp [hk0]
    clear hk0
    go_enter Try.func123, Try.ntmps123
    go_wp2_with fail
    go_quiet (fail)
    have M := Lib.hid (M.out.drewN nq)
    go_wp2
    go_ret
    exact ⟨ret_bool (by simp [safeP, hkb]), M.out⟩
set_option maxRecDepth 100000 in
set_option maxHeartbeats 2000000 in
theorem safeCells_any (g : Nat) {t : TypeId} (F : Fld) (hF : F.ok) (A : Option Addr) (n : Nat) (xs : List Scarecrow) (hx : ∀ x ∈ xs, x.plain = true) (hl : xs.length ≤ 1048576) (least : Int) (w : World) (hb : Blk w g t F.cells) (hs : Sl w 3 A xs.length (flat Scarecrow.vals xs)) :
    Calls Try.prog 88 #[.pointer (some ⟨g, 0, none⟩), .slice A xs.length n, .int .i64 least] w fun e w' => e = .returned (.agg (safeSet F xs least).cells) ∧ Mem w w' [] := by
  have M := Lib.hid (Mem.start w)
  have HX := Lib.hid hx
  have HS := Lib.hid hs
  have HB := Lib.hid hb
  have O1 := Lib.hid (Cs.one (safeSet F xs least))
  clear hx hs hb
  go_enter Try.func88, Try.ntmps88
  go_wp2_with (first
    | ((with_reducible refine gate_dst (N := 3) rfl ?_); go_must (refine M.out.ev_new rfl (by first | (go_simp; done) | (go_simp; rfl)) ?_); intro g3 w3 m; simp only [List.cons_append, List.nil_append] at m; have M := Lib.hid m; clear m)
    | ((with_reducible refine gate_dst (N := 4) rfl ?_); go_must (refine M.out.ev_new rfl (by first | (go_simp; done) | (go_simp; rfl)) ?_); intro g4 w4 m; simp only [List.cons_append, List.nil_append] at m; have M := Lib.hid m; clear m)
    | ((with_reducible refine gate_dst (N := 5) rfl ?_); go_must (refine M.out.ev_new rfl (by first | (go_simp; done) | (go_simp; rfl)) ?_); intro g5 w5 m; simp only [List.cons_append, List.nil_append] at m; have M := Lib.hid m; clear m)
    | ((with_reducible refine gate_dst (N := 6) rfl ?_); go_must (refine M.out.ev_new rfl (by first | (go_simp; done) | (go_simp; rfl)) ?_); intro g6 w6 m; simp only [List.cons_append, List.nil_append] at m; have M := Lib.hid m; clear m)
    | ((with_reducible refine gate_dst (N := 7) rfl ?_); go_must (refine M.out.ev_ld 0 _ _ rfl rfl rfl Try.underlying83 rfl rfl (by first | assumption | rfl) ?_))
    | ((with_reducible refine gate_store (x := .tmp 6) rfl ?_); go_must (refine M.out.ev_stw 3 _ _ _ rfl rfl rfl rfl _ rfl (by first | rfl | (simp only [S1.out]; rfl) | (simp only [S1.out, S2.out]; rfl) | (simp only [S3.out]; rfl) | (simp only [S1.out, S2.out, S3.out]; rfl)) (by first | exact sz50 | (rw [S1.out]; exact sz50) | (rw [S2.out]; exact sz50) | (rw [S3.out]; exact sz50)) (by first | exact ints_one _ _ | exact Fld.one _ | exact O1.out | rfl | (simp [Value.oneCell']; done)) rfl ?_); intro wn m; simp only [List.set_cons_succ, List.set_cons_zero, List.setIfInBounds_toArray] at m; have M := Lib.hid m; clear m)
    | (go_at_call 122; go_must (refine (those_any g F hF 123 #[.pointer (some ⟨g3, 0, none⟩), .pointer (some ⟨g4, 0, none⟩), .pointer (some ⟨g5, 0, none⟩)] (safeP F xs least) _ (M.out.arg HB.out) (fun _ _ => by go_simp) (fun k hk _ w1 m1 => calls_caps (safeIs_any g _ _ _ F hF A n xs HX.out hl least k hk w1 ((M.out.join m1).arg HB.out) ((M.out.join m1).blk 0 rfl) ((M.out.join m1).blk 1 rfl) ((M.out.join m1).blk 2 rfl) ((M.out.join m1).sl HS.out)))).mono ?_); rintro e w_ ⟨rfl, N_⟩; have m := M.out.join N_; clear N_; simp only [List.cons_append, List.nil_append, List.append_nil] at m; have M := Lib.hid m; clear m)
    )
  exact ret_cell rfl (M.out.blk 3 rfl) Try.underlying50 rfl sz50 rfl ⟨rfl, M.out.take 0⟩
set_option maxRecDepth 100000 in
set_option maxHeartbeats 1000000 in
theorem l03Soil_any (g : Nat) {t : TypeId} (F : Fld) (hF : F.ok) (k : Nat) (hk : k < 100) (w : World) (hb : Blk w g t F.cells) :
    Calls Try.prog 121 #[.pointer (some ⟨g, 0, none⟩), .int .i64 k] w fun e w' => e = .returned (.bool (F.has k && (F.kind k == 0))) ∧ w = w' := by
  have HB := Lib.hid hb
  have y4 := hb.cellv (Fld.cellK hF.toLen (k := k) hk)
  have kb := hF.kb k
  have i0 : (0 : Int) ≤ (k : Int) := by omega
  have i1 : (k : Int) < 100 := by omega
  clear hb
  cases hq : F.has k <;>
  · have HQ := Lib.hid hq
    clear hq
    go_enter Try.func121, Try.ntmps121
    go_wp2_with (first
      | (go_at_call 58; go_must (refine (l01Is_any g F hF k _ HB.out).mono ?_); rintro e w_ ⟨rfl, rfl⟩; rw [HQ.out])
      )
    go_ret
    exact ⟨ret_bool (by simp), rfl⟩
def safeTo (F : Fld) (xs : List Scarecrow) (least : Int) (n : Nat) : Cs := setOf ((List.range n).filter fun (k : Nat) => F.has k && safeP F xs least k)
theorem safeTo_all (F : Fld) (xs : List Scarecrow) (least : Int) : safeTo F xs least 100 = safeSet F xs least := by
  unfold safeTo safeSet Fld.all Fld.below
  rw [List.filter_filter]
  congr 1
  apply List.filter_congr
  intro k _
  exact Bool.and_comm _ _
theorem safeTo_succ (F : Fld) (xs : List Scarecrow) (least : Int) (n : Nat) : safeTo F xs least (n + 1) = if (F.has n && safeP F xs least n) = true then (safeTo F xs least n).put n else safeTo F xs least n := by
  unfold safeTo
  rw [List.range_succ, List.filter_append]
  cases h : (F.has n && safeP F xs least n)
  · simp [h]
  · simp only [List.filter_cons, h, List.filter_nil, if_true]
    rw [setOf_snoc]
theorem safeTo_ok (F : Fld) (xs : List Scarecrow) (least : Int) {n : Nat} (hn : n ≤ 100) : (safeTo F xs least n).ok := setOf_ok _ fun k hk => by
  have := List.mem_range.1 (List.mem_filter.1 hk).1
  omega
set_option maxRecDepth 100000 in
set_option maxHeartbeats 2000000 in
theorem l03Safe_any (g : Nat) {t : TypeId} (F : Fld) (hF : F.ok) (A : Option Addr) (n : Nat) (xs : List Scarecrow) (hx : ∀ x ∈ xs, x.plain = true) (hl : xs.length ≤ 1048576) (least : Int) (w : World) (hb : Blk w g t F.cells) (hs : Sl w 3 A xs.length (flat Scarecrow.vals xs)) :
    Calls Try.prog 86 #[.pointer (some ⟨g, 0, none⟩), .slice A xs.length n, .int .i64 least] w fun e w' => e = .returned (.agg (safeSet F xs least).cells) ∧ Mem w w' [] := by
  have M := Lib.hid (Mem.start w)
  have HX := Lib.hid hx
  have HS := Lib.hid hs
  have HB := Lib.hid hb
  have O1 := Lib.hid (Cs.one (safeSet F xs least))
  clear hx hs hb
  go_enter Try.func86, Try.ntmps86
  go_wp2_with (first
    | ((with_reducible refine gate_dst (N := 6) rfl ?_); go_must (refine M.out.ev_new rfl (by first | (go_simp; done) | (go_simp; rfl)) ?_); intro g6 w6 m; simp only [List.cons_append, List.nil_append] at m; have M := Lib.hid m; clear m)
    | ((with_reducible refine gate_dst (N := 7) rfl ?_); go_must (refine M.out.ev_new rfl (by first | (go_simp; done) | (go_simp; rfl)) ?_); intro g7 w7 m; simp only [List.cons_append, List.nil_append] at m; have M := Lib.hid m; clear m)
    | ((with_reducible refine gate_store (x := .tmp 7) rfl ?_); go_must (refine M.out.ev_stw 1 _ _ _ rfl rfl rfl rfl _ rfl (by first | rfl | (simp only [S1.out]; rfl) | (simp only [S1.out, S2.out]; rfl) | (simp only [S3.out]; rfl) | (simp only [S1.out, S2.out, S3.out]; rfl)) (by first | exact sz50 | (rw [S1.out]; exact sz50) | (rw [S2.out]; exact sz50) | (rw [S3.out]; exact sz50)) (by first | exact ints_one _ _ | exact Fld.one _ | exact O1.out | rfl | (simp [Value.oneCell']; done)) rfl ?_); intro wn m; simp only [List.set_cons_succ, List.set_cons_zero, List.setIfInBounds_toArray] at m; have M := Lib.hid m; clear m)
    | ((with_reducible refine gate_dst (N := 26) rfl ?_); go_must (refine M.out.ev_ldw 1 _ _ rfl rfl rfl Try.underlying50 rfl (by first | exact sz50 | (rw [S1.out]; exact sz50) | (rw [S2.out]; exact sz50) | (rw [S3.out]; exact sz50)) rfl ?_))
    | ((with_reducible refine gate_store (x := .tmp 6) rfl ?_); go_must (refine M.out.ev_stw 0 _ _ _ rfl rfl rfl rfl _ rfl (by first | rfl | (simp only [S1.out]; rfl) | (simp only [S1.out, S2.out]; rfl) | (simp only [S3.out]; rfl) | (simp only [S1.out, S2.out, S3.out]; rfl)) (by first | exact sz50 | (rw [S1.out]; exact sz50) | (rw [S2.out]; exact sz50) | (rw [S3.out]; exact sz50)) (by first | exact ints_one _ _ | exact Fld.one _ | exact O1.out | rfl | (simp [Value.oneCell']; done)) rfl ?_); intro wn m; simp only [List.set_cons_succ, List.set_cons_zero, List.setIfInBounds_toArray] at m; have M := Lib.hid m; clear m)
    )
  go_loopw [8] (fun v wr => ∃ k : Nat, k ≤ 100 ∧ v = .int .i64 k ∧ Mem w wr [.blk g6 50 Cs.z.cells, .blk g7 50 (safeTo F xs least k).cells])
    (fun v _ => 100 - (intOf v).toNat)
  case atStart => exact ⟨0, by omega, rfl, M.out⟩
  case round =>
    clear M
    obtain ⟨k, hk, rfl, m⟩ := hrel
    have M := Lib.hid m
    clear m
    have CO := Lib.hid (safeTo_ok F xs least hk)
    by_cases hlt : k < 100
    · have i0 : (0 : Int) ≤ (k : Int) := by omega
      have i1 : (k : Int) < 100 := by omega
      have hsu := safeTo_succ F xs least k
      cases hq : (F.has k && (F.kind k == 0))
      · have HQ := Lib.hid hq
        have hno : (F.has k && safeP F xs least k) = false := by rw [safeP, ← Bool.and_assoc, hq, Bool.false_and]
        rw [if_neg (by rw [hno]; decide)] at hsu
        have HU := Lib.hid hsu
        clear hq hno hsu
        go_wp2_with (first
          | (go_at_call 121; go_must (refine (l03Soil_any g F hF k hlt _ (M.out.arg HB.out)).mono ?_); rintro e w_ ⟨rfl, rfl⟩; rw [HQ.out])
          )
        refine ⟨⟨k + 1, by omega, by go_num, ?_⟩, by simp [intOf]; omega⟩
        rw [HU.out]
        exact M.out
      · have HQ := Lib.hid hq
        by_cases hf : least ≤ fearAt xs k
        · have hno : (F.has k && safeP F xs least k) = true := by rw [safeP, ← Bool.and_assoc, hq, Bool.true_and, decide_eq_true hf]
          rw [if_pos hno] at hsu
          have HU := Lib.hid hsu
          clear hq hno hsu
          go_wp2_with (first
            | (go_at_call 121; go_must (refine (l03Soil_any g F hF k hlt _ (M.out.arg HB.out)).mono ?_); rintro e w_ ⟨rfl, rfl⟩; rw [HQ.out])
            | (go_at_call 59; go_must (refine (l03Fear_any A n xs HX.out hl k i0 (by omega) _ (M.out.sl HS.out)).mono ?_); rintro e w_ ⟨rfl, N_⟩; have m := M.out.join N_; clear N_; simp only [List.cons_append, List.nil_append, List.append_nil] at m; have M := Lib.hid m; clear m)
            | (go_at_call 91; go_must (refine (l01Put_any 1 M.out _ _ CO.out rfl k hlt).mono ?_); rintro e w_ ⟨rfl, m⟩; simp only [List.set_cons_succ, List.set_cons_zero] at m; have M := Lib.hid m; clear m)
            )
          refine ⟨⟨k + 1, by omega, by go_num, ?_⟩, by simp [intOf]; omega⟩
          rw [HU.out]
          exact M.out
        · have hno : (F.has k && safeP F xs least k) = false := by rw [safeP, decide_eq_false hf, Bool.and_false, Bool.and_false]
          rw [if_neg (by rw [hno]; decide)] at hsu
          have HU := Lib.hid hsu
          clear hq hno hsu
          go_wp2_with (first
            | (go_at_call 121; go_must (refine (l03Soil_any g F hF k hlt _ (M.out.arg HB.out)).mono ?_); rintro e w_ ⟨rfl, rfl⟩; rw [HQ.out])
            | (go_at_call 59; go_must (refine (l03Fear_any A n xs HX.out hl k i0 (by omega) _ (M.out.sl HS.out)).mono ?_); rintro e w_ ⟨rfl, N_⟩; have m := M.out.join N_; clear N_; simp only [List.cons_append, List.nil_append, List.append_nil] at m; have M := Lib.hid m; clear m)
            )
          refine ⟨⟨k + 1, by omega, by go_num, ?_⟩, by simp [intOf]; omega⟩
          rw [HU.out]
          exact M.out
    · obtain rfl : k = 100 := by omega
      rw [safeTo_all] at M
      go_wp2_with (first
        | ((with_reducible refine gate_dst (N := 6) rfl ?_); go_must (refine M.out.ev_new rfl (by first | (go_simp; done) | (go_simp; rfl)) ?_); intro g6 w6 m; simp only [List.cons_append, List.nil_append] at m; have M := Lib.hid m; clear m)
        | ((with_reducible refine gate_dst (N := 7) rfl ?_); go_must (refine M.out.ev_new rfl (by first | (go_simp; done) | (go_simp; rfl)) ?_); intro g7 w7 m; simp only [List.cons_append, List.nil_append] at m; have M := Lib.hid m; clear m)
        | ((with_reducible refine gate_store (x := .tmp 7) rfl ?_); go_must (refine M.out.ev_stw 1 _ _ _ rfl rfl rfl rfl _ rfl (by first | rfl | (simp only [S1.out]; rfl) | (simp only [S1.out, S2.out]; rfl) | (simp only [S3.out]; rfl) | (simp only [S1.out, S2.out, S3.out]; rfl)) (by first | exact sz50 | (rw [S1.out]; exact sz50) | (rw [S2.out]; exact sz50) | (rw [S3.out]; exact sz50)) (by first | exact ints_one _ _ | exact Fld.one _ | exact O1.out | rfl | (simp [Value.oneCell']; done)) rfl ?_); intro wn m; simp only [List.set_cons_succ, List.set_cons_zero, List.setIfInBounds_toArray] at m; have M := Lib.hid m; clear m)
        | ((with_reducible refine gate_dst (N := 26) rfl ?_); go_must (refine M.out.ev_ldw 1 _ _ rfl rfl rfl Try.underlying50 rfl (by first | exact sz50 | (rw [S1.out]; exact sz50) | (rw [S2.out]; exact sz50) | (rw [S3.out]; exact sz50)) rfl ?_))
        | ((with_reducible refine gate_store (x := .tmp 6) rfl ?_); go_must (refine M.out.ev_stw 0 _ _ _ rfl rfl rfl rfl _ rfl (by first | rfl | (simp only [S1.out]; rfl) | (simp only [S1.out, S2.out]; rfl) | (simp only [S3.out]; rfl) | (simp only [S1.out, S2.out, S3.out]; rfl)) (by first | exact sz50 | (rw [S1.out]; exact sz50) | (rw [S2.out]; exact sz50) | (rw [S3.out]; exact sz50)) (by first | exact ints_one _ _ | exact Fld.one _ | exact O1.out | rfl | (simp [Value.oneCell']; done)) rfl ?_); intro wn m; simp only [List.set_cons_succ, List.set_cons_zero, List.setIfInBounds_toArray] at m; have M := Lib.hid m; clear m)
        )
      exact ret_cell rfl (M.out.blk 0 rfl) Try.underlying50 rfl sz50 rfl ⟨rfl, M.out.take 0⟩
end Go.Proofs.Yteecfclccfhdhaa
