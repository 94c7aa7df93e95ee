/- Targets that no net covers: the walks of both. -/
import Derived.Test.YtnddoiapilookaaTargets
import Derived.Test.YtnddoiapilookaaCovered
namespace Go.Proofs.Ytnddoiapilookaa
set_option linter.unusedSimpArgs false
set_option linter.unusedVariables false
open Go.RowKit
attribute [local go_sem] cell?_mk frozen?_mk
--ONES exact Cs.one _
/-- The targets that no net covers. -/
def bareSet (xs : List Net) (c : Cs) : Cs := c.without (pset (covP xs))
theorem bareSet_ok (xs : List Net) (c : Cs) : (bareSet xs c).ok := Cs.without_ok _ _
theorem all_congr {a b : Cs} (h : ∀ k, k < 100 → a.has k = b.has k) : a.all = b.all := by
  unfold Cs.all Cs.below
  refine List.filter_congr fun k hk => h k (List.mem_range.1 hk)
theorem bare_all (xs : List Net) (c : Cs) : (c.less (pset (covP xs))).all = (bareSet xs c).all :=
  all_congr fun k hk => by rw [bareSet, Cs.without_has _ _ hk, Cs.less_has _ _ (by omega)]
theorem without_small (a b : Cs) {k : Nat} (h1 : 100 ≤ k) (h2 : k < 128) : (a.without b).has k = false := by
  unfold Cs.without
  exact Cs.cut_small _ h1 h2
theorem bare_z (xs : List Net) (c : Cs) : (bareSet xs c).same Cs.z = decide ((bareSet xs c).all = []) := by
  rw [Bool.eq_iff_iff, Cs.same_iff, decide_eq_true_eq]
  constructor
  · intro h
    rw [h]
    decide
  · intro h
    have h0 : (bareSet xs c).all = [] := h
    refine Cs.ext_has (bareSet_ok xs c) Cs.z_ok fun k hk => ?_
    rw [show Cs.z.has k = false by unfold Cs.has Cs.z; split <;> simp]
    by_cases h100 : k < 100
    · rw [← Bool.not_eq_true]
      intro hh
      have : k ∈ (bareSet xs c).all := List.mem_filter.2 ⟨List.mem_range.2 h100, hh⟩
      rw [h0] at this
      cases this
    · exact without_small _ _ (by omega) hk
theorem len0 (l : List Nat) : ((l.length : Int) == 0) = decide (l = []) := by
  cases l with
  | nil => rfl
  | cons x r =>
    rw [decide_eq_false (by simp)]
    exact beq_eq_false_iff_ne.2 (by simp only [List.length_cons, Int.natCast_add]; omega)
set_option maxRecDepth 100000 in
set_option maxHeartbeats 4000000 in
theorem bare_any (A : Option Addr) (n : Nat) (xs : List Net) (hx : ∀ x ∈ xs, x.snug) (hl : xs.length ≤ 1048576) (c : Cs) (w : World) (hs : Sl w 4 A xs.length (flat Net.vals xs)) :
    Calls Try.prog 79 #[.slice A xs.length n, .agg c.cells] w fun e w' => e = .returned (.agg (bareSet xs c).cells) ∧ Mem w w' [] := by
  have M := Lib.hid (Mem.start w)
  have HS := Lib.hid hs
  have O1 := Lib.hid (Cs.one Cs.z)
  clear hs
  go_enter Try.func79, Try.ntmps79
  go_wp2_with (first
    | ((with_reducible refine gate_dst (N := 3) rfl ?_); go_must (refine M.out.ev_new rfl (by first | (go_simp; done) | (go_simp; rfl)) ?_); intro g3 w3 m; simp only [List.cons_append, List.nil_append] at m; have M := Lib.hid m; clear m)
    | ((with_reducible refine gate_dst (N := 4) rfl ?_); go_must (refine M.out.ev_new rfl (by first | (go_simp; done) | (go_simp; rfl)) ?_); intro g4 w4 m; simp only [List.cons_append, List.nil_append] at m; have M := Lib.hid m; clear m)
    | ((with_reducible refine gate_dst (N := 5) rfl ?_); go_must (refine M.out.ev_new rfl (by first | (go_simp; done) | (go_simp; rfl)) ?_); intro g5 w5 m; simp only [List.cons_append, List.nil_append] at m; have M := Lib.hid m; clear m)
    | ((with_reducible refine gate_dst (N := 6) rfl ?_); go_must (refine M.out.ev_new rfl (by first | (go_simp; done) | (go_simp; rfl)) ?_); intro g6 w6 m; simp only [List.cons_append, List.nil_append] at m; have M := Lib.hid m; clear m)
    | ((with_reducible refine gate_store (x := .tmp 5) rfl ?_); go_must (refine M.out.ev_stw 2 _ _ _ rfl rfl rfl rfl _ rfl (by first | rfl | (simp only [S1.out]; rfl) | (simp only [S1.out, S2.out]; rfl) | (simp only [S3.out]; rfl) | (simp only [S1.out, S2.out, S3.out]; rfl)) (by first | exact sz51 | (rw [S1.out]; exact sz51) | (rw [S2.out]; exact sz51) | (rw [S3.out]; exact sz51)) (by first | exact ints_one _ _ | exact Fld.one _ | exact O1.out | exact Cs.one _ | rfl | (simp [Value.oneCell']; done)) rfl ?_); intro wn m; simp only [List.set_cons_succ, List.set_cons_zero, List.setIfInBounds_toArray] at m; have M := Lib.hid m; clear m)
    | ((with_reducible refine gate_store (x := .tmp 6) rfl ?_); go_must (refine M.out.ev_stw 3 _ _ _ rfl rfl rfl rfl _ rfl (by first | rfl | (simp only [S1.out]; rfl) | (simp only [S1.out, S2.out]; rfl) | (simp only [S3.out]; rfl) | (simp only [S1.out, S2.out, S3.out]; rfl)) (by first | exact sz51 | (rw [S1.out]; exact sz51) | (rw [S2.out]; exact sz51) | (rw [S3.out]; exact sz51)) (by first | exact ints_one _ _ | exact Fld.one _ | exact O1.out | exact Cs.one _ | rfl | (simp [Value.oneCell']; done)) rfl ?_); intro wn m; simp only [List.set_cons_succ, List.set_cons_zero, List.setIfInBounds_toArray] at m; have M := Lib.hid m; clear m)
    | ((with_reducible refine gate_dst (N := 12) rfl ?_); go_must (refine M.out.ev_ldw 0 _ _ rfl rfl rfl Try.underlying51 rfl (by first | exact sz51 | (rw [S1.out]; exact sz51) | (rw [S2.out]; exact sz51) | (rw [S3.out]; exact sz51)) rfl ?_))
    | ((with_reducible refine gate_dst (N := 13) rfl ?_); go_must (refine M.out.ev_ldw 2 _ _ rfl rfl rfl Try.underlying51 rfl (by first | exact sz51 | (rw [S1.out]; exact sz51) | (rw [S2.out]; exact sz51) | (rw [S3.out]; exact sz51)) rfl ?_))
    | ((with_reducible refine gate_store (x := .tmp 4) rfl ?_); go_must (refine M.out.ev_stw 1 _ _ _ rfl rfl rfl rfl _ rfl (by first | rfl | (simp only [S1.out]; rfl) | (simp only [S1.out, S2.out]; rfl) | (simp only [S3.out]; rfl) | (simp only [S1.out, S2.out, S3.out]; rfl)) (by first | exact sz51 | (rw [S1.out]; exact sz51) | (rw [S2.out]; exact sz51) | (rw [S3.out]; exact sz51)) (by first | exact ints_one _ _ | exact Fld.one _ | exact O1.out | exact Cs.one _ | rfl | (simp [Value.oneCell']; done)) rfl ?_); intro wn m; simp only [List.set_cons_succ, List.set_cons_zero, List.setIfInBounds_toArray] at m; have M := Lib.hid m; clear m)
    | (go_at_call 67; go_must (refine (under_any A n xs hx hl _ (M.out.sl HS.out)).mono ?_); rintro e w_ ⟨rfl, N_⟩; have m := M.out.join N_; clear N_; simp only [List.cons_append, List.nil_append, List.append_nil] at m; have M := Lib.hid m; clear m)
    | (go_at_call 72; go_must (refine (WithoutOf_any _ _ _).mono ?_); rintro e w_ ⟨rfl, N_⟩; have m := M.out.join N_; clear N_; simp only [List.cons_append, List.nil_append, List.append_nil] at m; have M := Lib.hid m; clear m)
    )
  exact ret_cell rfl (M.out.blk 1 rfl) Try.underlying51 rfl sz51 rfl ⟨rfl, M.out.take 0⟩
set_option maxRecDepth 100000 in
set_option maxHeartbeats 4000000 in
theorem l04Bare_any (h : Nat) {t : TypeId} (A : Option Addr) (n : Nat) (xs : List Net) (hx : ∀ x ∈ xs, x.ok) (hl : xs.length ≤ 1048576) (c : Cs) (hc : c.ok) (w : World) (hs : Sl w 4 A xs.length (flat Net.vals xs)) (hcb : Blk w h t c.cells) :
    Calls Try.prog 78 #[.slice A xs.length n, .pointer (some ⟨h, 0, none⟩)] w (RetRow w 2 1 (bareSet xs c).all.length (flat one64 (bareSet xs c).all)) := by
  have M := Lib.hid (Mem.start w)
  have HS := Lib.hid hs
  have HCB := Lib.hid hcb
  have CO := Lib.hid (pset_ok (covP xs))
  have O1 := Lib.hid (Cs.one Cs.z)
  have BA := Lib.hid (bare_all xs c)
  clear hs hcb
  go_enter Try.func78, Try.ntmps78
  go_wp2
  refine region_anyH (fun w' => Mem w w' []) (by kernel_rfl) ?_
  have M9 := M.out.drew
  clear M
  apply merge1
  case hA =>
    intro REST0
    apply merge1
    case hA =>
      intro REST1
      apply merge1
      case hA =>
        intro REST2
        have M := Lib.hid M9
        apply takeH (i := 0) 6 rfl (by kernel_rfl) (by kernel_rfl) (by kernel_rfl) (fun _ _ _ h => h) rfl (by first | exact M.out | exact M.out.take 0)
        case' hy =>
          refine Or.inl ⟨by first | rfl | (go_simp; done), ?_⟩
          intro w hS
          clear hS
          go_simp
          try with_reducible rfl
        try simp only [Act.put, List.getElem_toArray, List.getElem_cons_succ, List.getElem_cons_zero, List.setIfInBounds_toArray, List.set_cons_succ, List.set_cons_zero]
        apply takeH (i := 1) 7 rfl (by kernel_rfl) (by kernel_rfl) (by kernel_rfl) (fun _ _ _ h => h) rfl (by first | exact M.out | exact M.out.take 0)
        case' hy =>
          refine Or.inl ⟨by first | rfl | (go_simp; done), ?_⟩
          intro w hS
          clear hS
          go_simp
          try with_reducible rfl
        try simp only [Act.put, List.getElem_toArray, List.getElem_cons_succ, List.getElem_cons_zero, List.setIfInBounds_toArray, List.set_cons_succ, List.set_cons_zero]
        apply takeH (i := 2) 8 rfl (by kernel_rfl) (by kernel_rfl) (by kernel_rfl) (fun _ _ _ h => h) rfl (by first | exact M.out | exact M.out.take 0)
        case' hy => exact yldw _ _ rfl rfl Try.underlying51 rfl (by first | exact sz51 | (rw [S1.out]; exact sz51) | (rw [S2.out]; exact sz51) | (rw [S3.out]; exact sz51)) rfl (fun w' hS => hS.arg HCB.out)
        try simp only [Act.put, List.getElem_toArray, List.getElem_cons_succ, List.getElem_cons_zero, List.setIfInBounds_toArray, List.set_cons_succ, List.set_cons_zero]
        apply takeH (i := 3) 9 rfl (by kernel_rfl) (by kernel_rfl) (by kernel_rfl) (fun _ _ _ h => h) rfl (by first | exact M.out | exact M.out.take 0)
        case' hy =>
          refine Or.inl ⟨by first | rfl | (go_simp; done), ?_⟩
          intro w hS
          clear hS
          go_simp
          try with_reducible rfl
        try simp only [Act.put, List.getElem_toArray, List.getElem_cons_succ, List.getElem_cons_zero, List.setIfInBounds_toArray, List.set_cons_succ, List.set_cons_zero]
        refine any2H 4 6 (by kernel_rfl) rfl rfl (fun K hK => ?_) (fun K hK => ?_)
        rotate_right 1
        case' _ =>
          go_wp2_with (first | ((with_reducible refine gate_dst (N := 5) rfl ?_); go_must (refine M.out.ev_new rfl (by first | (go_simp; done) | (go_simp; rfl)) ?_); intro g5 w5 m; simp only [List.cons_append, List.nil_append] at m; have M := Lib.hid m; clear m))
          refine onward_normal (hK _ _ ⟨(by first | exact M.out | exact M.out.take 0), ?_⟩)
          clear hK K
          try simp only [Act.put, List.getElem_toArray, List.getElem_cons_succ, List.getElem_cons_zero, List.setIfInBounds_toArray, List.set_cons_succ, List.set_cons_zero]
          refine any1H 4 (by kernel_rfl) rfl (fun K hK => ?_)
          go_wp2_with (first | (go_at_call 65; go_must (refine (l04Covered_any A n xs hx hl _ (M.out.sl HS.out)).mono ?_); rintro e w_ ⟨rfl, N_⟩; have m := M.out.join N_; clear N_; simp only [List.cons_append, List.nil_append, List.append_nil] at m; have M := Lib.hid m; clear m))
          refine onward_normal (hK _ _ ⟨(by first | exact M.out | exact M.out.take 0), ?_⟩)
          clear hK K
          try simp only [Act.put, List.getElem_toArray, List.getElem_cons_succ, List.getElem_cons_zero, List.setIfInBounds_toArray, List.set_cons_succ, List.set_cons_zero]
          exact REST2 g5 w_ M.out
        rotate_right 1
        case' _ =>
          go_wp2_with (first | (go_at_call 65; go_must (refine (l04Covered_any A n xs hx hl _ (M.out.sl HS.out)).mono ?_); rintro e w_ ⟨rfl, N_⟩; have m := M.out.join N_; clear N_; simp only [List.cons_append, List.nil_append, List.append_nil] at m; have M := Lib.hid m; clear m))
          refine onward_normal (hK _ _ ⟨(by first | exact M.out | exact M.out.take 0), ?_⟩)
          clear hK K
          try simp only [Act.put, List.getElem_toArray, List.getElem_cons_succ, List.getElem_cons_zero, List.setIfInBounds_toArray, List.set_cons_succ, List.set_cons_zero]
          refine any2H 5 6 (by kernel_rfl) rfl rfl (fun K hK => ?_) (fun K hK => ?_)
          rotate_right 1
          case' _ =>
            go_wp2_with (first | ((with_reducible refine gate_dst (N := 5) rfl ?_); go_must (refine M.out.ev_new rfl (by first | (go_simp; done) | (go_simp; rfl)) ?_); intro g5 w5 m; simp only [List.cons_append, List.nil_append] at m; have M := Lib.hid m; clear m))
            refine onward_normal (hK _ _ ⟨(by first | exact M.out | exact M.out.take 0), ?_⟩)
            clear hK K
            try simp only [Act.put, List.getElem_toArray, List.getElem_cons_succ, List.getElem_cons_zero, List.setIfInBounds_toArray, List.set_cons_succ, List.set_cons_zero]
            exact REST2 g5 w5 M.out
          rotate_right 1
          case' _ =>
            go_wp2_with (first | (go_at_call 71; go_must (refine (l04Less_any _ _ hc CO.out _).mono ?_); rintro e w_ ⟨rfl, N_⟩; have m := M.out.join N_; clear N_; simp only [List.cons_append, List.nil_append, List.append_nil] at m; have M := Lib.hid m; clear m))
            refine onward_normal (hK _ _ ⟨(by first | exact M.out | exact M.out.take 0), ?_⟩)
            clear hK K
            try simp only [Act.put, List.getElem_toArray, List.getElem_cons_succ, List.getElem_cons_zero, List.setIfInBounds_toArray, List.set_cons_succ, List.set_cons_zero]
            refine any1H 6 (by kernel_rfl) rfl (fun K hK => ?_)
            go_wp2_with (first | ((with_reducible refine gate_dst (N := 5) rfl ?_); go_must (refine M.out.ev_new rfl (by first | (go_simp; done) | (go_simp; rfl)) ?_); intro g5 w5 m; simp only [List.cons_append, List.nil_append] at m; have M := Lib.hid m; clear m))
            refine onward_normal (hK _ _ ⟨(by first | exact M.out | exact M.out.take 0), ?_⟩)
            clear hK K
            try simp only [Act.put, List.getElem_toArray, List.getElem_cons_succ, List.getElem_cons_zero, List.setIfInBounds_toArray, List.set_cons_succ, List.set_cons_zero]
            exact REST1 g5 w5 M.out
      case hB =>
        intro g5 w_ m
        have M := Lib.hid m
        clear m
        refine any1H 5 (by kernel_rfl) rfl (fun K hK => ?_)
        go_wp2_with (first | (go_at_call 71; go_must (refine (l04Less_any _ _ hc CO.out _).mono ?_); rintro e w_ ⟨rfl, N_⟩; have m := M.out.join N_; clear N_; simp only [List.cons_append, List.nil_append, List.append_nil] at m; have M := Lib.hid m; clear m))
        refine onward_normal (hK _ _ ⟨(by first | exact M.out | exact M.out.take 0), ?_⟩)
        clear hK K
        try simp only [Act.put, List.getElem_toArray, List.getElem_cons_succ, List.getElem_cons_zero, List.setIfInBounds_toArray, List.set_cons_succ, List.set_cons_zero]
        exact REST1 g5 w_ M.out
    case hB =>
      intro g5 w_ m
      have M := Lib.hid m
      clear m
      refine any1H 7 (by kernel_rfl) rfl (fun K hK => ?_)
      go_wp2_with (first | ((with_reducible refine gate_store (x := .tmp 5) rfl ?_); go_must (refine M.out.ev_stw 0 _ _ _ rfl rfl rfl rfl _ rfl (by first | rfl | (simp only [S1.out]; rfl) | (simp only [S1.out, S2.out]; rfl) | (simp only [S3.out]; rfl) | (simp only [S1.out, S2.out, S3.out]; rfl)) (by first | exact sz51 | (rw [S1.out]; exact sz51) | (rw [S2.out]; exact sz51) | (rw [S3.out]; exact sz51)) (by first | exact ints_one _ _ | exact Fld.one _ | exact O1.out | exact Cs.one _ | rfl | (simp [Value.oneCell']; done)) rfl ?_); intro wn m; simp only [List.set_cons_succ, List.set_cons_zero, List.setIfInBounds_toArray] at m; have M := Lib.hid m; clear m))
      refine onward_normal (hK _ _ ⟨(by first | exact M.out | exact M.out.take 0), ?_⟩)
      clear hK K
      try simp only [Act.put, List.getElem_toArray, List.getElem_cons_succ, List.getElem_cons_zero, List.setIfInBounds_toArray, List.set_cons_succ, List.set_cons_zero]
      exact REST0 g5 wn M.out
  intro g5 w_ m
  have M := Lib.hid m
  clear m M9
  refine wpAnyH_done (by kernel_rfl) ?_ _
  go_wp2_with (first
    | (go_at_call 86; go_must (refine (l01List_any g5 _ (Cs.less_ok _ _) _ (M.out.blk 0 rfl)).mono ?_); rw [BA.out]; rintro e w_ ⟨A_, c_, rfl, hc_, N_⟩; have m := M.out.join N_; clear N_; simp only [List.cons_append, List.nil_append, List.append_nil] at m; have M := Lib.hid m; clear m)
    )
  go_ret
  exact ⟨A_, c_, rfl, hc_, M.out.only [1] (K := [_]) rfl (by decide)⟩
def checkRes (F : Fld) (xs : List Net) (c : Cs) : Bool := if ntCode F xs c = 0 then decide ((bareSet xs c).all = []) else false
def firstRes (F : Fld) (xs : List Net) (c : Cs) : Int := if ntCode F xs c = 0 then ((bareSet xs c).all.headD 0 : Nat) else 0
def firstCode (F : Fld) (xs : List Net) (c : Cs) : Int := if ntCode F xs c = 0 then (if (bareSet xs c).all = [] then 6 else 0) else ntCode F xs c
set_option maxRecDepth 100000 in
set_option maxHeartbeats 4000000 in
theorem impl_CheckNets_any (F : Fld) (hF : F.ok) (A : Option Addr) (n : Nat) (xs : List Net) (hx : ∀ x ∈ xs, x.ok) (hl : xs.length ≤ 1048576) (c : Cs) (hc : c.ok) (w : World) (hs : Sl w 4 A xs.length (flat Net.vals xs)) :
    Calls Try.prog 40 #[.agg F.cells, .slice A xs.length n, .agg c.cells] w fun e w' => e = .returned (.tuple #[.bool (checkRes F xs c), .int .i64 (ntCode F xs c)]) ∧ Mem w w' [] := by
  have M := Lib.hid (Mem.start w)
  have HX := Lib.hid hx
  have HS := Lib.hid hs
  have HF := Lib.hid hF
  have S1 := Lib.hid (Fld.size hF.toLen)
  have O1 := Lib.hid (Cs.one Cs.z)
  clear hx hs hF
  by_cases hk : ntCode F xs c = 0
  · have hok := netsOk_iff.1 (ntCode_0 hk).1
    have HSN := Lib.hid (show ∀ x ∈ xs, x.snug from fun x hx => Net.snug_of hok.1 (hok.2 x hx))
    have HK := Lib.hid hk
    clear hok
    have HR := Lib.hid (show checkRes F xs c = decide ((bareSet xs c).all = []) by rw [checkRes, if_pos hk])
    clear hk
    have heq := eqCs (bareSet xs c) Cs.z
    rw [bare_z] at heq
    change ∀ w, (binOp .eql 51 (.agg (bareSet xs c).cells) (.agg #[.int .u64 0, .int .u64 0])).run Try.prog w = _ at heq
    go_enter Try.func40, Try.ntmps40
    go_wp2_with (first
      | ((with_reducible refine gate_dst (N := 3) rfl ?_); go_must (refine M.out.ev_new rfl (by first | (go_simp; done) | (go_simp; rfl)) ?_); intro g3 w3 m; simp only [List.cons_append, List.nil_append] at m; have M := Lib.hid m; clear m)
      | ((with_reducible refine gate_dst (N := 5) rfl ?_); go_must (refine M.out.ev_new rfl (by first | (go_simp; done) | (go_simp; rfl)) ?_); intro g5 w5 m; simp only [List.cons_append, List.nil_append] at m; have M := Lib.hid m; clear m)
      | ((with_reducible refine gate_dst (N := 10) rfl ?_); go_must (refine M.out.ev_ldw 1 _ _ rfl rfl rfl Try.underlying51 rfl (by first | exact sz51 | (rw [S1.out]; exact sz51) | (rw [S2.out]; exact sz51) | (rw [S3.out]; exact sz51)) rfl ?_))
      | ((with_reducible refine gate_dst (N := 16) rfl ?_); go_must (refine M.out.ev_ldw 1 _ _ rfl rfl rfl Try.underlying51 rfl (by first | exact sz51 | (rw [S1.out]; exact sz51) | (rw [S2.out]; exact sz51) | (rw [S3.out]; exact sz51)) rfl ?_))
      | (go_at_call 66; go_must (refine (netsCode_any g3 F HF.out A n xs HX.out hl c hc _ (M.out.blk 0 rfl) (M.out.sl HS.out)).mono ?_); rintro e w_ ⟨rfl, N_⟩; have m := M.out.join N_; clear N_; simp only [List.cons_append, List.nil_append, List.append_nil] at m; have M := Lib.hid m; clear m; rw [HK.out])
      | (go_at_call 79; go_must (refine (bare_any A n xs HSN.out hl c _ (M.out.sl HS.out)).mono ?_); rintro e w_ ⟨rfl, N_⟩; have m := M.out.join N_; clear N_; simp only [List.cons_append, List.nil_append, List.append_nil] at m; have M := Lib.hid m; clear m)
      )
    go_ret2
    exact ⟨by rw [HR.out, HK.out]; first | rfl | skip, M.out.take 0⟩
  · obtain ⟨d, hd⟩ : ∃ d, d = ntCode F xs c := ⟨_, rfl⟩
    have HR := Lib.hid (show checkRes F xs c = false by rw [checkRes, if_neg hk])
    have HD := Lib.hid hd
    rw [← hd] at hk
    clear hd
    go_enter Try.func40, Try.ntmps40
    go_wp2_with (first
      | ((with_reducible refine gate_dst (N := 3) rfl ?_); go_must (refine M.out.ev_new rfl (by first | (go_simp; done) | (go_simp; rfl)) ?_); intro g3 w3 m; simp only [List.cons_append, List.nil_append] at m; have M := Lib.hid m; clear m)
      | ((with_reducible refine gate_dst (N := 5) rfl ?_); go_must (refine M.out.ev_new rfl (by first | (go_simp; done) | (go_simp; rfl)) ?_); intro g5 w5 m; simp only [List.cons_append, List.nil_append] at m; have M := Lib.hid m; clear m)
      | ((with_reducible refine gate_dst (N := 10) rfl ?_); go_must (refine M.out.ev_ldw 1 _ _ rfl rfl rfl Try.underlying51 rfl (by first | exact sz51 | (rw [S1.out]; exact sz51) | (rw [S2.out]; exact sz51) | (rw [S3.out]; exact sz51)) rfl ?_))
      | ((with_reducible refine gate_dst (N := 16) rfl ?_); go_must (refine M.out.ev_ldw 1 _ _ rfl rfl rfl Try.underlying51 rfl (by first | exact sz51 | (rw [S1.out]; exact sz51) | (rw [S2.out]; exact sz51) | (rw [S3.out]; exact sz51)) rfl ?_))
      | (go_at_call 66; go_must (refine (netsCode_any g3 F HF.out A n xs HX.out hl c hc _ (M.out.blk 0 rfl) (M.out.sl HS.out)).mono ?_); rintro e w_ ⟨rfl, N_⟩; have m := M.out.join N_; clear N_; simp only [List.cons_append, List.nil_append, List.append_nil] at m; have M := Lib.hid m; clear m; rw [← HD.out])
      )
    go_ret2
    exact ⟨by rw [HR.out, ← HD.out]; first | rfl | skip, M.out.take 0⟩
set_option maxRecDepth 100000 in
set_option maxHeartbeats 4000000 in
theorem spec_CheckNets_any (F : Fld) (hF : F.ok) (A : Option Addr) (n : Nat) (xs : List Net) (hx : ∀ x ∈ xs, x.ok) (hl : xs.length ≤ 1048576) (c : Cs) (hc : c.ok) (w : World) (hs : Sl w 4 A xs.length (flat Net.vals xs)) :
    Calls Try.prog 39 #[.agg F.cells, .slice A xs.length n, .agg c.cells] w fun e w' => e = .returned (.tuple #[.bool (checkRes F xs c), .int .i64 (ntCode F xs c)]) ∧ Mem w w' [] := by
  have M := Lib.hid (Mem.start w)
  have HX := Lib.hid hx
  have HS := Lib.hid hs
  have HF := Lib.hid hF
  have S1 := Lib.hid (Fld.size hF.toLen)
  have O1 := Lib.hid (Cs.one Cs.z)
  clear hx hs hF
  by_cases hk : ntCode F xs c = 0
  · have hok := netsOk_iff.1 (ntCode_0 hk).1
    have HSN := Lib.hid (show ∀ x ∈ xs, x.snug from fun x hx => Net.snug_of hok.1 (hok.2 x hx))
    have HK := Lib.hid hk
    clear hok
    have HR := Lib.hid (show checkRes F xs c = decide ((bareSet xs c).all = []) by rw [checkRes, if_pos hk])
    clear hk
    go_enter Try.func39, Try.ntmps39
    go_wp2_with (first
      | ((with_reducible refine gate_dst (N := 3) rfl ?_); go_must (refine M.out.ev_new rfl (by first | (go_simp; done) | (go_simp; rfl)) ?_); intro g3 w3 m; simp only [List.cons_append, List.nil_append] at m; have M := Lib.hid m; clear m)
      | ((with_reducible refine gate_dst (N := 5) rfl ?_); go_must (refine M.out.ev_new rfl (by first | (go_simp; done) | (go_simp; rfl)) ?_); intro g5 w5 m; simp only [List.cons_append, List.nil_append] at m; have M := Lib.hid m; clear m)
      | (go_at_call 76; go_must (refine (l04Targets_any g3 g5 F HF.out A n xs HX.out hl c hc _ (M.out.blk 0 rfl) (M.out.sl HS.out) (M.out.blk 1 rfl)).mono ?_); rintro e w_ ⟨rfl, N_⟩; have m := M.out.join N_; clear N_; simp only [List.cons_append, List.nil_append, List.append_nil] at m; have M := Lib.hid m; clear m; rw [HK.out])
      | (go_at_call 78; go_must (refine (l04Bare_any g5 A n xs HX.out hl c hc _ (M.out.sl HS.out) (M.out.blk 1 rfl)).mono ?_); rintro e w_ ⟨A_, c_, rfl, hc_, N_⟩; have m := M.out.join N_; clear N_; simp only [List.cons_append, List.nil_append, List.append_nil] at m; have M := Lib.hid m; clear m)
      )
    go_ret2
    exact ⟨by rw [HR.out, HK.out, ← len0]; first | rfl | skip, M.out.take 0⟩
  · obtain ⟨d, hd⟩ : ∃ d, d = ntCode F xs c := ⟨_, rfl⟩
    have HR := Lib.hid (show checkRes F xs c = false by rw [checkRes, if_neg hk])
    have HD := Lib.hid hd
    rw [← hd] at hk
    clear hd
    go_enter Try.func39, Try.ntmps39
    go_wp2_with (first
      | ((with_reducible refine gate_dst (N := 3) rfl ?_); go_must (refine M.out.ev_new rfl (by first | (go_simp; done) | (go_simp; rfl)) ?_); intro g3 w3 m; simp only [List.cons_append, List.nil_append] at m; have M := Lib.hid m; clear m)
      | ((with_reducible refine gate_dst (N := 5) rfl ?_); go_must (refine M.out.ev_new rfl (by first | (go_simp; done) | (go_simp; rfl)) ?_); intro g5 w5 m; simp only [List.cons_append, List.nil_append] at m; have M := Lib.hid m; clear m)
      | (go_at_call 76; go_must (refine (l04Targets_any g3 g5 F HF.out A n xs HX.out hl c hc _ (M.out.blk 0 rfl) (M.out.sl HS.out) (M.out.blk 1 rfl)).mono ?_); rintro e w_ ⟨rfl, N_⟩; have m := M.out.join N_; clear N_; simp only [List.cons_append, List.nil_append, List.append_nil] at m; have M := Lib.hid m; clear m; rw [← HD.out])
      )
    go_ret2
    exact ⟨by rw [HR.out, ← HD.out]; first | rfl | skip, M.out.take 0⟩
set_option maxRecDepth 100000 in
set_option maxHeartbeats 4000000 in
theorem impl_FirstBare_any (F : Fld) (hF : F.ok) (A : Option Addr) (n : Nat) (xs : List Net) (hx : ∀ x ∈ xs, x.ok) (hl : xs.length ≤ 1048576) (c : Cs) (hc : c.ok) (w : World) (hs : Sl w 4 A xs.length (flat Net.vals xs)) :
    Calls Try.prog 42 #[.agg F.cells, .slice A xs.length n, .agg c.cells] w fun e w' => e = .returned (.tuple #[.int .i64 (firstRes F xs c), .int .i64 (firstCode F xs c)]) ∧ Mem w w' [] := by
  have M := Lib.hid (Mem.start w)
  have HX := Lib.hid hx
  have HS := Lib.hid hs
  have HF := Lib.hid hF
  have S1 := Lib.hid (Fld.size hF.toLen)
  have O1 := Lib.hid (Cs.one Cs.z)
  clear hx hs hF
  by_cases hk : ntCode F xs c = 0
  · have hok := netsOk_iff.1 (ntCode_0 hk).1
    have HSN := Lib.hid (show ∀ x ∈ xs, x.snug from fun x hx => Net.snug_of hok.1 (hok.2 x hx))
    have HK := Lib.hid hk
    clear hok
    have hbl : (bareSet xs c).all.length ≤ 100 := (bareSet xs c).below_len 100
    cases hz : (bareSet xs c).all with
    | nil =>
      have HZ := Lib.hid hz
      have hzl : (bareSet xs c).all.length = 0 := by rw [hz]; rfl
      have HR := Lib.hid (show firstRes F xs c = 0 by rw [firstRes, if_pos hk, hz]; rfl)
      have HC := Lib.hid (show firstCode F xs c = 6 by rw [firstCode, if_pos hk, hz]; rfl)
      clear hk hz
      go_enter Try.func42, Try.ntmps42
      go_wp2_with (first
        | ((with_reducible refine gate_dst (N := 3) rfl ?_); go_must (refine M.out.ev_new rfl (by first | (go_simp; done) | (go_simp; rfl)) ?_); intro g3 w3 m; simp only [List.cons_append, List.nil_append] at m; have M := Lib.hid m; clear m)
        | ((with_reducible refine gate_dst (N := 5) rfl ?_); go_must (refine M.out.ev_new rfl (by first | (go_simp; done) | (go_simp; rfl)) ?_); intro g5 w5 m; simp only [List.cons_append, List.nil_append] at m; have M := Lib.hid m; clear m)
        | ((with_reducible refine gate_dst (N := 11) rfl ?_); go_must (refine M.out.ev_ldw 1 _ _ rfl rfl rfl Try.underlying51 rfl (by first | exact sz51 | (rw [S1.out]; exact sz51) | (rw [S2.out]; exact sz51) | (rw [S3.out]; exact sz51)) rfl ?_))
        | ((with_reducible refine gate_dst (N := 17) rfl ?_); go_must (refine M.out.ev_ldw 1 _ _ rfl rfl rfl Try.underlying51 rfl (by first | exact sz51 | (rw [S1.out]; exact sz51) | (rw [S2.out]; exact sz51) | (rw [S3.out]; exact sz51)) rfl ?_))
        | (go_at_call 66; go_must (refine (netsCode_any g3 F HF.out A n xs HX.out hl c hc _ (M.out.blk 0 rfl) (M.out.sl HS.out)).mono ?_); rintro e w_ ⟨rfl, N_⟩; have m := M.out.join N_; clear N_; simp only [List.cons_append, List.nil_append, List.append_nil] at m; have M := Lib.hid m; clear m; rw [HK.out])
        | (go_at_call 79; go_must (refine (bare_any A n xs HSN.out hl c _ (M.out.sl HS.out)).mono ?_); rintro e w_ ⟨rfl, N_⟩; have m := M.out.join N_; clear N_; simp only [List.cons_append, List.nil_append, List.append_nil] at m; have M := Lib.hid m; clear m)
        | (go_at_call 80; go_must (refine (ListOf_any _ (bareSet_ok xs c) _).mono ?_); rintro e w_ ⟨A_, c_, rfl, hc_, N_⟩; have m := M.out.join N_; clear N_; simp only [List.cons_append, List.nil_append, List.append_nil] at m; have M := Lib.hid m; clear m)
        )
      go_ret2
      exact ⟨by rw [HR.out, HC.out]; first | rfl | skip, M.out.take 0⟩
    | cons j r =>
      have HZ := Lib.hid hz
      have hzl : ¬ ((bareSet xs c).all.length = 0) := by rw [hz]; simp
      have hzi : (0 : Int) < ((bareSet xs c).all.length : Int) := by omega
      have HR := Lib.hid (show firstRes F xs c = j by rw [firstRes, if_pos hk, hz]; rfl)
      have HC := Lib.hid (show firstCode F xs c = 0 by rw [firstCode, if_pos hk, hz]; rfl)
      clear hk hz
      go_enter Try.func42, Try.ntmps42
      go_wp2_with (first
        | ((with_reducible refine gate_dst (N := 3) rfl ?_); go_must (refine M.out.ev_new rfl (by first | (go_simp; done) | (go_simp; rfl)) ?_); intro g3 w3 m; simp only [List.cons_append, List.nil_append] at m; have M := Lib.hid m; clear m)
        | ((with_reducible refine gate_dst (N := 5) rfl ?_); go_must (refine M.out.ev_new rfl (by first | (go_simp; done) | (go_simp; rfl)) ?_); intro g5 w5 m; simp only [List.cons_append, List.nil_append] at m; have M := Lib.hid m; clear m)
        | ((with_reducible refine gate_dst (N := 11) rfl ?_); go_must (refine M.out.ev_ldw 1 _ _ rfl rfl rfl Try.underlying51 rfl (by first | exact sz51 | (rw [S1.out]; exact sz51) | (rw [S2.out]; exact sz51) | (rw [S3.out]; exact sz51)) rfl ?_))
        | ((with_reducible refine gate_dst (N := 17) rfl ?_); go_must (refine M.out.ev_ldw 1 _ _ rfl rfl rfl Try.underlying51 rfl (by first | exact sz51 | (rw [S1.out]; exact sz51) | (rw [S2.out]; exact sz51) | (rw [S3.out]; exact sz51)) rfl ?_))
        | (go_at_call 66; go_must (refine (netsCode_any g3 F HF.out A n xs HX.out hl c hc _ (M.out.blk 0 rfl) (M.out.sl HS.out)).mono ?_); rintro e w_ ⟨rfl, N_⟩; have m := M.out.join N_; clear N_; simp only [List.cons_append, List.nil_append, List.append_nil] at m; have M := Lib.hid m; clear m; rw [HK.out])
        | (go_at_call 79; go_must (refine (bare_any A n xs HSN.out hl c _ (M.out.sl HS.out)).mono ?_); rintro e w_ ⟨rfl, N_⟩; have m := M.out.join N_; clear N_; simp only [List.cons_append, List.nil_append, List.append_nil] at m; have M := Lib.hid m; clear m)
        | (go_at_call 80; go_must (refine (ListOf_any _ (bareSet_ok xs c) _).mono ?_); rintro e w_ ⟨A_, c_, rfl, hc_, N_⟩; have m := M.out.join N_; clear N_; simp only [List.cons_append, List.nil_append, List.append_nil] at m; have M := Lib.hid m; clear m; obtain ⟨b, off, rfl, hrg⟩ := (M.out.slof 2 rfl).2 (by omega); have x0 : w_.cell? ⟨b, off, none⟩ = some (.int .i64 (j : Int)) := (by have R := range_at one64_len hrg (k := 0) (by rw [HZ.out]; rfl); simpa [nat64] using R 0 _ rfl); clear hrg)
        )
      go_ret2
      exact ⟨by rw [HR.out, HC.out]; first | rfl | skip, M.out.take 0⟩
  · obtain ⟨d, hd⟩ : ∃ d, d = ntCode F xs c := ⟨_, rfl⟩
    have HR := Lib.hid (show firstRes F xs c = 0 by rw [firstRes, if_neg hk])
    have HC := Lib.hid (show firstCode F xs c = d by rw [firstCode, if_neg hk, hd])
    have HD := Lib.hid hd
    rw [← hd] at hk
    clear hd
    go_enter Try.func42, Try.ntmps42
    go_wp2_with (first
      | ((with_reducible refine gate_dst (N := 3) rfl ?_); go_must (refine M.out.ev_new rfl (by first | (go_simp; done) | (go_simp; rfl)) ?_); intro g3 w3 m; simp only [List.cons_append, List.nil_append] at m; have M := Lib.hid m; clear m)
      | ((with_reducible refine gate_dst (N := 5) rfl ?_); go_must (refine M.out.ev_new rfl (by first | (go_simp; done) | (go_simp; rfl)) ?_); intro g5 w5 m; simp only [List.cons_append, List.nil_append] at m; have M := Lib.hid m; clear m)
      | ((with_reducible refine gate_dst (N := 11) rfl ?_); go_must (refine M.out.ev_ldw 1 _ _ rfl rfl rfl Try.underlying51 rfl (by first | exact sz51 | (rw [S1.out]; exact sz51) | (rw [S2.out]; exact sz51) | (rw [S3.out]; exact sz51)) rfl ?_))
      | ((with_reducible refine gate_dst (N := 17) rfl ?_); go_must (refine M.out.ev_ldw 1 _ _ rfl rfl rfl Try.underlying51 rfl (by first | exact sz51 | (rw [S1.out]; exact sz51) | (rw [S2.out]; exact sz51) | (rw [S3.out]; exact sz51)) rfl ?_))
      | (go_at_call 66; go_must (refine (netsCode_any g3 F HF.out A n xs HX.out hl c hc _ (M.out.blk 0 rfl) (M.out.sl HS.out)).mono ?_); rintro e w_ ⟨rfl, N_⟩; have m := M.out.join N_; clear N_; simp only [List.cons_append, List.nil_append, List.append_nil] at m; have M := Lib.hid m; clear m; rw [← HD.out])
      )
    go_ret2
    exact ⟨by rw [HR.out, HC.out]; first | rfl | skip, M.out.take 0⟩
set_option maxRecDepth 100000 in
set_option maxHeartbeats 4000000 in
theorem spec_FirstBare_any (F : Fld) (hF : F.ok) (A : Option Addr) (n : Nat) (xs : List Net) (hx : ∀ x ∈ xs, x.ok) (hl : xs.length ≤ 1048576) (c : Cs) (hc : c.ok) (w : World) (hs : Sl w 4 A xs.length (flat Net.vals xs)) :
    Calls Try.prog 41 #[.agg F.cells, .slice A xs.length n, .agg c.cells] w fun e w' => e = .returned (.tuple #[.int .i64 (firstRes F xs c), .int .i64 (firstCode F xs c)]) ∧ Mem w w' [] := by
  have M := Lib.hid (Mem.start w)
  have HX := Lib.hid hx
  have HS := Lib.hid hs
  have HF := Lib.hid hF
  have S1 := Lib.hid (Fld.size hF.toLen)
  have O1 := Lib.hid (Cs.one Cs.z)
  clear hx hs hF
  by_cases hk : ntCode F xs c = 0
  · have hok := netsOk_iff.1 (ntCode_0 hk).1
    have HSN := Lib.hid (show ∀ x ∈ xs, x.snug from fun x hx => Net.snug_of hok.1 (hok.2 x hx))
    have HK := Lib.hid hk
    clear hok
    have hbl : (bareSet xs c).all.length ≤ 100 := (bareSet xs c).below_len 100
    cases hz : (bareSet xs c).all with
    | nil =>
      have HZ := Lib.hid hz
      have hzl : (bareSet xs c).all.length = 0 := by rw [hz]; rfl
      have HR := Lib.hid (show firstRes F xs c = 0 by rw [firstRes, if_pos hk, hz]; rfl)
      have HC := Lib.hid (show firstCode F xs c = 6 by rw [firstCode, if_pos hk, hz]; rfl)
      clear hk hz
      go_enter Try.func41, Try.ntmps41
      go_wp2_with (first
        | ((with_reducible refine gate_dst (N := 3) rfl ?_); go_must (refine M.out.ev_new rfl (by first | (go_simp; done) | (go_simp; rfl)) ?_); intro g3 w3 m; simp only [List.cons_append, List.nil_append] at m; have M := Lib.hid m; clear m)
        | ((with_reducible refine gate_dst (N := 5) rfl ?_); go_must (refine M.out.ev_new rfl (by first | (go_simp; done) | (go_simp; rfl)) ?_); intro g5 w5 m; simp only [List.cons_append, List.nil_append] at m; have M := Lib.hid m; clear m)
        | (go_at_call 76; go_must (refine (l04Targets_any g3 g5 F HF.out A n xs HX.out hl c hc _ (M.out.blk 0 rfl) (M.out.sl HS.out) (M.out.blk 1 rfl)).mono ?_); rintro e w_ ⟨rfl, N_⟩; have m := M.out.join N_; clear N_; simp only [List.cons_append, List.nil_append, List.append_nil] at m; have M := Lib.hid m; clear m; rw [HK.out])
        | (go_at_call 78; go_must (refine (l04Bare_any g5 A n xs HX.out hl c hc _ (M.out.sl HS.out) (M.out.blk 1 rfl)).mono ?_); rintro e w_ ⟨A_, c_, rfl, hc_, N_⟩; have m := M.out.join N_; clear N_; simp only [List.cons_append, List.nil_append, List.append_nil] at m; have M := Lib.hid m; clear m)
        )
      go_ret2
      exact ⟨by rw [HR.out, HC.out]; first | rfl | skip, M.out.take 0⟩
    | cons j r =>
      have HZ := Lib.hid hz
      have hzl : ¬ ((bareSet xs c).all.length = 0) := by rw [hz]; simp
      have hzi : (0 : Int) < ((bareSet xs c).all.length : Int) := by omega
      have HR := Lib.hid (show firstRes F xs c = j by rw [firstRes, if_pos hk, hz]; rfl)
      have HC := Lib.hid (show firstCode F xs c = 0 by rw [firstCode, if_pos hk, hz]; rfl)
      clear hk hz
      go_enter Try.func41, Try.ntmps41
      go_wp2_with (first
        | ((with_reducible refine gate_dst (N := 3) rfl ?_); go_must (refine M.out.ev_new rfl (by first | (go_simp; done) | (go_simp; rfl)) ?_); intro g3 w3 m; simp only [List.cons_append, List.nil_append] at m; have M := Lib.hid m; clear m)
        | ((with_reducible refine gate_dst (N := 5) rfl ?_); go_must (refine M.out.ev_new rfl (by first | (go_simp; done) | (go_simp; rfl)) ?_); intro g5 w5 m; simp only [List.cons_append, List.nil_append] at m; have M := Lib.hid m; clear m)
        | (go_at_call 76; go_must (refine (l04Targets_any g3 g5 F HF.out A n xs HX.out hl c hc _ (M.out.blk 0 rfl) (M.out.sl HS.out) (M.out.blk 1 rfl)).mono ?_); rintro e w_ ⟨rfl, N_⟩; have m := M.out.join N_; clear N_; simp only [List.cons_append, List.nil_append, List.append_nil] at m; have M := Lib.hid m; clear m; rw [HK.out])
        | (go_at_call 78; go_must (refine (l04Bare_any g5 A n xs HX.out hl c hc _ (M.out.sl HS.out) (M.out.blk 1 rfl)).mono ?_); rintro e w_ ⟨A_, c_, rfl, hc_, N_⟩; have m := M.out.join N_; clear N_; simp only [List.cons_append, List.nil_append, List.append_nil] at m; have M := Lib.hid m; clear m; obtain ⟨b, off, rfl, hrg⟩ := (M.out.slof 2 rfl).2 (by omega); have x0 : w_.cell? ⟨b, off, none⟩ = some (.int .i64 (j : Int)) := (by have R := range_at one64_len hrg (k := 0) (by rw [HZ.out]; rfl); simpa [nat64] using R 0 _ rfl); clear hrg)
        )
      go_ret2
      exact ⟨by rw [HR.out, HC.out]; first | rfl | skip, M.out.take 0⟩
  · obtain ⟨d, hd⟩ : ∃ d, d = ntCode F xs c := ⟨_, rfl⟩
    have HR := Lib.hid (show firstRes F xs c = 0 by rw [firstRes, if_neg hk])
    have HC := Lib.hid (show firstCode F xs c = d by rw [firstCode, if_neg hk, hd])
    have HD := Lib.hid hd
    rw [← hd] at hk
    clear hd
    go_enter Try.func41, Try.ntmps41
    go_wp2_with (first
      | ((with_reducible refine gate_dst (N := 3) rfl ?_); go_must (refine M.out.ev_new rfl (by first | (go_simp; done) | (go_simp; rfl)) ?_); intro g3 w3 m; simp only [List.cons_append, List.nil_append] at m; have M := Lib.hid m; clear m)
      | ((with_reducible refine gate_dst (N := 5) rfl ?_); go_must (refine M.out.ev_new rfl (by first | (go_simp; done) | (go_simp; rfl)) ?_); intro g5 w5 m; simp only [List.cons_append, List.nil_append] at m; have M := Lib.hid m; clear m)
      | (go_at_call 76; go_must (refine (l04Targets_any g3 g5 F HF.out A n xs HX.out hl c hc _ (M.out.blk 0 rfl) (M.out.sl HS.out) (M.out.blk 1 rfl)).mono ?_); rintro e w_ ⟨rfl, N_⟩; have m := M.out.join N_; clear N_; simp only [List.cons_append, List.nil_append, List.append_nil] at m; have M := Lib.hid m; clear m; rw [← HD.out])
      )
    go_ret2
    exact ⟨by rw [HR.out, HC.out]; first | rfl | skip, M.out.take 0⟩
end Go.Proofs.Ytnddoiapilookaa
