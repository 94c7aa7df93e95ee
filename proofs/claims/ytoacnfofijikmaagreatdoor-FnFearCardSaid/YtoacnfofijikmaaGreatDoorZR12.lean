/- Texts of a proof, laid together: Safe, SafeLaw. -/
import Derived.Test.YtoacnfofijikmaaGreatDoorZR11
import Derived.Test.YtoacnfofijikmaaGreatDoorZR07
import Derived.Test.YtoacnfofijikmaaGreatDoorZR10
import Derived.Test.YtoacnfofijikmaaGreatDoorZR06
namespace Go.Proofs.YtoacnfofijikmaaGreatDoor
set_option linter.unusedSimpArgs false
set_option linter.unusedVariables false
open Go.RowKit
attribute [local go_sem] cell?_mk frozen?_mk

def safeP (F : Fld) (xs : List Scarecrow) (least : Int) (k : Nat) : Bool := (F.kind k == 0) && decide (least ≤ fearAt xs k)
def safeSet (F : Fld) (xs : List Scarecrow) (least : Int) : Cs := setOf (F.all.filter (safeP F xs least))
set_option maxRecDepth 100000 in
set_option maxHeartbeats 2000000 in
theorem safeIs_any (g a b d : Nat) {t ta tb td : TypeId} (F : Fld) (hF : F.ok) (A : Option Addr) (n : Nat) (xs : List Scarecrow) (hx : ∀ x ∈ xs, x.plain = true) (hl : xs.length ≤ 1048576) (least : Int) (k : Nat) (hk : k < 100) (w : World) (hb : Blk w g t F.cells)
    (h1 : Blk w a ta #[.pointer (some ⟨g, 0, none⟩)]) (h2 : Blk w b tb #[.slice A xs.length n]) (h3 : Blk w d td #[.int .i64 least]) (hs : Sl w 3 A xs.length (flat Scarecrow.vals xs)) :
    Calls Tryz.prog 98 #[.int .i64 k, .pointer (some ⟨a, 0, none⟩), .pointer (some ⟨b, 0, none⟩), .pointer (some ⟨d, 0, none⟩)] w fun e w' => e = .returned (.bool (safeP F xs least k)) ∧ Mem w w' [] := by
  have M := Lib.hid (Mem.start w)
  have HX := Lib.hid hx
  have HS := Lib.hid hs
  have y1 := h1.cellv (i := 0) rfl
  have y2 := h2.cellv (i := 0) rfl
  have y3 := h3.cellv (i := 0) rfl
  have H3 := Lib.hid y3
  have y4 := hb.cellv (Fld.cellK hF.toLen (k := k) hk)
  have kb := hF.kb k
  have i0 : (0 : Int) ≤ (k : Int) := by omega
  have i1 : (k : Int) < 100 := by omega
  clear hx hs hb h1 h2 h3
  by_cases hk0 : F.kind k = 0
  · have HK := Lib.hid hk0
    have hkb : (F.kind k == 0) = true := by simp [hk0]
    go_enter Tryz.func98, Tryz.ntmps98
    go_wp2_with fail
    refine region_any (by kernel_rfl) ?_
    have m := M.out.drew
    clear M
    have M := Lib.hid m
    clear m
    refine takeD (i := 1) (v := ?v0) 7 rfl (by kernel_rfl) (by kernel_rfl) (by kernel_rfl) (fun _ _ _ h => h) rfl (Or.inl ⟨by first | rfl | (go_simp; done), ?y0⟩) ?r0
    case' y0 =>
      intro w
      go_simp
      try with_reducible rfl
    case' r0 =>
      try simp only [Act.put, List.setIfInBounds_toArray, List.set_cons_succ, List.set_cons_zero]
      refine any1k 0 (by kernel_rfl) rfl (fun K hK => ?_)
      go_wp2_with (first | (go_at_call 48; go_must (refine (fearOf_any A n xs HX.out hl k i0 (by omega) _ (M.out.sl HS.out)).mono ?_); rintro e w_ ⟨rfl, N_⟩; have m := M.out.join N_; clear N_; simp only [List.cons_append, List.nil_append, List.append_nil] at m; have M := Lib.hid m; clear m; have y3 := M.out.argcell H3.out))
      refine onward_normal (hK _ _ ?_)
      clear hK K
      try simp only [Act.put, List.getElem_toArray, List.getElem_cons_succ, List.getElem_cons_zero, List.setIfInBounds_toArray, List.set_cons_succ, List.set_cons_zero]
      refine any1k 2 (by kernel_rfl) rfl (fun K hK => ?_)
      go_wp2
      refine onward_normal (hK _ _ ?_)
      clear hK K
      try simp only [Act.put, List.getElem_toArray, List.getElem_cons_succ, List.getElem_cons_zero, List.setIfInBounds_toArray, List.set_cons_succ, List.set_cons_zero]
      refine any1k 3 (by kernel_rfl) rfl (fun K hK => ?_)
      go_wp2
      refine onward_normal (hK _ _ ?_)
      clear hK K
      try simp only [Act.put, List.getElem_toArray, List.getElem_cons_succ, List.getElem_cons_zero, List.setIfInBounds_toArray, List.set_cons_succ, List.set_cons_zero]
      refine any1k 4 (by kernel_rfl) rfl (fun K hK => ?_)
      go_wp2
      refine onward_normal (hK _ _ ?_)
      clear hK K
      try simp only [Act.put, List.getElem_toArray, List.getElem_cons_succ, List.getElem_cons_zero, List.setIfInBounds_toArray, List.set_cons_succ, List.set_cons_zero]
      refine any1k 5 (by kernel_rfl) rfl (fun K hK => ?_)
      go_wp2_with (first | (go_at_call 48; go_must (refine (fearOf_any A n xs HX.out hl k i0 (by omega) _ (M.out.sl HS.out)).mono ?_); rintro e w_ ⟨rfl, N_⟩; have m := M.out.join N_; clear N_; simp only [List.cons_append, List.nil_append, List.append_nil] at m; have M := Lib.hid m; clear m; have y3 := M.out.argcell H3.out))
      refine onward_normal (hK _ _ ?_)
      clear hK K
      try simp only [Act.put, List.getElem_toArray, List.getElem_cons_succ, List.getElem_cons_zero, List.setIfInBounds_toArray, List.set_cons_succ, List.set_cons_zero]
      refine any1k 6 (by kernel_rfl) rfl (fun K hK => ?_)
      go_wp2
      refine onward_normal (hK _ _ ?_)
      clear hK K
      try simp only [Act.put, List.getElem_toArray, List.getElem_cons_succ, List.getElem_cons_zero, List.setIfInBounds_toArray, List.set_cons_succ, List.set_cons_zero]
      refine any1k 7 (by kernel_rfl) rfl (fun K hK => ?_)
      go_wp2
      refine onward_normal (hK _ _ ?_)
      clear hK K
      try simp only [Act.put, List.getElem_toArray, List.getElem_cons_succ, List.getElem_cons_zero, List.setIfInBounds_toArray, List.set_cons_succ, List.set_cons_zero]
      refine takeD (i := 9) (v := ?v1) 15 rfl (by kernel_rfl) (by kernel_rfl) (by kernel_rfl) (fun _ _ _ h => h) rfl (Or.inl ⟨by first | rfl | (go_simp; done), ?y1⟩) ?r1
      case' y1 =>
        intro w
        go_simp
        try with_reducible rfl
      case' r1 =>
        try simp only [Act.put, List.setIfInBounds_toArray, List.set_cons_succ, List.set_cons_zero]
        refine any2k 8 11 (by kernel_rfl) rfl rfl (fun K hK => ?x2_1) (fun K hK => ?x2_2)
        case' x2_2 =>
          go_wp2_with (first | (go_at_call 48; go_must (refine (fearOf_any A n xs HX.out hl k i0 (by omega) _ (M.out.sl HS.out)).mono ?_); rintro e w_ ⟨rfl, N_⟩; have m := M.out.join N_; clear N_; simp only [List.cons_append, List.nil_append, List.append_nil] at m; have M := Lib.hid m; clear m; have y3 := M.out.argcell H3.out))
          refine onward_normal (hK _ _ ?_)
          clear hK K
          try simp only [Act.put, List.getElem_toArray, List.getElem_cons_succ, List.getElem_cons_zero, List.setIfInBounds_toArray, List.set_cons_succ, List.set_cons_zero]
          refine any1k 8 (by kernel_rfl) rfl (fun K hK => ?_)
          go_wp2_with (first | (go_at_call 48; go_must (refine (fearOf_any A n xs HX.out hl k i0 (by omega) _ (M.out.sl HS.out)).mono ?_); rintro e w_ ⟨rfl, N_⟩; have m := M.out.join N_; clear N_; simp only [List.cons_append, List.nil_append, List.append_nil] at m; have M := Lib.hid m; clear m; have y3 := M.out.argcell H3.out))
          refine onward_normal (hK _ _ ?_)
          clear hK K
          try simp only [Act.put, List.getElem_toArray, List.getElem_cons_succ, List.getElem_cons_zero, List.setIfInBounds_toArray, List.set_cons_succ, List.set_cons_zero]
          refine any1k 10 (by kernel_rfl) rfl (fun K hK => ?_)
          go_wp2_with (first | (go_at_call 48; go_must (refine (fearOf_any A n xs HX.out hl k i0 (by omega) _ (M.out.sl HS.out)).mono ?_); rintro e w_ ⟨rfl, N_⟩; have m := M.out.join N_; clear N_; simp only [List.cons_append, List.nil_append, List.append_nil] at m; have M := Lib.hid m; clear m; have y3 := M.out.argcell H3.out))
          refine onward_normal (hK _ _ ?_)
          clear hK K
          try simp only [Act.put, List.getElem_toArray, List.getElem_cons_succ, List.getElem_cons_zero, List.setIfInBounds_toArray, List.set_cons_succ, List.set_cons_zero]
          refine any1k 12 (by kernel_rfl) rfl (fun K hK => ?_)
          go_wp2
          refine onward_normal (hK _ _ ?_)
          clear hK K
          try simp only [Act.put, List.getElem_toArray, List.getElem_cons_succ, List.getElem_cons_zero, List.setIfInBounds_toArray, List.set_cons_succ, List.set_cons_zero]
          refine any1k 13 (by kernel_rfl) rfl (fun K hK => ?_)
          go_wp2
          refine onward_normal (hK _ _ ?_)
          clear hK K
          try simp only [Act.put, List.getElem_toArray, List.getElem_cons_succ, List.getElem_cons_zero, List.setIfInBounds_toArray, List.set_cons_succ, List.set_cons_zero]
          refine any1k 14 (by kernel_rfl) rfl (fun K hK => ?_)
          go_wp2
          refine onward_normal (hK _ _ ?_)
          clear hK K
          try simp only [Act.put, List.getElem_toArray, List.getElem_cons_succ, List.getElem_cons_zero, List.setIfInBounds_toArray, List.set_cons_succ, List.set_cons_zero]
          refine wpAny_done (by kernel_rfl) ?_ _
        case' x2_1 =>
          go_wp2_with (first | (go_at_call 48; go_must (refine (fearOf_any A n xs HX.out hl k i0 (by omega) _ (M.out.sl HS.out)).mono ?_); rintro e w_ ⟨rfl, N_⟩; have m := M.out.join N_; clear N_; simp only [List.cons_append, List.nil_append, List.append_nil] at m; have M := Lib.hid m; clear m; have y3 := M.out.argcell H3.out))
          refine onward_normal (hK _ _ ?_)
          clear hK K
          try simp only [Act.put, List.getElem_toArray, List.getElem_cons_succ, List.getElem_cons_zero, List.setIfInBounds_toArray, List.set_cons_succ, List.set_cons_zero]
          refine any2k 10 11 (by kernel_rfl) rfl rfl (fun K hK => ?x3_1) (fun K hK => ?x3_2)
          case' x3_2 =>
            go_wp2_with (first | (go_at_call 48; go_must (refine (fearOf_any A n xs HX.out hl k i0 (by omega) _ (M.out.sl HS.out)).mono ?_); rintro e w_ ⟨rfl, N_⟩; have m := M.out.join N_; clear N_; simp only [List.cons_append, List.nil_append, List.append_nil] at m; have M := Lib.hid m; clear m; have y3 := M.out.argcell H3.out))
            refine onward_normal (hK _ _ ?_)
            clear hK K
            try simp only [Act.put, List.getElem_toArray, List.getElem_cons_succ, List.getElem_cons_zero, List.setIfInBounds_toArray, List.set_cons_succ, List.set_cons_zero]
            refine any1k 10 (by kernel_rfl) rfl (fun K hK => ?_)
            go_wp2_with (first | (go_at_call 48; go_must (refine (fearOf_any A n xs HX.out hl k i0 (by omega) _ (M.out.sl HS.out)).mono ?_); rintro e w_ ⟨rfl, N_⟩; have m := M.out.join N_; clear N_; simp only [List.cons_append, List.nil_append, List.append_nil] at m; have M := Lib.hid m; clear m; have y3 := M.out.argcell H3.out))
            refine onward_normal (hK _ _ ?_)
            clear hK K
            try simp only [Act.put, List.getElem_toArray, List.getElem_cons_succ, List.getElem_cons_zero, List.setIfInBounds_toArray, List.set_cons_succ, List.set_cons_zero]
            refine any1k 12 (by kernel_rfl) rfl (fun K hK => ?_)
            go_wp2
            refine onward_normal (hK _ _ ?_)
            clear hK K
            try simp only [Act.put, List.getElem_toArray, List.getElem_cons_succ, List.getElem_cons_zero, List.setIfInBounds_toArray, List.set_cons_succ, List.set_cons_zero]
            refine any1k 13 (by kernel_rfl) rfl (fun K hK => ?_)
            go_wp2
            refine onward_normal (hK _ _ ?_)
            clear hK K
            try simp only [Act.put, List.getElem_toArray, List.getElem_cons_succ, List.getElem_cons_zero, List.setIfInBounds_toArray, List.set_cons_succ, List.set_cons_zero]
            refine any1k 14 (by kernel_rfl) rfl (fun K hK => ?_)
            go_wp2
            refine onward_normal (hK _ _ ?_)
            clear hK K
            try simp only [Act.put, List.getElem_toArray, List.getElem_cons_succ, List.getElem_cons_zero, List.setIfInBounds_toArray, List.set_cons_succ, List.set_cons_zero]
            refine wpAny_done (by kernel_rfl) ?_ _
          case' x3_1 =>
            go_wp2_with (first | (go_at_call 48; go_must (refine (fearOf_any A n xs HX.out hl k i0 (by omega) _ (M.out.sl HS.out)).mono ?_); rintro e w_ ⟨rfl, N_⟩; have m := M.out.join N_; clear N_; simp only [List.cons_append, List.nil_append, List.append_nil] at m; have M := Lib.hid m; clear m; have y3 := M.out.argcell H3.out))
            refine onward_normal (hK _ _ ?_)
            clear hK K
            try simp only [Act.put, List.getElem_toArray, List.getElem_cons_succ, List.getElem_cons_zero, List.setIfInBounds_toArray, List.set_cons_succ, List.set_cons_zero]
            refine any1k 11 (by kernel_rfl) rfl (fun K hK => ?_)
            go_wp2_with (first | (go_at_call 48; go_must (refine (fearOf_any A n xs HX.out hl k i0 (by omega) _ (M.out.sl HS.out)).mono ?_); rintro e w_ ⟨rfl, N_⟩; have m := M.out.join N_; clear N_; simp only [List.cons_append, List.nil_append, List.append_nil] at m; have M := Lib.hid m; clear m; have y3 := M.out.argcell H3.out))
            refine onward_normal (hK _ _ ?_)
            clear hK K
            try simp only [Act.put, List.getElem_toArray, List.getElem_cons_succ, List.getElem_cons_zero, List.setIfInBounds_toArray, List.set_cons_succ, List.set_cons_zero]
            refine any1k 12 (by kernel_rfl) rfl (fun K hK => ?_)
            go_wp2
            refine onward_normal (hK _ _ ?_)
            clear hK K
            try simp only [Act.put, List.getElem_toArray, List.getElem_cons_succ, List.getElem_cons_zero, List.setIfInBounds_toArray, List.set_cons_succ, List.set_cons_zero]
            refine any1k 13 (by kernel_rfl) rfl (fun K hK => ?_)
            go_wp2
            refine onward_normal (hK _ _ ?_)
            clear hK K
            try simp only [Act.put, List.getElem_toArray, List.getElem_cons_succ, List.getElem_cons_zero, List.setIfInBounds_toArray, List.set_cons_succ, List.set_cons_zero]
            refine any1k 14 (by kernel_rfl) rfl (fun K hK => ?_)
            go_wp2
            refine onward_normal (hK _ _ ?_)
            clear hK K
            try simp only [Act.put, List.getElem_toArray, List.getElem_cons_succ, List.getElem_cons_zero, List.setIfInBounds_toArray, List.set_cons_succ, List.set_cons_zero]
            refine wpAny_done (by kernel_rfl) ?_ _
    all_goals
      go_wp2
      go_ret
      exact ⟨ret_bool (by simp [safeP, HK.out]), M.out⟩
  · have HK := Lib.hid hk0
    have hkb : (F.kind k == 0) = false := by simp [hk0]
    clear hk0
    go_enter Tryz.func98, Tryz.ntmps98
    go_wp2_with fail
    go_quiet (fail)
    have M := Lib.hid (M.out.drewN nq)
    go_wp2
    go_ret
    exact ⟨ret_bool (by simp [safeP, hkb]), M.out⟩
set_option maxRecDepth 100000 in
set_option maxHeartbeats 2000000 in
theorem safeCells_any (g : Nat) {t : TypeId} (F : Fld) (hF : F.ok) (A : Option Addr) (n : Nat) (xs : List Scarecrow) (hx : ∀ x ∈ xs, x.plain = true) (hl : xs.length ≤ 1048576) (least : Int) (w : World) (hb : Blk w g t F.cells) (hs : Sl w 3 A xs.length (flat Scarecrow.vals xs)) :
    Calls Tryz.prog 55 #[.pointer (some ⟨g, 0, none⟩), .slice A xs.length n, .int .i64 least] w fun e w' => e = .returned (.agg (safeSet F xs least).cells) ∧ Mem w w' [] := by
  have M := Lib.hid (Mem.start w)
  have HX := Lib.hid hx
  have HS := Lib.hid hs
  have HB := Lib.hid hb
  have O1 := Lib.hid (Cs.one (safeSet F xs least))
  clear hx hs hb
  go_enter Tryz.func55, Tryz.ntmps55
  go_wp2_with (first
    | ((with_reducible refine gate_dst (N := 3) rfl ?_); go_must (refine M.out.ev_new rfl (by first | (go_simp; done) | (go_simp; rfl)) ?_); intro g3 w3 m; simp only [List.cons_append, List.nil_append] at m; have M := Lib.hid m; clear m)
    | ((with_reducible refine gate_dst (N := 4) rfl ?_); go_must (refine M.out.ev_new rfl (by first | (go_simp; done) | (go_simp; rfl)) ?_); intro g4 w4 m; simp only [List.cons_append, List.nil_append] at m; have M := Lib.hid m; clear m)
    | ((with_reducible refine gate_dst (N := 5) rfl ?_); go_must (refine M.out.ev_new rfl (by first | (go_simp; done) | (go_simp; rfl)) ?_); intro g5 w5 m; simp only [List.cons_append, List.nil_append] at m; have M := Lib.hid m; clear m)
    | ((with_reducible refine gate_dst (N := 6) rfl ?_); go_must (refine M.out.ev_new rfl (by first | (go_simp; done) | (go_simp; rfl)) ?_); intro g6 w6 m; simp only [List.cons_append, List.nil_append] at m; have M := Lib.hid m; clear m)
    | ((with_reducible refine gate_dst (N := 7) rfl ?_); go_must (refine M.out.ev_ld 0 _ _ rfl rfl rfl Tryz.underlying66 rfl rfl (by first | assumption | rfl) ?_))
    | ((with_reducible refine gate_store (x := .tmp 6) rfl ?_); go_must (refine M.out.ev_stw 3 _ _ _ rfl rfl rfl rfl _ rfl (by first | rfl | (simp only [S1.out]; rfl) | (simp only [S1.out, S2.out]; rfl) | (simp only [S3.out]; rfl) | (simp only [S1.out, S2.out, S3.out]; rfl)) (by first | exact sz44 | (rw [S1.out]; exact sz44) | (rw [S2.out]; exact sz44) | (rw [S3.out]; exact sz44)) (by first | exact ints_one _ _ | exact Fld.one _ | exact O1.out | rfl | (simp [Value.oneCell']; done)) rfl ?_); intro wn m; simp only [List.set_cons_succ, List.set_cons_zero, List.setIfInBounds_toArray] at m; have M := Lib.hid m; clear m)
    | (go_at_call 97; go_must (refine (those_any g F hF 98 #[.pointer (some ⟨g3, 0, none⟩), .pointer (some ⟨g4, 0, none⟩), .pointer (some ⟨g5, 0, none⟩)] (safeP F xs least) _ (M.out.arg HB.out) (fun _ _ => by go_simp) (fun k hk _ w1 m1 => calls_caps (safeIs_any g _ _ _ F hF A n xs HX.out hl least k hk w1 ((M.out.join m1).arg HB.out) ((M.out.join m1).blk 0 rfl) ((M.out.join m1).blk 1 rfl) ((M.out.join m1).blk 2 rfl) ((M.out.join m1).sl HS.out)))).mono ?_); rintro e w_ ⟨rfl, N_⟩; have m := M.out.join N_; clear N_; simp only [List.cons_append, List.nil_append, List.append_nil] at m; have M := Lib.hid m; clear m)
    )
  exact ret_cell rfl (M.out.blk 3 rfl) Tryz.underlying44 rfl sz44 rfl ⟨rfl, M.out.take 0⟩
def safeTo (F : Fld) (xs : List Scarecrow) (least : Int) (n : Nat) : Cs := setOf ((List.range n).filter fun (k : Nat) => F.has k && safeP F xs least k)
theorem safeTo_all (F : Fld) (xs : List Scarecrow) (least : Int) : safeTo F xs least 100 = safeSet F xs least := by
  unfold safeTo safeSet Fld.all Fld.below
  rw [List.filter_filter]
  congr 1
  apply List.filter_congr
  intro k _
  exact Bool.and_comm _ _
theorem safeTo_succ (F : Fld) (xs : List Scarecrow) (least : Int) (n : Nat) : safeTo F xs least (n + 1) = if (F.has n && safeP F xs least n) = true then (safeTo F xs least n).put n else safeTo F xs least n := by
  unfold safeTo
  rw [List.range_succ, List.filter_append]
  cases h : (F.has n && safeP F xs least n)
  · simp [h]
  · simp only [List.filter_cons, h, List.filter_nil, if_true]
    rw [setOf_snoc]
theorem safeTo_ok (F : Fld) (xs : List Scarecrow) (least : Int) {n : Nat} (hn : n ≤ 100) : (safeTo F xs least n).ok := setOf_ok _ fun k hk => by
  have := List.mem_range.1 (List.mem_filter.1 hk).1
  omega
set_option maxRecDepth 100000 in
set_option maxHeartbeats 2000000 in
theorem l03Safe_any (g : Nat) {t : TypeId} (F : Fld) (hF : F.ok) (A : Option Addr) (n : Nat) (xs : List Scarecrow) (hx : ∀ x ∈ xs, x.plain = true) (hl : xs.length ≤ 1048576) (least : Int) (w : World) (hb : Blk w g t F.cells) (hs : Sl w 3 A xs.length (flat Scarecrow.vals xs)) :
    Calls Tryz.prog 57 #[.pointer (some ⟨g, 0, none⟩), .slice A xs.length n, .int .i64 least] w fun e w' => e = .returned (.agg (safeSet F xs least).cells) ∧ Mem w w' [] := by
  have M := Lib.hid (Mem.start w)
  have HX := Lib.hid hx
  have HS := Lib.hid hs
  have HB := Lib.hid hb
  have O1 := Lib.hid (Cs.one (safeSet F xs least))
  clear hx hs hb
  go_enter Tryz.func57, Tryz.ntmps57
  go_wp2_with (first
    | ((with_reducible refine gate_dst (N := 6) rfl ?_); go_must (refine M.out.ev_new rfl (by first | (go_simp; done) | (go_simp; rfl)) ?_); intro g6 w6 m; simp only [List.cons_append, List.nil_append] at m; have M := Lib.hid m; clear m)
    | ((with_reducible refine gate_dst (N := 7) rfl ?_); go_must (refine M.out.ev_new rfl (by first | (go_simp; done) | (go_simp; rfl)) ?_); intro g7 w7 m; simp only [List.cons_append, List.nil_append] at m; have M := Lib.hid m; clear m)
    | ((with_reducible refine gate_store (x := .tmp 7) rfl ?_); go_must (refine M.out.ev_stw 1 _ _ _ rfl rfl rfl rfl _ rfl (by first | rfl | (simp only [S1.out]; rfl) | (simp only [S1.out, S2.out]; rfl) | (simp only [S3.out]; rfl) | (simp only [S1.out, S2.out, S3.out]; rfl)) (by first | exact sz44 | (rw [S1.out]; exact sz44) | (rw [S2.out]; exact sz44) | (rw [S3.out]; exact sz44)) (by first | exact ints_one _ _ | exact Fld.one _ | exact O1.out | rfl | (simp [Value.oneCell']; done)) rfl ?_); intro wn m; simp only [List.set_cons_succ, List.set_cons_zero, List.setIfInBounds_toArray] at m; have M := Lib.hid m; clear m)
    | ((with_reducible refine gate_dst (N := 26) rfl ?_); go_must (refine M.out.ev_ldw 1 _ _ rfl rfl rfl Tryz.underlying44 rfl (by first | exact sz44 | (rw [S1.out]; exact sz44) | (rw [S2.out]; exact sz44) | (rw [S3.out]; exact sz44)) rfl ?_))
    | ((with_reducible refine gate_store (x := .tmp 6) rfl ?_); go_must (refine M.out.ev_stw 0 _ _ _ rfl rfl rfl rfl _ rfl (by first | rfl | (simp only [S1.out]; rfl) | (simp only [S1.out, S2.out]; rfl) | (simp only [S3.out]; rfl) | (simp only [S1.out, S2.out, S3.out]; rfl)) (by first | exact sz44 | (rw [S1.out]; exact sz44) | (rw [S2.out]; exact sz44) | (rw [S3.out]; exact sz44)) (by first | exact ints_one _ _ | exact Fld.one _ | exact O1.out | rfl | (simp [Value.oneCell']; done)) rfl ?_); intro wn m; simp only [List.set_cons_succ, List.set_cons_zero, List.setIfInBounds_toArray] at m; have M := Lib.hid m; clear m)
    )
  go_loopw [8] (fun v wr => ∃ k : Nat, k ≤ 100 ∧ v = .int .i64 k ∧ Mem w wr [.blk g6 44 Cs.z.cells, .blk g7 44 (safeTo F xs least k).cells])
    (fun v _ => 100 - (intOf v).toNat)
  case atStart => exact ⟨0, by omega, rfl, M.out⟩
  case round =>
    clear M
    obtain ⟨k, hk, rfl, m⟩ := hrel
    have M := Lib.hid m
    clear m
    have CO := Lib.hid (safeTo_ok F xs least hk)
    by_cases hlt : k < 100
    · have i0 : (0 : Int) ≤ (k : Int) := by omega
      have i1 : (k : Int) < 100 := by omega
      have hsu := safeTo_succ F xs least k
      cases hq : (F.has k && (F.kind k == 0))
      · have HQ := Lib.hid hq
        have hno : (F.has k && safeP F xs least k) = false := by rw [safeP, ← Bool.and_assoc, hq, Bool.false_and]
        rw [if_neg (by rw [hno]; decide)] at hsu
        have HU := Lib.hid hsu
        clear hq hno hsu
        go_wp2_with (first
          | (go_at_call 67; go_must (refine (l03Soil_any g F hF k hlt _ (M.out.arg HB.out)).mono ?_); rintro e w_ ⟨rfl, rfl⟩; rw [HQ.out])
          )
        refine ⟨⟨k + 1, by omega, by go_num, ?_⟩, by simp [intOf]; omega⟩
        rw [HU.out]
        exact M.out
      · have HQ := Lib.hid hq
        by_cases hf : least ≤ fearAt xs k
        · have hno : (F.has k && safeP F xs least k) = true := by rw [safeP, ← Bool.and_assoc, hq, Bool.true_and, decide_eq_true hf]
          rw [if_pos hno] at hsu
          have HU := Lib.hid hsu
          clear hq hno hsu
          go_wp2_with (first
            | (go_at_call 67; go_must (refine (l03Soil_any g F hF k hlt _ (M.out.arg HB.out)).mono ?_); rintro e w_ ⟨rfl, rfl⟩; rw [HQ.out])
            | (go_at_call 51; go_must (refine (l03Fear_any A n xs HX.out hl k i0 (by omega) _ (M.out.sl HS.out)).mono ?_); rintro e w_ ⟨rfl, N_⟩; have m := M.out.join N_; clear N_; simp only [List.cons_append, List.nil_append, List.append_nil] at m; have M := Lib.hid m; clear m)
            | (go_at_call 99; go_must (refine (l01Put_any 1 M.out _ _ CO.out rfl k hlt).mono ?_); rintro e w_ ⟨rfl, m⟩; simp only [List.set_cons_succ, List.set_cons_zero] at m; have M := Lib.hid m; clear m)
            )
          refine ⟨⟨k + 1, by omega, by go_num, ?_⟩, by simp [intOf]; omega⟩
          rw [HU.out]
          exact M.out
        · have hno : (F.has k && safeP F xs least k) = false := by rw [safeP, decide_eq_false hf, Bool.and_false, Bool.and_false]
          rw [if_neg (by rw [hno]; decide)] at hsu
          have HU := Lib.hid hsu
          clear hq hno hsu
          go_wp2_with (first
            | (go_at_call 67; go_must (refine (l03Soil_any g F hF k hlt _ (M.out.arg HB.out)).mono ?_); rintro e w_ ⟨rfl, rfl⟩; rw [HQ.out])
            | (go_at_call 51; go_must (refine (l03Fear_any A n xs HX.out hl k i0 (by omega) _ (M.out.sl HS.out)).mono ?_); rintro e w_ ⟨rfl, N_⟩; have m := M.out.join N_; clear N_; simp only [List.cons_append, List.nil_append, List.append_nil] at m; have M := Lib.hid m; clear m)
            )
          refine ⟨⟨k + 1, by omega, by go_num, ?_⟩, by simp [intOf]; omega⟩
          rw [HU.out]
          exact M.out
    · obtain rfl : k = 100 := by omega
      rw [safeTo_all] at M
      go_wp2_with (first
        | ((with_reducible refine gate_dst (N := 6) rfl ?_); go_must (refine M.out.ev_new rfl (by first | (go_simp; done) | (go_simp; rfl)) ?_); intro g6 w6 m; simp only [List.cons_append, List.nil_append] at m; have M := Lib.hid m; clear m)
        | ((with_reducible refine gate_dst (N := 7) rfl ?_); go_must (refine M.out.ev_new rfl (by first | (go_simp; done) | (go_simp; rfl)) ?_); intro g7 w7 m; simp only [List.cons_append, List.nil_append] at m; have M := Lib.hid m; clear m)
        | ((with_reducible refine gate_store (x := .tmp 7) rfl ?_); go_must (refine M.out.ev_stw 1 _ _ _ rfl rfl rfl rfl _ rfl (by first | rfl | (simp only [S1.out]; rfl) | (simp only [S1.out, S2.out]; rfl) | (simp only [S3.out]; rfl) | (simp only [S1.out, S2.out, S3.out]; rfl)) (by first | exact sz44 | (rw [S1.out]; exact sz44) | (rw [S2.out]; exact sz44) | (rw [S3.out]; exact sz44)) (by first | exact ints_one _ _ | exact Fld.one _ | exact O1.out | rfl | (simp [Value.oneCell']; done)) rfl ?_); intro wn m; simp only [List.set_cons_succ, List.set_cons_zero, List.setIfInBounds_toArray] at m; have M := Lib.hid m; clear m)
        | ((with_reducible refine gate_dst (N := 26) rfl ?_); go_must (refine M.out.ev_ldw 1 _ _ rfl rfl rfl Tryz.underlying44 rfl (by first | exact sz44 | (rw [S1.out]; exact sz44) | (rw [S2.out]; exact sz44) | (rw [S3.out]; exact sz44)) rfl ?_))
        | ((with_reducible refine gate_store (x := .tmp 6) rfl ?_); go_must (refine M.out.ev_stw 0 _ _ _ rfl rfl rfl rfl _ rfl (by first | rfl | (simp only [S1.out]; rfl) | (simp only [S1.out, S2.out]; rfl) | (simp only [S3.out]; rfl) | (simp only [S1.out, S2.out, S3.out]; rfl)) (by first | exact sz44 | (rw [S1.out]; exact sz44) | (rw [S2.out]; exact sz44) | (rw [S3.out]; exact sz44)) (by first | exact ints_one _ _ | exact Fld.one _ | exact O1.out | rfl | (simp [Value.oneCell']; done)) rfl ?_); intro wn m; simp only [List.set_cons_succ, List.set_cons_zero, List.setIfInBounds_toArray] at m; have M := Lib.hid m; clear m)
        )
      exact ret_cell rfl (M.out.blk 0 rfl) Tryz.underlying44 rfl sz44 rfl ⟨rfl, M.out.take 0⟩
end Go.Proofs.YtoacnfofijikmaaGreatDoor
namespace Go.Proofs.YtoacnfofijikmaaGreatDoor
set_option linter.unusedSimpArgs false
set_option linter.unusedVariables false
open Go.RowKit
attribute [local go_sem] cell?_mk frozen?_mk

def safeCode (F : Fld) (xs : List Scarecrow) (least : Int) : Int := scCode F xs (inB least 1 1000)
def safeRes (F : Fld) (xs : List Scarecrow) (least : Int) : Cs := if safeCode F xs least = 0 then safeSet F xs least else Cs.z
set_option maxRecDepth 100000 in
set_option maxHeartbeats 1000000 in
theorem safePower_any (h : Nat) {t' : TypeId} (p : Int) (w : World) (hc : Blk w h t' #[.int .i64 p]) :
    Calls Tryz.prog 53 #[.pointer (some ⟨h, 0, none⟩)] w fun e w' => e = .returned (.bool (inB p 1 1000)) ∧ Mem w w' [] := by
  have M := Lib.hid (Mem.start w)
  have hc0 := hc.cellv (i := 0) rfl
  clear hc
  go_enter Tryz.func53, Tryz.ntmps53
  go_wp2_with (first
    | (go_at_call 54; go_must (refine (isPower_any _ _).mono ?_); rintro e w_ ⟨rfl, rfl⟩)
    )
  go_ret
  exact ⟨rfl, M.out⟩
set_option maxRecDepth 100000 in
set_option maxHeartbeats 1000000 in
theorem uselessPower_any (h : Nat) {t' : TypeId} (p : Int) (w : World) (hc : Blk w h t' #[.int .i64 p]) :
    Calls Tryz.prog 71 #[.pointer (some ⟨h, 0, none⟩)] w fun e w' => e = .returned (.bool (inB p 1 1000)) ∧ Mem w w' [] := by
  have M := Lib.hid (Mem.start w)
  have hc0 := hc.cellv (i := 0) rfl
  clear hc
  go_enter Tryz.func71, Tryz.ntmps71
  go_wp2_with (first
    | (go_at_call 54; go_must (refine (isPower_any _ _).mono ?_); rintro e w_ ⟨rfl, rfl⟩)
    )
  go_ret
  exact ⟨rfl, M.out⟩
set_option maxRecDepth 100000 in
set_option maxHeartbeats 1000000 in
theorem longestPower_any (h : Nat) {t' : TypeId} (p : Int) (w : World) (hc : Blk w h t' #[.int .i64 p]) :
    Calls Tryz.prog 74 #[.pointer (some ⟨h, 0, none⟩)] w fun e w' => e = .returned (.bool (inB p 1 1000)) ∧ Mem w w' [] := by
  have M := Lib.hid (Mem.start w)
  have hc0 := hc.cellv (i := 0) rfl
  clear hc
  go_enter Tryz.func74, Tryz.ntmps74
  go_wp2_with (first
    | (go_at_call 54; go_must (refine (isPower_any _ _).mono ?_); rintro e w_ ⟨rfl, rfl⟩)
    )
  go_ret
  exact ⟨rfl, M.out⟩
set_option maxRecDepth 100000 in
set_option maxHeartbeats 2000000 in
theorem impl_SafeCells_any (F : Fld) (hF : F.ok) (A : Option Addr) (n : Nat) (xs : List Scarecrow) (hx : ∀ x ∈ xs, x.ok) (hl : xs.length ≤ 1048576) (hc : xs.length ≤ n) (hn : n ≤ 9223372036854775807) (least : Int) (w : World) (hs : Sl w 3 A xs.length (flat Scarecrow.vals xs)) :
    Calls Tryz.prog 15 #[.agg F.cells, .slice A xs.length n, .int .i64 least] w fun e w' =>
      e = .returned (.tuple #[.agg (safeRes F xs least).cells, .int .i64 (safeCode F xs least)]) ∧ Mem w w' [] := by
  have M := Lib.hid (Mem.start w)
  have HX := Lib.hid hx
  have HS := Lib.hid hs
  have HF := Lib.hid hF
  have S1 := Lib.hid (Fld.size hF.toLen)
  have hm : xs.length ≤ 9223372036854775807 := by omega
  have O1 := Lib.hid (Cs.one (safeSet F xs least))
  have HSC := Lib.hid (show scCode F xs (inB least 1 1000) = safeCode F xs least from rfl)
  clear hx hs hF
  by_cases hd : safeCode F xs least = 0
  · obtain ⟨h1, h2, h3⟩ := scCode_0 hd
    have HP := Lib.hid (scOk_plain h2)
    have HD := Lib.hid hd
    have hdd : (safeCode F xs least != 0) = false := by simp [hd]
    clear h1 h2 h3 hd
    go_enter Tryz.func15, Tryz.ntmps15
    go_wp2_with (first
      | ((with_reducible refine gate_dst (N := 3) rfl ?_); go_must (refine M.out.ev_new rfl (by first | (go_simp; done) | (go_simp; rfl)) ?_); intro g3 w3 m; simp only [List.cons_append, List.nil_append] at m; have M := Lib.hid m; clear m)
      | ((with_reducible refine gate_dst (N := 5) rfl ?_); go_must (refine M.out.ev_new rfl (by first | (go_simp; done) | (go_simp; rfl)) ?_); intro g5 w5 m; simp only [List.cons_append, List.nil_append] at m; have M := Lib.hid m; clear m)
      | ((with_reducible refine gate_dst (N := 6) rfl ?_); go_must (refine M.out.ev_new rfl (by first | (go_simp; done) | (go_simp; rfl)) ?_); intro g6 w6 m; simp only [List.cons_append, List.nil_append] at m; have M := Lib.hid m; clear m)
      | ((with_reducible refine gate_store (x := .tmp 6) rfl ?_); go_must (refine M.out.ev_stw 2 _ _ _ rfl rfl rfl rfl _ rfl (by first | rfl | (simp only [S1.out]; rfl) | (simp only [S1.out, S2.out]; rfl) | (simp only [S3.out]; rfl) | (simp only [S1.out, S2.out, S3.out]; rfl)) (by first | exact sz44 | (rw [S1.out]; exact sz44) | (rw [S2.out]; exact sz44) | (rw [S3.out]; exact sz44)) (by first | exact ints_one _ _ | exact Fld.one _ | exact O1.out | rfl | (simp [Value.oneCell']; done)) rfl ?_); intro wn m; simp only [List.set_cons_succ, List.set_cons_zero, List.setIfInBounds_toArray] at m; have M := Lib.hid m; clear m)
      | ((with_reducible refine gate_dst (N := 17) rfl ?_); go_must (refine M.out.ev_ld 1 _ _ rfl rfl rfl Tryz.underlying2 rfl rfl (by first | assumption | rfl) ?_))
      | ((with_reducible refine gate_store (x := .tmp 6) rfl ?_); go_must (refine M.out.ev_stw 2 _ _ _ rfl rfl rfl rfl _ rfl (by first | rfl | (simp only [S1.out]; rfl) | (simp only [S1.out, S2.out]; rfl) | (simp only [S3.out]; rfl) | (simp only [S1.out, S2.out, S3.out]; rfl)) (by first | exact sz44 | (rw [S1.out]; exact sz44) | (rw [S2.out]; exact sz44) | (rw [S3.out]; exact sz44)) (by first | exact ints_one _ _ | exact Fld.one _ | exact O1.out | rfl | (simp [Value.oneCell']; done)) rfl ?_); intro wn m; simp only [List.set_cons_succ, List.set_cons_zero, List.setIfInBounds_toArray] at m; have M := Lib.hid m; clear m)
      | (go_at_call 45; go_must (refine (scaresCode_any _ F HF.out A n xs HX.out hc hn 53 _ (inB least 1 1000) _ (M.out.blk 0 rfl) (M.out.sl HS.out) (fun _ _ => by go_simp) (fun _ w1 m1 => safePower_any _ least w1 ((M.out.join m1).blk 1 rfl))).mono ?_); rintro e w_ ⟨rfl, N_⟩; have m := M.out.join N_; clear N_; simp only [List.cons_append, List.nil_append, List.append_nil] at m; have M := Lib.hid m; clear m; rw [HSC.out])
      | (go_at_call 55; go_must (refine (safeCells_any _ F HF.out A n xs HP.out hl least _ (M.out.blk 0 rfl) (M.out.sl HS.out)).mono ?_); rintro e w_ ⟨rfl, N_⟩; have m := M.out.join N_; clear N_; simp only [List.cons_append, List.nil_append, List.append_nil] at m; have M := Lib.hid m; clear m)
      )
    refine ret_ct rfl ((M.out.blk 2 rfl).var Tryz.underlying44 rfl sz44) ⟨?_, M.out.take 0⟩
    simp only [safeRes, HD.out]
    rfl
  · have HD := Lib.hid hd
    have hdd : (safeCode F xs least != 0) = true := by simp [hd]
    clear hd
    go_enter Tryz.func15, Tryz.ntmps15
    go_wp2_with (first
      | ((with_reducible refine gate_dst (N := 3) rfl ?_); go_must (refine M.out.ev_new rfl (by first | (go_simp; done) | (go_simp; rfl)) ?_); intro g3 w3 m; simp only [List.cons_append, List.nil_append] at m; have M := Lib.hid m; clear m)
      | ((with_reducible refine gate_dst (N := 5) rfl ?_); go_must (refine M.out.ev_new rfl (by first | (go_simp; done) | (go_simp; rfl)) ?_); intro g5 w5 m; simp only [List.cons_append, List.nil_append] at m; have M := Lib.hid m; clear m)
      | ((with_reducible refine gate_dst (N := 6) rfl ?_); go_must (refine M.out.ev_new rfl (by first | (go_simp; done) | (go_simp; rfl)) ?_); intro g6 w6 m; simp only [List.cons_append, List.nil_append] at m; have M := Lib.hid m; clear m)
      | ((with_reducible refine gate_store (x := .tmp 6) rfl ?_); go_must (refine M.out.ev_stw 2 _ _ _ rfl rfl rfl rfl _ rfl (by first | rfl | (simp only [S1.out]; rfl) | (simp only [S1.out, S2.out]; rfl) | (simp only [S3.out]; rfl) | (simp only [S1.out, S2.out, S3.out]; rfl)) (by first | exact sz44 | (rw [S1.out]; exact sz44) | (rw [S2.out]; exact sz44) | (rw [S3.out]; exact sz44)) (by first | exact ints_one _ _ | exact Fld.one _ | exact O1.out | rfl | (simp [Value.oneCell']; done)) rfl ?_); intro wn m; simp only [List.set_cons_succ, List.set_cons_zero, List.setIfInBounds_toArray] at m; have M := Lib.hid m; clear m)
      | ((with_reducible refine gate_dst (N := 17) rfl ?_); go_must (refine M.out.ev_ld 1 _ _ rfl rfl rfl Tryz.underlying2 rfl rfl (by first | assumption | rfl) ?_))
      | ((with_reducible refine gate_store (x := .tmp 6) rfl ?_); go_must (refine M.out.ev_stw 2 _ _ _ rfl rfl rfl rfl _ rfl (by first | rfl | (simp only [S1.out]; rfl) | (simp only [S1.out, S2.out]; rfl) | (simp only [S3.out]; rfl) | (simp only [S1.out, S2.out, S3.out]; rfl)) (by first | exact sz44 | (rw [S1.out]; exact sz44) | (rw [S2.out]; exact sz44) | (rw [S3.out]; exact sz44)) (by first | exact ints_one _ _ | exact Fld.one _ | exact O1.out | rfl | (simp [Value.oneCell']; done)) rfl ?_); intro wn m; simp only [List.set_cons_succ, List.set_cons_zero, List.setIfInBounds_toArray] at m; have M := Lib.hid m; clear m)
      | (go_at_call 45; go_must (refine (scaresCode_any _ F HF.out A n xs HX.out hc hn 53 _ (inB least 1 1000) _ (M.out.blk 0 rfl) (M.out.sl HS.out) (fun _ _ => by go_simp) (fun _ w1 m1 => safePower_any _ least w1 ((M.out.join m1).blk 1 rfl))).mono ?_); rintro e w_ ⟨rfl, N_⟩; have m := M.out.join N_; clear N_; simp only [List.cons_append, List.nil_append, List.append_nil] at m; have M := Lib.hid m; clear m; rw [HSC.out])
      )
    refine ret_ct rfl ((M.out.blk 2 rfl).var Tryz.underlying44 rfl sz44) ⟨?_, M.out.take 0⟩
    simp only [safeRes, if_neg HD.out]
    rfl
set_option maxRecDepth 100000 in
set_option maxHeartbeats 2000000 in
theorem spec_SafeCells_any (F : Fld) (hF : F.ok) (A : Option Addr) (n : Nat) (xs : List Scarecrow) (hx : ∀ x ∈ xs, x.ok) (hl : xs.length ≤ 1048576) (hc : xs.length ≤ n) (hn : n ≤ 9223372036854775807) (least : Int) (w : World) (hs : Sl w 3 A xs.length (flat Scarecrow.vals xs)) :
    Calls Tryz.prog 16 #[.agg F.cells, .slice A xs.length n, .int .i64 least] w fun e w' =>
      e = .returned (.tuple #[.agg (safeRes F xs least).cells, .int .i64 (safeCode F xs least)]) ∧ Mem w w' [] := by
  have M := Lib.hid (Mem.start w)
  have HX := Lib.hid hx
  have HS := Lib.hid hs
  have HF := Lib.hid hF
  have S1 := Lib.hid (Fld.size hF.toLen)
  have hm : xs.length ≤ 9223372036854775807 := by omega
  have O1 := Lib.hid (Cs.one (safeSet F xs least))
  have HSC := Lib.hid (show scCode F xs (inB least 1 1000) = safeCode F xs least from rfl)
  clear hx hs hF
  by_cases hd : safeCode F xs least = 0
  · obtain ⟨h1, h2, h3⟩ := scCode_0 hd
    have HP := Lib.hid (scOk_plain h2)
    have HD := Lib.hid hd
    have hdd : (safeCode F xs least != 0) = false := by simp [hd]
    clear h1 h2 h3 hd
    go_enter Tryz.func16, Tryz.ntmps16
    go_wp2_with (first
      | ((with_reducible refine gate_dst (N := 3) rfl ?_); go_must (refine M.out.ev_new rfl (by first | (go_simp; done) | (go_simp; rfl)) ?_); intro g3 w3 m; simp only [List.cons_append, List.nil_append] at m; have M := Lib.hid m; clear m)
      | ((with_reducible refine gate_dst (N := 6) rfl ?_); go_must (refine M.out.ev_new rfl (by first | (go_simp; done) | (go_simp; rfl)) ?_); intro g6 w6 m; simp only [List.cons_append, List.nil_append] at m; have M := Lib.hid m; clear m)
      | ((with_reducible refine gate_store (x := .tmp 6) rfl ?_); go_must (refine M.out.ev_stw 1 _ _ _ rfl rfl rfl rfl _ rfl (by first | rfl | (simp only [S1.out]; rfl) | (simp only [S1.out, S2.out]; rfl) | (simp only [S3.out]; rfl) | (simp only [S1.out, S2.out, S3.out]; rfl)) (by first | exact sz44 | (rw [S1.out]; exact sz44) | (rw [S2.out]; exact sz44) | (rw [S3.out]; exact sz44)) (by first | exact ints_one _ _ | exact Fld.one _ | exact O1.out | rfl | (simp [Value.oneCell']; done)) rfl ?_); intro wn m; simp only [List.set_cons_succ, List.set_cons_zero, List.setIfInBounds_toArray] at m; have M := Lib.hid m; clear m)
      | ((with_reducible refine gate_store (x := .tmp 6) rfl ?_); go_must (refine M.out.ev_stw 1 _ _ _ rfl rfl rfl rfl _ rfl (by first | rfl | (simp only [S1.out]; rfl) | (simp only [S1.out, S2.out]; rfl) | (simp only [S3.out]; rfl) | (simp only [S1.out, S2.out, S3.out]; rfl)) (by first | exact sz44 | (rw [S1.out]; exact sz44) | (rw [S2.out]; exact sz44) | (rw [S3.out]; exact sz44)) (by first | exact ints_one _ _ | exact Fld.one _ | exact O1.out | rfl | (simp [Value.oneCell']; done)) rfl ?_); intro wn m; simp only [List.set_cons_succ, List.set_cons_zero, List.setIfInBounds_toArray] at m; have M := Lib.hid m; clear m)
      | (go_at_call 56; go_must (refine (l03Power_any _ _).mono ?_); rintro e w_ ⟨rfl, rfl⟩)
      | (go_at_call 49; go_must (refine (l03Asked_any _ F HF.out A n xs HX.out hm _ _ (M.out.blk 0 rfl) (M.out.sl HS.out)).mono ?_); rintro e w_ ⟨rfl, N_⟩; have m := M.out.join N_; clear N_; simp only [List.cons_append, List.nil_append, List.append_nil] at m; have M := Lib.hid m; clear m; rw [HSC.out])
      | (go_at_call 57; go_must (refine (l03Safe_any _ F HF.out A n xs HP.out hl least _ (M.out.blk 0 rfl) (M.out.sl HS.out)).mono ?_); rintro e w_ ⟨rfl, N_⟩; have m := M.out.join N_; clear N_; simp only [List.cons_append, List.nil_append, List.append_nil] at m; have M := Lib.hid m; clear m)
      )
    refine ret_ct rfl ((M.out.blk 1 rfl).var Tryz.underlying44 rfl sz44) ⟨?_, M.out.take 0⟩
    simp only [safeRes, HD.out]
    rfl
  · have HD := Lib.hid hd
    have hdd : (safeCode F xs least != 0) = true := by simp [hd]
    clear hd
    go_enter Tryz.func16, Tryz.ntmps16
    go_wp2_with (first
      | ((with_reducible refine gate_dst (N := 3) rfl ?_); go_must (refine M.out.ev_new rfl (by first | (go_simp; done) | (go_simp; rfl)) ?_); intro g3 w3 m; simp only [List.cons_append, List.nil_append] at m; have M := Lib.hid m; clear m)
      | ((with_reducible refine gate_dst (N := 6) rfl ?_); go_must (refine M.out.ev_new rfl (by first | (go_simp; done) | (go_simp; rfl)) ?_); intro g6 w6 m; simp only [List.cons_append, List.nil_append] at m; have M := Lib.hid m; clear m)
      | ((with_reducible refine gate_store (x := .tmp 6) rfl ?_); go_must (refine M.out.ev_stw 1 _ _ _ rfl rfl rfl rfl _ rfl (by first | rfl | (simp only [S1.out]; rfl) | (simp only [S1.out, S2.out]; rfl) | (simp only [S3.out]; rfl) | (simp only [S1.out, S2.out, S3.out]; rfl)) (by first | exact sz44 | (rw [S1.out]; exact sz44) | (rw [S2.out]; exact sz44) | (rw [S3.out]; exact sz44)) (by first | exact ints_one _ _ | exact Fld.one _ | exact O1.out | rfl | (simp [Value.oneCell']; done)) rfl ?_); intro wn m; simp only [List.set_cons_succ, List.set_cons_zero, List.setIfInBounds_toArray] at m; have M := Lib.hid m; clear m)
      | ((with_reducible refine gate_store (x := .tmp 6) rfl ?_); go_must (refine M.out.ev_stw 1 _ _ _ rfl rfl rfl rfl _ rfl (by first | rfl | (simp only [S1.out]; rfl) | (simp only [S1.out, S2.out]; rfl) | (simp only [S3.out]; rfl) | (simp only [S1.out, S2.out, S3.out]; rfl)) (by first | exact sz44 | (rw [S1.out]; exact sz44) | (rw [S2.out]; exact sz44) | (rw [S3.out]; exact sz44)) (by first | exact ints_one _ _ | exact Fld.one _ | exact O1.out | rfl | (simp [Value.oneCell']; done)) rfl ?_); intro wn m; simp only [List.set_cons_succ, List.set_cons_zero, List.setIfInBounds_toArray] at m; have M := Lib.hid m; clear m)
      | (go_at_call 56; go_must (refine (l03Power_any _ _).mono ?_); rintro e w_ ⟨rfl, rfl⟩)
      | (go_at_call 49; go_must (refine (l03Asked_any _ F HF.out A n xs HX.out hm _ _ (M.out.blk 0 rfl) (M.out.sl HS.out)).mono ?_); rintro e w_ ⟨rfl, N_⟩; have m := M.out.join N_; clear N_; simp only [List.cons_append, List.nil_append, List.append_nil] at m; have M := Lib.hid m; clear m; rw [HSC.out])
      )
    refine ret_ct rfl ((M.out.blk 1 rfl).var Tryz.underlying44 rfl sz44) ⟨?_, M.out.take 0⟩
    simp only [safeRes, if_neg HD.out]
    rfl
end Go.Proofs.YtoacnfofijikmaaGreatDoor
