/- Texts of a proof, laid together: Scares6, AgeLaw, Days, FearP, Cells, Rets. -/
import Derived.Test.YtoacnfofijikmaaGreatDoorZR03
import Derived.Test.YtoacnfofijikmaaGreatDoorZR04
import Derived.Test.YtoacnfofijikmaaGreatDoorZR02
import Derived.Test.YtoacnfofijikmaaGreatDoorZR01
import Derived.Test.YtoacnfofijikmaaGreatDoorZR00
namespace Go.Proofs.YtoacnfofijikmaaGreatDoor
set_option linter.unusedSimpArgs false
set_option linter.unusedVariables false
open Go.RowKit
attribute [local go_sem] cell?_mk frozen?_mk

theorem scCode_0 {F : Fld} {xs : List Scarecrow} {p : Bool} (h : scCode F xs p = 0) : F.valid = true ∧ scOk F xs = true ∧ p = true := by
  unfold scCode at h
  split at h
  · simp at h
  · rename_i h1
    split at h
    · simp at h
    · rename_i h2
      simp only [Bool.not_eq_false, Bool.and_eq_true] at h1 h2
      exact ⟨h1.1, h1.2, h2⟩
set_option maxRecDepth 100000 in
set_option maxHeartbeats 2000000 in
theorem l03Asked_any (g : Nat) {t : TypeId} (F : Fld) (hF : F.ok) (A : Option Addr) (n : Nat) (xs : List Scarecrow) (hx : ∀ x ∈ xs, x.ok) (hn : xs.length ≤ 9223372036854775807) (p : Bool) (w : World) (hb : Blk w g t F.cells) (hs : Sl w 3 A xs.length (flat Scarecrow.vals xs)) :
    Calls Tryz.prog 49 #[.pointer (some ⟨g, 0, none⟩), .slice A xs.length n, .bool p] w fun e w' => e = .returned (.int .i64 (scCode F xs p)) ∧ Mem w w' [] := by
  have M := Lib.hid (Mem.start w)
  have HX := Lib.hid hx
  have HS := Lib.hid hs
  have HB := Lib.hid hb
  clear hs hx hb
  cases hv : (F.valid && scOk F xs) <;> cases p <;>
  · have HV := Lib.hid hv
    clear hv
    go_enter Tryz.func49, Tryz.ntmps49
    go_wp2_with (first
      | (go_at_call 93; go_must (refine (l03Ok_any g F hF A n xs HX.out hn _ (M.out.arg HB.out) (M.out.sl HS.out)).mono ?_); rintro e w_ ⟨rfl, N_⟩; have m := M.out.join N_; clear N_; simp only [List.cons_append, List.nil_append, List.append_nil] at m; have M := Lib.hid m; clear m; rw [HV.out])
      )
    go_ret
    exact ⟨ret_int (by simp [scCode, HV.out]), M.out.take 0⟩

/-- The fear of a cell, and the code. -/
def fearRes (F : Fld) (xs : List Scarecrow) (c : Int) : Int × Int := if scCode F xs (F.has c) = 0 then (fearAt xs c, 0) else (0, scCode F xs (F.has c))
set_option maxRecDepth 100000 in
set_option maxHeartbeats 1000000 in
theorem fearIs_any (g h : Nat) {t t' : TypeId} (F : Fld) (hF : F.ok) (c : Int) (w : World) (hb : Blk w g t F.cells) (hc : Blk w h t' #[.int .i64 c]) :
    Calls Tryz.prog 46 #[.pointer (some ⟨g, 0, none⟩), .pointer (some ⟨h, 0, none⟩)] w fun e w' => e = .returned (.bool (F.has c)) ∧ Mem w w' [] := by
  have M := Lib.hid (Mem.start w)
  have HB := Lib.hid hb
  have hc0 := hc.cellv (i := 0) rfl
  clear hb hc
  go_enter Tryz.func46, Tryz.ntmps46
  go_wp2_with (first
    | (go_at_call 47; go_must (refine (has_any g F hF c _ HB.out).mono ?_); rintro e w_ ⟨rfl, rfl⟩)
    )
  go_ret
  exact ⟨rfl, M.out⟩
set_option maxRecDepth 100000 in
set_option maxHeartbeats 2000000 in
theorem impl_fear_any (F : Fld) (hF : F.ok) (A : Option Addr) (n : Nat) (xs : List Scarecrow) (hx : ∀ x ∈ xs, x.ok) (hl : xs.length ≤ 1048576) (hc : xs.length ≤ n) (hn : n ≤ 9223372036854775807) (c : Int) (w : World) (hs : Sl w 3 A xs.length (flat Scarecrow.vals xs)) :
    Calls Tryz.prog 11 #[.agg F.cells, .slice A xs.length n, .int .i64 c] w fun e w' =>
      e = .returned (.tuple #[.int .i64 (fearRes F xs c).1, .int .i64 (fearRes F xs c).2]) ∧ Mem w w' [] := by
  have M := Lib.hid (Mem.start w)
  have HX := Lib.hid hx
  have HS := Lib.hid hs
  have HF := Lib.hid hF
  have S1 := Lib.hid (Fld.size hF.toLen)
  clear hx hs hF
  by_cases hd : scCode F xs (F.has c) = 0
  · obtain ⟨h1, h2, h3⟩ := scCode_0 hd
    have HP := Lib.hid (scOk_plain h2)
    have HC := Lib.hid (Fld.has_iff.1 h3).1
    have HD := Lib.hid hd
    have hdd : (scCode F xs (F.has c) != 0) = false := by simp [hd]
    clear h1 h2 h3 hd
    go_enter Tryz.func11, Tryz.ntmps11
    go_wp2_with (first
      | ((with_reducible refine gate_dst (N := 3) rfl ?_); go_must (refine M.out.ev_new rfl (by first | (go_simp; done) | (go_simp; rfl)) ?_); intro g3 w3 m; simp only [List.cons_append, List.nil_append] at m; have M := Lib.hid m; clear m)
      | ((with_reducible refine gate_dst (N := 5) rfl ?_); go_must (refine M.out.ev_new rfl (by first | (go_simp; done) | (go_simp; rfl)) ?_); intro g5 w5 m; simp only [List.cons_append, List.nil_append] at m; have M := Lib.hid m; clear m)
      | ((with_reducible refine gate_dst (N := 16) rfl ?_); go_must (refine M.out.ev_ld 1 _ _ rfl rfl rfl Tryz.underlying2 rfl rfl (by first | assumption | rfl) ?_))
      | (go_at_call 45; go_must (refine (scaresCode_any _ F HF.out A n xs HX.out hc hn 46 _ (F.has c) _ (M.out.blk 0 rfl) (M.out.sl HS.out) (fun _ _ => by go_simp) (fun _ w1 m1 => fearIs_any _ _ F HF.out c w1 ((M.out.join m1).blk 0 rfl) ((M.out.join m1).blk 1 rfl))).mono ?_); rintro e w_ ⟨rfl, N_⟩; have m := M.out.join N_; clear N_; simp only [List.cons_append, List.nil_append, List.append_nil] at m; have M := Lib.hid m; clear m; have x1 := M.out.cell (j := 0) (v := .int .i64 c) 1 rfl rfl)
      | (go_at_call 48; go_must (refine (fearOf_any A n xs HP.out hl c HC.out.1 HC.out.2 _ (M.out.sl HS.out)).mono ?_); rintro e w_ ⟨rfl, N_⟩; have m := M.out.join N_; clear N_; simp only [List.cons_append, List.nil_append, List.append_nil] at m; have M := Lib.hid m; clear m)
      )
    go_ret2
    refine ⟨?_, M.out.take 0⟩
    simp only [fearRes, HD.out]
    rfl
  · have HD := Lib.hid hd
    have hdd : (scCode F xs (F.has c) != 0) = true := by simp [hd]
    clear hd
    go_enter Tryz.func11, Tryz.ntmps11
    go_wp2_with (first
      | ((with_reducible refine gate_dst (N := 3) rfl ?_); go_must (refine M.out.ev_new rfl (by first | (go_simp; done) | (go_simp; rfl)) ?_); intro g3 w3 m; simp only [List.cons_append, List.nil_append] at m; have M := Lib.hid m; clear m)
      | ((with_reducible refine gate_dst (N := 5) rfl ?_); go_must (refine M.out.ev_new rfl (by first | (go_simp; done) | (go_simp; rfl)) ?_); intro g5 w5 m; simp only [List.cons_append, List.nil_append] at m; have M := Lib.hid m; clear m)
      | ((with_reducible refine gate_dst (N := 16) rfl ?_); go_must (refine M.out.ev_ld 1 _ _ rfl rfl rfl Tryz.underlying2 rfl rfl (by first | assumption | rfl) ?_))
      | (go_at_call 45; go_must (refine (scaresCode_any _ F HF.out A n xs HX.out hc hn 46 _ (F.has c) _ (M.out.blk 0 rfl) (M.out.sl HS.out) (fun _ _ => by go_simp) (fun _ w1 m1 => fearIs_any _ _ F HF.out c w1 ((M.out.join m1).blk 0 rfl) ((M.out.join m1).blk 1 rfl))).mono ?_); rintro e w_ ⟨rfl, N_⟩; have m := M.out.join N_; clear N_; simp only [List.cons_append, List.nil_append, List.append_nil] at m; have M := Lib.hid m; clear m; have x1 := M.out.cell (j := 0) (v := .int .i64 c) 1 rfl rfl)
      )
    go_ret2
    refine ⟨?_, M.out.take 0⟩
    simp only [fearRes, if_neg HD.out]
    rfl
set_option maxRecDepth 100000 in
set_option maxHeartbeats 2000000 in
theorem spec_fear_any (F : Fld) (hF : F.ok) (A : Option Addr) (n : Nat) (xs : List Scarecrow) (hx : ∀ x ∈ xs, x.ok) (hl : xs.length ≤ 1048576) (c : Int) (w : World) (hs : Sl w 3 A xs.length (flat Scarecrow.vals xs)) :
    Calls Tryz.prog 12 #[.agg F.cells, .slice A xs.length n, .int .i64 c] w fun e w' =>
      e = .returned (.tuple #[.int .i64 (fearRes F xs c).1, .int .i64 (fearRes F xs c).2]) ∧ Mem w w' [] := by
  have M := Lib.hid (Mem.start w)
  have HX := Lib.hid hx
  have HS := Lib.hid hs
  have HF := Lib.hid hF
  have S1 := Lib.hid (Fld.size hF.toLen)
  have hm : xs.length ≤ 9223372036854775807 := by omega
  clear hx hs hF
  by_cases hd : scCode F xs (F.has c) = 0
  · obtain ⟨h1, h2, h3⟩ := scCode_0 hd
    have HP := Lib.hid (scOk_plain h2)
    have HC := Lib.hid (Fld.has_iff.1 h3).1
    have HD := Lib.hid hd
    have hdd : (scCode F xs (F.has c) != 0) = false := by simp [hd]
    clear h1 h2 h3 hd
    go_enter Tryz.func12, Tryz.ntmps12
    go_wp2_with (first
      | ((with_reducible refine gate_dst (N := 3) rfl ?_); go_must (refine M.out.ev_new rfl (by first | (go_simp; done) | (go_simp; rfl)) ?_); intro g3 w3 m; simp only [List.cons_append, List.nil_append] at m; have M := Lib.hid m; clear m)
      | (go_at_call 50; go_must (refine (l01Is_any _ F HF.out c _ (M.out.blk 0 rfl)).mono ?_); rintro e w_ ⟨rfl, rfl⟩)
      | (go_at_call 49; go_must (refine (l03Asked_any _ F HF.out A n xs HX.out hm (F.has c) _ (M.out.blk 0 rfl) (M.out.sl HS.out)).mono ?_); rintro e w_ ⟨rfl, N_⟩; have m := M.out.join N_; clear N_; simp only [List.cons_append, List.nil_append, List.append_nil] at m; have M := Lib.hid m; clear m)
      | (go_at_call 51; go_must (refine (l03Fear_any A n xs HP.out hl c HC.out.1 HC.out.2 _ (M.out.sl HS.out)).mono ?_); rintro e w_ ⟨rfl, N_⟩; have m := M.out.join N_; clear N_; simp only [List.cons_append, List.nil_append, List.append_nil] at m; have M := Lib.hid m; clear m)
      )
    go_ret2
    refine ⟨?_, M.out.take 0⟩
    simp only [fearRes, HD.out]
    rfl
  · have HD := Lib.hid hd
    have hdd : (scCode F xs (F.has c) != 0) = true := by simp [hd]
    clear hd
    go_enter Tryz.func12, Tryz.ntmps12
    go_wp2_with (first
      | ((with_reducible refine gate_dst (N := 3) rfl ?_); go_must (refine M.out.ev_new rfl (by first | (go_simp; done) | (go_simp; rfl)) ?_); intro g3 w3 m; simp only [List.cons_append, List.nil_append] at m; have M := Lib.hid m; clear m)
      | (go_at_call 50; go_must (refine (l01Is_any _ F HF.out c _ (M.out.blk 0 rfl)).mono ?_); rintro e w_ ⟨rfl, rfl⟩)
      | (go_at_call 49; go_must (refine (l03Asked_any _ F HF.out A n xs HX.out hm (F.has c) _ (M.out.blk 0 rfl) (M.out.sl HS.out)).mono ?_); rintro e w_ ⟨rfl, N_⟩; have m := M.out.join N_; clear N_; simp only [List.cons_append, List.nil_append, List.append_nil] at m; have M := Lib.hid m; clear m)
      )
    go_ret2
    refine ⟨?_, M.out.take 0⟩
    simp only [fearRes, if_neg HD.out]
    rfl
end Go.Proofs.YtoacnfofijikmaaGreatDoor
namespace Go.Proofs.YtoacnfofijikmaaGreatDoor
set_option linter.unusedSimpArgs false
set_option linter.unusedVariables false
open Go.RowKit
attribute [local go_sem] cell?_mk frozen?_mk

def agedRes (F : Fld) (xs : List Scarecrow) (d : Int) : List Scarecrow := if scCode F xs (inB d 0 1000) = 0 then xs.map (Scarecrow.older d) else []
set_option maxRecDepth 100000 in
set_option maxHeartbeats 1000000 in
theorem agedIs_any (h : Nat) {t' : TypeId} (d : Int) (w : World) (hc : Blk w h t' #[.int .i64 d]) :
    Calls Tryz.prog 58 #[.pointer (some ⟨h, 0, none⟩)] w fun e w' => e = .returned (.bool (inB d 0 1000)) ∧ Mem w w' [] := by
  have M := Lib.hid (Mem.start w)
  have hc0 := hc.cellv (i := 0) rfl
  clear hc
  go_enter Tryz.func58, Tryz.ntmps58
  go_wp2_with (first
    | (go_at_call 59; go_must (refine (within_any _ _ _ _).mono ?_); rintro e w_ ⟨rfl, rfl⟩)
    )
  go_ret
  exact ⟨rfl, M.out⟩
set_option maxRecDepth 100000 in
set_option maxHeartbeats 2000000 in
theorem impl_AgeScares_any (F : Fld) (hF : F.ok) (A : Option Addr) (n : Nat) (xs : List Scarecrow) (hx : ∀ x ∈ xs, x.ok) (hl : xs.length ≤ 1048576) (hc : xs.length ≤ n) (hn : n ≤ 9223372036854775807) (hA : A = none → n = 0) (d : Int) (w : World) (hs : Sl w 3 A xs.length (flat Scarecrow.vals xs)) :
    Calls Tryz.prog 17 #[.agg F.cells, .slice A xs.length n, .int .i64 d] w (RetRowC w 60 3 (agedRes F xs d).length (flat Scarecrow.vals (agedRes F xs d)) (scCode F xs (inB d 0 1000))) := by
  have M := Lib.hid (Mem.start w)
  have HX := Lib.hid hx
  have HS := Lib.hid hs
  have HF := Lib.hid hF
  have S1 := Lib.hid (Fld.size hF.toLen)
  clear hx hs hF
  by_cases hd : scCode F xs (inB d 0 1000) = 0
  · obtain ⟨h1, h2, h3⟩ := scCode_0 hd
    have HP := Lib.hid (scOk_plain h2)
    have HD := Lib.hid hd
    have hd2 := inB_iff.1 h3
    obtain ⟨d0, d1⟩ := hd2
    have hdd : (scCode F xs (inB d 0 1000) != 0) = false := by simp [hd]
    clear h1 h2 h3 hd
    go_enter Tryz.func17, Tryz.ntmps17
    go_wp2_with (first
      | ((with_reducible refine gate_dst (N := 3) rfl ?_); go_must (refine M.out.ev_new rfl (by first | (go_simp; done) | (go_simp; rfl)) ?_); intro g3 w3 m; simp only [List.cons_append, List.nil_append] at m; have M := Lib.hid m; clear m)
      | ((with_reducible refine gate_dst (N := 5) rfl ?_); go_must (refine M.out.ev_new rfl (by first | (go_simp; done) | (go_simp; rfl)) ?_); intro g5 w5 m; simp only [List.cons_append, List.nil_append] at m; have M := Lib.hid m; clear m)
      | ((with_reducible refine gate_dst (N := 16) rfl ?_); go_must (refine M.out.ev_ld 1 _ _ rfl rfl rfl Tryz.underlying2 rfl rfl (by first | assumption | rfl) ?_))
      | (go_at_call 45; go_must (refine (scaresCode_any _ F HF.out A n xs HX.out hc hn 58 _ (inB d 0 1000) _ (M.out.blk 0 rfl) (M.out.sl HS.out) (fun _ _ => by go_simp) (fun _ w1 m1 => agedIs_any _ d w1 ((M.out.join m1).blk 1 rfl))).mono ?_); rintro e w_ ⟨rfl, N_⟩; have m := M.out.join N_; clear N_; simp only [List.cons_append, List.nil_append, List.append_nil] at m; have M := Lib.hid m; clear m)
      | (go_at_call 60; go_must (refine (aged_any A n xs HP.out hl hc hA d d0 d1 _ (M.out.sl HS.out)).mono ?_); rintro e w_ ⟨A_, c_, rfl, hc_, N_⟩; have m := M.out.join N_; clear N_; simp only [List.cons_append, List.nil_append, List.append_nil] at m; have M := Lib.hid m; clear m)
      )
    go_ret2
    have m := M.out.only [2] (K := [_]) rfl (by decide)
    simp only [agedRes, HD.out, if_true, List.length_map]
    exact ⟨A_, c_, rfl, hc_, m⟩
  · have HD := Lib.hid hd
    have hdd : (scCode F xs (inB d 0 1000) != 0) = true := by simp [hd]
    clear hd
    go_enter Tryz.func17, Tryz.ntmps17
    go_wp2_with (first
      | ((with_reducible refine gate_dst (N := 3) rfl ?_); go_must (refine M.out.ev_new rfl (by first | (go_simp; done) | (go_simp; rfl)) ?_); intro g3 w3 m; simp only [List.cons_append, List.nil_append] at m; have M := Lib.hid m; clear m)
      | ((with_reducible refine gate_dst (N := 5) rfl ?_); go_must (refine M.out.ev_new rfl (by first | (go_simp; done) | (go_simp; rfl)) ?_); intro g5 w5 m; simp only [List.cons_append, List.nil_append] at m; have M := Lib.hid m; clear m)
      | ((with_reducible refine gate_dst (N := 16) rfl ?_); go_must (refine M.out.ev_ld 1 _ _ rfl rfl rfl Tryz.underlying2 rfl rfl (by first | assumption | rfl) ?_))
      | (go_at_call 45; go_must (refine (scaresCode_any _ F HF.out A n xs HX.out hc hn 58 _ (inB d 0 1000) _ (M.out.blk 0 rfl) (M.out.sl HS.out) (fun _ _ => by go_simp) (fun _ w1 m1 => agedIs_any _ d w1 ((M.out.join m1).blk 1 rfl))).mono ?_); rintro e w_ ⟨rfl, N_⟩; have m := M.out.join N_; clear N_; simp only [List.cons_append, List.nil_append, List.append_nil] at m; have M := Lib.hid m; clear m)
      )
    go_ret2
    simp only [agedRes, if_neg HD.out]
    exact ⟨none, 0, rfl, Nat.le_refl _, (M.out.take 0).nilrow _ _⟩
set_option maxRecDepth 100000 in
set_option maxHeartbeats 2000000 in
theorem spec_AgeScares_any (F : Fld) (hF : F.ok) (A : Option Addr) (n : Nat) (xs : List Scarecrow) (hx : ∀ x ∈ xs, x.ok) (hl : xs.length ≤ 1048576) (hc : xs.length ≤ n) (hn : n ≤ 9223372036854775807) (hA : A = none → n = 0) (d : Int) (w : World) (hs : Sl w 3 A xs.length (flat Scarecrow.vals xs)) :
    Calls Tryz.prog 18 #[.agg F.cells, .slice A xs.length n, .int .i64 d] w (RetRowC w 60 3 (agedRes F xs d).length (flat Scarecrow.vals (agedRes F xs d)) (scCode F xs (inB d 0 1000))) := by
  have M := Lib.hid (Mem.start w)
  have HX := Lib.hid hx
  have HS := Lib.hid hs
  have HF := Lib.hid hF
  have S1 := Lib.hid (Fld.size hF.toLen)
  have hm : xs.length ≤ 9223372036854775807 := by omega
  clear hx hs hF
  by_cases hd : scCode F xs (inB d 0 1000) = 0
  · obtain ⟨h1, h2, h3⟩ := scCode_0 hd
    have HP := Lib.hid (scOk_plain h2)
    have HD := Lib.hid hd
    have hd2 := inB_iff.1 h3
    obtain ⟨d0, d1⟩ := hd2
    have hdd : (scCode F xs (inB d 0 1000) != 0) = false := by simp [hd]
    clear h1 h2 h3 hd
    go_enter Tryz.func18, Tryz.ntmps18
    go_wp2_with (first
      | ((with_reducible refine gate_dst (N := 3) rfl ?_); go_must (refine M.out.ev_new rfl (by first | (go_simp; done) | (go_simp; rfl)) ?_); intro g3 w3 m; simp only [List.cons_append, List.nil_append] at m; have M := Lib.hid m; clear m)
      | (go_at_call 61; go_must (refine (l00In_any _ _ _ _).mono ?_); rintro e w_ ⟨rfl, rfl⟩)
      | (go_at_call 49; go_must (refine (l03Asked_any _ F HF.out A n xs HX.out hm (inB d 0 1000) _ (M.out.blk 0 rfl) (M.out.sl HS.out)).mono ?_); rintro e w_ ⟨rfl, N_⟩; have m := M.out.join N_; clear N_; simp only [List.cons_append, List.nil_append, List.append_nil] at m; have M := Lib.hid m; clear m)
      | (go_at_call 62; go_must (refine (l03Older_any A n xs HP.out hl hc hA d d0 d1 _ (M.out.sl HS.out)).mono ?_); rintro e w_ ⟨A_, c_, rfl, hc_, N_⟩; have m := M.out.join N_; clear N_; simp only [List.cons_append, List.nil_append, List.append_nil] at m; have M := Lib.hid m; clear m)
      )
    go_ret2
    have m := M.out.only [1] (K := [_]) rfl (by decide)
    simp only [agedRes, HD.out, if_true, List.length_map]
    exact ⟨A_, c_, rfl, hc_, m⟩
  · have HD := Lib.hid hd
    have hdd : (scCode F xs (inB d 0 1000) != 0) = true := by simp [hd]
    clear hd
    go_enter Tryz.func18, Tryz.ntmps18
    go_wp2_with (first
      | ((with_reducible refine gate_dst (N := 3) rfl ?_); go_must (refine M.out.ev_new rfl (by first | (go_simp; done) | (go_simp; rfl)) ?_); intro g3 w3 m; simp only [List.cons_append, List.nil_append] at m; have M := Lib.hid m; clear m)
      | (go_at_call 61; go_must (refine (l00In_any _ _ _ _).mono ?_); rintro e w_ ⟨rfl, rfl⟩)
      | (go_at_call 49; go_must (refine (l03Asked_any _ F HF.out A n xs HX.out hm (inB d 0 1000) _ (M.out.blk 0 rfl) (M.out.sl HS.out)).mono ?_); rintro e w_ ⟨rfl, N_⟩; have m := M.out.join N_; clear N_; simp only [List.cons_append, List.nil_append, List.append_nil] at m; have M := Lib.hid m; clear m)
      | ((with_reducible refine gate_dst (N := 15) rfl ?_); go_must (refine M.out.ev_bs0 elem_Scarecrow rfl rfl ?_); intro g15 w15 m; simp only [List.cons_append, List.nil_append] at m; have M := Lib.hid m; clear m)
      )
    go_ret2
    have m := M.out.only [1] (K := [_]) rfl (by decide)
    simp only [agedRes, if_neg HD.out]
    exact ⟨_, 0, rfl, Nat.le_refl _, m⟩
end Go.Proofs.YtoacnfofijikmaaGreatDoor
namespace Go.Proofs.YtoacnfofijikmaaGreatDoor
set_option linter.unusedSimpArgs false
set_option linter.unusedVariables false
open Go.RowKit
attribute [local go_sem] cell?_mk frozen?_mk

theorem wrapd (k : Nat) (h : k ≤ 100) : IntKind.i64.wrap ((k : Int) + 1) = (k : Int) + 1 := IntWalk.i64_in _ (by omega)
def agedAll (xs : List Scarecrow) (d : Nat) : List Scarecrow := xs.map (Scarecrow.older d)
def safeOn (xs : List Scarecrow) (c least : Int) (d : Nat) : Bool := decide (least ≤ fearAt (agedAll xs d) c)
/-- The first number for which something is no longer so. -/
def firstNot (p : Nat → Bool) : Nat → Nat
  | 0 => 0
  | n + 1 => if p 0 then firstNot (fun i => p (i + 1)) n + 1 else 0
theorem firstNot_eq : ∀ (n d : Nat) (p : Nat → Bool), d < n → (∀ j, j < d → p j = true) → p d = false → firstNot p n = d
  | 0, d, p, h, _, _ => by omega
  | n + 1, 0, p, _, _, hd => by simp [firstNot, hd]
  | n + 1, d + 1, p, h, hj, hd => by
    rw [firstNot, hj 0 (by omega), if_pos rfl, firstNot_eq n d (fun i => p (i + 1)) (by omega) (fun j h => hj (j + 1) (by omega)) hd]
def daysOf (xs : List Scarecrow) (c least : Int) : Nat := firstNot (safeOn xs c least) 40
theorem old_fear {x : Scarecrow} (hx : x.plain = true) (h30 : x.age = 30) (c : Int) : x.fear c = 0 := by
  obtain ⟨_, ⟨b0, b1⟩, _⟩ := Scarecrow.plain_iff.1 hx
  have : x.power / 2 ^ (x.age / 3).toNat = 0 := by
    rw [h30]
    show x.power / 1024 = 0
    omega
  rw [Scarecrow.fear, this]
  simp
theorem fearAt_zero {xs : List Scarecrow} {c : Int} (h : ∀ x ∈ xs, x.fear c = 0) : fearAt xs c = 0 := by
  have key : ∀ (xs : List Scarecrow), (∀ x ∈ xs, x.fear c = 0) → xs.foldl (fun m x => big m (x.fear c)) 0 = 0 := by
    intro xs
    induction xs with
    | nil => intro _; rfl
    | cons x r ih =>
      intro h
      rw [List.foldl_cons, h x (by simp)]
      exact ih (fun y hy => h y (by simp [hy]))
  exact key xs h
theorem safe_end {xs : List Scarecrow} (hx : ∀ x ∈ xs, x.plain = true) {c least : Int} (hl : 1 ≤ least) {d : Nat} (hd : 30 ≤ d) : safeOn xs c least d = false := by
  have : fearAt (agedAll xs d) c = 0 := fearAt_zero fun y hy => by
    obtain ⟨x, hm, rfl⟩ := List.mem_map.1 hy
    have hp := hx x hm
    obtain ⟨_, _, a0, _⟩ := Scarecrow.plain_iff.1 hp
    refine old_fear (Scarecrow.older_plain hp (by omega)) ?_ c
    show min 30 (x.age + d) = 30
    omega
  simp only [safeOn, this, decide_eq_false_iff_not]
  omega
theorem agedAll_plain {xs : List Scarecrow} (hx : ∀ x ∈ xs, x.plain = true) (d : Nat) : ∀ x ∈ agedAll xs d, x.plain = true := fun y hy => by
  obtain ⟨x, hm, rfl⟩ := List.mem_map.1 hy
  exact Scarecrow.older_plain (hx x hm) (by omega)
theorem agedAll_len (xs : List Scarecrow) (d : Nat) : (agedAll xs d).length = xs.length := by simp [agedAll]

set_option maxRecDepth 100000 in
set_option maxHeartbeats 1000000 in
theorem daysSafe_any (A : Option Addr) (n : Nat) (xs : List Scarecrow) (hx : ∀ x ∈ xs, x.plain = true) (hl : xs.length ≤ 1048576) (hc : xs.length ≤ n) (hA : A = none → n = 0) (c least : Int) (c0 : 0 ≤ c) (c1 : c ≤ 99) (l0 : 1 ≤ least) (w : World) (hs : Sl w 3 A xs.length (flat Scarecrow.vals xs)) :
    Calls Tryz.prog 69 #[.slice A xs.length n, .int .i64 c, .int .i64 least] w fun e w' => e = .returned (.int .i64 (daysOf xs c least)) ∧ Mem w w' [] := by
  have M := Lib.hid (Mem.start w)
  have HX := Lib.hid hx
  have HS := Lib.hid hs
  clear hs hx
  go_enter Tryz.func69, Tryz.ntmps69
  go_wp2
  go_loopw [7] (fun v wr => ∃ k : Nat, k ≤ 30 ∧ v = .int .i64 k ∧ (∀ j, j < k → safeOn xs c least j = true) ∧ Mem w wr [])
    (fun v _ => 40 - (intOf v).toNat)
  case atStart => exact ⟨0, by omega, rfl, fun j hj => by omega, M.out⟩
  case round =>
    clear M
    obtain ⟨k, hk, rfl, he, m⟩ := hrel
    have M := Lib.hid m
    have HE := Lib.hid he
    clear m he
    have PL := Lib.hid (agedAll_plain HX.out k)
    have e1 := wrapd k (by omega)
    have AG := Lib.hid (fun w hs => aged_any A n xs HX.out hl hc hA k (by omega) (by omega) w hs)
    have FO := Lib.hid (fun B m w hs => fearOf_any B m (agedAll xs k) PL.out (by rw [agedAll_len]; exact hl) c c0 c1 w hs)
    rw [agedAll_len] at FO
    cases hp : safeOn xs c least k
    · have HP := Lib.hid hp
      have hq : ¬ least ≤ fearAt (agedAll xs k) c := by simpa [safeOn] using hp
      have hd := firstNot_eq 40 k _ (by omega) HE.out hp
      clear hp
      go_wp2_with (first
        | (go_at_call 60; go_must (refine (AG.out _ (M.out.sl HS.out)).mono ?_); rintro e w_ ⟨A_, c_, rfl, hc_, N_⟩; have m := M.out.join N_; clear N_; simp only [List.cons_append, List.nil_append, List.append_nil] at m; have M := Lib.hid m; clear m)
        | (go_at_call 48; go_must (refine (FO.out _ _ _ (M.out.slof 0 rfl)).mono ?_); rintro e w_ ⟨rfl, N_⟩; have m := M.out.join N_; clear N_; simp only [List.cons_append, List.nil_append, List.append_nil] at m; have M := Lib.hid m; clear m)
        )
      go_ret
      exact ⟨ret_int (by rw [daysOf, hd]), M.out.take 0⟩
    · have HP := Lib.hid hp
      have hq : least ≤ fearAt (agedAll xs k) c := by simpa [safeOn] using hp
      have hk2 : k < 30 := by
        rcases Nat.lt_or_ge k 30 with h | h
        · exact h
        · rw [safe_end HX.out l0 h] at hp; cases hp
      clear hp
      go_wp2_with (first
        | (go_at_call 60; go_must (refine (AG.out _ (M.out.sl HS.out)).mono ?_); rintro e w_ ⟨A_, c_, rfl, hc_, N_⟩; have m := M.out.join N_; clear N_; simp only [List.cons_append, List.nil_append, List.append_nil] at m; have M := Lib.hid m; clear m)
        | (go_at_call 48; go_must (refine (FO.out _ _ _ (M.out.slof 0 rfl)).mono ?_); rintro e w_ ⟨rfl, N_⟩; have m := M.out.join N_; clear N_; simp only [List.cons_append, List.nil_append, List.append_nil] at m; have M := Lib.hid m; clear m)
        )
      exact ⟨⟨k + 1, by omega, by go_num, all_succ HE.out HP.out, M.out.take 0⟩, by simp [intOf]; omega⟩
set_option maxRecDepth 100000 in
set_option maxHeartbeats 1000000 in
theorem l03Days_any (A : Option Addr) (n : Nat) (xs : List Scarecrow) (hx : ∀ x ∈ xs, x.plain = true) (hl : xs.length ≤ 1048576) (hc : xs.length ≤ n) (hA : A = none → n = 0) (c least : Int) (c0 : 0 ≤ c) (c1 : c ≤ 99) (l0 : 1 ≤ least) (w : World) (hs : Sl w 3 A xs.length (flat Scarecrow.vals xs)) :
    Calls Tryz.prog 70 #[.slice A xs.length n, .int .i64 c, .int .i64 least] w fun e w' => e = .returned (.int .i64 (daysOf xs c least)) ∧ Mem w w' [] := by
  have M := Lib.hid (Mem.start w)
  have HX := Lib.hid hx
  have HS := Lib.hid hs
  clear hs hx
  go_enter Tryz.func70, Tryz.ntmps70
  go_wp2
  go_loopw [7] (fun v wr => ∃ k : Nat, k ≤ 30 ∧ v = .int .i64 k ∧ (∀ j, j < k → safeOn xs c least j = true) ∧ Mem w wr [])
    (fun v _ => 40 - (intOf v).toNat)
  case atStart => exact ⟨0, by omega, rfl, fun j hj => by omega, M.out⟩
  case round =>
    clear M
    obtain ⟨k, hk, rfl, he, m⟩ := hrel
    have M := Lib.hid m
    have HE := Lib.hid he
    clear m he
    have PL := Lib.hid (agedAll_plain HX.out k)
    have e1 := wrapd k (by omega)
    have AG := Lib.hid (fun w hs => l03Older_any A n xs HX.out hl hc hA k (by omega) (by omega) w hs)
    have FO := Lib.hid (fun B m w hs => l03Fear_any B m (agedAll xs k) PL.out (by rw [agedAll_len]; exact hl) c c0 c1 w hs)
    rw [agedAll_len] at FO
    cases hp : safeOn xs c least k
    · have HP := Lib.hid hp
      have hq : ¬ least ≤ fearAt (agedAll xs k) c := by simpa [safeOn] using hp
      have hd := firstNot_eq 40 k _ (by omega) HE.out hp
      clear hp
      go_wp2_with (first
        | (go_at_call 62; go_must (refine (AG.out _ (M.out.sl HS.out)).mono ?_); rintro e w_ ⟨A_, c_, rfl, hc_, N_⟩; have m := M.out.join N_; clear N_; simp only [List.cons_append, List.nil_append, List.append_nil] at m; have M := Lib.hid m; clear m)
        | (go_at_call 51; go_must (refine (FO.out _ _ _ (M.out.slof 0 rfl)).mono ?_); rintro e w_ ⟨rfl, N_⟩; have m := M.out.join N_; clear N_; simp only [List.cons_append, List.nil_append, List.append_nil] at m; have M := Lib.hid m; clear m)
        )
      go_ret
      exact ⟨ret_int (by rw [daysOf, hd]), M.out.take 0⟩
    · have HP := Lib.hid hp
      have hq : least ≤ fearAt (agedAll xs k) c := by simpa [safeOn] using hp
      have hk2 : k < 30 := by
        rcases Nat.lt_or_ge k 30 with h | h
        · exact h
        · rw [safe_end HX.out l0 h] at hp; cases hp
      clear hp
      go_wp2_with (first
        | (go_at_call 62; go_must (refine (AG.out _ (M.out.sl HS.out)).mono ?_); rintro e w_ ⟨A_, c_, rfl, hc_, N_⟩; have m := M.out.join N_; clear N_; simp only [List.cons_append, List.nil_append, List.append_nil] at m; have M := Lib.hid m; clear m)
        | (go_at_call 51; go_must (refine (FO.out _ _ _ (M.out.slof 0 rfl)).mono ?_); rintro e w_ ⟨rfl, N_⟩; have m := M.out.join N_; clear N_; simp only [List.cons_append, List.nil_append, List.append_nil] at m; have M := Lib.hid m; clear m)
        )
      exact ⟨⟨k + 1, by omega, by go_num, all_succ HE.out HP.out, M.out.take 0⟩, by simp [intOf]; omega⟩
set_option maxRecDepth 100000 in
set_option maxHeartbeats 1000000 in
theorem l03Power_any (n : Int) (w : World) :
    Calls Tryz.prog 56 #[.int .i64 n] w fun e w' => e = .returned (.bool (inB n 1 1000)) ∧ w = w' := by
  go_enter Tryz.func56, Tryz.ntmps56
  go_wp2_with (first
    | (go_at_call 61; go_must (refine (l00In_any _ _ _ _).mono ?_); rintro e w_ ⟨rfl, rfl⟩)
    )
  go_ret
  exact ⟨rfl, rfl⟩
end Go.Proofs.YtoacnfofijikmaaGreatDoor
namespace Go.Proofs.YtoacnfofijikmaaGreatDoor
set_option linter.unusedSimpArgs false
set_option linter.unusedVariables false
open Go.RowKit

theorem half_le {p : Int} (h : 0 ≤ p) (m : Nat) : p / 2 ^ (m + 1) ≤ p / 2 ^ m := by
  have hp : (0 : Int) < 2 ^ m := Int.pow_pos (by decide)
  have h0 : 0 ≤ p / 2 ^ m := Int.ediv_nonneg h (Int.le_of_lt hp)
  rw [Int.pow_succ, ← Int.ediv_ediv_of_nonneg (Int.le_of_lt hp)]
  omega
theorem pow_le {p : Int} (h : 0 ≤ p) {m n : Nat} (hmn : m ≤ n) : p / 2 ^ n ≤ p / 2 ^ m := by
  induction n with
  | zero =>
    have : m = 0 := by omega
    rw [this]
    exact Int.le_refl _
  | succ n ih =>
    by_cases e : m = n + 1
    · rw [e]; exact Int.le_refl _
    · exact Int.le_trans (half_le h n) (ih (by omega))
theorem fear_older {x : Scarecrow} (hx : x.plain = true) {c : Int} (c0 : 0 ≤ c) (c1 : c ≤ 99) {d e : Int} (h0 : 0 ≤ d) (h : d ≤ e) : (x.older e).fear c ≤ (x.older d).fear c := by
  obtain ⟨⟨a0, a1⟩, ⟨b0, b1⟩, e0, e1⟩ := Scarecrow.plain_iff.1 hx
  have hs := sq_small a0 a1 c0 c1
  unfold Scarecrow.fear Scarecrow.older
  refine Int.ediv_le_ediv (by simp only; omega) (pow_le (by simp only; omega) ?_)
  simp only
  omega
theorem older_0 {x : Scarecrow} (hx : x.plain = true) : x.older 0 = x := by
  obtain ⟨_, _, e0, e1⟩ := Scarecrow.plain_iff.1 hx
  obtain ⟨a, b, g⟩ := x
  unfold Scarecrow.older
  simp only at e0 e1 ⊢
  congr 1
  omega
theorem agedAll_0 {xs : List Scarecrow} (hx : ∀ x ∈ xs, x.plain = true) : agedAll xs 0 = xs := by
  unfold agedAll
  conv => rhs; rw [← List.map_id xs]
  exact List.map_congr_left fun x h => older_0 (hx x h)
theorem big_le {a b c d : Int} (h1 : a ≤ c) (h2 : b ≤ d) : big a b ≤ big c d := by
  unfold big
  split <;> split <;> omega
theorem fold_le {f g : Scarecrow → Int} : ∀ (xs : List Scarecrow) (a b : Int), (∀ x ∈ xs, f x ≤ g x) → a ≤ b → xs.foldl (fun m x => big m (f x)) a ≤ xs.foldl (fun m x => big m (g x)) b
  | [], _, _, _, h => h
  | x :: r, a, b, h, hab => by
    rw [List.foldl_cons, List.foldl_cons]
    exact fold_le r _ _ (fun y hy => h y (List.mem_cons_of_mem _ hy)) (big_le hab (h x (by simp)))
theorem fearAt_aged {xs : List Scarecrow} (hx : ∀ x ∈ xs, x.plain = true) {c : Int} (c0 : 0 ≤ c) (c1 : c ≤ 99) {d e : Nat} (h : d ≤ e) : fearAt (agedAll xs e) c ≤ fearAt (agedAll xs d) c := by
  unfold fearAt agedAll
  rw [List.foldl_map, List.foldl_map]
  exact fold_le xs 0 0 (fun x m => fear_older (hx x m) c0 c1 (by omega) (by omega)) (Int.le_refl _)
theorem firstNot_is : ∀ (n : Nat) (p : Nat → Bool), (∃ d, d < n ∧ p d = false) → firstNot p n < n ∧ (∀ j, j < firstNot p n → p j = true) ∧ p (firstNot p n) = false
  | 0, _, ⟨d, h, _⟩ => by omega
  | n + 1, p, ⟨d, h, hd⟩ => by
    rw [firstNot]
    by_cases h0 : p 0 = true
    · rw [if_pos h0]
      have hd0 : d ≠ 0 := fun e => by rw [e, h0] at hd; cases hd
      obtain ⟨i1, i2, i3⟩ := firstNot_is n (fun i => p (i + 1)) ⟨d - 1, by omega, by rw [show d - 1 + 1 = d by omega]; exact hd⟩
      refine ⟨by omega, fun j hj => ?_, i3⟩
      cases j with
      | zero => exact h0
      | succ j => exact i2 j (by omega)
    · rw [if_neg h0]
      exact ⟨by omega, fun j hj => by omega, by simpa using h0⟩
/-- The days that a cell is safe: on them it is, on the next it is not; no more than scarecrows can age. -/
theorem daysOf_is {xs : List Scarecrow} (hx : ∀ x ∈ xs, x.plain = true) {c least : Int} (hl : 1 ≤ least) : daysOf xs c least ≤ 30 ∧ (∀ j, j < daysOf xs c least → safeOn xs c least j = true) ∧ safeOn xs c least (daysOf xs c least) = false := by
  obtain ⟨a, b, d⟩ := firstNot_is 40 (safeOn xs c least) ⟨30, by decide, safe_end hx hl (Nat.le_refl _)⟩
  refine ⟨?_, b, d⟩
  apply Nat.le_of_not_lt
  intro h
  have := b 30 h
  rw [safe_end hx hl (Nat.le_refl _)] at this
  cases this
/-- A cell that is safe is safe for a day. -/
theorem daysOf_pos {xs : List Scarecrow} (hx : ∀ x ∈ xs, x.plain = true) {c least : Int} (hl : 1 ≤ least) (h : least ≤ fearAt xs c) : 1 ≤ daysOf xs c least := by
  obtain ⟨_, _, d⟩ := daysOf_is (c := c) hx hl
  apply Nat.le_of_not_lt
  intro h0
  have e : daysOf xs c least = 0 := by omega
  rw [e] at d
  simp only [safeOn, agedAll_0 hx, decide_eq_false_iff_not] at d
  exact d h
theorem fearAt_more (xs : List Scarecrow) (x : Scarecrow) (c : Int) : fearAt xs c ≤ fearAt (xs ++ [x]) c := by
  rw [fearAt_snoc]
  unfold big
  split <;> omega
theorem fearAt_one {x : Scarecrow} (hx : x.plain = true) {c : Int} (c0 : 0 ≤ c) (c1 : c ≤ 99) : fearAt [x] c = x.fear c := by
  have := fear_small hx c0 c1
  unfold fearAt big
  simp only [List.foldl_cons, List.foldl_nil]
  split <;> omega
/-- The greatest fear that one of them makes alone. -/
theorem fearAt_most {xs : List Scarecrow} (hx : ∀ x ∈ xs, x.plain = true) {c : Int} (c0 : 0 ≤ c) (c1 : c ≤ 99) (k : Nat) (h : k < xs.length) : fearAt (xs.take (k + 1)) c = max (fearAt (xs.take k) c) (fearAt [xs[k]] c) := by
  rw [List.take_succ_eq_append_getElem h, fearAt_snoc, fearAt_one (hx _ (List.getElem_mem h)) c0 c1]
  unfold big
  split <;> omega
end Go.Proofs.YtoacnfofijikmaaGreatDoor
namespace Go.Proofs.YtoacnfofijikmaaGreatDoor
set_option linter.unusedSimpArgs false
set_option linter.unusedVariables false
open Go.RowKit
attribute [local go_sem] cell?_mk frozen?_mk

theorem elem_int64 : ElemOk Tryz.prog 53 2 (.int .i64 0) 1 8 := ⟨by kernel_rfl, by kernel_rfl, by kernel_rfl, by decide⟩
def nat64 (k : Nat) : Value := .int .i64 k
def one64 (k : Nat) : List Value := [nat64 k]
theorem flat_one64 (ks : List Nat) : flat one64 ks = ks.map nat64 := by
  induction ks with
  | nil => rfl
  | cons k r ih => show one64 k ++ flat one64 r = _; rw [ih]; rfl
theorem one64_len (k : Nat) : (one64 k).length = 1 := rfl
/-- The cells of a field below a number. -/
def Fld.below (F : Fld) (n : Nat) : List Nat := (List.range n).filter fun (k : Nat) => F.has k
def Fld.all (F : Fld) : List Nat := F.below 100
theorem Fld.below_succ (F : Fld) (n : Nat) : F.below (n + 1) = F.below n ++ if F.has n then [n] else [] := by
  simp only [Fld.below, List.range_succ, List.filter_append]
  congr 1
  cases h : F.has n <;> simp [h]
theorem Fld.below_len (F : Fld) (n : Nat) : (F.below n).length ≤ n := by
  have := List.length_filter_le (fun (k : Nat) => F.has k) (List.range n)
  rwa [List.length_range] at this
theorem Fld.all_has {F : Fld} {k : Nat} (h : k ∈ F.all) : k < 100 ∧ F.has k = true := by
  simpa [Fld.all, Fld.below] using h

set_option maxRecDepth 100000 in
set_option maxHeartbeats 1000000 in
theorem cells_any (g : Nat) {t : TypeId} (F : Fld) (hF : F.ok) (w : World) (hb : Blk w g t F.cells) :
    Calls Tryz.prog 52 #[.pointer (some ⟨g, 0, none⟩)] w (RetRow w 2 1 F.all.length (flat one64 F.all)) := by
  have M := Lib.hid (Mem.start w)
  have HB := Lib.hid hb
  have HF := Lib.hid hF
  clear hb hF
  go_enter Tryz.func52, Tryz.ntmps52
  go_wp2_with (first
    | ((with_reducible refine gate_dst (N := 5) rfl ?_); go_must (refine M.out.ev_bs0 elem_int64 rfl rfl ?_); intro g5 w5 m; simp only [List.nil_append] at m; have M := Lib.hid m; clear m)
    )
  go_loopw [3, 6] (fun s v wr => ∃ k : Nat, k ≤ 100 ∧ v = .int .i64 k ∧ Mem w wr [.row s 2 1 (F.below k).length (flat one64 (F.below k))])
    (fun _ v _ => 100 - (intOf v).toNat)
  case atStart => exact ⟨0, by omega, rfl, M.out⟩
  case round =>
    clear M
    obtain ⟨k, hk, rfl, m⟩ := hrel
    have M := Lib.hid m
    clear m
    by_cases hlt : k < 100
    · have hkl := F.below_len k
      cases hq : F.has k
      · have HQ := Lib.hid hq
        clear hq
        go_wp2_with (first
          | (go_at_call 47; go_must (refine (has_any g F HF.out _ _ (M.out.arg HB.out)).mono ?_); rintro e w_ ⟨rfl, rfl⟩; rw [HQ.out])
          )
        refine ⟨⟨k + 1, by omega, by go_num, ?_⟩, by simp [intOf]; omega⟩
        rw [F.below_succ, HQ.out]
        simpa using M.out
      · have HQ := Lib.hid hq
        clear hq
        go_wp2_with (first
          | (go_at_call 47; go_must (refine (has_any g F HF.out _ _ (M.out.arg HB.out)).mono ?_); rintro e w_ ⟨rfl, rfl⟩; rw [HQ.out])
          | ((with_reducible refine gate_dst (N := 14) rfl ?_); go_must (refine M.out.ev_bs1 elem_int64 rfl _ rfl #[.int .i64 k] rfl rfl (by decide) ?_); intro g14 w14 m; simp only [List.cons_append, List.nil_append] at m; have M := Lib.hid m; clear m)
          | ((with_reducible refine gate_dst (N := 15) rfl ?_); go_must (refine M.out.ev_append1 0 1 elem_int64 rfl _ _ rfl rfl rfl rfl rfl rfl (by simp [Value.oneCell']) (by omega) (by decide) ?_); intro v15 w15 m; simp only [List.set_cons_zero] at m; have M := Lib.hid m; clear m)
          )
        refine ⟨⟨k + 1, by omega, by go_num, ?_⟩, by simp [intOf]; omega⟩
        have m := M.out.take 1
        rw [F.below_succ, HQ.out]
        simpa [flat_append, flat, one64, nat64] using m
    · obtain rfl : k = 100 := by omega
      go_wp2
      have hrow := M.out.row_slice 0 rfl
      obtain ⟨A, c, rfl, hc, _⟩ := hrow
      go_ret
      exact ⟨A, c, rfl, hc, M.out⟩
end Go.Proofs.YtoacnfofijikmaaGreatDoor
namespace Go.Proofs.YtoacnfofijikmaaGreatDoor
set_option linter.unusedSimpArgs false
set_option linter.unusedVariables false
open Go.RowKit

/-- A value that points to a variable of a type, and what lies there. -/
def Var (P : Program) (w : World) (ty : TypeId) (v : Value) (cs : Array Value) : Prop :=
  ∃ g, v = .pointer (some ⟨g, 0, none⟩) ∧ (loadVar ty ⟨g, 0, none⟩).run P w = .ok (.agg cs) w
theorem Blk.var {P : Program} {w : World} {g : Nat} {t : TypeId} {cs : Array Value} (hb : Blk w g t cs) {ty : TypeId} {d : TypeDesc} (hu : P.underlying ty = some d) (hd : (match d with | .struct _ | .array _ _ => true | _ => false) = true)
    (hi : (P.info? ty).map (·.size) = some cs.size) : Var P w ty (.pointer (some ⟨g, 0, none⟩)) cs := ⟨g, rfl, run_loadVar_row w g t ty cs (0, 0) d hb hu hd hi⟩
section
variable {P : Program} {fn : Func} {R : Ending → World → Prop} {tmps : Array Value} {w : World} {p q u x : Tmp} {ty ty' : TypeId} {cs cs' : Array Value}
theorem ret_ct (hr : fn.results = #[.cell p ty, .tmp u]) (hp : Var P w ty (tmps.getD p undef) cs) (h : R (.returned (.tuple #[.agg cs, tmps.getD u undef])) w) : bodyPost P fn R .ret { tmps := tmps, defers := [] } w := by
  obtain ⟨g, h1, h2⟩ := hp
  have h1' : tmps[p]?.getD undef = .pointer (some ⟨g, 0, none⟩) := by simpa using h1
  refine bodyPost_ret (v := .tuple #[.agg cs, tmps.getD u undef]) ?_ rfl h
  simp [results, hr, h1', asAddr, h2]
end
end Go.Proofs.YtoacnfofijikmaaGreatDoor
