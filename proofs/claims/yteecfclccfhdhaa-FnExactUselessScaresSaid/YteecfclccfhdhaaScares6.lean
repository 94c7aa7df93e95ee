/- The codes of the reference; the fear of a cell: the walks of both and of the law. -/
import Derived.Test.YteecfclccfhdhaaScares5
namespace Go.Proofs.Yteecfclccfhdhaa
set_option linter.unusedSimpArgs false
set_option linter.unusedVariables false
open Go.RowKit
attribute [local go_sem] cell?_mk frozen?_mk

theorem Mem.row_cap {w0 w : World} {L : List Ent} (M : Mem w0 w L) (i : Nat) {A : Option Addr} {m c : Nat} {e : TypeId} {sz n : Nat} {cs : List Value} (h : L[i]? = some (.row (.slice A m c) e sz n cs)) : c ≤ 9223372036854775807 := by
  obtain ⟨A', c', he, _, hm⟩ := M.row_slice i h
  injection he with _ _ he
  unfold maxLen at hm
  omega
theorem scCode_0 {F : Fld} {xs : List Scarecrow} {p : Bool} (h : scCode F xs p = 0) : F.valid = true ∧ scOk F xs = true ∧ p = true := by
  unfold scCode at h
  split at h
  · simp at h
  · rename_i h1
    split at h
    · simp at h
    · rename_i h2
      simp only [Bool.not_eq_false, Bool.and_eq_true] at h1 h2
      exact ⟨h1.1, h1.2, h2⟩
set_option maxRecDepth 100000 in
set_option maxHeartbeats 2000000 in
theorem l03Asked_any (g : Nat) {t : TypeId} (F : Fld) (hF : F.ok) (A : Option Addr) (n : Nat) (xs : List Scarecrow) (hx : ∀ x ∈ xs, x.ok) (hn : xs.length ≤ 9223372036854775807) (p : Bool) (w : World) (hb : Blk w g t F.cells) (hs : Sl w 3 A xs.length (flat Scarecrow.vals xs)) :
    Calls Try.prog 57 #[.pointer (some ⟨g, 0, none⟩), .slice A xs.length n, .bool p] w fun e w' => e = .returned (.int .i64 (scCode F xs p)) ∧ Mem w w' [] := by
  have M := Lib.hid (Mem.start w)
  have HX := Lib.hid hx
  have HS := Lib.hid hs
  have HB := Lib.hid hb
  clear hs hx hb
  cases hv : (F.valid && scOk F xs) <;> cases p <;>
  · have HV := Lib.hid hv
    clear hv
    go_enter Try.func57, Try.ntmps57
    go_wp2_with (first
      | (go_at_call 112; go_must (refine (l03Ok_any g F hF A n xs HX.out hn _ (M.out.arg HB.out) (M.out.sl HS.out)).mono ?_); rintro e w_ ⟨rfl, N_⟩; have m := M.out.join N_; clear N_; simp only [List.cons_append, List.nil_append, List.append_nil] at m; have M := Lib.hid m; clear m; rw [HV.out])
      )
    go_ret
    exact ⟨ret_int (by simp [scCode, HV.out]), M.out.take 0⟩

/-- The fear of a cell, and the code. -/
def fearRes (F : Fld) (xs : List Scarecrow) (c : Int) : Int × Int := if scCode F xs (F.has c) = 0 then (fearAt xs c, 0) else (0, scCode F xs (F.has c))
set_option maxRecDepth 100000 in
set_option maxHeartbeats 1000000 in
theorem fearIs_any (g h : Nat) {t t' : TypeId} (F : Fld) (hF : F.ok) (c : Int) (w : World) (hb : Blk w g t F.cells) (hc : Blk w h t' #[.int .i64 c]) :
    Calls Try.prog 64 #[.pointer (some ⟨g, 0, none⟩), .pointer (some ⟨h, 0, none⟩)] w fun e w' => e = .returned (.bool (F.has c)) ∧ Mem w w' [] := by
  have M := Lib.hid (Mem.start w)
  have HB := Lib.hid hb
  have hc0 := hc.cellv (i := 0) rfl
  clear hb hc
  go_enter Try.func64, Try.ntmps64
  go_wp2_with (first
    | (go_at_call 65; go_must (refine (has_any g F hF c _ HB.out).mono ?_); rintro e w_ ⟨rfl, rfl⟩)
    )
  go_ret
  exact ⟨rfl, M.out⟩
set_option maxRecDepth 100000 in
set_option maxHeartbeats 2000000 in
theorem impl_fear_any (F : Fld) (hF : F.ok) (A : Option Addr) (n : Nat) (xs : List Scarecrow) (hx : ∀ x ∈ xs, x.ok) (hl : xs.length ≤ 1048576) (hc : xs.length ≤ n) (hn : n ≤ 9223372036854775807) (c : Int) (w : World) (hs : Sl w 3 A xs.length (flat Scarecrow.vals xs)) :
    Calls Try.prog 18 #[.agg F.cells, .slice A xs.length n, .int .i64 c] w fun e w' =>
      e = .returned (.tuple #[.int .i64 (fearRes F xs c).1, .int .i64 (fearRes F xs c).2]) ∧ Mem w w' [] := by
  have M := Lib.hid (Mem.start w)
  have HX := Lib.hid hx
  have HS := Lib.hid hs
  have HF := Lib.hid hF
  have S1 := Lib.hid (Fld.size hF.toLen)
  clear hx hs hF
  by_cases hd : scCode F xs (F.has c) = 0
  · obtain ⟨h1, h2, h3⟩ := scCode_0 hd
    have HP := Lib.hid (scOk_plain h2)
    have HC := Lib.hid (Fld.has_iff.1 h3).1
    have HD := Lib.hid hd
    have hdd : (scCode F xs (F.has c) != 0) = false := by simp [hd]
    clear h1 h2 h3 hd
    go_enter Try.func18, Try.ntmps18
    go_wp2_with (first
      | ((with_reducible refine gate_dst (N := 3) rfl ?_); go_must (refine M.out.ev_new rfl (by first | (go_simp; done) | (go_simp; rfl)) ?_); intro g3 w3 m; simp only [List.cons_append, List.nil_append] at m; have M := Lib.hid m; clear m)
      | ((with_reducible refine gate_dst (N := 5) rfl ?_); go_must (refine M.out.ev_new rfl (by first | (go_simp; done) | (go_simp; rfl)) ?_); intro g5 w5 m; simp only [List.cons_append, List.nil_append] at m; have M := Lib.hid m; clear m)
      | ((with_reducible refine gate_dst (N := 16) rfl ?_); go_must (refine M.out.ev_ld 1 _ _ rfl rfl rfl Try.underlying2 rfl rfl (by first | assumption | rfl) ?_))
      | (go_at_call 63; go_must (refine (scaresCode_any _ F HF.out A n xs HX.out hc hn 64 _ (F.has c) _ (M.out.blk 0 rfl) (M.out.sl HS.out) (fun _ _ => by go_simp) (fun _ w1 m1 => fearIs_any _ _ F HF.out c w1 ((M.out.join m1).blk 0 rfl) ((M.out.join m1).blk 1 rfl))).mono ?_); rintro e w_ ⟨rfl, N_⟩; have m := M.out.join N_; clear N_; simp only [List.cons_append, List.nil_append, List.append_nil] at m; have M := Lib.hid m; clear m; have x1 := M.out.cell (j := 0) (v := .int .i64 c) 1 rfl rfl)
      | (go_at_call 66; go_must (refine (fearOf_any A n xs HP.out hl c HC.out.1 HC.out.2 _ (M.out.sl HS.out)).mono ?_); rintro e w_ ⟨rfl, N_⟩; have m := M.out.join N_; clear N_; simp only [List.cons_append, List.nil_append, List.append_nil] at m; have M := Lib.hid m; clear m)
      )
    go_ret2
    refine ⟨?_, M.out.take 0⟩
    simp only [fearRes, HD.out]
    rfl
  · have HD := Lib.hid hd
    have hdd : (scCode F xs (F.has c) != 0) = true := by simp [hd]
    clear hd
    go_enter Try.func18, Try.ntmps18
    go_wp2_with (first
      | ((with_reducible refine gate_dst (N := 3) rfl ?_); go_must (refine M.out.ev_new rfl (by first | (go_simp; done) | (go_simp; rfl)) ?_); intro g3 w3 m; simp only [List.cons_append, List.nil_append] at m; have M := Lib.hid m; clear m)
      | ((with_reducible refine gate_dst (N := 5) rfl ?_); go_must (refine M.out.ev_new rfl (by first | (go_simp; done) | (go_simp; rfl)) ?_); intro g5 w5 m; simp only [List.cons_append, List.nil_append] at m; have M := Lib.hid m; clear m)
      | ((with_reducible refine gate_dst (N := 16) rfl ?_); go_must (refine M.out.ev_ld 1 _ _ rfl rfl rfl Try.underlying2 rfl rfl (by first | assumption | rfl) ?_))
      | (go_at_call 63; go_must (refine (scaresCode_any _ F HF.out A n xs HX.out hc hn 64 _ (F.has c) _ (M.out.blk 0 rfl) (M.out.sl HS.out) (fun _ _ => by go_simp) (fun _ w1 m1 => fearIs_any _ _ F HF.out c w1 ((M.out.join m1).blk 0 rfl) ((M.out.join m1).blk 1 rfl))).mono ?_); rintro e w_ ⟨rfl, N_⟩; have m := M.out.join N_; clear N_; simp only [List.cons_append, List.nil_append, List.append_nil] at m; have M := Lib.hid m; clear m; have x1 := M.out.cell (j := 0) (v := .int .i64 c) 1 rfl rfl)
      )
    go_ret2
    refine ⟨?_, M.out.take 0⟩
    simp only [fearRes, if_neg HD.out]
    rfl
set_option maxRecDepth 100000 in
set_option maxHeartbeats 2000000 in
theorem spec_fear_any (F : Fld) (hF : F.ok) (A : Option Addr) (n : Nat) (xs : List Scarecrow) (hx : ∀ x ∈ xs, x.ok) (hl : xs.length ≤ 1048576) (c : Int) (w : World) (hs : Sl w 3 A xs.length (flat Scarecrow.vals xs)) :
    Calls Try.prog 15 #[.agg F.cells, .slice A xs.length n, .int .i64 c] w fun e w' =>
      e = .returned (.tuple #[.int .i64 (fearRes F xs c).1, .int .i64 (fearRes F xs c).2]) ∧ Mem w w' [] := by
  have M := Lib.hid (Mem.start w)
  have HX := Lib.hid hx
  have HS := Lib.hid hs
  have HF := Lib.hid hF
  have S1 := Lib.hid (Fld.size hF.toLen)
  have hm : xs.length ≤ 9223372036854775807 := by omega
  clear hx hs hF
  by_cases hd : scCode F xs (F.has c) = 0
  · obtain ⟨h1, h2, h3⟩ := scCode_0 hd
    have HP := Lib.hid (scOk_plain h2)
    have HC := Lib.hid (Fld.has_iff.1 h3).1
    have HD := Lib.hid hd
    have hdd : (scCode F xs (F.has c) != 0) = false := by simp [hd]
    clear h1 h2 h3 hd
    go_enter Try.func15, Try.ntmps15
    go_wp2_with (first
      | ((with_reducible refine gate_dst (N := 3) rfl ?_); go_must (refine M.out.ev_new rfl (by first | (go_simp; done) | (go_simp; rfl)) ?_); intro g3 w3 m; simp only [List.cons_append, List.nil_append] at m; have M := Lib.hid m; clear m)
      | (go_at_call 58; go_must (refine (l01Is_any _ F HF.out c _ (M.out.blk 0 rfl)).mono ?_); rintro e w_ ⟨rfl, rfl⟩)
      | (go_at_call 57; go_must (refine (l03Asked_any _ F HF.out A n xs HX.out hm (F.has c) _ (M.out.blk 0 rfl) (M.out.sl HS.out)).mono ?_); rintro e w_ ⟨rfl, N_⟩; have m := M.out.join N_; clear N_; simp only [List.cons_append, List.nil_append, List.append_nil] at m; have M := Lib.hid m; clear m)
      | (go_at_call 59; go_must (refine (l03Fear_any A n xs HP.out hl c HC.out.1 HC.out.2 _ (M.out.sl HS.out)).mono ?_); rintro e w_ ⟨rfl, N_⟩; have m := M.out.join N_; clear N_; simp only [List.cons_append, List.nil_append, List.append_nil] at m; have M := Lib.hid m; clear m)
      )
    go_ret2
    refine ⟨?_, M.out.take 0⟩
    simp only [fearRes, HD.out]
    rfl
  · have HD := Lib.hid hd
    have hdd : (scCode F xs (F.has c) != 0) = true := by simp [hd]
    clear hd
    go_enter Try.func15, Try.ntmps15
    go_wp2_with (first
      | ((with_reducible refine gate_dst (N := 3) rfl ?_); go_must (refine M.out.ev_new rfl (by first | (go_simp; done) | (go_simp; rfl)) ?_); intro g3 w3 m; simp only [List.cons_append, List.nil_append] at m; have M := Lib.hid m; clear m)
      | (go_at_call 58; go_must (refine (l01Is_any _ F HF.out c _ (M.out.blk 0 rfl)).mono ?_); rintro e w_ ⟨rfl, rfl⟩)
      | (go_at_call 57; go_must (refine (l03Asked_any _ F HF.out A n xs HX.out hm (F.has c) _ (M.out.blk 0 rfl) (M.out.sl HS.out)).mono ?_); rintro e w_ ⟨rfl, N_⟩; have m := M.out.join N_; clear N_; simp only [List.cons_append, List.nil_append, List.append_nil] at m; have M := Lib.hid m; clear m)
      )
    go_ret2
    refine ⟨?_, M.out.take 0⟩
    simp only [fearRes, if_neg HD.out]
    rfl
set_option maxRecDepth 100000 in
set_option maxHeartbeats 2000000 in
theorem lawFear_any (F : Fld) (hF : F.ok) (A : Option Addr) (n : Nat) (xs : List Scarecrow) (hx : ∀ x ∈ xs, x.ok) (hm : xs.length ≤ 9223372036854775807) (c : Int) (w : World) (hs : Sl w 3 A xs.length (flat Scarecrow.vals xs)) :
    Calls Try.prog 3 #[.agg F.cells, .slice A xs.length n, .int .i64 c] w fun e w' => e = .returned (.bool true) ∧ Mem w w' [] := by
  have M := Lib.hid (Mem.start w)
  have HX := Lib.hid hx
  have HS := Lib.hid hs
  have S1 := Lib.hid (Fld.size hF.toLen)
  clear hx hs
  by_cases hl : xs.length ≤ 1048576
  · have hz : ¬ ((1048576 : Int) < xs.length) := by omega
    have hz2 : ¬ ((1048576 : Int) - xs.length < 0) := by omega
    go_enter Try.func3, Try.ntmps3
    go_wp2_with (first
      | ((with_reducible refine gate_dst (N := 3) rfl ?_); go_must (refine M.out.ev_new rfl (by first | (go_simp; done) | (go_simp; rfl)) ?_); intro g3 w3 m; simp only [List.cons_append, List.nil_append] at m; have M := Lib.hid m; clear m)
      | ((with_reducible refine gate_dst (N := 19) rfl ?_); go_must (refine M.out.ev_ldw 0 _ _ rfl rfl rfl Try.underlying27 rfl (by first | exact sz27 | (rw [S1.out]; exact sz27) | (rw [S2.out]; exact sz27) | (rw [S3.out]; exact sz27)) rfl ?_))
      | ((with_reducible refine gate_dst (N := 30) rfl ?_); go_must (refine M.out.ev_ldw 0 _ _ rfl rfl rfl Try.underlying27 rfl (by first | exact sz27 | (rw [S1.out]; exact sz27) | (rw [S2.out]; exact sz27) | (rw [S3.out]; exact sz27)) rfl ?_))
      | (go_at_call 14; go_must (refine (szScarecrowS_any A xs.length n 1048576 _ (by omega) (by omega) hm).mono ?_); rintro e w_ ⟨rfl, rfl⟩; rw [if_neg hz])
      | (go_at_call 16; go_must (refine (toField_any F hF.toLen _).mono ?_); rintro e w_ ⟨rfl, hB_⟩; have M := Lib.hid (M.out.kept hB_); clear hB_)
      | (go_at_call 17; go_must (refine (toScarecrowS_any A n xs _ hl (M.out.sl HS.out)).mono ?_); rintro e w_ ⟨A_, c_, rfl, hc_, N_⟩; have m := M.out.join N_; clear N_; simp only [List.cons_append, List.nil_append, List.append_nil] at m; have M := Lib.hid m; clear m)
      | (go_at_call 15; go_must (refine (spec_fear_any F hF _ _ xs HX.out hl c _ (M.out.slof 1 rfl)).mono ?_); rintro e w_ ⟨rfl, N_⟩; have m := M.out.join N_; clear N_; simp only [List.cons_append, List.nil_append, List.append_nil] at m; have M := Lib.hid m; clear m)
      | (go_at_call 18; go_must (refine (impl_fear_any F hF _ _ xs HX.out hl hc_ (M.out.row_cap 2 rfl) c _ (M.out.slof 2 rfl)).mono ?_); rintro e w_ ⟨rfl, N_⟩; have m := M.out.join N_; clear N_; simp only [List.cons_append, List.nil_append, List.append_nil] at m; have M := Lib.hid m; clear m)
      | (go_at_call 19; go_must (refine (eqScarecrowS_any _ _ _ _ xs xs _ hl (M.out.slof 2 rfl) (M.out.slof 3 rfl)).mono ?_); rintro e w_ ⟨rfl, N_⟩; have m := M.out.join N_; clear N_; simp only [List.cons_append, List.nil_append, List.append_nil] at m; have M := Lib.hid m; clear m; rw [decide_eq_true rfl]))
    go_ret
    exact ⟨ret_bool rfl, M.out.take 0⟩
  · have hz : (1048576 : Int) < xs.length := by omega
    go_enter Try.func3, Try.ntmps3
    go_wp2_with (first
      | ((with_reducible refine gate_dst (N := 3) rfl ?_); go_must (refine M.out.ev_new rfl (by first | (go_simp; done) | (go_simp; rfl)) ?_); intro g3 w3 m; simp only [List.cons_append, List.nil_append] at m; have M := Lib.hid m; clear m)
      | ((with_reducible refine gate_dst (N := 19) rfl ?_); go_must (refine M.out.ev_ldw 0 _ _ rfl rfl rfl Try.underlying27 rfl (by first | exact sz27 | (rw [S1.out]; exact sz27) | (rw [S2.out]; exact sz27) | (rw [S3.out]; exact sz27)) rfl ?_))
      | ((with_reducible refine gate_dst (N := 30) rfl ?_); go_must (refine M.out.ev_ldw 0 _ _ rfl rfl rfl Try.underlying27 rfl (by first | exact sz27 | (rw [S1.out]; exact sz27) | (rw [S2.out]; exact sz27) | (rw [S3.out]; exact sz27)) rfl ?_))
      | (go_at_call 14; go_must (refine (szScarecrowS_any A xs.length n 1048576 _ (by omega) (by omega) hm).mono ?_); rintro e w_ ⟨rfl, rfl⟩; rw [if_pos hz]))
    go_ret
    exact ⟨ret_bool rfl, M.out.take 0⟩
end Go.Proofs.Yteecfclccfhdhaa
