/- Scarecrows that are some days older: the walks of both, and of the law. -/
import Derived.Test.YteecfclccfhdhaaMark
import Derived.Test.YteecfclccfhdhaaScares6
namespace Go.Proofs.Yteecfclccfhdhaa
set_option linter.unusedSimpArgs false
set_option linter.unusedVariables false
open Go.RowKit
attribute [local go_sem] cell?_mk frozen?_mk

theorem calls_args {P : Program} {f : FuncId} {args args' : Array Value} {w : World} {Q : Ending → World → Prop} (h : args = args') (H : Calls P f args w Q) : Calls P f args' w Q := h ▸ H
/-- A call hands back a row of its own, and a code. -/
def RetRowC (w : World) (T : TypeId) (sz n : Nat) (cs : List Value) (code : Int) (e : Ending) (w' : World) : Prop :=
  ∃ A c, e = .returned (.tuple #[.slice A n c, .int .i64 code]) ∧ n ≤ c ∧ Mem w w' [.row (.slice A n c) T sz n cs]
theorem Mem.row_none {w0 w : World} {L : List Ent} (M : Mem w0 w L) (i : Nat) {A : Option Addr} {m c : Nat} {e : TypeId} {sz n : Nat} {cs : List Value} (h : L[i]? = some (.row (.slice A m c) e sz n cs)) : A = none → c = 0 := by
  rintro rfl
  rcases (M.row i h).2 with ⟨h1, _⟩ | ⟨g, cap, cur, h1, _⟩
  · injection h1
  · injection h1 with h1; cases h1
def agedRes (F : Fld) (xs : List Scarecrow) (d : Int) : List Scarecrow := if scCode F xs (inB d 0 1000) = 0 then xs.map (Scarecrow.older d) else []
theorem AgeScares_small (F : Fld) (xs : List Scarecrow) (d : Int) (h : xs.length ≤ 1048576) : (agedRes F xs d).length ≤ 1048576 := by
  unfold agedRes
  split
  · simpa using h
  · simp

set_option maxRecDepth 100000 in
set_option maxHeartbeats 1000000 in
theorem agedIs_any (h : Nat) {t' : TypeId} (d : Int) (w : World) (hc : Blk w h t' #[.int .i64 d]) :
    Calls Try.prog 72 #[.pointer (some ⟨h, 0, none⟩)] w fun e w' => e = .returned (.bool (inB d 0 1000)) ∧ Mem w w' [] := by
  have M := Lib.hid (Mem.start w)
  have hc0 := hc.cellv (i := 0) rfl
  clear hc
  go_enter Try.func72, Try.ntmps72
  go_wp2_with (first
    | (go_at_call 73; go_must (refine (within_any _ _ _ _).mono ?_); rintro e w_ ⟨rfl, rfl⟩)
    )
  go_ret
  exact ⟨rfl, M.out⟩
set_option maxRecDepth 100000 in
set_option maxHeartbeats 2000000 in
theorem impl_AgeScares_any (F : Fld) (hF : F.ok) (A : Option Addr) (n : Nat) (xs : List Scarecrow) (hx : ∀ x ∈ xs, x.ok) (hl : xs.length ≤ 1048576) (hc : xs.length ≤ n) (hn : n ≤ 9223372036854775807) (hA : A = none → n = 0) (d : Int) (w : World) (hs : Sl w 3 A xs.length (flat Scarecrow.vals xs)) :
    Calls Try.prog 24 #[.agg F.cells, .slice A xs.length n, .int .i64 d] w (RetRowC w 89 3 (agedRes F xs d).length (flat Scarecrow.vals (agedRes F xs d)) (scCode F xs (inB d 0 1000))) := by
  have M := Lib.hid (Mem.start w)
  have HX := Lib.hid hx
  have HS := Lib.hid hs
  have HF := Lib.hid hF
  have S1 := Lib.hid (Fld.size hF.toLen)
  clear hx hs hF
  by_cases hd : scCode F xs (inB d 0 1000) = 0
  · obtain ⟨h1, h2, h3⟩ := scCode_0 hd
    have HP := Lib.hid (scOk_plain h2)
    have HD := Lib.hid hd
    have hd2 := inB_iff.1 h3
    obtain ⟨d0, d1⟩ := hd2
    have hdd : (scCode F xs (inB d 0 1000) != 0) = false := by simp [hd]
    clear h1 h2 h3 hd
    go_enter Try.func24, Try.ntmps24
    go_wp2_with (first
      | ((with_reducible refine gate_dst (N := 3) rfl ?_); go_must (refine M.out.ev_new rfl (by first | (go_simp; done) | (go_simp; rfl)) ?_); intro g3 w3 m; simp only [List.cons_append, List.nil_append] at m; have M := Lib.hid m; clear m)
      | ((with_reducible refine gate_dst (N := 5) rfl ?_); go_must (refine M.out.ev_new rfl (by first | (go_simp; done) | (go_simp; rfl)) ?_); intro g5 w5 m; simp only [List.cons_append, List.nil_append] at m; have M := Lib.hid m; clear m)
      | ((with_reducible refine gate_dst (N := 16) rfl ?_); go_must (refine M.out.ev_ld 1 _ _ rfl rfl rfl Try.underlying2 rfl rfl (by first | assumption | rfl) ?_))
      | (go_at_call 63; go_must (refine (scaresCode_any _ F HF.out A n xs HX.out hc hn 72 _ (inB d 0 1000) _ (M.out.blk 0 rfl) (M.out.sl HS.out) (fun _ _ => by go_simp) (fun _ w1 m1 => agedIs_any _ d w1 ((M.out.join m1).blk 1 rfl))).mono ?_); rintro e w_ ⟨rfl, N_⟩; have m := M.out.join N_; clear N_; simp only [List.cons_append, List.nil_append, List.append_nil] at m; have M := Lib.hid m; clear m)
      | (go_at_call 74; go_must (refine (aged_any A n xs HP.out hl hc hA d d0 d1 _ (M.out.sl HS.out)).mono ?_); rintro e w_ ⟨A_, c_, rfl, hc_, N_⟩; have m := M.out.join N_; clear N_; simp only [List.cons_append, List.nil_append, List.append_nil] at m; have M := Lib.hid m; clear m)
      )
    go_ret2
    have m := M.out.only [2] (K := [_]) rfl (by decide)
    simp only [agedRes, HD.out, if_true, List.length_map]
    exact ⟨A_, c_, rfl, hc_, m⟩
  · have HD := Lib.hid hd
    have hdd : (scCode F xs (inB d 0 1000) != 0) = true := by simp [hd]
    clear hd
    go_enter Try.func24, Try.ntmps24
    go_wp2_with (first
      | ((with_reducible refine gate_dst (N := 3) rfl ?_); go_must (refine M.out.ev_new rfl (by first | (go_simp; done) | (go_simp; rfl)) ?_); intro g3 w3 m; simp only [List.cons_append, List.nil_append] at m; have M := Lib.hid m; clear m)
      | ((with_reducible refine gate_dst (N := 5) rfl ?_); go_must (refine M.out.ev_new rfl (by first | (go_simp; done) | (go_simp; rfl)) ?_); intro g5 w5 m; simp only [List.cons_append, List.nil_append] at m; have M := Lib.hid m; clear m)
      | ((with_reducible refine gate_dst (N := 16) rfl ?_); go_must (refine M.out.ev_ld 1 _ _ rfl rfl rfl Try.underlying2 rfl rfl (by first | assumption | rfl) ?_))
      | (go_at_call 63; go_must (refine (scaresCode_any _ F HF.out A n xs HX.out hc hn 72 _ (inB d 0 1000) _ (M.out.blk 0 rfl) (M.out.sl HS.out) (fun _ _ => by go_simp) (fun _ w1 m1 => agedIs_any _ d w1 ((M.out.join m1).blk 1 rfl))).mono ?_); rintro e w_ ⟨rfl, N_⟩; have m := M.out.join N_; clear N_; simp only [List.cons_append, List.nil_append, List.append_nil] at m; have M := Lib.hid m; clear m)
      )
    go_ret2
    simp only [agedRes, if_neg HD.out]
    exact ⟨none, 0, rfl, Nat.le_refl _, (M.out.take 0).nilrow _ _⟩
set_option maxRecDepth 100000 in
set_option maxHeartbeats 2000000 in
theorem spec_AgeScares_any (F : Fld) (hF : F.ok) (A : Option Addr) (n : Nat) (xs : List Scarecrow) (hx : ∀ x ∈ xs, x.ok) (hl : xs.length ≤ 1048576) (hc : xs.length ≤ n) (hn : n ≤ 9223372036854775807) (hA : A = none → n = 0) (d : Int) (w : World) (hs : Sl w 3 A xs.length (flat Scarecrow.vals xs)) :
    Calls Try.prog 23 #[.agg F.cells, .slice A xs.length n, .int .i64 d] w (RetRowC w 89 3 (agedRes F xs d).length (flat Scarecrow.vals (agedRes F xs d)) (scCode F xs (inB d 0 1000))) := by
  have M := Lib.hid (Mem.start w)
  have HX := Lib.hid hx
  have HS := Lib.hid hs
  have HF := Lib.hid hF
  have S1 := Lib.hid (Fld.size hF.toLen)
  have hm : xs.length ≤ 9223372036854775807 := by omega
  clear hx hs hF
  by_cases hd : scCode F xs (inB d 0 1000) = 0
  · obtain ⟨h1, h2, h3⟩ := scCode_0 hd
    have HP := Lib.hid (scOk_plain h2)
    have HD := Lib.hid hd
    have hd2 := inB_iff.1 h3
    obtain ⟨d0, d1⟩ := hd2
    have hdd : (scCode F xs (inB d 0 1000) != 0) = false := by simp [hd]
    clear h1 h2 h3 hd
    go_enter Try.func23, Try.ntmps23
    go_wp2_with (first
      | ((with_reducible refine gate_dst (N := 3) rfl ?_); go_must (refine M.out.ev_new rfl (by first | (go_simp; done) | (go_simp; rfl)) ?_); intro g3 w3 m; simp only [List.cons_append, List.nil_append] at m; have M := Lib.hid m; clear m)
      | (go_at_call 70; go_must (refine (l00In_any _ _ _ _).mono ?_); rintro e w_ ⟨rfl, rfl⟩)
      | (go_at_call 57; go_must (refine (l03Asked_any _ F HF.out A n xs HX.out hm (inB d 0 1000) _ (M.out.blk 0 rfl) (M.out.sl HS.out)).mono ?_); rintro e w_ ⟨rfl, N_⟩; have m := M.out.join N_; clear N_; simp only [List.cons_append, List.nil_append, List.append_nil] at m; have M := Lib.hid m; clear m)
      | (go_at_call 71; go_must (refine (l03Older_any A n xs HP.out hl hc hA d d0 d1 _ (M.out.sl HS.out)).mono ?_); rintro e w_ ⟨A_, c_, rfl, hc_, N_⟩; have m := M.out.join N_; clear N_; simp only [List.cons_append, List.nil_append, List.append_nil] at m; have M := Lib.hid m; clear m)
      )
    go_ret2
    have m := M.out.only [1] (K := [_]) rfl (by decide)
    simp only [agedRes, HD.out, if_true, List.length_map]
    exact ⟨A_, c_, rfl, hc_, m⟩
  · have HD := Lib.hid hd
    have hdd : (scCode F xs (inB d 0 1000) != 0) = true := by simp [hd]
    clear hd
    go_enter Try.func23, Try.ntmps23
    go_wp2_with (first
      | ((with_reducible refine gate_dst (N := 3) rfl ?_); go_must (refine M.out.ev_new rfl (by first | (go_simp; done) | (go_simp; rfl)) ?_); intro g3 w3 m; simp only [List.cons_append, List.nil_append] at m; have M := Lib.hid m; clear m)
      | (go_at_call 70; go_must (refine (l00In_any _ _ _ _).mono ?_); rintro e w_ ⟨rfl, rfl⟩)
      | (go_at_call 57; go_must (refine (l03Asked_any _ F HF.out A n xs HX.out hm (inB d 0 1000) _ (M.out.blk 0 rfl) (M.out.sl HS.out)).mono ?_); rintro e w_ ⟨rfl, N_⟩; have m := M.out.join N_; clear N_; simp only [List.cons_append, List.nil_append, List.append_nil] at m; have M := Lib.hid m; clear m)
      | ((with_reducible refine gate_dst (N := 15) rfl ?_); go_must (refine M.out.ev_bs0 elem_Scarecrow rfl rfl ?_); intro g15 w15 m; simp only [List.cons_append, List.nil_append] at m; have M := Lib.hid m; clear m)
      )
    go_ret2
    have m := M.out.only [1] (K := [_]) rfl (by decide)
    simp only [agedRes, if_neg HD.out]
    exact ⟨_, 0, rfl, Nat.le_refl _, m⟩
set_option maxRecDepth 100000 in
set_option maxHeartbeats 4000000 in
theorem lawAgeScares_any (F : Fld) (hF : F.ok) (A : Option Addr) (n : Nat) (xs : List Scarecrow) (hx : ∀ x ∈ xs, x.ok) (hm : xs.length ≤ 9223372036854775807) (d : Int) (w : World) (hs : Sl w 3 A xs.length (flat Scarecrow.vals xs)) :
    Calls Try.prog 5 #[.agg F.cells, .slice A xs.length n, .int .i64 d] w fun e w' => e = .returned (.bool true) ∧ Mem w w' [] := by
  have M := Lib.hid (Mem.start w)
  have HX := Lib.hid hx
  have HS := Lib.hid hs
  have S1 := Lib.hid (Fld.size hF.toLen)
  clear hx hs
  by_cases hl : xs.length ≤ 1048576
  · have hz : ¬ ((1048576 : Int) < xs.length) := by omega
    have hz2 : ¬ ((1048576 : Int) - xs.length < 0) := by omega
    have hr := AgeScares_small F xs d hl
    have hk1 : ¬ (1 + 3 * (xs.length : Int) < 0) := by omega
    have hk2 : ¬ (1 + 3 * ((agedRes F xs d).length : Int) < 0) := by omega
    obtain ⟨R, hR⟩ : ∃ R, R = agedRes F xs d := ⟨_, rfl⟩
    have IM := Lib.hid (fun A n hc hn hA w hs => impl_AgeScares_any F hF A n xs HX.out hl hc hn hA d w hs)
    have SP := Lib.hid (fun A n hc hn hA w hs => spec_AgeScares_any F hF A n xs HX.out hl hc hn hA d w hs)
    rw [← hR] at IM SP hr hk2
    clear hR
    go_enter Try.func5, Try.ntmps5
    go_wp2_with (first
      | ((with_reducible refine gate_dst (N := 3) rfl ?_); go_must (refine M.out.ev_new rfl (by first | (go_simp; done) | (go_simp; rfl)) ?_); intro g3 w3 m; simp only [List.cons_append, List.nil_append] at m; have M := Lib.hid m; clear m)
      | ((with_reducible refine gate_dst (N := 24) rfl ?_); go_must (refine M.out.ev_ldw 0 _ _ rfl rfl rfl Try.underlying27 rfl (by first | exact sz27 | (rw [S1.out]; exact sz27) | (rw [S2.out]; exact sz27) | (rw [S3.out]; exact sz27)) rfl ?_))
      | ((with_reducible refine gate_dst (N := 35) rfl ?_); go_must (refine M.out.ev_ldw 0 _ _ rfl rfl rfl Try.underlying27 rfl (by first | exact sz27 | (rw [S1.out]; exact sz27) | (rw [S2.out]; exact sz27) | (rw [S3.out]; exact sz27)) rfl ?_))
      | ((with_reducible refine gate_dst (N := 84) rfl ?_); go_must (refine M.out.ev_ldw 0 _ _ rfl rfl rfl Try.underlying27 rfl (by first | exact sz27 | (rw [S1.out]; exact sz27) | (rw [S2.out]; exact sz27) | (rw [S3.out]; exact sz27)) rfl ?_))
      | (go_at_call 14; go_must (refine (szScarecrowS_any A xs.length n 1048576 _ (by omega) (by omega) hm).mono ?_); rintro e w_ ⟨rfl, rfl⟩; rw [if_neg hz])
      | (go_at_call 16; go_must (refine (toField_any F hF.toLen _).mono ?_); rintro e w_ ⟨rfl, hB_⟩; have M := Lib.hid (M.out.kept hB_); clear hB_)
      | (go_at_call 17; go_must (refine (toScarecrowS_any A n xs _ hl (M.out.sl HS.out)).mono ?_); rintro e w_ ⟨A_, c_, rfl, hc_, N_⟩; have m := M.out.join N_; clear N_; simp only [List.cons_append, List.nil_append, List.append_nil] at m; have M := Lib.hid m; clear m)
      | (go_at_call 23; go_must (refine (SP.out _ _ hc_ (M.out.row_cap 1 rfl) (M.out.row_none 1 rfl) _ (M.out.slof 1 rfl)).mono ?_); rintro e w_ ⟨A_, c_, rfl, hc_, N_⟩; have m := M.out.join N_; clear N_; simp only [List.cons_append, List.nil_append, List.append_nil] at m; have M := Lib.hid m; clear m)
      | (go_at_call 24; go_must (first | (refine Calls.mono (calls_args (by with_reducible rfl) (IM.out _ _ hc_ (M.out.row_cap 3 rfl) (M.out.row_none 3 rfl) _ (M.out.slof 3 rfl))) ?_) | (refine Calls.mono (calls_args (by with_reducible rfl) (IM.out _ _ hc_ (M.out.row_cap 6 rfl) (M.out.row_none 6 rfl) _ (M.out.slof 6 rfl))) ?_)); rintro e w_ ⟨A_, c_, rfl, hc_, N_⟩; have m := M.out.join N_; clear N_; simp only [List.cons_append, List.nil_append, List.append_nil] at m; have M := Lib.hid m; clear m)
      | (go_at_call 19; go_must (first | (refine Calls.mono (calls_args (by with_reducible rfl) (eqScarecrowS_any _ _ _ _ R R _ hr (M.out.slof 4 rfl) (M.out.slof 2 rfl))) ?_) | (refine Calls.mono (calls_args (by with_reducible rfl) (eqScarecrowS_any _ _ _ _ xs xs _ hl (M.out.slof 3 rfl) (M.out.slof 5 rfl))) ?_) | (refine Calls.mono (calls_args (by with_reducible rfl) (eqScarecrowS_any _ _ _ _ R R _ hr (M.out.slof 7 rfl) (M.out.slof 2 rfl))) ?_)); rintro e w_ ⟨rfl, N_⟩; have m := M.out.join N_; clear N_; simp only [List.cons_append, List.nil_append, List.append_nil] at m; have M := Lib.hid m; clear m; rw [decide_eq_true rfl])
      | (go_at_call 25; go_must (first | (refine Calls.mono (calls_args (by with_reducible rfl) (markS_any 3 M.out _ _ xs rfl hl)) ?_) | (refine Calls.mono (calls_args (by with_reducible rfl) (markS_any 4 M.out _ _ R rfl hr)) ?_)); rintro e w_ ⟨rfl, m⟩; simp only [List.set_cons_succ, List.set_cons_zero] at m; have M := Lib.hid m; clear m)
      | (go_at_call 26; go_must (refine (heldS_any _ _ R.length hr _ (M.out.slof 4 rfl)).mono ?_); rintro e w_ ⟨rfl, rfl⟩))
    go_ret
    exact ⟨ret_bool rfl, M.out.take 0⟩
  · have hz : (1048576 : Int) < xs.length := by omega
    go_enter Try.func5, Try.ntmps5
    go_wp2_with (first
      | ((with_reducible refine gate_dst (N := 3) rfl ?_); go_must (refine M.out.ev_new rfl (by first | (go_simp; done) | (go_simp; rfl)) ?_); intro g3 w3 m; simp only [List.cons_append, List.nil_append] at m; have M := Lib.hid m; clear m)
      | ((with_reducible refine gate_dst (N := 24) rfl ?_); go_must (refine M.out.ev_ldw 0 _ _ rfl rfl rfl Try.underlying27 rfl (by first | exact sz27 | (rw [S1.out]; exact sz27) | (rw [S2.out]; exact sz27) | (rw [S3.out]; exact sz27)) rfl ?_))
      | ((with_reducible refine gate_dst (N := 35) rfl ?_); go_must (refine M.out.ev_ldw 0 _ _ rfl rfl rfl Try.underlying27 rfl (by first | exact sz27 | (rw [S1.out]; exact sz27) | (rw [S2.out]; exact sz27) | (rw [S3.out]; exact sz27)) rfl ?_))
      | ((with_reducible refine gate_dst (N := 84) rfl ?_); go_must (refine M.out.ev_ldw 0 _ _ rfl rfl rfl Try.underlying27 rfl (by first | exact sz27 | (rw [S1.out]; exact sz27) | (rw [S2.out]; exact sz27) | (rw [S3.out]; exact sz27)) rfl ?_))
      | (go_at_call 14; go_must (refine (szScarecrowS_any A xs.length n 1048576 _ (by omega) (by omega) hm).mono ?_); rintro e w_ ⟨rfl, rfl⟩; rw [if_pos hz]))
    go_ret
    exact ⟨ret_bool rfl, M.out.take 0⟩
end Go.Proofs.Yteecfclccfhdhaa
