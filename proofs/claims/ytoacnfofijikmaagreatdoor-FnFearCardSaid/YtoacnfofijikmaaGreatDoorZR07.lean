/- Texts of a proof, laid together: DrawP, Near, DaysLaw. -/
import Derived.Test.YtoacnfofijikmaaGreatDoorZR06
import Derived.Test.YtoacnfofijikmaaGreatDoorZR05
namespace Go.Proofs.YtoacnfofijikmaaGreatDoor
set_option linter.unusedSimpArgs false
set_option linter.unusedVariables false
open Go.RowKit
attribute [local go_sem] cell?_mk frozen?_mk
--ONES exact Fld.one _

set_option maxRecDepth 100000 in
set_option maxHeartbeats 2000000 in
theorem P6Field_any (A : Option Addr) (c : Nat) (bs : List Int) (hb : Bytes bs) (w : World) (hs : Sl w 1 A bs.length (flat oneB bs)) :
    Calls Tryz.prog 5 #[.slice A bs.length c] w fun e w' => ∃ F : Fld, e = .returned (.agg F.cells) ∧ FDr F 100 ∧ Mem w w' [] := by
  have M := Lib.hid (Mem.start w)
  have HS := Lib.hid hs
  clear hs
  go_enter Tryz.func5, Tryz.ntmps5
  go_wp2_with (first
    | ((with_reducible refine gate_dst (N := 2) rfl ?_); go_must (refine M.out.ev_new rfl (by first | (go_simp; done) | (go_simp; rfl)) ?_); intro g2 w2 m; simp only [List.cons_append, List.nil_append] at m; have M := Lib.hid m; clear m)
    | (go_at_call 35; go_must (refine (l00From_any A bs.length c _).mono ?_); rintro e w_ ⟨g, rfl, N_⟩; have m := M.out.join N_; clear N_; simp only [List.cons_append, List.nil_append, List.append_nil] at m; have M := Lib.hid m; clear m)
    | (go_at_call 34; go_must (refine (l01Drawn_any 1 M.out g A c bs hb 0 (by omega) 0 rfl HS.out).mono ?_); rintro e w_ ⟨F, rfl, hF, kd, sdd, hkd, m⟩; simp only [List.set_cons_succ, List.set_cons_zero] at m; have M := Lib.hid m; clear m; have FD := Lib.hid hF; have S1 := Lib.hid (Fld.size hF.ok.toLen); have O1 := Lib.hid (Fld.one F); clear hF)
    | ((with_reducible refine gate_store (x := .tmp 2) rfl ?_); go_must (refine M.out.ev_stw 0 _ _ _ rfl rfl rfl rfl _ rfl (by rw [S1.out]; exact szZ) (by rw [S1.out]; exact sz29) O1.out rfl ?_); intro wn m; simp only [List.set_cons_zero, List.set_cons_succ] at m; have M := Lib.hid m; clear m)
    )
  refine ret_cell rfl (M.out.blk 0 rfl) Tryz.underlying29 rfl (by rw [S1.out]; exact sz29) rfl ⟨F, rfl, FD.out, M.out.take 0⟩
end Go.Proofs.YtoacnfofijikmaaGreatDoor
namespace Go.Proofs.YtoacnfofijikmaaGreatDoor
set_option linter.unusedSimpArgs false
set_option linter.unusedVariables false
open Go.RowKit

/-- The same field but for its seeds. -/
structure Near (F G : Fld) : Prop where
  w : G.wide = F.wide
  h : G.high = F.high
  k : G.kinds = F.kinds
theorem Near.refl (F : Fld) : Near F F := ⟨rfl, rfl, rfl⟩
theorem Near.trans {F G H : Fld} (a : Near F G) (b : Near G H) : Near F H := ⟨b.w.trans a.w, b.h.trans a.h, b.k.trans a.k⟩
theorem Near.has {F G : Fld} (n : Near F G) (c : Int) : G.has c = F.has c := by unfold Fld.has; rw [n.w, n.h]
theorem Near.kind {F G : Fld} (n : Near F G) (k : Nat) : G.kind k = F.kind k := by unfold Fld.kind; rw [n.k]
theorem Near.seed {F G : Fld} (n : Near F G) (k : Nat) (x : Int) : Near F (G.withSeed k x) := ⟨n.w, n.h, n.k⟩
end Go.Proofs.YtoacnfofijikmaaGreatDoor
namespace Go.Proofs.YtoacnfofijikmaaGreatDoor
set_option linter.unusedSimpArgs false
set_option linter.unusedVariables false
open Go.RowKit
attribute [local go_sem] cell?_mk frozen?_mk

def daysRes (F : Fld) (xs : List Scarecrow) (c least : Int) : Int × Int := if scCode F xs (F.has c && inB least 1 1000) = 0 then ((daysOf xs c least : Int), 0) else (0, scCode F xs (F.has c && inB least 1 1000))
set_option maxRecDepth 100000 in
set_option maxHeartbeats 1000000 in
theorem cellPower_any (g h k : Nat) {t t' t'' : TypeId} (F : Fld) (hF : F.ok) (c p : Int) (w : World) (hb : Blk w g t F.cells) (hc : Blk w h t' #[.int .i64 c]) (hp : Blk w k t'' #[.int .i64 p]) :
    Calls Tryz.prog 68 #[.pointer (some ⟨g, 0, none⟩), .pointer (some ⟨h, 0, none⟩), .pointer (some ⟨k, 0, none⟩)] w fun e w' => e = .returned (.bool (F.has c && inB p 1 1000)) ∧ Mem w w' [] := by
  have M := Lib.hid (Mem.start w)
  have HB := Lib.hid hb
  have hc0 := hc.cellv (i := 0) rfl
  have hp0 := hp.cellv (i := 0) rfl
  clear hb hc hp
  cases hq : F.has c <;>
  · have HQ := Lib.hid hq
    clear hq
    go_enter Tryz.func68, Tryz.ntmps68
    go_wp2_with (first
      | (go_at_call 47; go_must (refine (has_any g F hF c _ HB.out).mono ?_); rintro e w_ ⟨rfl, rfl⟩; rw [HQ.out])
      | (go_at_call 54; go_must (refine (isPower_any _ _).mono ?_); rintro e w_ ⟨rfl, rfl⟩)
      )
    go_ret
    exact ⟨rfl, M.out⟩
set_option maxRecDepth 100000 in
set_option maxHeartbeats 2000000 in
theorem impl_DaysSafe_any (F : Fld) (hF : F.ok) (A : Option Addr) (n : Nat) (xs : List Scarecrow) (hx : ∀ x ∈ xs, x.ok) (hl : xs.length ≤ 1048576) (hc : xs.length ≤ n) (hn : n ≤ 9223372036854775807) (hA : A = none → n = 0) (c least : Int) (w : World) (hs : Sl w 3 A xs.length (flat Scarecrow.vals xs)) :
    Calls Tryz.prog 24 #[.agg F.cells, .slice A xs.length n, .int .i64 c, .int .i64 least] w fun e w' =>
      e = .returned (.tuple #[.int .i64 (daysRes F xs c least).1, .int .i64 (daysRes F xs c least).2]) ∧ Mem w w' [] := by
  have M := Lib.hid (Mem.start w)
  have HX := Lib.hid hx
  have HS := Lib.hid hs
  have HF := Lib.hid hF
  have S1 := Lib.hid (Fld.size hF.toLen)
  have hm : xs.length ≤ 9223372036854775807 := by omega
  clear hx hs hF
  obtain ⟨p, hp⟩ : ∃ p, p = (F.has c && inB least 1 1000) := ⟨_, rfl⟩
  have HPP := Lib.hid hp
  by_cases hd : scCode F xs p = 0
  · obtain ⟨h1, h2, h3⟩ := scCode_0 hd
    rw [hp, Bool.and_eq_true] at h3
    have HP := Lib.hid (scOk_plain h2)
    obtain ⟨c0, c1⟩ := (Fld.has_iff.1 h3.1).1
    obtain ⟨l0, l1⟩ := inB_iff.1 h3.2
    have HD := Lib.hid hd
    have hdd : (scCode F xs p != 0) = false := by simp [hd]
    clear h1 h2 h3 hd hp
    go_enter Tryz.func24, Tryz.ntmps24
    go_wp2_with (first
      | ((with_reducible refine gate_dst (N := 4) rfl ?_); go_must (refine M.out.ev_new rfl (by first | (go_simp; done) | (go_simp; rfl)) ?_); intro g4 w4 m; simp only [List.cons_append, List.nil_append] at m; have M := Lib.hid m; clear m)
      | ((with_reducible refine gate_dst (N := 6) rfl ?_); go_must (refine M.out.ev_new rfl (by first | (go_simp; done) | (go_simp; rfl)) ?_); intro g6 w6 m; simp only [List.cons_append, List.nil_append] at m; have M := Lib.hid m; clear m)
      | ((with_reducible refine gate_dst (N := 7) rfl ?_); go_must (refine M.out.ev_new rfl (by first | (go_simp; done) | (go_simp; rfl)) ?_); intro g7 w7 m; simp only [List.cons_append, List.nil_append] at m; have M := Lib.hid m; clear m)
      | ((with_reducible refine gate_dst (N := 18) rfl ?_); go_must (refine M.out.ev_ld 1 _ _ rfl rfl rfl Tryz.underlying2 rfl rfl (by first | assumption | rfl) ?_))
      | ((with_reducible refine gate_dst (N := 19) rfl ?_); go_must (refine M.out.ev_ld 2 _ _ rfl rfl rfl Tryz.underlying2 rfl rfl (by first | assumption | rfl) ?_))
      | (go_at_call 45; go_must (refine (scaresCode_any _ F HF.out A n xs HX.out hc hn 68 _ p _ (M.out.blk 0 rfl) (M.out.sl HS.out) (fun _ _ => by go_simp) (fun _ w1 m1 => by rw [HPP.out]; exact cellPower_any _ _ _ F HF.out c least w1 ((M.out.join m1).blk 0 rfl) ((M.out.join m1).blk 1 rfl) ((M.out.join m1).blk 2 rfl))).mono ?_); rintro e w_ ⟨rfl, N_⟩; have m := M.out.join N_; clear N_; simp only [List.cons_append, List.nil_append, List.append_nil] at m; have M := Lib.hid m; clear m)
      | (go_at_call 69; go_must (refine (daysSafe_any A n xs HP.out hl hc hA c least c0 c1 l0 _ (M.out.sl HS.out)).mono ?_); rintro e w_ ⟨rfl, N_⟩; have m := M.out.join N_; clear N_; simp only [List.cons_append, List.nil_append, List.append_nil] at m; have M := Lib.hid m; clear m)
      )
    go_ret2
    refine ⟨?_, M.out.take 0⟩
    simp only [daysRes, ← HPP.out]
    simp only [HD.out]
    rfl
  · have HD := Lib.hid hd
    have hdd : (scCode F xs p != 0) = true := by simp [hd]
    clear hd hp
    go_enter Tryz.func24, Tryz.ntmps24
    go_wp2_with (first
      | ((with_reducible refine gate_dst (N := 4) rfl ?_); go_must (refine M.out.ev_new rfl (by first | (go_simp; done) | (go_simp; rfl)) ?_); intro g4 w4 m; simp only [List.cons_append, List.nil_append] at m; have M := Lib.hid m; clear m)
      | ((with_reducible refine gate_dst (N := 6) rfl ?_); go_must (refine M.out.ev_new rfl (by first | (go_simp; done) | (go_simp; rfl)) ?_); intro g6 w6 m; simp only [List.cons_append, List.nil_append] at m; have M := Lib.hid m; clear m)
      | ((with_reducible refine gate_dst (N := 7) rfl ?_); go_must (refine M.out.ev_new rfl (by first | (go_simp; done) | (go_simp; rfl)) ?_); intro g7 w7 m; simp only [List.cons_append, List.nil_append] at m; have M := Lib.hid m; clear m)
      | ((with_reducible refine gate_dst (N := 18) rfl ?_); go_must (refine M.out.ev_ld 1 _ _ rfl rfl rfl Tryz.underlying2 rfl rfl (by first | assumption | rfl) ?_))
      | ((with_reducible refine gate_dst (N := 19) rfl ?_); go_must (refine M.out.ev_ld 2 _ _ rfl rfl rfl Tryz.underlying2 rfl rfl (by first | assumption | rfl) ?_))
      | (go_at_call 45; go_must (refine (scaresCode_any _ F HF.out A n xs HX.out hc hn 68 _ p _ (M.out.blk 0 rfl) (M.out.sl HS.out) (fun _ _ => by go_simp) (fun _ w1 m1 => by rw [HPP.out]; exact cellPower_any _ _ _ F HF.out c least w1 ((M.out.join m1).blk 0 rfl) ((M.out.join m1).blk 1 rfl) ((M.out.join m1).blk 2 rfl))).mono ?_); rintro e w_ ⟨rfl, N_⟩; have m := M.out.join N_; clear N_; simp only [List.cons_append, List.nil_append, List.append_nil] at m; have M := Lib.hid m; clear m)
      )
    go_ret2
    refine ⟨?_, M.out.take 0⟩
    simp only [daysRes, ← HPP.out]
    simp only [if_neg HD.out]
    rfl
set_option maxRecDepth 100000 in
set_option maxHeartbeats 2000000 in
theorem spec_DaysSafe_any (F : Fld) (hF : F.ok) (A : Option Addr) (n : Nat) (xs : List Scarecrow) (hx : ∀ x ∈ xs, x.ok) (hl : xs.length ≤ 1048576) (hc : xs.length ≤ n) (hn : n ≤ 9223372036854775807) (hA : A = none → n = 0) (c least : Int) (w : World) (hs : Sl w 3 A xs.length (flat Scarecrow.vals xs)) :
    Calls Tryz.prog 25 #[.agg F.cells, .slice A xs.length n, .int .i64 c, .int .i64 least] w fun e w' =>
      e = .returned (.tuple #[.int .i64 (daysRes F xs c least).1, .int .i64 (daysRes F xs c least).2]) ∧ Mem w w' [] := by
  have M := Lib.hid (Mem.start w)
  have HX := Lib.hid hx
  have HS := Lib.hid hs
  have HF := Lib.hid hF
  have S1 := Lib.hid (Fld.size hF.toLen)
  have hm : xs.length ≤ 9223372036854775807 := by omega
  clear hx hs hF
  obtain ⟨p, hp⟩ : ∃ p, p = (F.has c && inB least 1 1000) := ⟨_, rfl⟩
  have HPP := Lib.hid hp
  by_cases hd : scCode F xs p = 0
  · obtain ⟨h1, h2, h3⟩ := scCode_0 hd
    rw [hp, Bool.and_eq_true] at h3
    have HP := Lib.hid (scOk_plain h2)
    obtain ⟨c0, c1⟩ := (Fld.has_iff.1 h3.1).1
    obtain ⟨l0, l1⟩ := inB_iff.1 h3.2
    have HD := Lib.hid hd
    have hdd : (scCode F xs p != 0) = false := by simp [hd]
    clear h1 h2 h3 hd hp
    cases hq : F.has c <;>
    · have HQ := Lib.hid hq
      clear hq
      go_enter Tryz.func25, Tryz.ntmps25
      go_wp2_with (first
        | ((with_reducible refine gate_dst (N := 4) rfl ?_); go_must (refine M.out.ev_new rfl (by first | (go_simp; done) | (go_simp; rfl)) ?_); intro g4 w4 m; simp only [List.cons_append, List.nil_append] at m; have M := Lib.hid m; clear m)
        | (go_at_call 50; go_must (refine (l01Is_any _ F HF.out c _ (M.out.blk 0 rfl)).mono ?_); rintro e w_ ⟨rfl, rfl⟩; rw [HQ.out])
        | (go_at_call 56; go_must (refine (l03Power_any _ _).mono ?_); rintro e w_ ⟨rfl, rfl⟩)
        | (go_at_call 49; go_must (refine (l03Asked_any _ F HF.out A n xs HX.out hm _ _ (M.out.blk 0 rfl) (M.out.sl HS.out)).mono ?_); rintro e w_ ⟨rfl, N_⟩; have m := M.out.join N_; clear N_; simp only [List.cons_append, List.nil_append, List.append_nil] at m; have M := Lib.hid m; clear m; first | rw [show inB least 1 1000 = p by rw [HPP.out, HQ.out]; rfl] | rw [show false = p by rw [HPP.out, HQ.out]; rfl])
        | (go_at_call 70; go_must (refine (l03Days_any A n xs HP.out hl hc hA c least c0 c1 l0 _ (M.out.sl HS.out)).mono ?_); rintro e w_ ⟨rfl, N_⟩; have m := M.out.join N_; clear N_; simp only [List.cons_append, List.nil_append, List.append_nil] at m; have M := Lib.hid m; clear m)
        )
      go_ret2
      refine ⟨?_, M.out.take 0⟩
      simp only [daysRes, ← HPP.out]
      simp only [HD.out]
      rfl
  · have HD := Lib.hid hd
    have hdd : (scCode F xs p != 0) = true := by simp [hd]
    clear hd hp
    cases hq : F.has c <;>
    · have HQ := Lib.hid hq
      clear hq
      go_enter Tryz.func25, Tryz.ntmps25
      go_wp2_with (first
        | ((with_reducible refine gate_dst (N := 4) rfl ?_); go_must (refine M.out.ev_new rfl (by first | (go_simp; done) | (go_simp; rfl)) ?_); intro g4 w4 m; simp only [List.cons_append, List.nil_append] at m; have M := Lib.hid m; clear m)
        | (go_at_call 50; go_must (refine (l01Is_any _ F HF.out c _ (M.out.blk 0 rfl)).mono ?_); rintro e w_ ⟨rfl, rfl⟩; rw [HQ.out])
        | (go_at_call 56; go_must (refine (l03Power_any _ _).mono ?_); rintro e w_ ⟨rfl, rfl⟩)
        | (go_at_call 49; go_must (refine (l03Asked_any _ F HF.out A n xs HX.out hm _ _ (M.out.blk 0 rfl) (M.out.sl HS.out)).mono ?_); rintro e w_ ⟨rfl, N_⟩; have m := M.out.join N_; clear N_; simp only [List.cons_append, List.nil_append, List.append_nil] at m; have M := Lib.hid m; clear m; first | rw [show inB least 1 1000 = p by rw [HPP.out, HQ.out]; rfl] | rw [show false = p by rw [HPP.out, HQ.out]; rfl])
        )
      go_ret2
      refine ⟨?_, M.out.take 0⟩
      simp only [daysRes, ← HPP.out]
      simp only [if_neg HD.out]
      rfl
end Go.Proofs.YtoacnfofijikmaaGreatDoor
