/- Texts of a proof, laid together: SameD, SameP, SeedsIn, Same, DiaC, U8. -/
import Derived.Test.YtaepgjjmfopiiaaGreatDoorZH02
import Derived.Test.YtaepgjjmfopiiaaGreatDoorZH08
import Derived.Test.YtaepgjjmfopiiaaGreatDoorZH11
import Derived.Test.YtaepgjjmfopiiaaGreatDoorZH04
import Derived.Test.YtaepgjjmfopiiaaGreatDoorZH07
import Derived.Test.YtaepgjjmfopiiaaGreatDoorZH09
import Derived.Test.YtaepgjjmfopiiaaGreatDoorZH15
import Derived.Test.YtaepgjjmfopiiaaGreatDoorZH18
namespace Go.Proofs.YtaepgjjmfopiiaaGreatDoor
set_option linter.unusedSimpArgs false
set_option linter.unusedVariables false
open Go.RowKit
attribute [local go_sem] cell?_mk frozen?_mk
--ONES exact Entry.one _

theorem sl_rangeEntry {w : World} {sz b off n k : Nat} {cs : List Value} (h : Sl w sz (some ⟨b, off, none⟩) n cs) (hn : k < n) : w.rangeAt b off cs := by
  obtain ⟨b1, o1, hB, hr⟩ := h.2 (by omega)
  cases hB
  exact hr
theorem neqEntry (x : Entry) (w : World) : (binOp .neq 45 (.agg x.vals.toArray) (.agg x.vals.toArray)).run Tryz.prog w = .ok (.bool false) w := by
  have ui16 := Tryz.underlying26
  have ai16 := Tryz.isAgg26
  have zi16 := Tryz.sizeOf26
  have ui8 := Tryz.underlying24
  have ai8 := Tryz.isAgg24
  have zi8 := Tryz.sizeOf24
  have u4 := Tryz.underlying45
  unfold Entry.vals
  obtain ⟨e0, e1, e2⟩ := x
  go_simp
set_option maxRecDepth 100000 in
set_option maxHeartbeats 2000000 in
theorem EntrySame_any (A B : Option Addr) (c d : Nat) (xs : List Entry) (w : World) (hl : xs.length ≤ 1048576) (hx : Sl w 3 A xs.length (flat Entry.vals xs)) (hy : Sl w 3 B xs.length (flat Entry.vals xs)) :
    Calls Tryz.prog 13 #[.slice A xs.length c, .slice B xs.length d] w fun e w' => e = .returned (.bool true) ∧ Mem w w' [] := by
  have M := Lib.hid (Mem.start w)
  have HX := Lib.hid hx
  have HY := Lib.hid hy
  clear hx hy
  go_enter Tryz.func13, Tryz.ntmps13
  go_wp2
  go_loopw [5] (fun v wr => ∃ k : Nat, k ≤ xs.length ∧ v = .int .i64 k ∧ Mem w wr [])
    (fun v _ => xs.length - (intOf v).toNat)
  case atStart => exact ⟨0, by omega, rfl, M.out⟩
  case round =>
    clear M
    obtain ⟨k, hk, rfl, m⟩ := hrel
    have M := Lib.hid m
    clear m
    by_cases hlt : k < xs.length
    · obtain ⟨b, off, rfl, _⟩ := HX.out.2 (by omega)
      obtain ⟨b2, off2, rfl, _⟩ := HY.out.2 (by omega)
      have HXK := Lib.hid (show xs[k]? = some xs[k] from List.getElem?_eq_getElem hlt)
      have i0 : (0 : Int) ≤ (k : Int) := by omega
      have i1 : (k : Int) < (xs.length : Int) := by omega
      obtain ⟨x, hx⟩ : ∃ x, x = xs[k] := ⟨_, rfl⟩
      rw [← hx] at HXK
      clear hx
      have heq := neqEntry x
      go_wp2
      refine region_anyH (fun w' => Mem w w' []) (by kernel_rfl) ?_
      have m := M.out.drew
      clear M
      have M := Lib.hid m
      clear m
      apply takeH (i := 0) 17 rfl (by kernel_rfl) (by kernel_rfl) (by kernel_rfl) (fun _ _ _ h => h) rfl (by first | exact M.out | exact M.out.take 0)
      case' hy =>
        refine Or.inl ⟨by first | rfl | (go_simp; done), ?_⟩
        intro w hS
        clear hS
        go_simp
        try with_reducible rfl
      try simp only [Act.put, List.getElem_toArray, List.getElem_cons_succ, List.getElem_cons_zero, List.setIfInBounds_toArray, List.set_cons_succ, List.set_cons_zero]
      apply takeH (i := 1) 18 rfl (by kernel_rfl) (by kernel_rfl) (by kernel_rfl) (fun _ _ _ h => h) rfl (by first | exact M.out | exact M.out.take 0)
      case' hy =>
        refine Or.inl ⟨by first | rfl | (go_simp; done), ?_⟩
        intro w hS
        clear hS
        go_simp
        try with_reducible rfl
      try simp only [Act.put, List.getElem_toArray, List.getElem_cons_succ, List.getElem_cons_zero, List.setIfInBounds_toArray, List.set_cons_succ, List.set_cons_zero]
      apply takeH (i := 2) 19 rfl (by kernel_rfl) (by kernel_rfl) (by kernel_rfl) (fun _ _ _ h => h) rfl (by first | exact M.out | exact M.out.take 0)
      case' hy =>
        refine Or.inl ⟨by first | rfl | (go_simp; done), ?_⟩
        intro w hS
        clear hS
        go_simp
        try with_reducible rfl
      try simp only [Act.put, List.getElem_toArray, List.getElem_cons_succ, List.getElem_cons_zero, List.setIfInBounds_toArray, List.set_cons_succ, List.set_cons_zero]
      apply takeH (i := 3) 20 rfl (by kernel_rfl) (by kernel_rfl) (by kernel_rfl) (fun _ _ _ h => h) rfl (by first | exact M.out | exact M.out.take 0)
      case' hy => exact yieldsIf_load_mid (by first | rfl | (go_simp; done)) _ _ rfl _ _ rfl _ _ (fun w' hS => range_at Entry.vl (sl_rangeEntry (hS.sl HX.out) hlt) HXK.out) Tryz.underlying45 rfl sz45
      try simp only [Act.put, List.getElem_toArray, List.getElem_cons_succ, List.getElem_cons_zero, List.setIfInBounds_toArray, List.set_cons_succ, List.set_cons_zero]
      apply takeH (i := 4) 21 rfl (by kernel_rfl) (by kernel_rfl) (by kernel_rfl) (fun _ _ _ h => h) rfl (by first | exact M.out | exact M.out.take 0)
      case' hy =>
        refine Or.inl ⟨by first | rfl | (go_simp; done), ?_⟩
        intro w hS
        clear hS
        go_simp
        try with_reducible rfl
      try simp only [Act.put, List.getElem_toArray, List.getElem_cons_succ, List.getElem_cons_zero, List.setIfInBounds_toArray, List.set_cons_succ, List.set_cons_zero]
      apply takeH (i := 5) 22 rfl (by kernel_rfl) (by kernel_rfl) (by kernel_rfl) (fun _ _ _ h => h) rfl (by first | exact M.out | exact M.out.take 0)
      case' hy =>
        refine Or.inl ⟨by first | rfl | (go_simp; done), ?_⟩
        intro w hS
        clear hS
        go_simp
        try with_reducible rfl
      try simp only [Act.put, List.getElem_toArray, List.getElem_cons_succ, List.getElem_cons_zero, List.setIfInBounds_toArray, List.set_cons_succ, List.set_cons_zero]
      apply takeH (i := 6) 23 rfl (by kernel_rfl) (by kernel_rfl) (by kernel_rfl) (fun _ _ _ h => h) rfl (by first | exact M.out | exact M.out.take 0)
      case' hy =>
        refine Or.inl ⟨by first | rfl | (go_simp; done), ?_⟩
        intro w hS
        clear hS
        go_simp
        try with_reducible rfl
      try simp only [Act.put, List.getElem_toArray, List.getElem_cons_succ, List.getElem_cons_zero, List.setIfInBounds_toArray, List.set_cons_succ, List.set_cons_zero]
      apply takeH (i := 7) 24 rfl (by kernel_rfl) (by kernel_rfl) (by kernel_rfl) (fun _ _ _ h => h) rfl (by first | exact M.out | exact M.out.take 0)
      case' hy => exact yieldsIf_load_mid (by first | rfl | (go_simp; done)) _ _ rfl _ _ rfl _ _ (fun w' hS => range_at Entry.vl (sl_rangeEntry (hS.sl HY.out) hlt) HXK.out) Tryz.underlying45 rfl sz45
      try simp only [Act.put, List.getElem_toArray, List.getElem_cons_succ, List.getElem_cons_zero, List.setIfInBounds_toArray, List.set_cons_succ, List.set_cons_zero]
      apply takeH (i := 8) 25 rfl (by kernel_rfl) (by kernel_rfl) (by kernel_rfl) (fun _ _ _ h => h) rfl (by first | exact M.out | exact M.out.take 0)
      case' hy =>
        refine Or.inl ⟨by first | rfl | (go_simp; done), ?_⟩
        intro w hS
        clear hS
        go_simp
        try with_reducible rfl
      try simp only [Act.put, List.getElem_toArray, List.getElem_cons_succ, List.getElem_cons_zero, List.setIfInBounds_toArray, List.set_cons_succ, List.set_cons_zero]
      refine wpAnyH_done (by kernel_rfl) ?_ _
      go_wp2
      exact ⟨⟨k + 1, by omega, by go_num, M.out⟩, by simp [intOf]; omega⟩
    · obtain rfl : k = xs.length := by omega
      go_wp2
      go_ret
      exact ⟨rfl, M.out⟩
end Go.Proofs.YtaepgjjmfopiiaaGreatDoor
namespace Go.Proofs.YtaepgjjmfopiiaaGreatDoor
set_option linter.unusedSimpArgs false
set_option linter.unusedVariables false
open Go.RowKit
attribute [local go_sem] cell?_mk frozen?_mk
--ONES exact Plot.one _

theorem sl_rangePlot {w : World} {sz b off n k : Nat} {cs : List Value} (h : Sl w sz (some ⟨b, off, none⟩) n cs) (hn : k < n) : w.rangeAt b off cs := by
  obtain ⟨b1, o1, hB, hr⟩ := h.2 (by omega)
  cases hB
  exact hr
theorem neqPlot (x : Plot) (w : World) : (binOp .neq 95 (.agg x.vals.toArray) (.agg x.vals.toArray)).run Tryz.prog w = .ok (.bool false) w := by
  have ui16 := Tryz.underlying26
  have ai16 := Tryz.isAgg26
  have zi16 := Tryz.sizeOf26
  have u4 := Tryz.underlying95
  unfold Plot.vals
  obtain ⟨e0, e1, e2, e3⟩ := x
  go_simp
set_option maxRecDepth 100000 in
set_option maxHeartbeats 2000000 in
theorem PlotSame_any (A B : Option Addr) (c d : Nat) (xs : List Plot) (w : World) (hl : xs.length ≤ 1048576) (hx : Sl w 4 A xs.length (flat Plot.vals xs)) (hy : Sl w 4 B xs.length (flat Plot.vals xs)) :
    Calls Tryz.prog 23 #[.slice A xs.length c, .slice B xs.length d] w fun e w' => e = .returned (.bool true) ∧ Mem w w' [] := by
  have M := Lib.hid (Mem.start w)
  have HX := Lib.hid hx
  have HY := Lib.hid hy
  clear hx hy
  go_enter Tryz.func23, Tryz.ntmps23
  go_wp2
  go_loopw [5] (fun v wr => ∃ k : Nat, k ≤ xs.length ∧ v = .int .i64 k ∧ Mem w wr [])
    (fun v _ => xs.length - (intOf v).toNat)
  case atStart => exact ⟨0, by omega, rfl, M.out⟩
  case round =>
    clear M
    obtain ⟨k, hk, rfl, m⟩ := hrel
    have M := Lib.hid m
    clear m
    by_cases hlt : k < xs.length
    · obtain ⟨b, off, rfl, _⟩ := HX.out.2 (by omega)
      obtain ⟨b2, off2, rfl, _⟩ := HY.out.2 (by omega)
      have HXK := Lib.hid (show xs[k]? = some xs[k] from List.getElem?_eq_getElem hlt)
      have i0 : (0 : Int) ≤ (k : Int) := by omega
      have i1 : (k : Int) < (xs.length : Int) := by omega
      obtain ⟨x, hx⟩ : ∃ x, x = xs[k] := ⟨_, rfl⟩
      rw [← hx] at HXK
      clear hx
      have heq := neqPlot x
      go_wp2
      refine region_anyH (fun w' => Mem w w' []) (by kernel_rfl) ?_
      have m := M.out.drew
      clear M
      have M := Lib.hid m
      clear m
      apply takeH (i := 0) 17 rfl (by kernel_rfl) (by kernel_rfl) (by kernel_rfl) (fun _ _ _ h => h) rfl (by first | exact M.out | exact M.out.take 0)
      case' hy =>
        refine Or.inl ⟨by first | rfl | (go_simp; done), ?_⟩
        intro w hS
        clear hS
        go_simp
        try with_reducible rfl
      try simp only [Act.put, List.getElem_toArray, List.getElem_cons_succ, List.getElem_cons_zero, List.setIfInBounds_toArray, List.set_cons_succ, List.set_cons_zero]
      apply takeH (i := 1) 18 rfl (by kernel_rfl) (by kernel_rfl) (by kernel_rfl) (fun _ _ _ h => h) rfl (by first | exact M.out | exact M.out.take 0)
      case' hy =>
        refine Or.inl ⟨by first | rfl | (go_simp; done), ?_⟩
        intro w hS
        clear hS
        go_simp
        try with_reducible rfl
      try simp only [Act.put, List.getElem_toArray, List.getElem_cons_succ, List.getElem_cons_zero, List.setIfInBounds_toArray, List.set_cons_succ, List.set_cons_zero]
      apply takeH (i := 2) 19 rfl (by kernel_rfl) (by kernel_rfl) (by kernel_rfl) (fun _ _ _ h => h) rfl (by first | exact M.out | exact M.out.take 0)
      case' hy =>
        refine Or.inl ⟨by first | rfl | (go_simp; done), ?_⟩
        intro w hS
        clear hS
        go_simp
        try with_reducible rfl
      try simp only [Act.put, List.getElem_toArray, List.getElem_cons_succ, List.getElem_cons_zero, List.setIfInBounds_toArray, List.set_cons_succ, List.set_cons_zero]
      apply takeH (i := 3) 20 rfl (by kernel_rfl) (by kernel_rfl) (by kernel_rfl) (fun _ _ _ h => h) rfl (by first | exact M.out | exact M.out.take 0)
      case' hy => exact yieldsIf_load_mid (by first | rfl | (go_simp; done)) _ _ rfl _ _ rfl _ _ (fun w' hS => range_at Plot.vl (sl_rangePlot (hS.sl HX.out) hlt) HXK.out) Tryz.underlying95 rfl sz95
      try simp only [Act.put, List.getElem_toArray, List.getElem_cons_succ, List.getElem_cons_zero, List.setIfInBounds_toArray, List.set_cons_succ, List.set_cons_zero]
      apply takeH (i := 4) 21 rfl (by kernel_rfl) (by kernel_rfl) (by kernel_rfl) (fun _ _ _ h => h) rfl (by first | exact M.out | exact M.out.take 0)
      case' hy =>
        refine Or.inl ⟨by first | rfl | (go_simp; done), ?_⟩
        intro w hS
        clear hS
        go_simp
        try with_reducible rfl
      try simp only [Act.put, List.getElem_toArray, List.getElem_cons_succ, List.getElem_cons_zero, List.setIfInBounds_toArray, List.set_cons_succ, List.set_cons_zero]
      apply takeH (i := 5) 22 rfl (by kernel_rfl) (by kernel_rfl) (by kernel_rfl) (fun _ _ _ h => h) rfl (by first | exact M.out | exact M.out.take 0)
      case' hy =>
        refine Or.inl ⟨by first | rfl | (go_simp; done), ?_⟩
        intro w hS
        clear hS
        go_simp
        try with_reducible rfl
      try simp only [Act.put, List.getElem_toArray, List.getElem_cons_succ, List.getElem_cons_zero, List.setIfInBounds_toArray, List.set_cons_succ, List.set_cons_zero]
      apply takeH (i := 6) 23 rfl (by kernel_rfl) (by kernel_rfl) (by kernel_rfl) (fun _ _ _ h => h) rfl (by first | exact M.out | exact M.out.take 0)
      case' hy =>
        refine Or.inl ⟨by first | rfl | (go_simp; done), ?_⟩
        intro w hS
        clear hS
        go_simp
        try with_reducible rfl
      try simp only [Act.put, List.getElem_toArray, List.getElem_cons_succ, List.getElem_cons_zero, List.setIfInBounds_toArray, List.set_cons_succ, List.set_cons_zero]
      apply takeH (i := 7) 24 rfl (by kernel_rfl) (by kernel_rfl) (by kernel_rfl) (fun _ _ _ h => h) rfl (by first | exact M.out | exact M.out.take 0)
      case' hy => exact yieldsIf_load_mid (by first | rfl | (go_simp; done)) _ _ rfl _ _ rfl _ _ (fun w' hS => range_at Plot.vl (sl_rangePlot (hS.sl HY.out) hlt) HXK.out) Tryz.underlying95 rfl sz95
      try simp only [Act.put, List.getElem_toArray, List.getElem_cons_succ, List.getElem_cons_zero, List.setIfInBounds_toArray, List.set_cons_succ, List.set_cons_zero]
      apply takeH (i := 8) 25 rfl (by kernel_rfl) (by kernel_rfl) (by kernel_rfl) (fun _ _ _ h => h) rfl (by first | exact M.out | exact M.out.take 0)
      case' hy =>
        refine Or.inl ⟨by first | rfl | (go_simp; done), ?_⟩
        intro w hS
        clear hS
        go_simp
        try with_reducible rfl
      try simp only [Act.put, List.getElem_toArray, List.getElem_cons_succ, List.getElem_cons_zero, List.setIfInBounds_toArray, List.set_cons_succ, List.set_cons_zero]
      refine wpAnyH_done (by kernel_rfl) ?_ _
      go_wp2
      exact ⟨⟨k + 1, by omega, by go_num, M.out⟩, by simp [intOf]; omega⟩
    · obtain rfl : k = xs.length := by omega
      go_wp2
      go_ret
      exact ⟨rfl, M.out⟩
end Go.Proofs.YtaepgjjmfopiiaaGreatDoor
namespace Go.Proofs.YtaepgjjmfopiiaaGreatDoor
set_option linter.unusedSimpArgs false
set_option linter.unusedVariables false
open Go.RowKit
attribute [local go_sem] cell?_mk frozen?_mk
--ONES exact Fld.one _

set_option maxRecDepth 100000 in
set_option maxHeartbeats 1000000 in
theorem impl_SeedsIn_any (F : Fld) (hF : F.ok) (hv : F.valid = true) (w : World) :
    Calls Tryz.prog 17 #[.agg F.cells] w fun e w' => e = .returned (.tuple #[.int .i64 (seedSum F 100), .int .i64 0]) ∧ Mem w w' [] := by
  have M := Lib.hid (Mem.start w)
  have S1 := Lib.hid (Fld.size hF.toLen)
  go_enter Tryz.func17, Tryz.ntmps17
  go_wp2_with (first
    | ((with_reducible refine gate_dst (N := 1) rfl ?_); go_must (refine M.out.ev_new rfl (by first | (go_simp; done) | (go_simp; rfl)) ?_); intro g1 w1 m; simp only [List.cons_append, List.nil_append] at m; have M := Lib.hid m; clear m)
    | ((with_reducible refine gate_dst (N := 4) rfl ?_); go_must (refine M.out.ev_ldw 0 _ _ rfl rfl rfl Tryz.underlying29 rfl (by first | exact sz29 | (rw [S1.out]; exact sz29) | (rw [S2.out]; exact sz29) | (rw [S3.out]; exact sz29)) rfl ?_))
    | (go_at_call 15; go_must (refine (ValidField_any F hF _).mono ?_); rintro e w_ ⟨rfl, N_⟩; have m := M.out.join N_; clear N_; simp only [List.cons_append, List.nil_append, List.append_nil] at m; have M := Lib.hid m; clear m; rw [hv])
    | (go_at_call 45; go_must (refine (seedsIn_any g1 F hF _ (M.out.blk 0 rfl)).mono ?_); rintro e w_ ⟨rfl, rfl⟩)
    )
  go_ret2
  exact ⟨rfl, M.out.take 0⟩
set_option maxRecDepth 100000 in
set_option maxHeartbeats 1000000 in
theorem spec_SeedsIn_any (F : Fld) (hF : F.ok) (hv : F.valid = true) (w : World) :
    Calls Tryz.prog 16 #[.agg F.cells] w fun e w' => e = .returned (.tuple #[.int .i64 (seedSum F 100), .int .i64 0]) ∧ Mem w w' [] := by
  have M := Lib.hid (Mem.start w)
  have S1 := Lib.hid (Fld.size hF.toLen)
  go_enter Tryz.func16, Tryz.ntmps16
  go_wp2_with (first
    | ((with_reducible refine gate_dst (N := 1) rfl ?_); go_must (refine M.out.ev_new rfl (by first | (go_simp; done) | (go_simp; rfl)) ?_); intro g1 w1 m; simp only [List.cons_append, List.nil_append] at m; have M := Lib.hid m; clear m)
    | (go_at_call 43; go_must (refine (l01Ok_any g1 F hF _ (M.out.blk 0 rfl)).mono ?_); rintro e w_ ⟨rfl, rfl⟩; rw [hv])
    | (go_at_call 44; go_must (refine (l01Sum_any g1 F hF _ (M.out.blk 0 rfl)).mono ?_); rintro e w_ ⟨rfl, rfl⟩)
    )
  go_ret2
  exact ⟨rfl, M.out.take 0⟩
end Go.Proofs.YtaepgjjmfopiiaaGreatDoor
namespace Go.Proofs.YtaepgjjmfopiiaaGreatDoor
set_option linter.unusedSimpArgs false
set_option linter.unusedVariables false
open Go.RowKit
attribute [local go_sem] cell?_mk frozen?_mk

set_option maxRecDepth 100000 in
theorem f6big_any (A : Option Addr) (n c : Nat) (w : World) :
    Calls Tryz.prog 4 #[.slice A n c] w fun e w' => e = .returned (.bool (decide (4096 < n))) ∧ w = w' := by
  by_cases h : 4096 < n
  all_goals
    have h1 := h
    go_enter Tryz.func4, Tryz.ntmps4
    go_wp2
    go_ret
    refine ⟨?_, rfl⟩
    simp [h1]
    try omega
end Go.Proofs.YtaepgjjmfopiiaaGreatDoor
namespace Go.Proofs.YtaepgjjmfopiiaaGreatDoor
set_option linter.unusedSimpArgs false
set_option linter.unusedVariables false
open Go.RowKit

/-- A diary that was drawn: its text, what is read of it, and what is made with it. -/
structure DiaC (F : Fld) (xs : List Entry) (T : List UInt8) (E : Fld) (SS : List Int) (C a b d : Int) (n0 : Nat) (nw : Nat → Fld) (S2 : List Int) (p q : Int) : Prop where
  n0le : n0 ≤ xs.length
  El : E.len
  SSl : SS.length = 4
  S2l : S2.length = 4
  kase : (C = 0 ∧ d = 6 ∧ n0 = xs.length) ∨ (C ≠ 0 ∧ d = 0 ∧ b = C ∧ a = (n0 : Int) ∧ n0 < xs.length)
  txt : ∀ A c w, Tab w → Sl w 3 A xs.length (flat Entry.vals xs) → Calls Tryz.prog 8 #[.slice A xs.length c] w fun e w' => e = .returned (.string ⟨T.toArray⟩) ∧ Mem w w' []
  read : ∀ w, Tabs w → Calls Tryz.prog 7 #[.string ⟨T.toArray⟩] w (RetRowC w 45 3 xs.length (flat Entry.vals xs) 0)
  rpI : ∀ A c w, Sl w 3 A xs.length (flat Entry.vals xs) → Calls Tryz.prog 9 #[.agg F.cells, .slice A xs.length c] w fun e w' => e = .returned (.tuple #[.agg E.cells, .agg (ints .i64 SS), .int .i64 C]) ∧ Mem w w' []
  rpS : ∀ A c w, Sl w 3 A xs.length (flat Entry.vals xs) → Calls Tryz.prog 10 #[.agg F.cells, .slice A xs.length c] w fun e w' => e = .returned (.tuple #[.agg E.cells, .agg (ints .i64 SS), .int .i64 C]) ∧ Mem w w' []
  fwI : ∀ A c w, Sl w 3 A xs.length (flat Entry.vals xs) → Calls Tryz.prog 11 #[.agg F.cells, .slice A xs.length c] w fun e w' => e = .returned (.tuple #[.int .i64 a, .int .i64 b, .int .i64 d]) ∧ Mem w w' []
  fwS : ∀ A c w, Sl w 3 A xs.length (flat Entry.vals xs) → Calls Tryz.prog 12 #[.agg F.cells, .slice A xs.length c] w fun e w' => e = .returned (.tuple #[.int .i64 a, .int .i64 b, .int .i64 d]) ∧ Mem w w' []
  nw0 : nw 0 = F
  nwl : ∀ i, i ≤ n0 → (nw i).len
  step : ∀ i, i < n0 → ∃ x, xs[i]? = some x ∧ ∀ w, Calls Tryz.prog 14 #[.agg (nw i).cells, .agg x.vals.toArray] w fun e w' => e = .returned (.tuple #[.agg (nw (i + 1)).cells, .int .i64 0]) ∧ Mem w w' []
  vf : ∀ i, i ≤ n0 → ∀ w, Calls Tryz.prog 15 #[.agg (nw i).cells] w fun e w' => e = .returned (.bool true) ∧ Mem w w' []
  rpG : ∀ A c w, Sl w 3 A n0 (flat Entry.vals (xs.take n0)) → Calls Tryz.prog 9 #[.agg F.cells, .slice A n0 c] w fun e w' => e = .returned (.tuple #[.agg (nw n0).cells, .agg (ints .i64 S2), .int .i64 0]) ∧ Mem w w' []
  sdS : ∀ w, Calls Tryz.prog 16 #[.agg F.cells] w fun e w' => e = .returned (.tuple #[.int .i64 p, .int .i64 0]) ∧ Mem w w' []
  sdI : ∀ w, Calls Tryz.prog 17 #[.agg (nw n0).cells] w fun e w' => e = .returned (.tuple #[.int .i64 q, .int .i64 0]) ∧ Mem w w' []
  sum : p + gi S2 0 = q + gi S2 1 + gi S2 2 + gi S2 3
  bs : ∀ j, 0 ≤ gi S2 j ∧ gi S2 j ≤ 1000000
  bp : 0 ≤ p ∧ p ≤ 10000000
  bq : 0 ≤ q ∧ q ≤ 10000000
theorem firstBad_pre {F : Fld} {xs : List Entry} (h : firstBad F xs = none) : ∀ k, firstBad F (xs.take k) = none := by
  intro k
  induction xs generalizing F k with
  | nil => simpa using h
  | cons x r ih =>
    cases k with
    | zero => rfl
    | succ k =>
      obtain ⟨hc, hr⟩ := firstBad_cons h
      rw [List.take_succ_cons, firstBad, if_neg (by simpa using hc), ih hr k]
      rfl
theorem rd_none' {F : Fld} {ys : List Entry} (hv : F.valid = true) (hl : ys.length ≤ 100) (h : firstBad F ys = none) : rdF F ys = F.thru ys ∧ rdS F ys = sumsOf ys ∧ rdC F ys = 0 := by
  have hd : diaryOf F ys.length = 0 := by unfold diaryOf; rw [if_neg (by rw [hv]; simp), if_neg (by omega)]
  unfold rdF rdS rdC repF repS repC
  rw [if_pos hd, if_pos hd, if_pos hd, h]
  exact ⟨rfl, rfl, rfl⟩
theorem sums_b {F : Fld} {ys : List Entry} (hF : F.ok) (hv : F.valid = true) (h : firstBad F ys = none) (hl : ys.length ≤ 100) (j : Nat) : 0 ≤ gi (sumsOf ys) j ∧ gi (sumsOf ys) j ≤ 1000000 := by
  have hf : fine F ys ys.length := fun i hi x hx => by
    have hi' : i < ys.length := hi
    rw [List.getElem?_eq_getElem hi'] at hx
    obtain rfl := Option.some.inj hx
    exact (dia_step h i hi').1
  have := sums_small ys ys.length (Nat.le_refl _) hf j
  rw [List.take_length] at this
  omega
theorem seedSum_le {F : Fld} (hF : F.ok) (hv : F.valid = true) : 0 ≤ seedSum F 100 ∧ seedSum F 100 ≤ 10000000 := by
  have : ∀ n, n ≤ 100 → 0 ≤ seedSum F n ∧ seedSum F n ≤ 1000 * n := by
    intro n
    induction n with
    | zero => intro _; exact ⟨Int.le_refl _, Int.le_refl _⟩
    | succ n ih =>
      intro hn
      have h1 := ih (by omega)
      have h2 := Fld.okAt_iff.1 (Fld.valid_at hv (show n < 100 by omega))
      rw [seedSum]
      push_cast
      omega
  have := this 100 (Nat.le_refl _)
  omega
theorem dia_calls (F : Fld) (hF : FDr F 100) (xs : List Entry) (hx : DDr xs 7) : ∃ T E SS C a b d n0 nw S2 p q, DiaC F xs T E SS C a b d n0 nw S2 p q := by
  have hok := hF.ok
  have hv := hF.valid
  have hl := hx.1
  have hx1 : ∀ x ∈ xs, x.ok := fun x h => (hx.2 x h).1
  have hx2 : ∀ x ∈ xs, x.plain = true := fun x h => (hx.2 x h).2
  have hT : diaryT xs = linesT xs := by
    unfold diaryT
    rw [if_pos (List.all_eq_true.2 hx2), if_pos (by omega)]
  have hrd : readD (diaryT xs) = some xs := by rw [hT]; exact readD_lines hx2 (by omega)
  have hTl : (diaryT xs).length ≤ 1048576 := by
    rw [hT]
    have := linesT_len (xs := xs) hx1
    omega
  have hd0 : diaryOf F xs.length = 0 := by unfold diaryOf; rw [if_neg (by rw [hv]; simp), if_neg (by omega)]
  have key : ∀ n0, n0 ≤ xs.length → firstBad F (xs.take n0) = none → ∀ a b d, wrongOf F xs = (a, b, d) → ((rdC F xs = 0 ∧ d = 6 ∧ n0 = xs.length) ∨ (rdC F xs ≠ 0 ∧ d = 0 ∧ b = rdC F xs ∧ a = (n0 : Int) ∧ n0 < xs.length)) →
      ∃ T E SS C a b d n0 nw S2 p q, DiaC F xs T E SS C a b d n0 nw S2 p q := by
    intro n0 hn0 hb a b d hw hk
    have hlt : (xs.take n0).length = n0 := by rw [List.length_take]; omega
    have hat : ∀ i, i ≤ n0 → (F.thru (xs.take i)).ok ∧ (F.thru (xs.take i)).valid = true := fun i hi => by
      have := firstBad_pre hb i
      rw [List.take_take, Nat.min_eq_left hi] at this
      obtain ⟨h1, h2, _⟩ := dia_end _ F (zs 4) hok hv (zs_len 4) this
      exact ⟨h1, h2⟩
    have hG := rd_none' hv (by rw [hlt]; omega) hb
    refine ⟨diaryT xs, rdF F xs, rdS F xs, rdC F xs, a, b, d, n0, fun i => F.thru (xs.take i), sumsOf (xs.take n0), seedSum F 100, seedSum (F.thru (xs.take n0)) 100, hn0, rdF_len hok xs, rdS_len F xs, sumsOf_len _, hk, ?_, ?_, ?_, ?_, ?_, ?_, rfl, fun i hi => (hat i hi).1.toLen, ?_, ?_, ?_, ?_, ?_, ?_, ?_, ?_, ?_⟩
    · exact fun A c w ht hs => impl_DiaryText_any A c xs hx1 (by omega) w ht hs
    · intro w ht
      have := impl_ReadDiary_any (diaryT xs) hTl w ht
      rwa [(rd_some hrd).1, (rd_some hrd).2] at this
    · exact fun A c w hs => impl_replayD_any F hok A c xs hx1 (by omega) w hs
    · exact fun A c w hs => spec_replayD_any F hok A c xs hx1 (by omega) w hs
    · intro A c w hs
      have := impl_wrong_any F hok A c xs hx1 (by omega) w hs
      rwa [hw] at this
    · intro A c w hs
      have := spec_wrong_any F hok A c xs hx1 (by omega) w hs
      rwa [hw] at this
    · intro i hi
      have hi2 : i < (xs.take n0).length := by rw [hlt]; exact hi
      obtain ⟨s1, s2⟩ := dia_step hb i hi2
      rw [List.take_take, Nat.min_eq_left (by omega)] at s1 s2
      rw [List.take_take, Nat.min_eq_left (by omega)] at s2
      have hix : i < xs.length := by omega
      have hg : (xs.take n0)[i] = xs[i] := by rw [List.getElem_take]
      rw [hg] at s1 s2
      refine ⟨xs[i], List.getElem?_eq_getElem hix, fun w => ?_⟩
      show Calls _ _ #[.agg (F.thru (xs.take i)).cells, _] w _
      have := impl_ApplyEntry_any (F.thru (xs.take i)) (hat i (by omega)).1 (hat i (by omega)).2 xs[i] (hx1 _ (List.getElem_mem hix)) s1 w
      rw [← s2] at this
      exact this
    · intro i hi w
      have := ValidField_any (F.thru (xs.take i)) (hat i hi).1 w
      rwa [(hat i hi).2] at this
    · intro A c w hs
      have h := impl_replayD_any F hok A c (xs.take n0) (fun x hx => hx1 x (List.mem_of_mem_take hx)) (by rw [hlt]; omega) w (by rw [hlt]; exact hs)
      rw [hlt, hG.1, hG.2.1, hG.2.2] at h
      exact h
    · exact fun w => spec_SeedsIn_any F hok hv w
    · exact fun w => impl_SeedsIn_any _ (hat n0 (Nat.le_refl _)).1 (hat n0 (Nat.le_refl _)).2 w
    · exact dia_sums hok hv hb
    · exact fun j => sums_b hok hv hb (by rw [hlt]; omega) j
    · exact seedSum_le hok hv
    · exact seedSum_le (hat n0 (Nat.le_refl _)).1 (hat n0 (Nat.le_refl _)).2
  cases hb : firstBad F xs with
  | none =>
    refine key xs.length (Nat.le_refl _) (by rw [List.take_length]; exact hb) 0 0 6 ?_ (.inl ⟨?_, rfl, rfl⟩)
    · unfold wrongOf
      rw [if_neg (by simp [hd0]), hb]
      rfl
    · exact (rd_none' hv (by omega) hb).2.2
  | some pr =>
    obtain ⟨k, c⟩ := pr
    obtain ⟨h1, h2, h3⟩ := firstBad_take xs F k c hb
    have hC : rdC F xs = c := by
      unfold rdC repC
      rw [if_pos hd0, hb]
      rfl
    refine key k (by omega) h3 k c 0 ?_ (.inr ⟨by rw [hC]; exact h2, rfl, hC.symm, rfl, h1⟩)
    unfold wrongOf
    rw [if_neg (by simp [hd0]), hb]
    rfl
/-- Another field, alike but for seeds: the diary that leads there. -/
structure WayC (F G : Fld) (X : List Entry) (S3 : List Int) (Q : List Plot) (cq : Int) : Prop where
  Gl : G.len
  Xl : X.length ≤ 100
  S3l : S3.length = 4
  Ql : Q.length ≤ 100
  wI : ∀ w, Calls Tryz.prog 19 #[.agg F.cells, .agg G.cells] w (RetRowC w 45 3 X.length (flat Entry.vals X) 0)
  wS : ∀ w, Calls Tryz.prog 20 #[.agg F.cells, .agg G.cells] w (RetRowC w 45 3 X.length (flat Entry.vals X) 0)
  home : ∀ A c w, Sl w 3 A X.length (flat Entry.vals X) → Calls Tryz.prog 9 #[.agg F.cells, .slice A X.length c] w fun e w' => e = .returned (.tuple #[.agg G.cells, .agg (ints .i64 S3), .int .i64 0]) ∧ Mem w w' []
  none_ : ∀ w, Calls Tryz.prog 19 #[.agg F.cells, .agg F.cells] w (RetRowC w 45 3 0 [] 0)
  plI : ∀ w, Calls Tryz.prog 21 #[.agg F.cells, .int .i64 2, .int .i64 3, .int .i64 1] w (RetRowC w 95 4 Q.length (flat Plot.vals Q) cq)
  plS : ∀ w, Calls Tryz.prog 22 #[.agg F.cells, .int .i64 2, .int .i64 3, .int .i64 1] w (RetRowC w 95 4 Q.length (flat Plot.vals Q) cq)
theorem way_self (F : Fld) : way F F = [] := by
  unfold way wayOf
  rw [List.flatMap_eq_nil_iff]
  intro k _
  unfold wayAt
  rw [if_neg (by omega), if_neg (by omega)]
theorem way_ok {F G : Fld} (hF : F.ok) (hv : F.valid = true) (hG : G.ok) (hg : G.valid = true) : ∀ x ∈ way F G, x.ok := by
  intro x hx
  unfold way wayOf at hx
  obtain ⟨k, hk, hxk⟩ := List.mem_flatMap.1 hx
  have hk := List.mem_range.1 hk
  have f := Fld.okAt_iff.1 (Fld.valid_at hv hk)
  have g := Fld.okAt_iff.1 (Fld.valid_at hg hk)
  unfold wayAt at hxk
  split at hxk
  · obtain rfl := List.mem_singleton.1 hxk
    refine ⟨by show -128 ≤ (0 : Int) ∧ (0 : Int) ≤ 127; decide, ?_, ?_⟩
    · show -32768 ≤ (k : Int) ∧ (k : Int) ≤ 32767; omega
    · show -32768 ≤ G.seed k - F.seed k ∧ G.seed k - F.seed k ≤ 32767; omega
  · split at hxk
    · obtain rfl := List.mem_singleton.1 hxk
      refine ⟨by show -128 ≤ (1 : Int) ∧ (1 : Int) ≤ 127; decide, ?_, ?_⟩
      · show -32768 ≤ (k : Int) ∧ (k : Int) ≤ 32767; omega
      · show -32768 ≤ F.seed k - G.seed k ∧ F.seed k - G.seed k ≤ 32767; omega
    · cases hxk
theorem way_calls (F G : Fld) (hF : F.ok) (hv : F.valid = true) (hG : G.ok) (hg : G.valid = true) (hn : Near F G) : ∃ X S3 Q cq, WayC F G X S3 Q cq := by
  have hlen : (way F G).length ≤ 100 := by have := wayOf_len F G (List.range 100); rwa [List.length_range] at this
  obtain ⟨e1, e2⟩ := way_end hF hv hG hg hn
  have hr := rd_none' hv hlen e1
  refine ⟨way F G, sumsOf (way F G), pofR F, pofC F, hG.toLen, hlen, sumsOf_len _, ?_, fun w => impl_DiaryOf_any F G hF hv hG hg hn w, fun w => spec_DiaryOf_any F G hF hv hG hg hn w, ?_, ?_, fun w => impl_PlotsOf_any F hF hv w, fun w => spec_PlotsOf_any F hF hv w⟩
  · unfold pofR
    split
    · omega
    · simp
  · intro A c w hs
    have h := impl_replayD_any F hF A c (way F G) (way_ok hF hv hG hg) (by omega) w hs
    rw [hr.1, hr.2.1, hr.2.2] at h
    rw [show F.thru (way F G) = G from e2] at h
    exact h
  · intro w
    have h := impl_DiaryOf_any F F hF hv hF hv (Near.refl F) w
    rw [way_self F] at h
    exact h
end Go.Proofs.YtaepgjjmfopiiaaGreatDoor
namespace Go.Proofs.YtaepgjjmfopiiaaGreatDoor
set_option linter.unusedSimpArgs false
set_option linter.unusedVariables false
open Go.RowKit

def U8.vals (x : Int) : List Value := oneB x
def U8.ok (x : Int) : Prop := 0 ≤ x ∧ x ≤ 255
def U8.ks : List IntKind := [.u8]
theorem U8.vl (x : Int) : (U8.vals x).length = 1 := rfl
theorem U8.of_conf (cs : List Value) (h : Conf U8.ks cs) : ∃ x : Int, U8.ok x ∧ U8.vals x = cs := by
  obtain ⟨e0, r, rfl, w0, h⟩ := h.cons
  obtain rfl := h.nil_eq
  exact ⟨e0, bounds_u8 w0, rfl⟩
theorem U8.bytes {bs : List Int} (h : ∀ x ∈ bs, U8.ok x) (hl : bs.length ≤ 4096) : Bytes bs := ⟨h, hl⟩
end Go.Proofs.YtaepgjjmfopiiaaGreatDoor
