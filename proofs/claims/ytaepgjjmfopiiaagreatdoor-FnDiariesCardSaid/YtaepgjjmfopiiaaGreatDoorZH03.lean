/- Texts of a proof, laid together: Diary. -/
import Derived.Test.YtaepgjjmfopiiaaGreatDoorZH02
namespace Go.Proofs.YtaepgjjmfopiiaaGreatDoor
set_option linter.unusedSimpArgs false
set_option linter.unusedVariables false
open Go.RowKit
attribute [local go_sem] cell?_mk frozen?_mk
def Entry.plain (x : Entry) : Bool := inB x.what 0 3 && (inB x.cell 0 99 && inB x.amount 1 1000)
/-- An entry as Go can hold it. -/
structure Entry.ok (x : Entry) : Prop where
  a : -128 ≤ x.what ∧ x.what ≤ 127
  b : -32768 ≤ x.cell ∧ x.cell ≤ 32767
  c : -32768 ≤ x.amount ∧ x.amount ≤ 32767
/-- The code of an entry that is made. -/
def Fld.code (F : Fld) (x : Entry) : Int :=
  if (x.plain && F.has x.cell) = false then 2 else if F.kind x.cell.toNat ≠ 0 then 4 else
  if x.what = 0 then (if 1000 < F.seed x.cell.toNat + x.amount then 3 else 0) else (if F.seed x.cell.toNat < x.amount then 8 else 0)
/-- The field behind an entry that has been made. -/
def Fld.made (F : Fld) (x : Entry) : Fld :=
  F.withSeed x.cell.toNat (if x.what = 0 then F.seed x.cell.toNat + x.amount else F.seed x.cell.toNat - x.amount)
def Fld.after (F : Fld) (x : Entry) : Fld := if F.code x = 0 then F.made x else F

theorem grown_upd {w w1 w2 : World} {b : Nat} (h : Below w.heap.size w w1) (hU : Upd w1 w2 b) : w.grownBy w2 (some b) :=
  ⟨hU.os.trans h.os, hU.tape.trans h.tape, hU.output.trans h.output, by rw [hU.size]; exact h.size, fun k hk hne => (hU.block k (fun e => hne (by rw [e]))).trans (h.block k hk)⟩
theorem grown_below {w w1 : World} {b : Nat} (h : Below w.heap.size w w1) : w.grownBy w1 (some b) :=
  ⟨h.os, h.tape, h.output, h.size, fun k hk _ => h.block k hk⟩

set_option maxRecDepth 100000 in
set_option maxHeartbeats 1000000 in
theorem isPlainE_any (x : Entry) (hx : x.ok) (w : World) :
    Calls Tryz.prog 32 #[.agg x.vals.toArray] w fun e w' => e = .returned (.bool x.plain) ∧ Mem w w' [] := by
  have M := Lib.hid (Mem.start w)
  obtain ⟨a, b, c⟩ := x
  obtain ⟨⟨a1, a2⟩, ⟨b1, b2⟩, ⟨c1, c2⟩⟩ := hx
  simp only [Entry.vals, Entry.plain] at *
  go_enter Tryz.func32, Tryz.ntmps32
  go_wp2_with (first
    | ((with_reducible refine gate_dst (N := 1) rfl ?_); go_must (refine M.out.ev_new rfl (by first | (go_simp; done) | (go_simp; rfl)) ?_); intro g1 w1 m; simp only [List.cons_append, List.nil_append] at m; have M := Lib.hid m; clear m; try have q0_1 := M.out.cell (j := 1) 0 rfl (by first | assumption | rfl); try have q0_2 := M.out.cell (j := 2) 0 rfl (by first | assumption | rfl))
    | ((with_reducible refine gate_dst (N := 4) rfl ?_); go_must (refine M.out.ev_ld 0 _ _ rfl rfl rfl Tryz.underlying24 rfl rfl (by first | assumption | rfl) ?_))
    | (go_at_call 41; go_must (refine (within_any _ _ _ _).mono ?_); rintro e w_ ⟨rfl, rfl⟩)
    )
  all_goals
    go_ret
    exact ⟨ret_bool (by simp_all), M.out.take 0⟩
set_option maxRecDepth 100000 in
set_option maxHeartbeats 1000000 in
theorem l07Entry_any (x : Entry) (hx : x.ok) (w : World) :
    Calls Tryz.prog 70 #[.agg x.vals.toArray] w fun e w' => e = .returned (.bool x.plain) ∧ Mem w w' [] := by
  have M := Lib.hid (Mem.start w)
  obtain ⟨a, b, c⟩ := x
  obtain ⟨⟨a1, a2⟩, ⟨b1, b2⟩, ⟨c1, c2⟩⟩ := hx
  simp only [Entry.vals, Entry.plain] at *
  go_enter Tryz.func70, Tryz.ntmps70
  go_wp2_with (first
    | ((with_reducible refine gate_dst (N := 1) rfl ?_); go_must (refine M.out.ev_new rfl (by first | (go_simp; done) | (go_simp; rfl)) ?_); intro g1 w1 m; simp only [List.cons_append, List.nil_append] at m; have M := Lib.hid m; clear m; try have q0_1 := M.out.cell (j := 1) 0 rfl (by first | assumption | rfl); try have q0_2 := M.out.cell (j := 2) 0 rfl (by first | assumption | rfl))
    | ((with_reducible refine gate_dst (N := 4) rfl ?_); go_must (refine M.out.ev_ld 0 _ _ rfl rfl rfl Tryz.underlying24 rfl rfl (by first | assumption | rfl) ?_))
    | (go_at_call 51; go_must (refine (l00In_any _ _ _ _).mono ?_); rintro e w_ ⟨rfl, rfl⟩)
    )
  all_goals
    go_ret
    exact ⟨ret_bool (by simp_all), M.out.take 0⟩

theorem wrap16 {n : Int} (h0 : -32768 ≤ n) (h1 : n ≤ 32767) : IntKind.i16.wrap n = n := IntWalk.i16_in n ⟨h0, h1⟩
/-- What 'apply' leaves: its code, and the field in its place. -/
def Made (F : Fld) (x : Entry) (b : Nat) (w : World) (e : Ending) (w' : World) : Prop :=
  e = .returned (.int .i64 (F.code x)) ∧ Blk w' b 29 (F.after x).cells ∧ w.grownBy w' (some b)

set_option maxRecDepth 100000 in
set_option maxHeartbeats 2000000 in
theorem apply_any (b : Nat) (F : Fld) (hF : F.ok) (hs : ∀ k, 0 ≤ F.seed k ∧ F.seed k ≤ 1000) (x : Entry) (hx : x.ok) (w : World) (hb : Blk w b 29 F.cells) :
    Calls Tryz.prog 40 #[.pointer (some ⟨b, 0, none⟩), .agg x.vals.toArray] w (Made F x b w) := by
  have M := Lib.hid (Mem.start w)
  have HB := Lib.hid hb
  have HF := Lib.hid hF
  have HX := Lib.hid hx
  have HS := Lib.hid hs
  clear hb hF hs
  cases hp : x.plain
  · have HP := Lib.hid hp
    have hcode : F.code x = 2 := by simp [Fld.code, hp]
    have HC := Lib.hid hcode
    have HA := Lib.hid (show F.after x = F by simp [Fld.after, hcode])
    clear hp hcode hx
    obtain ⟨a, c, d⟩ := x
    go_enter Tryz.func40, Tryz.ntmps40
    simp only [Entry.vals]
    go_wp2_with (first
      | ((with_reducible refine gate_dst (N := 3) rfl ?_); go_must (refine M.out.ev_new rfl (by first | (go_simp; done) | (go_simp; rfl)) ?_); intro g3 w3 m; simp only [List.cons_append, List.nil_append] at m; have M := Lib.hid m; clear m; try have q0_1 := M.out.cell (j := 1) 0 rfl (by first | assumption | rfl); try have q0_0 := M.out.cell (j := 0) 0 rfl (by first | assumption | rfl); try have q0_2 := M.out.cell (j := 2) 0 rfl (by first | assumption | rfl))
      | ((with_reducible refine gate_dst (N := 19) rfl ?_); go_must (refine M.out.ev_ldw 0 _ _ rfl rfl rfl Tryz.underlying45 rfl (by first | exact sz45 | (rw [S1.out]; exact sz45) | (rw [S2.out]; exact sz45) | (rw [S3.out]; exact sz45)) rfl ?_))
      | ((with_reducible refine gate_dst (N := 33) rfl ?_); go_must (refine M.out.ev_ld 0 _ _ rfl rfl rfl Tryz.underlying26 rfl rfl (by first | assumption | rfl) ?_))
      | ((with_reducible refine gate_dst (N := 41) rfl ?_); go_must (refine M.out.ev_ld 0 _ _ rfl rfl rfl Tryz.underlying24 rfl rfl (by first | assumption | rfl) ?_))
      | ((with_reducible refine gate_dst (N := 58) rfl ?_); go_must (refine M.out.ev_ld 0 _ _ rfl rfl rfl Tryz.underlying24 rfl rfl (by first | assumption | rfl) ?_))
      | ((with_reducible refine gate_dst (N := 74) rfl ?_); go_must (refine M.out.ev_ld 0 _ _ rfl rfl rfl Tryz.underlying24 rfl rfl (by first | assumption | rfl) ?_))
      | ((with_reducible refine gate_dst (N := 78) rfl ?_); go_must (refine M.out.ev_ld 0 _ _ rfl rfl rfl Tryz.underlying26 rfl rfl (by first | assumption | rfl) ?_))
      | ((with_reducible refine gate_dst (N := 84) rfl ?_); go_must (refine M.out.ev_ld 0 _ _ rfl rfl rfl Tryz.underlying26 rfl rfl (by first | assumption | rfl) ?_))
      | ((with_reducible refine gate_dst (N := 7) rfl ?_); go_must (refine M.out.ev_ld 0 _ _ rfl rfl rfl Tryz.underlying26 rfl rfl (by first | assumption | rfl) ?_))
      | ((with_reducible refine gate_dst (N := 13) rfl ?_); go_must (refine M.out.ev_ld 0 _ _ rfl rfl rfl Tryz.underlying26 rfl rfl (by first | assumption | rfl) ?_))
      | (go_at_call 32; go_must (refine (isPlainE_any ⟨a, c, d⟩ HX.out _).mono ?_); rintro e w_ ⟨rfl, N_⟩; rw [HP.out]; have m := M.out.join N_; clear N_; simp only [List.append_nil] at m; have M := Lib.hid m; clear m))
    go_ret
    exact ⟨ret_int HC.out.symm, by rw [HA.out]; exact M.out.arg HB.out, grown_below M.out.below⟩
  have HP := Lib.hid hp
  cases hh : F.has x.cell
  · have HH := Lib.hid hh
    have hcode : F.code x = 2 := by simp [Fld.code, hp, hh]
    have HC := Lib.hid hcode
    have HA := Lib.hid (show F.after x = F by simp [Fld.after, hcode])
    clear hp hcode hx hh
    obtain ⟨a, c, d⟩ := x
    have bb := HX.out.b
    simp only at bb
    have b0 := bb.1
    have b1 := bb.2
    clear bb
    go_enter Tryz.func40, Tryz.ntmps40
    simp only [Entry.vals]
    go_wp2_with (first
      | ((with_reducible refine gate_dst (N := 3) rfl ?_); go_must (refine M.out.ev_new rfl (by first | (go_simp; done) | (go_simp; rfl)) ?_); intro g3 w3 m; simp only [List.cons_append, List.nil_append] at m; have M := Lib.hid m; clear m; try have q0_1 := M.out.cell (j := 1) 0 rfl (by first | assumption | rfl); try have q0_0 := M.out.cell (j := 0) 0 rfl (by first | assumption | rfl); try have q0_2 := M.out.cell (j := 2) 0 rfl (by first | assumption | rfl))
      | ((with_reducible refine gate_dst (N := 19) rfl ?_); go_must (refine M.out.ev_ldw 0 _ _ rfl rfl rfl Tryz.underlying45 rfl (by first | exact sz45 | (rw [S1.out]; exact sz45) | (rw [S2.out]; exact sz45) | (rw [S3.out]; exact sz45)) rfl ?_))
      | ((with_reducible refine gate_dst (N := 33) rfl ?_); go_must (refine M.out.ev_ld 0 _ _ rfl rfl rfl Tryz.underlying26 rfl rfl (by first | assumption | rfl) ?_))
      | ((with_reducible refine gate_dst (N := 41) rfl ?_); go_must (refine M.out.ev_ld 0 _ _ rfl rfl rfl Tryz.underlying24 rfl rfl (by first | assumption | rfl) ?_))
      | ((with_reducible refine gate_dst (N := 58) rfl ?_); go_must (refine M.out.ev_ld 0 _ _ rfl rfl rfl Tryz.underlying24 rfl rfl (by first | assumption | rfl) ?_))
      | ((with_reducible refine gate_dst (N := 74) rfl ?_); go_must (refine M.out.ev_ld 0 _ _ rfl rfl rfl Tryz.underlying24 rfl rfl (by first | assumption | rfl) ?_))
      | ((with_reducible refine gate_dst (N := 78) rfl ?_); go_must (refine M.out.ev_ld 0 _ _ rfl rfl rfl Tryz.underlying26 rfl rfl (by first | assumption | rfl) ?_))
      | ((with_reducible refine gate_dst (N := 84) rfl ?_); go_must (refine M.out.ev_ld 0 _ _ rfl rfl rfl Tryz.underlying26 rfl rfl (by first | assumption | rfl) ?_))
      | ((with_reducible refine gate_dst (N := 7) rfl ?_); go_must (refine M.out.ev_ld 0 _ _ rfl rfl rfl Tryz.underlying26 rfl rfl (by first | assumption | rfl) ?_))
      | ((with_reducible refine gate_dst (N := 13) rfl ?_); go_must (refine M.out.ev_ld 0 _ _ rfl rfl rfl Tryz.underlying26 rfl rfl (by first | assumption | rfl) ?_))
      | (go_at_call 32; go_must (refine (isPlainE_any ⟨a, c, d⟩ HX.out _).mono ?_); rintro e w_ ⟨rfl, N_⟩; rw [HP.out]; have m := M.out.join N_; clear N_; simp only [List.append_nil] at m; have M := Lib.hid m; clear m; have q0_1 := M.out.cell (j := 1) 0 rfl rfl)
      | (go_at_call 42; go_must (refine (has_any b F HF.out c _ (M.out.arg HB.out)).mono ?_); rintro e w_ ⟨rfl, rfl⟩; rw [HH.out]))
    go_ret
    exact ⟨ret_int HC.out.symm, by rw [HA.out]; exact M.out.arg HB.out, grown_below M.out.below⟩
  have HH := Lib.hid hh
  obtain ⟨a, c, d⟩ := x
  obtain ⟨⟨c0, c1⟩, _⟩ := Fld.has_iff.1 hh
  simp only at c0 c1
  obtain ⟨k, rfl⟩ : ∃ k : Nat, c = k := ⟨c.toNat, by omega⟩
  have hk : k < 100 := by omega
  have hpl : (0 ≤ a ∧ a ≤ 3) ∧ 1 ≤ d ∧ d ≤ 1000 := by
    simp only [Entry.plain, Bool.and_eq_true, inB_iff] at hp
    exact ⟨hp.1, hp.2.2⟩
  have d0 := hpl.1.1
  have d1 := hpl.1.2
  have d2 := hpl.2.1
  have d3 := hpl.2.2
  have hk1 := HB.out.cellv (Fld.cellK HF.out.toLen hk)
  have hk2 := HB.out.cellv (Fld.cellS HF.out.toLen hk)
  have s0 := (HS.out k).1
  have s1 := (HS.out k).2
  have k0 := (HF.out.kb k).1
  have k1 := (HF.out.kb k).2
  have i0 : (0 : Int) ≤ (k : Int) := by omega
  have i1 : (k : Int) < 100 := by omega
  have HK := Lib.hid hk
  by_cases hkd : F.kind k ≠ 0
  · have hcode : F.code ⟨a, k, d⟩ = 4 := by simp [Fld.code, hp, hh, hkd]
    have HC := Lib.hid hcode
    have HA := Lib.hid (show F.after ⟨a, k, d⟩ = F by simp [Fld.after, hcode])
    clear hp hcode hx hh hpl
    go_enter Tryz.func40, Tryz.ntmps40
    simp only [Entry.vals]
    go_wp2_with (first
      | ((with_reducible refine gate_dst (N := 3) rfl ?_); go_must (refine M.out.ev_new rfl (by first | (go_simp; done) | (go_simp; rfl)) ?_); intro g3 w3 m; simp only [List.cons_append, List.nil_append] at m; have M := Lib.hid m; clear m; try have q0_1 := M.out.cell (j := 1) 0 rfl (by first | assumption | rfl); try have q0_0 := M.out.cell (j := 0) 0 rfl (by first | assumption | rfl); try have q0_2 := M.out.cell (j := 2) 0 rfl (by first | assumption | rfl))
      | ((with_reducible refine gate_dst (N := 19) rfl ?_); go_must (refine M.out.ev_ldw 0 _ _ rfl rfl rfl Tryz.underlying45 rfl (by first | exact sz45 | (rw [S1.out]; exact sz45) | (rw [S2.out]; exact sz45) | (rw [S3.out]; exact sz45)) rfl ?_))
      | ((with_reducible refine gate_dst (N := 33) rfl ?_); go_must (refine M.out.ev_ld 0 _ _ rfl rfl rfl Tryz.underlying26 rfl rfl (by first | assumption | rfl) ?_))
      | ((with_reducible refine gate_dst (N := 41) rfl ?_); go_must (refine M.out.ev_ld 0 _ _ rfl rfl rfl Tryz.underlying24 rfl rfl (by first | assumption | rfl) ?_))
      | ((with_reducible refine gate_dst (N := 58) rfl ?_); go_must (refine M.out.ev_ld 0 _ _ rfl rfl rfl Tryz.underlying24 rfl rfl (by first | assumption | rfl) ?_))
      | ((with_reducible refine gate_dst (N := 74) rfl ?_); go_must (refine M.out.ev_ld 0 _ _ rfl rfl rfl Tryz.underlying24 rfl rfl (by first | assumption | rfl) ?_))
      | ((with_reducible refine gate_dst (N := 78) rfl ?_); go_must (refine M.out.ev_ld 0 _ _ rfl rfl rfl Tryz.underlying26 rfl rfl (by first | assumption | rfl) ?_))
      | ((with_reducible refine gate_dst (N := 84) rfl ?_); go_must (refine M.out.ev_ld 0 _ _ rfl rfl rfl Tryz.underlying26 rfl rfl (by first | assumption | rfl) ?_))
      | ((with_reducible refine gate_dst (N := 7) rfl ?_); go_must (refine M.out.ev_ld 0 _ _ rfl rfl rfl Tryz.underlying26 rfl rfl (by first | assumption | rfl) ?_))
      | ((with_reducible refine gate_dst (N := 13) rfl ?_); go_must (refine M.out.ev_ld 0 _ _ rfl rfl rfl Tryz.underlying26 rfl rfl (by first | assumption | rfl) ?_))
      | (go_at_call 32; go_must (refine (isPlainE_any ⟨a, k, d⟩ HX.out _).mono ?_); rintro e w_ ⟨rfl, N_⟩; rw [HP.out]; have m := M.out.join N_; clear N_; simp only [List.append_nil] at m; have M := Lib.hid m; clear m; have q0_1 := M.out.cell (j := 1) 0 rfl rfl; have r1 := M.out.argcell hk1)
      | (go_at_call 42; go_must (refine (has_any b F HF.out k _ (M.out.arg HB.out)).mono ?_); rintro e w_ ⟨rfl, rfl⟩; rw [HH.out]))
    go_quiet (fail)
    have M := Lib.hid (M.out.drewN nq)
    go_wp2
    go_ret
    exact ⟨ret_int HC.out.symm, by rw [HA.out]; exact M.out.arg HB.out, grown_below M.out.below⟩
  have hkd : F.kind k = 0 := by omega
  rw [hkd] at hk1 k0 k1
  by_cases ha : a = 0
  · subst ha
    by_cases hq : 1000 < F.seed k + d
    · have hcode : F.code ⟨0, k, d⟩ = 3 := by simp [Fld.code, hp, hh, hkd, hq]
      have HC := Lib.hid hcode
      have HA := Lib.hid (show F.after ⟨0, k, d⟩ = F by simp [Fld.after, hcode])
      clear hp hcode hx hh hpl hkd
      go_enter Tryz.func40, Tryz.ntmps40
      simp only [Entry.vals]
      go_wp2_with (first
        | ((with_reducible refine gate_dst (N := 3) rfl ?_); go_must (refine M.out.ev_new rfl (by first | (go_simp; done) | (go_simp; rfl)) ?_); intro g3 w3 m; simp only [List.cons_append, List.nil_append] at m; have M := Lib.hid m; clear m; try have q0_1 := M.out.cell (j := 1) 0 rfl (by first | assumption | rfl); try have q0_0 := M.out.cell (j := 0) 0 rfl (by first | assumption | rfl); try have q0_2 := M.out.cell (j := 2) 0 rfl (by first | assumption | rfl))
        | ((with_reducible refine gate_dst (N := 19) rfl ?_); go_must (refine M.out.ev_ldw 0 _ _ rfl rfl rfl Tryz.underlying45 rfl (by first | exact sz45 | (rw [S1.out]; exact sz45) | (rw [S2.out]; exact sz45) | (rw [S3.out]; exact sz45)) rfl ?_))
        | ((with_reducible refine gate_dst (N := 33) rfl ?_); go_must (refine M.out.ev_ld 0 _ _ rfl rfl rfl Tryz.underlying26 rfl rfl (by first | assumption | rfl) ?_))
        | ((with_reducible refine gate_dst (N := 41) rfl ?_); go_must (refine M.out.ev_ld 0 _ _ rfl rfl rfl Tryz.underlying24 rfl rfl (by first | assumption | rfl) ?_))
        | ((with_reducible refine gate_dst (N := 58) rfl ?_); go_must (refine M.out.ev_ld 0 _ _ rfl rfl rfl Tryz.underlying24 rfl rfl (by first | assumption | rfl) ?_))
        | ((with_reducible refine gate_dst (N := 74) rfl ?_); go_must (refine M.out.ev_ld 0 _ _ rfl rfl rfl Tryz.underlying24 rfl rfl (by first | assumption | rfl) ?_))
        | ((with_reducible refine gate_dst (N := 78) rfl ?_); go_must (refine M.out.ev_ld 0 _ _ rfl rfl rfl Tryz.underlying26 rfl rfl (by first | assumption | rfl) ?_))
        | ((with_reducible refine gate_dst (N := 84) rfl ?_); go_must (refine M.out.ev_ld 0 _ _ rfl rfl rfl Tryz.underlying26 rfl rfl (by first | assumption | rfl) ?_))
        | ((with_reducible refine gate_dst (N := 7) rfl ?_); go_must (refine M.out.ev_ld 0 _ _ rfl rfl rfl Tryz.underlying26 rfl rfl (by first | assumption | rfl) ?_))
        | ((with_reducible refine gate_dst (N := 13) rfl ?_); go_must (refine M.out.ev_ld 0 _ _ rfl rfl rfl Tryz.underlying26 rfl rfl (by first | assumption | rfl) ?_))
        | (go_at_call 32; go_must (refine (isPlainE_any ⟨0, k, d⟩ HX.out _).mono ?_); rintro e w_ ⟨rfl, N_⟩; rw [HP.out]; have m := M.out.join N_; clear N_; simp only [List.append_nil] at m; have M := Lib.hid m; clear m; have q0_0 := M.out.cell (j := 0) 0 rfl rfl; have q0_1 := M.out.cell (j := 1) 0 rfl rfl; have q0_2 := M.out.cell (j := 2) 0 rfl rfl; have r1 := M.out.argcell hk1; have r2 := M.out.argcell hk2; have rf := (M.out.arg HB.out).frozen (102 + k))
        | (go_at_call 42; go_must (refine (has_any b F HF.out k _ (M.out.arg HB.out)).mono ?_); rintro e w_ ⟨rfl, rfl⟩; rw [HH.out]))
      go_quiet (fail)
      have M := Lib.hid (M.out.drewN nq)
      go_wp2
      go_quiet (fail)
      have M := Lib.hid (M.out.drewN nq)
      go_wp2
      go_ret
      exact ⟨ret_int HC.out.symm, by rw [HA.out]; exact M.out.arg HB.out, grown_below M.out.below⟩
    · have hcode : F.code ⟨0, k, d⟩ = 0 := by simp [Fld.code, hp, hh, hkd, hq]
      have HC := Lib.hid hcode
      have HA := Lib.hid (show F.after ⟨0, k, d⟩ = F.withSeed k (F.seed k + d) by simp [Fld.after, hcode, Fld.made])
      clear hp hcode hx hh hpl hkd
      go_enter Tryz.func40, Tryz.ntmps40
      simp only [Entry.vals]
      go_wp2_with (first
        | ((with_reducible refine gate_dst (N := 3) rfl ?_); go_must (refine M.out.ev_new rfl (by first | (go_simp; done) | (go_simp; rfl)) ?_); intro g3 w3 m; simp only [List.cons_append, List.nil_append] at m; have M := Lib.hid m; clear m; try have q0_1 := M.out.cell (j := 1) 0 rfl (by first | assumption | rfl); try have q0_0 := M.out.cell (j := 0) 0 rfl (by first | assumption | rfl); try have q0_2 := M.out.cell (j := 2) 0 rfl (by first | assumption | rfl))
        | ((with_reducible refine gate_dst (N := 19) rfl ?_); go_must (refine M.out.ev_ldw 0 _ _ rfl rfl rfl Tryz.underlying45 rfl (by first | exact sz45 | (rw [S1.out]; exact sz45) | (rw [S2.out]; exact sz45) | (rw [S3.out]; exact sz45)) rfl ?_))
        | ((with_reducible refine gate_dst (N := 33) rfl ?_); go_must (refine M.out.ev_ld 0 _ _ rfl rfl rfl Tryz.underlying26 rfl rfl (by first | assumption | rfl) ?_))
        | ((with_reducible refine gate_dst (N := 41) rfl ?_); go_must (refine M.out.ev_ld 0 _ _ rfl rfl rfl Tryz.underlying24 rfl rfl (by first | assumption | rfl) ?_))
        | ((with_reducible refine gate_dst (N := 58) rfl ?_); go_must (refine M.out.ev_ld 0 _ _ rfl rfl rfl Tryz.underlying24 rfl rfl (by first | assumption | rfl) ?_))
        | ((with_reducible refine gate_dst (N := 74) rfl ?_); go_must (refine M.out.ev_ld 0 _ _ rfl rfl rfl Tryz.underlying24 rfl rfl (by first | assumption | rfl) ?_))
        | ((with_reducible refine gate_dst (N := 78) rfl ?_); go_must (refine M.out.ev_ld 0 _ _ rfl rfl rfl Tryz.underlying26 rfl rfl (by first | assumption | rfl) ?_))
        | ((with_reducible refine gate_dst (N := 84) rfl ?_); go_must (refine M.out.ev_ld 0 _ _ rfl rfl rfl Tryz.underlying26 rfl rfl (by first | assumption | rfl) ?_))
        | ((with_reducible refine gate_dst (N := 7) rfl ?_); go_must (refine M.out.ev_ld 0 _ _ rfl rfl rfl Tryz.underlying26 rfl rfl (by first | assumption | rfl) ?_))
        | ((with_reducible refine gate_dst (N := 13) rfl ?_); go_must (refine M.out.ev_ld 0 _ _ rfl rfl rfl Tryz.underlying26 rfl rfl (by first | assumption | rfl) ?_))
        | (go_at_call 32; go_must (refine (isPlainE_any ⟨0, k, d⟩ HX.out _).mono ?_); rintro e w_ ⟨rfl, N_⟩; rw [HP.out]; have m := M.out.join N_; clear N_; simp only [List.append_nil] at m; have M := Lib.hid m; clear m; have q0_0 := M.out.cell (j := 0) 0 rfl rfl; have q0_1 := M.out.cell (j := 1) 0 rfl rfl; have q0_2 := M.out.cell (j := 2) 0 rfl rfl; have r1 := M.out.argcell hk1; have r2 := M.out.argcell hk2; have rf := (M.out.arg HB.out).frozen (102 + k))
        | (go_at_call 42; go_must (refine (has_any b F HF.out k _ (M.out.arg HB.out)).mono ?_); rintro e w_ ⟨rfl, rfl⟩; rw [HH.out]))
      go_quiet (fail)
      have M := Lib.hid (M.out.drewN nq)
      go_wp2
      go_quiet (fail)
      have M := Lib.hid (M.out.drewN nq)
      go_wp2
      go_quiet (fail)
      have M := Lib.hid (M.out.drewN nq)
      go_wp2
      go_still_tail 13, (by kernel_rfl)
      have B := Lib.hid (M.out.drew.arg HB.out)
      simp only [World.drewN_drewN] at B M
      refine ev_put 26 (.tmp 88) (.tmp 85) rfl rfl B.out rfl (.int .i16 (IntKind.i16.wrap (F.seed k + d))) rfl (by rw [Fld.size HF.out.toLen]; omega) sz26 rfl rfl ?_
      intro w2 b2 hU
      rw [wrap16 (by omega) (by omega), Fld.setSeed HF.out.toLen] at b2
      have B2 := Lib.hid b2
      clear b2
      go_wp2
      go_ret
      exact ⟨ret_int HC.out.symm, by rw [HA.out]; exact B2.out, grown_upd M.out.drew.below hU⟩
  · have ha1 : (a == 0) = false := beq_eq_false_iff_ne.2 ha
    have ha2 : (a != 0) = true := by rw [bne_iff_ne]; exact ha
    by_cases hq : F.seed k < d
    · have hcode : F.code ⟨a, k, d⟩ = 8 := by simp [Fld.code, hp, hh, hkd, hq, ha]
      have HC := Lib.hid hcode
      have HA := Lib.hid (show F.after ⟨a, k, d⟩ = F by simp [Fld.after, hcode])
      clear hp hcode hx hh hpl hkd
      go_enter Tryz.func40, Tryz.ntmps40
      simp only [Entry.vals]
      go_wp2_with (first
        | ((with_reducible refine gate_dst (N := 3) rfl ?_); go_must (refine M.out.ev_new rfl (by first | (go_simp; done) | (go_simp; rfl)) ?_); intro g3 w3 m; simp only [List.cons_append, List.nil_append] at m; have M := Lib.hid m; clear m; try have q0_1 := M.out.cell (j := 1) 0 rfl (by first | assumption | rfl); try have q0_0 := M.out.cell (j := 0) 0 rfl (by first | assumption | rfl); try have q0_2 := M.out.cell (j := 2) 0 rfl (by first | assumption | rfl))
        | ((with_reducible refine gate_dst (N := 19) rfl ?_); go_must (refine M.out.ev_ldw 0 _ _ rfl rfl rfl Tryz.underlying45 rfl (by first | exact sz45 | (rw [S1.out]; exact sz45) | (rw [S2.out]; exact sz45) | (rw [S3.out]; exact sz45)) rfl ?_))
        | ((with_reducible refine gate_dst (N := 33) rfl ?_); go_must (refine M.out.ev_ld 0 _ _ rfl rfl rfl Tryz.underlying26 rfl rfl (by first | assumption | rfl) ?_))
        | ((with_reducible refine gate_dst (N := 41) rfl ?_); go_must (refine M.out.ev_ld 0 _ _ rfl rfl rfl Tryz.underlying24 rfl rfl (by first | assumption | rfl) ?_))
        | ((with_reducible refine gate_dst (N := 58) rfl ?_); go_must (refine M.out.ev_ld 0 _ _ rfl rfl rfl Tryz.underlying24 rfl rfl (by first | assumption | rfl) ?_))
        | ((with_reducible refine gate_dst (N := 74) rfl ?_); go_must (refine M.out.ev_ld 0 _ _ rfl rfl rfl Tryz.underlying24 rfl rfl (by first | assumption | rfl) ?_))
        | ((with_reducible refine gate_dst (N := 78) rfl ?_); go_must (refine M.out.ev_ld 0 _ _ rfl rfl rfl Tryz.underlying26 rfl rfl (by first | assumption | rfl) ?_))
        | ((with_reducible refine gate_dst (N := 84) rfl ?_); go_must (refine M.out.ev_ld 0 _ _ rfl rfl rfl Tryz.underlying26 rfl rfl (by first | assumption | rfl) ?_))
        | ((with_reducible refine gate_dst (N := 7) rfl ?_); go_must (refine M.out.ev_ld 0 _ _ rfl rfl rfl Tryz.underlying26 rfl rfl (by first | assumption | rfl) ?_))
        | ((with_reducible refine gate_dst (N := 13) rfl ?_); go_must (refine M.out.ev_ld 0 _ _ rfl rfl rfl Tryz.underlying26 rfl rfl (by first | assumption | rfl) ?_))
        | (go_at_call 32; go_must (refine (isPlainE_any ⟨a, k, d⟩ HX.out _).mono ?_); rintro e w_ ⟨rfl, N_⟩; rw [HP.out]; have m := M.out.join N_; clear N_; simp only [List.append_nil] at m; have M := Lib.hid m; clear m; have q0_0 := M.out.cell (j := 0) 0 rfl rfl; have q0_1 := M.out.cell (j := 1) 0 rfl rfl; have q0_2 := M.out.cell (j := 2) 0 rfl rfl; have r1 := M.out.argcell hk1; have r2 := M.out.argcell hk2; have rf := (M.out.arg HB.out).frozen (102 + k))
        | (go_at_call 42; go_must (refine (has_any b F HF.out k _ (M.out.arg HB.out)).mono ?_); rintro e w_ ⟨rfl, rfl⟩; rw [HH.out]))
      go_quiet (fail)
      have M := Lib.hid (M.out.drewN nq)
      go_wp2
      go_quiet (fail)
      have M := Lib.hid (M.out.drewN nq)
      go_wp2
      go_quiet (fail)
      have M := Lib.hid (M.out.drewN nq)
      go_wp2
      go_ret
      exact ⟨ret_int HC.out.symm, by rw [HA.out]; exact M.out.arg HB.out, grown_below M.out.below⟩
    · have hcode : F.code ⟨a, k, d⟩ = 0 := by simp [Fld.code, hp, hh, hkd, hq, ha]
      have HC := Lib.hid hcode
      have HA := Lib.hid (show F.after ⟨a, k, d⟩ = F.withSeed k (F.seed k - d) by simp [Fld.after, hcode, Fld.made, ha])
      clear hp hcode hx hh hpl hkd
      go_enter Tryz.func40, Tryz.ntmps40
      simp only [Entry.vals]
      go_wp2_with (first
        | ((with_reducible refine gate_dst (N := 3) rfl ?_); go_must (refine M.out.ev_new rfl (by first | (go_simp; done) | (go_simp; rfl)) ?_); intro g3 w3 m; simp only [List.cons_append, List.nil_append] at m; have M := Lib.hid m; clear m; try have q0_1 := M.out.cell (j := 1) 0 rfl (by first | assumption | rfl); try have q0_0 := M.out.cell (j := 0) 0 rfl (by first | assumption | rfl); try have q0_2 := M.out.cell (j := 2) 0 rfl (by first | assumption | rfl))
        | ((with_reducible refine gate_dst (N := 19) rfl ?_); go_must (refine M.out.ev_ldw 0 _ _ rfl rfl rfl Tryz.underlying45 rfl (by first | exact sz45 | (rw [S1.out]; exact sz45) | (rw [S2.out]; exact sz45) | (rw [S3.out]; exact sz45)) rfl ?_))
        | ((with_reducible refine gate_dst (N := 33) rfl ?_); go_must (refine M.out.ev_ld 0 _ _ rfl rfl rfl Tryz.underlying26 rfl rfl (by first | assumption | rfl) ?_))
        | ((with_reducible refine gate_dst (N := 41) rfl ?_); go_must (refine M.out.ev_ld 0 _ _ rfl rfl rfl Tryz.underlying24 rfl rfl (by first | assumption | rfl) ?_))
        | ((with_reducible refine gate_dst (N := 58) rfl ?_); go_must (refine M.out.ev_ld 0 _ _ rfl rfl rfl Tryz.underlying24 rfl rfl (by first | assumption | rfl) ?_))
        | ((with_reducible refine gate_dst (N := 74) rfl ?_); go_must (refine M.out.ev_ld 0 _ _ rfl rfl rfl Tryz.underlying24 rfl rfl (by first | assumption | rfl) ?_))
        | ((with_reducible refine gate_dst (N := 78) rfl ?_); go_must (refine M.out.ev_ld 0 _ _ rfl rfl rfl Tryz.underlying26 rfl rfl (by first | assumption | rfl) ?_))
        | ((with_reducible refine gate_dst (N := 84) rfl ?_); go_must (refine M.out.ev_ld 0 _ _ rfl rfl rfl Tryz.underlying26 rfl rfl (by first | assumption | rfl) ?_))
        | ((with_reducible refine gate_dst (N := 7) rfl ?_); go_must (refine M.out.ev_ld 0 _ _ rfl rfl rfl Tryz.underlying26 rfl rfl (by first | assumption | rfl) ?_))
        | ((with_reducible refine gate_dst (N := 13) rfl ?_); go_must (refine M.out.ev_ld 0 _ _ rfl rfl rfl Tryz.underlying26 rfl rfl (by first | assumption | rfl) ?_))
        | (go_at_call 32; go_must (refine (isPlainE_any ⟨a, k, d⟩ HX.out _).mono ?_); rintro e w_ ⟨rfl, N_⟩; rw [HP.out]; have m := M.out.join N_; clear N_; simp only [List.append_nil] at m; have M := Lib.hid m; clear m; have q0_0 := M.out.cell (j := 0) 0 rfl rfl; have q0_1 := M.out.cell (j := 1) 0 rfl rfl; have q0_2 := M.out.cell (j := 2) 0 rfl rfl; have r1 := M.out.argcell hk1; have r2 := M.out.argcell hk2; have rf := (M.out.arg HB.out).frozen (102 + k))
        | (go_at_call 42; go_must (refine (has_any b F HF.out k _ (M.out.arg HB.out)).mono ?_); rintro e w_ ⟨rfl, rfl⟩; rw [HH.out]))
      go_quiet (fail)
      have M := Lib.hid (M.out.drewN nq)
      go_wp2
      go_quiet (fail)
      have M := Lib.hid (M.out.drewN nq)
      go_wp2
      go_quiet (fail)
      have M := Lib.hid (M.out.drewN nq)
      go_wp2
      go_still_tail 13, (by kernel_rfl)
      have B := Lib.hid (M.out.drew.arg HB.out)
      simp only [World.drewN_drewN] at B M
      refine ev_put 26 (.tmp 17) (.tmp 14) rfl rfl B.out rfl (.int .i16 (IntKind.i16.wrap (F.seed k - d))) rfl (by rw [Fld.size HF.out.toLen]; omega) sz26 rfl rfl ?_
      intro w2 b2 hU
      rw [wrap16 (by omega) (by omega), Fld.setSeed HF.out.toLen] at b2
      have B2 := Lib.hid b2
      clear b2
      go_wp2
      go_ret
      exact ⟨ret_int HC.out.symm, by rw [HA.out]; exact B2.out, grown_upd M.out.drew.below hU⟩
end Go.Proofs.YtaepgjjmfopiiaaGreatDoor
