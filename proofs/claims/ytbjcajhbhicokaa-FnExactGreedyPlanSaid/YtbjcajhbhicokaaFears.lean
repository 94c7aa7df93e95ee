/- Fears as they must be: the walks. -/
import Derived.Test.YtbjcajhbhicokaaBase
import Derived.Test.YtbjcajhbhicokaaDrawn
namespace Go.Proofs.Ytbjcajhbhicokaa
set_option linter.unusedSimpArgs false
set_option linter.unusedVariables false
open Go.RowKit
attribute [local go_sem] cell?_mk frozen?_mk

/-- Whether one fear is as it must be. -/
def fearAtOk (F : Fld) (fs : List Int) (k : Nat) : Bool := if F.has k = true then inB (gi fs k) 0 1000 else gi fs k == 0
def fearsOk (F : Fld) (fs : List Int) : Bool := (List.range 100).all (fearAtOk F fs)
theorem fearsOk_of {F : Fld} {fs : List Int} (h : ∀ j, j < 100 → fearAtOk F fs j = true) : fearsOk F fs = true := by
  simp only [fearsOk, List.all_eq_true, List.mem_range]
  exact h
theorem not_fearsOk {F : Fld} {fs : List Int} {k : Nat} (hk : k < 100) (h : fearAtOk F fs k = false) : fearsOk F fs = false := by
  rw [← Bool.not_eq_true]
  intro hv
  simp only [fearsOk, List.all_eq_true, List.mem_range] at hv
  rw [hv k hk] at h
  cases h
theorem gi_bound {fs : List Int} (h : ∀ x ∈ fs, -32768 ≤ x ∧ x ≤ 32767) (k : Nat) : -32768 ≤ gi fs k ∧ gi fs k ≤ 32767 := getD_bound h (by omega) k
set_option maxRecDepth 100000 in
set_option maxHeartbeats 1000000 in
theorem areFears_any (g b : Nat) {t tb : TypeId} (F : Fld) (hF : F.ok) (fs : List Int) (hl : fs.length = 100) (hf : ∀ x ∈ fs, -32768 ≤ x ∧ x ≤ 32767) (w : World) (hb : Blk w g t F.cells) (hfb : Blk w b tb (ints .i16 fs)) :
    Calls Try.prog 119 #[.pointer (some ⟨g, 0, none⟩), .pointer (some ⟨b, 0, none⟩)] w fun e w' => e = .returned (.bool (fearsOk F fs)) ∧ Mem w w' [] := by
  have M := Lib.hid (Mem.start w)
  have HB := Lib.hid hb
  have HFB := Lib.hid hfb
  have HL := Lib.hid hl
  clear hb hfb hl
  go_enter Try.func119, Try.ntmps119
  go_wp2
  go_loopw [8] (fun v wr => ∃ k : Nat, k ≤ 100 ∧ v = .int .i64 k ∧ (∀ j, j < k → fearAtOk F fs j = true) ∧ Mem w wr [])
    (fun v _ => 100 - (intOf v).toNat)
  case atStart => exact ⟨0, by omega, rfl, fun j hj => by omega, M.out⟩
  case round =>
    clear M
    obtain ⟨k, hk, rfl, he, m⟩ := hrel
    have M := Lib.hid m
    have HE := Lib.hid he
    clear m he
    by_cases hlt : k < 100
    · have x0 := (M.out.arg HFB.out).cellv (ints_at (k := .i16) (xs := fs) (i := k) (by rw [HL.out]; exact hlt))
      have i0 : (0 : Int) ≤ (k : Int) := by omega
      have i1 : (k : Int) < 100 := by omega
      obtain ⟨b0, b1⟩ := gi_bound hf k
      have e1 : IntKind.i64.wrap (gi fs k) = gi fs k := IntWalk.i64_in _ (by omega)
      cases hi : inB (gi fs k) 0 1000 <;> cases hh : F.has k <;> cases hz : (gi fs k == 0)
      all_goals
        have HI := Lib.hid hi
        have HH := Lib.hid hh
        have HZ := Lib.hid hz
        have hz2 : (gi fs k != 0) = !(gi fs k == 0) := rfl
        rw [hz] at hz2
        simp only [Bool.not_true, Bool.not_false] at hz2
        clear hi hh
        go_wp2_with fail
        go_quiet (fail)
        have M := Lib.hid (M.out.drewN nq)
        go_wp2_with (first
          | (go_at_call 92; go_must (refine (within_any _ _ _ _).mono ?_); rintro e w_ ⟨rfl, rfl⟩; rw [HI.out])
          | (go_at_call 87; go_must (refine (has_any g F hF _ _ (M.out.arg HB.out)).mono ?_); rintro e w_ ⟨rfl, rfl⟩; rw [HH.out])
          )
        first
          | (go_ret
             refine ⟨ret_bool (not_fearsOk hlt ?_).symm, M.out⟩
             simp [fearAtOk, HI.out, HH.out, HZ.out]
             done)
          | (refine ⟨⟨k + 1, by omega, by go_num, all_succ HE.out ?_, M.out⟩, by simp [intOf]; omega⟩
             simp [fearAtOk, HI.out, HH.out, HZ.out]
             done)
          | (exfalso
             have h0 := HI.out
             have h1 := HZ.out
             rw [inB_not] at h0
             rw [beq_iff_eq] at h1
             omega)
    · obtain rfl : k = 100 := by omega
      go_wp2
      go_ret
      exact ⟨ret_bool (fearsOk_of HE.out).symm, M.out⟩
set_option maxRecDepth 100000 in
set_option maxHeartbeats 1000000 in
theorem l02Fears_any (g b : Nat) {t tb : TypeId} (F : Fld) (hF : F.ok) (fs : List Int) (hl : fs.length = 100) (hf : ∀ x ∈ fs, -32768 ≤ x ∧ x ≤ 32767) (w : World) (hb : Blk w g t F.cells) (hfb : Blk w b tb (ints .i16 fs)) :
    Calls Try.prog 114 #[.pointer (some ⟨g, 0, none⟩), .pointer (some ⟨b, 0, none⟩)] w fun e w' => e = .returned (.bool (F.valid && fearsOk F fs)) ∧ w = w' := by
  have HB := Lib.hid hb
  have HFB := Lib.hid hfb
  have HL := Lib.hid hl
  clear hb hfb hl
  cases hv : F.valid
  · have HV := Lib.hid hv
    clear hv
    go_enter Try.func114, Try.ntmps114
    go_wp2_with (first
      | (go_at_call 136; go_must (refine (l01Ok_any g F hF _ HB.out).mono ?_); rintro e w_ ⟨rfl, rfl⟩; rw [HV.out])
      )
    go_ret
    exact ⟨ret_bool (by simp), rfl⟩
  · have HV := Lib.hid hv
    clear hv
    go_enter Try.func114, Try.ntmps114
    go_wp2_with (first
      | (go_at_call 136; go_must (refine (l01Ok_any g F hF _ HB.out).mono ?_); rintro e w_ ⟨rfl, rfl⟩; rw [HV.out])
      )
    go_loop [5] (fun v => ∃ k : Nat, k ≤ 100 ∧ v = .int .i64 k ∧ (∀ j, j < k → fearAtOk F fs j = true))
      (fun v => 100 - (intOf v).toNat)
    case atStart => exact ⟨0, by omega, rfl, fun j hj => by omega⟩
    case round =>
      obtain ⟨k, hk, rfl, he⟩ := hrel
      have HE := Lib.hid he
      clear he
      by_cases hlt : k < 100
      · have x0 := HFB.out.cellv (ints_at (k := .i16) (xs := fs) (i := k) (by rw [HL.out]; exact hlt))
        have i0 : (0 : Int) ≤ (k : Int) := by omega
        have i1 : (k : Int) < 100 := by omega
        obtain ⟨b0, b1⟩ := gi_bound hf k
        have e1 : IntKind.i64.wrap (gi fs k) = gi fs k := IntWalk.i64_in _ (by omega)
        cases hi : inB (gi fs k) 0 1000 <;> cases hh : F.has k <;> cases hz : (gi fs k == 0)
        all_goals
          have HI := Lib.hid hi
          have HH := Lib.hid hh
          have HZ := Lib.hid hz
          have hz2 : (gi fs k != 0) = !(gi fs k == 0) := rfl
          rw [hz] at hz2
          simp only [Bool.not_true, Bool.not_false] at hz2
          clear hi hh
          go_wp2_with (first
            | (go_at_call 90; go_must (refine (l00In_any _ _ _ _).mono ?_); rintro e w_ ⟨rfl, rfl⟩; rw [HI.out])
            | (go_at_call 83; go_must (refine (l01Is_any g F hF _ _ HB.out).mono ?_); rintro e w_ ⟨rfl, rfl⟩; rw [HH.out])
            )
          first
            | (go_ret
               refine ⟨ret_bool (not_fearsOk hlt ?_).symm, rfl⟩
               simp [fearAtOk, HI.out, HH.out, HZ.out]
               done)
            | (refine ⟨⟨k + 1, by omega, by go_num, all_succ HE.out ?_⟩, by simp [intOf]; omega⟩
               simp [fearAtOk, HI.out, HH.out, HZ.out]
               done)
            | (exfalso
               have h0 := HI.out
               have h1 := HZ.out
               rw [inB_not] at h0
               rw [beq_iff_eq] at h1
               omega)
      · obtain rfl : k = 100 := by omega
        go_wp2
        go_ret
        exact ⟨ret_bool (fearsOk_of HE.out).symm, rfl⟩
end Go.Proofs.Ytbjcajhbhicokaa
