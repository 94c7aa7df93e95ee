/- The laws' marks: slices written over, and read again. -/
import Derived.Test.YteecfclccfhdhaaAged
namespace Go.Proofs.Yteecfclccfhdhaa
set_option linter.unusedSimpArgs false
set_option linter.unusedVariables false
open Go.RowKit
attribute [local go_sem] cell?_mk frozen?_mk

/-- The mark of the i-th scarecrow. -/
def markS (k : Int) (i : Nat) : Scarecrow := ⟨IntKind.i16.wrap (k + 3 * i), IntKind.i16.wrap (k + 3 * i + 1), IntKind.i8.wrap (k + 3 * i + 2)⟩
def marksS (k : Int) (n : Nat) : List Scarecrow := (List.range n).map (markS k)
theorem marksS_len (k : Int) (n : Nat) : (marksS k n).length = n := by simp [marksS]
theorem marksS_at {k : Int} {n i : Nat} (h : i < n) : (marksS k n)[i]? = some (markS k i) := by simp [marksS, h]
/-- Some marked, the others not yet. -/
def mixS (k : Int) (xs : List Scarecrow) (i : Nat) : List Scarecrow := (List.range i).map (markS k) ++ xs.drop i
theorem mixS_len (k : Int) (xs : List Scarecrow) (i : Nat) (h : i ≤ xs.length) : (mixS k xs i).length = xs.length := by simp [mixS]; omega
theorem mixS_at (k : Int) {xs : List Scarecrow} {i : Nat} (h : i < xs.length) : (mixS k xs i)[i]? = some xs[i] := by
  rw [mixS, List.getElem?_append_right (by simp), List.length_map, List.length_range, Nat.sub_self, List.getElem?_drop]
  simp [h]
theorem mixS_set (k : Int) {xs : List Scarecrow} {i : Nat} (h : i < xs.length) : (mixS k xs i).set i (markS k i) = mixS k xs (i + 1) := by
  rw [mixS, mixS, List.set_append, if_neg (by simp), List.length_map, List.length_range, Nat.sub_self, List.range_succ, List.map_append, List.drop_eq_getElem_cons h]
  simp only [List.set_cons_zero, List.map_cons, List.map_nil, List.append_assoc, List.cons_append, List.nil_append]
theorem mixS_0 (k : Int) (xs : List Scarecrow) : mixS k xs 0 = xs := by simp [mixS]
theorem mixS_all (k : Int) (xs : List Scarecrow) : mixS k xs xs.length = marksS k xs.length := by simp [mixS, marksS]

theorem flat_put3 {xs : List Scarecrow} {k : Nat} {x y : Scarecrow} (hk : xs[k]? = some x) :
    (((flat Scarecrow.vals xs).set (k * 3) (.int .i16 y.cell)).set (k * 3 + 1) (.int .i16 y.power)).set (k * 3 + 2) (.int .i8 y.age) = flat Scarecrow.vals (xs.set k y) := by
  have hl : k < xs.length := (List.getElem?_eq_some_iff.1 hk).1
  have h1 := flat_put Scarecrow.vl (by decide : 0 < 3) (v := .int .i16 y.cell) xs k x ⟨y.cell, x.power, x.age⟩ hk rfl
  have h2 := flat_put Scarecrow.vl (by decide : 1 < 3) (v := .int .i16 y.power) (xs.set k ⟨y.cell, x.power, x.age⟩) k ⟨y.cell, x.power, x.age⟩ ⟨y.cell, y.power, x.age⟩ (by rw [List.getElem?_set_self hl]) rfl
  have h3 := flat_put Scarecrow.vl (by decide : 2 < 3) (v := .int .i8 y.age) (xs.set k ⟨y.cell, y.power, x.age⟩) k ⟨y.cell, y.power, x.age⟩ y (by rw [List.getElem?_set_self hl]) rfl
  rw [List.set_set] at h2 h3
  rw [Nat.add_zero] at h1
  rw [h1, h2, h3]
set_option maxRecDepth 100000 in
set_option maxHeartbeats 1000000 in
theorem markS_any {w0 w : World} {L : List Ent} (i : Nat) (M0 : Mem w0 w L) (A : Option Addr) (c : Nat) (xs : List Scarecrow) (hL : L[i]? = some (.row (.slice A xs.length c) 89 3 xs.length (flat Scarecrow.vals xs))) (hl : xs.length ≤ 1048576) :
    Calls Try.prog 25 #[.slice A xs.length c, .int .i64 1] w fun e w' => e = .returned (.int .i64 (1 + 3 * xs.length)) ∧ Mem w0 w' (L.set i (.row (.slice A xs.length c) 89 3 xs.length (flat Scarecrow.vals (marksS 1 xs.length)))) := by
  have M := Lib.hid M0
  have HL := Lib.hid hL
  have hi : i < L.length := (List.getElem?_eq_some_iff.1 hL).1
  clear M0 hL
  go_enter Try.func25, Try.ntmps25
  go_wp2
  go_loopw [1, 5] (fun u v wr => ∃ k : Nat, k ≤ xs.length ∧ v = .int .i64 k ∧ u = .int .i64 (1 + 3 * (k : Int)) ∧ Mem w0 wr (L.set i (.row (.slice A xs.length c) 89 3 xs.length (flat Scarecrow.vals (mixS 1 xs k)))))
    (fun _ v _ => xs.length - (intOf v).toNat)
  case atStart => exact ⟨0, by omega, rfl, rfl, by rw [mixS_0, set_same HL.out]; exact M.out⟩
  case round =>
    clear M
    obtain ⟨k, hk, rfl, rfl, m⟩ := hrel
    have M := Lib.hid m
    clear m
    by_cases hlt : k < xs.length
    · have hLs : ∀ e : Ent, (L.set i e)[i]? = some e := fun e => by rw [List.getElem?_set_self hi]
      obtain ⟨g, cap, he, _⟩ := M.out.row_form i (hLs _) (by omega)
      obtain ⟨rfl, rfl⟩ : A = some ⟨g, 0, none⟩ ∧ c = cap := by injection he with e1 _ e2; exact ⟨e1, e2⟩
      clear he
      have hk1 := mixS_at 1 hlt
      have HK1 := Lib.hid hk1
      have HLs := Lib.hid hLs
      have e1 : IntKind.i64.wrap (1 + 3 * (k : Int) + 1) = 1 + 3 * (k : Int) + 1 := IntWalk.i64_in _ (by omega)
      have e2 : IntKind.i64.wrap (1 + 3 * (k : Int) + 1 + 1) = 1 + 3 * (k : Int) + 1 + 1 := IntWalk.i64_in _ (by omega)
      have e3 : IntKind.i64.wrap (1 + 3 * (k : Int) + 1 + 1 + 1) = 1 + 3 * (k : Int) + 1 + 1 + 1 := IntWalk.i64_in _ (by omega)
      have hl0 : k * 3 + 2 < (flat Scarecrow.vals (mixS 1 xs k)).length := by rw [flat_len Scarecrow.vl, mixS_len _ _ _ hk]; omega
      have HL0 := Lib.hid hl0
      clear hk1 hLs hl0
      go_wp2_with (first
        | ((with_reducible refine gate_store (x := .tmp 17) rfl ?_); go_must (refine M.out.ev_rput1 i _ _ _ rfl rfl (HLs.out _) rfl (.int .i16 (IntKind.i16.wrap (1 + 3 * (k : Int)))) rfl (by have := HL0.out; first | omega | (simp only [List.length_set]; omega)) sz24 rfl rfl ?_); intro wn m; rw [List.set_set] at m; have M := Lib.hid m; clear m)
        | ((with_reducible refine gate_store (x := .tmp 25) rfl ?_); go_must (refine M.out.ev_rput1 i _ _ _ rfl rfl (HLs.out _) rfl (.int .i16 (IntKind.i16.wrap (1 + 3 * (k : Int) + 1))) rfl (by have := HL0.out; first | omega | (simp only [List.length_set]; omega)) sz24 rfl rfl ?_); intro wn m; rw [List.set_set] at m; have M := Lib.hid m; clear m)
        | ((with_reducible refine gate_store (x := .tmp 33) rfl ?_); go_must (refine M.out.ev_rput1 i _ _ _ rfl rfl (HLs.out _) rfl (.int .i8 (IntKind.i8.wrap (1 + 3 * (k : Int) + 1 + 1))) rfl (by have := HL0.out; first | omega | (simp only [List.length_set]; omega)) sz22 rfl rfl ?_); intro wn m; rw [List.set_set] at m; have M := Lib.hid m; clear m)
        )
      refine ⟨⟨k + 1, by omega, by go_num, ?_, ?_⟩, by simp [intOf]; omega⟩
      · first | (congr 1; done) | (congr 1; omega)
      · have m := M.out
        rw [show (1 : Int) + 3 * k + 1 + 1 = 1 + 3 * k + 2 by omega] at m
        have hf := flat_put3 (y := markS 1 k) HK1.out
        rw [mixS_set 1 hlt] at hf
        rw [← hf]
        exact m
    · obtain rfl : k = xs.length := by omega
      go_wp2
      go_ret
      exact ⟨rfl, by have m := M.out; rw [mixS_all] at m; exact m⟩

set_option maxRecDepth 100000 in
set_option maxHeartbeats 1000000 in
theorem heldS_any (A : Option Addr) (c n : Nat) (hl : n ≤ 1048576) (w : World) (hs : Sl w 3 A n (flat Scarecrow.vals (marksS 1 n))) :
    Calls Try.prog 26 #[.slice A n c, .int .i64 1] w fun e w' => e = .returned (.int .i64 (1 + 3 * n)) ∧ w = w' := by
  have HS := Lib.hid hs
  clear hs
  go_enter Try.func26, Try.ntmps26
  go_wp2
  go_loop [1, 5] (fun u v => ∃ k : Nat, k ≤ n ∧ v = .int .i64 k ∧ u = .int .i64 (1 + 3 * (k : Int)))
    (fun _ v => n - (intOf v).toNat)
  case atStart => exact ⟨0, by omega, rfl, rfl⟩
  case round =>
    obtain ⟨k, hk, rfl, rfl⟩ := hrel
    by_cases hlt : k < n
    · obtain ⟨b, off, rfl, hr⟩ := HS.out.2 (by omega)
      have R := range_at Scarecrow.vl hr (marksS_at hlt)
      have x0 : w.cell? ⟨b, off + k * 3, none⟩ = some (.int .i16 (IntKind.i16.wrap (1 + 3 * k))) := R 0 _ rfl
      have x1 : w.cell? ⟨b, off + k * 3 + 1, none⟩ = some (.int .i16 (IntKind.i16.wrap (1 + 3 * k + 1))) := R 1 _ rfl
      have x2 : w.cell? ⟨b, off + k * 3 + 2, none⟩ = some (.int .i8 (IntKind.i8.wrap (1 + 3 * k + 2))) := R 2 _ rfl
      have e0 : (1 : Int) + 3 * k + 1 + 1 = 1 + 3 * k + 2 := by omega
      have e1 : IntKind.i64.wrap (1 + 3 * (k : Int) + 1) = 1 + 3 * (k : Int) + 1 := IntWalk.i64_in _ (by omega)
      have e2 : IntKind.i64.wrap (1 + 3 * (k : Int) + 2) = 1 + 3 * (k : Int) + 2 := IntWalk.i64_in _ (by omega)
      have e3 : IntKind.i64.wrap (1 + 3 * (k : Int) + 2 + 1) = 1 + 3 * (k : Int) + 2 + 1 := IntWalk.i64_in _ (by omega)
      clear hr R
      go_wp2
      exact ⟨⟨k + 1, by omega, by go_num, by first | (congr 1; done) | (congr 1; omega)⟩, by simp [intOf]; omega⟩
    · obtain rfl : k = n := by omega
      go_wp2
      go_ret
      exact ⟨rfl, rfl⟩
end Go.Proofs.Yteecfclccfhdhaa
