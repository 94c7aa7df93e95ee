/- Marks and clones of slices of structs. -/
import Derived.Test.YtbjcajhbhicokaaVisit
import Derived.Test.YtbjcajhbhicokaaGen
namespace Go.Proofs.Ytbjcajhbhicokaa
set_option linter.unusedSimpArgs false
set_option linter.unusedVariables false
open Go.RowKit
attribute [local go_sem] cell?_mk frozen?_mk

theorem Visit.ones (x : Visit) : ∀ v ∈ x.vals, v.oneCell' = true := by
  intro v hv
  simp only [Visit.vals, List.mem_cons, List.not_mem_nil, or_false] at hv
  rcases hv with rfl | rfl | rfl <;> rfl
def markVisit (k : Int) (i : Nat) : Visit := ⟨IntKind.i8.wrap (k + 3 * i), IntKind.i16.wrap (k + 3 * i + 1), IntKind.i16.wrap (k + 3 * i + 1 + 1)⟩
def marksVisit (k : Int) (n : Nat) : List Visit := (List.range n).map (markVisit k)
theorem marksVisit_len (k : Int) (n : Nat) : (marksVisit k n).length = n := by simp [marksVisit]
theorem marksVisit_at {k : Int} {n i : Nat} (h : i < n) : (marksVisit k n)[i]? = some (markVisit k i) := by simp [marksVisit, h]
def mixVisit (k : Int) (xs : List Visit) (i : Nat) : List Visit := (List.range i).map (markVisit k) ++ xs.drop i
theorem mixVisit_len (k : Int) (xs : List Visit) (i : Nat) (h : i ≤ xs.length) : (mixVisit k xs i).length = xs.length := by simp [mixVisit]; omega
theorem mixVisit_at (k : Int) {xs : List Visit} {i : Nat} (h : i < xs.length) : (mixVisit k xs i)[i]? = some xs[i] := by
  rw [mixVisit, List.getElem?_append_right (by simp), List.length_map, List.length_range, Nat.sub_self, List.getElem?_drop]
  simp [h]
theorem mixVisit_set (k : Int) {xs : List Visit} {i : Nat} (h : i < xs.length) : (mixVisit k xs i).set i (markVisit k i) = mixVisit k xs (i + 1) := by
  rw [mixVisit, mixVisit, List.set_append, if_neg (by simp), List.length_map, List.length_range, Nat.sub_self, List.range_succ, List.map_append, List.drop_eq_getElem_cons h]
  simp only [List.set_cons_zero, List.map_cons, List.map_nil, List.append_assoc, List.cons_append, List.nil_append]
theorem mixVisit_0 (k : Int) (xs : List Visit) : mixVisit k xs 0 = xs := by simp [mixVisit]
theorem mixVisit_all (k : Int) (xs : List Visit) : mixVisit k xs xs.length = marksVisit k xs.length := by simp [mixVisit, marksVisit]
theorem flat_putVisit {xs : List Visit} {k : Nat} {x y : Visit} (hk : xs[k]? = some x) :
    ((((flat Visit.vals xs).set (k * 3) (.int .i8 y.flock)).set (k * 3 + 1) (.int .i16 y.cell)).set (k * 3 + 2) (.int .i16 y.seeds)) = flat Visit.vals (xs.set k y) := by
  have hl : k < xs.length := (List.getElem?_eq_some_iff.1 hk).1
  have h0 := flat_put Visit.vl (by decide : 0 < 3) (v := .int .i8 y.flock) xs k x ⟨y.flock, x.cell, x.seeds⟩ hk rfl
  have h1 := flat_put Visit.vl (by decide : 1 < 3) (v := .int .i16 y.cell) (xs.set k ⟨y.flock, x.cell, x.seeds⟩) k ⟨y.flock, x.cell, x.seeds⟩ ⟨y.flock, y.cell, x.seeds⟩ (by rw [List.getElem?_set_self hl]) rfl
  have h2 := flat_put Visit.vl (by decide : 2 < 3) (v := .int .i16 y.seeds) (xs.set k ⟨y.flock, y.cell, x.seeds⟩) k ⟨y.flock, y.cell, x.seeds⟩ y (by rw [List.getElem?_set_self hl]) rfl
  rw [List.set_set] at h1 h2
  rw [Nat.add_zero] at h0
  rw [h0, h1, h2]
set_option maxRecDepth 100000 in
set_option maxHeartbeats 1000000 in
theorem markVisit_any {w0 w : World} {L : List Ent} (i : Nat) (M0 : Mem w0 w L) (A : Option Addr) (c : Nat) (xs : List Visit) (hL : L[i]? = some (.row (.slice A xs.length c) 79 3 xs.length (flat Visit.vals xs))) (hl : xs.length ≤ 1048576) :
    Calls Try.prog 49 #[.slice A xs.length c, .int .i64 1] w fun e w' => e = .returned (.int .i64 (1 + 3 * xs.length)) ∧ Mem w0 w' (L.set i (.row (.slice A xs.length c) 79 3 xs.length (flat Visit.vals (marksVisit 1 xs.length)))) := by
  have M := Lib.hid M0
  have HL := Lib.hid hL
  have hi : i < L.length := (List.getElem?_eq_some_iff.1 hL).1
  clear M0 hL
  go_enter Try.func49, Try.ntmps49
  go_wp2
  go_loopw [1, 5] (fun u v wr => ∃ k : Nat, k ≤ xs.length ∧ v = .int .i64 k ∧ u = .int .i64 (1 + 3 * (k : Int)) ∧ Mem w0 wr (L.set i (.row (.slice A xs.length c) 79 3 xs.length (flat Visit.vals (mixVisit 1 xs k)))))
    (fun _ v _ => xs.length - (intOf v).toNat)
  case atStart => exact ⟨0, by omega, rfl, rfl, by rw [mixVisit_0, set_same HL.out]; exact M.out⟩
  case round =>
    clear M
    obtain ⟨k, hk, rfl, rfl, m⟩ := hrel
    have M := Lib.hid m
    clear m
    by_cases hlt : k < xs.length
    · have hLs : ∀ e : Ent, (L.set i e)[i]? = some e := fun e => by rw [List.getElem?_set_self hi]
      obtain ⟨g, cap, he, _⟩ := M.out.row_form i (hLs _) (by omega)
      obtain ⟨rfl, rfl⟩ : A = some ⟨g, 0, none⟩ ∧ c = cap := by injection he with e1 _ e2; exact ⟨e1, e2⟩
      clear he
      have hk1 := mixVisit_at 1 hlt
      have HK1 := Lib.hid hk1
      have HLs := Lib.hid hLs
      have e0 : IntKind.i64.wrap (1 + 3 * (k : Int) + 1) = 1 + 3 * (k : Int) + 1 := IntWalk.i64_in _ (by omega)
      have e1 : IntKind.i64.wrap (1 + 3 * (k : Int) + 1 + 1) = 1 + 3 * (k : Int) + 1 + 1 := IntWalk.i64_in _ (by omega)
      have e2 : IntKind.i64.wrap (1 + 3 * (k : Int) + 1 + 1 + 1) = 1 + 3 * (k : Int) + 1 + 1 + 1 := IntWalk.i64_in _ (by omega)
      have hl0 : k * 3 + 2 < (flat Visit.vals (mixVisit 1 xs k)).length := by rw [flat_len Visit.vl, mixVisit_len _ _ _ hk]; omega
      have HL0 := Lib.hid hl0
      clear hk1 hLs hl0
      go_wp2_with (first
        | ((with_reducible refine gate_store (x := .tmp 17) rfl ?_); go_must (refine M.out.ev_rput1 i _ _ _ rfl rfl (HLs.out _) rfl (.int .i8 (IntKind.i8.wrap (1 + 3 * (k : Int)))) rfl (by have := HL0.out; first | omega | (simp only [List.length_set]; omega)) sz22 rfl rfl ?_); intro wn m; rw [List.set_set] at m; have M := Lib.hid m; clear m)
        | ((with_reducible refine gate_store (x := .tmp 25) rfl ?_); go_must (refine M.out.ev_rput1 i _ _ _ rfl rfl (HLs.out _) rfl (.int .i16 (IntKind.i16.wrap (1 + 3 * (k : Int) + 1))) rfl (by have := HL0.out; first | omega | (simp only [List.length_set]; omega)) sz24 rfl rfl ?_); intro wn m; rw [List.set_set] at m; have M := Lib.hid m; clear m)
        | ((with_reducible refine gate_store (x := .tmp 33) rfl ?_); go_must (refine M.out.ev_rput1 i _ _ _ rfl rfl (HLs.out _) rfl (.int .i16 (IntKind.i16.wrap (1 + 3 * (k : Int) + 1 + 1))) rfl (by have := HL0.out; first | omega | (simp only [List.length_set]; omega)) sz24 rfl rfl ?_); intro wn m; rw [List.set_set] at m; have M := Lib.hid m; clear m)
        )
      refine ⟨⟨k + 1, by omega, by go_num, ?_, ?_⟩, by simp [intOf]; omega⟩
      · first | (congr 1; done) | (congr 1; omega)
      · have m := M.out
        have hf := flat_putVisit (y := markVisit 1 k) HK1.out
        rw [mixVisit_set 1 hlt] at hf
        rw [← hf]
        exact m
    · obtain rfl : k = xs.length := by omega
      go_wp2
      go_ret
      exact ⟨rfl, by have m := M.out; rw [mixVisit_all] at m; exact m⟩
set_option maxRecDepth 100000 in
set_option maxHeartbeats 1000000 in
theorem heldVisit_any (A : Option Addr) (c n : Nat) (hl : n ≤ 1048576) (w : World) (hs : Sl w 3 A n (flat Visit.vals (marksVisit 1 n))) :
    Calls Try.prog 56 #[.slice A n c, .int .i64 1] w fun e w' => e = .returned (.int .i64 (1 + 3 * n)) ∧ w = w' := by
  have HS := Lib.hid hs
  clear hs
  go_enter Try.func56, Try.ntmps56
  go_wp2
  go_loop [1, 5] (fun u v => ∃ k : Nat, k ≤ n ∧ v = .int .i64 k ∧ u = .int .i64 (1 + 3 * (k : Int)))
    (fun _ v => n - (intOf v).toNat)
  case atStart => exact ⟨0, by omega, rfl, rfl⟩
  case round =>
    obtain ⟨k, hk, rfl, rfl⟩ := hrel
    by_cases hlt : k < n
    · obtain ⟨b, off, rfl, hr⟩ := HS.out.2 (by omega)
      have R := range_at Visit.vl hr (marksVisit_at hlt)
      have x0 : w.cell? ⟨b, off + k * 3, none⟩ = some (.int .i8 (IntKind.i8.wrap (1 + 3 * (k : Int)))) := R 0 _ rfl
      have x1 : w.cell? ⟨b, off + k * 3 + 1, none⟩ = some (.int .i16 (IntKind.i16.wrap (1 + 3 * (k : Int) + 1))) := R 1 _ rfl
      have x2 : w.cell? ⟨b, off + k * 3 + 2, none⟩ = some (.int .i16 (IntKind.i16.wrap (1 + 3 * (k : Int) + 1 + 1))) := R 2 _ rfl
      have e0 : IntKind.i64.wrap (1 + 3 * (k : Int) + 1) = 1 + 3 * (k : Int) + 1 := IntWalk.i64_in _ (by omega)
      have e1 : IntKind.i64.wrap (1 + 3 * (k : Int) + 1 + 1) = 1 + 3 * (k : Int) + 1 + 1 := IntWalk.i64_in _ (by omega)
      have e2 : IntKind.i64.wrap (1 + 3 * (k : Int) + 1 + 1 + 1) = 1 + 3 * (k : Int) + 1 + 1 + 1 := IntWalk.i64_in _ (by omega)
      clear hr R
      go_wp2
      exact ⟨⟨k + 1, by omega, by go_num, by first | (congr 1; done) | (congr 1; omega)⟩, by simp [intOf]; omega⟩
    · obtain rfl : k = n := by omega
      go_wp2
      go_ret
      exact ⟨rfl, rfl⟩
end Go.Proofs.Ytbjcajhbhicokaa
