/- Marks and clones of slices of structs. -/
import Derived.Test.YtaepgjjmfopiiaaDoorEntry
import Derived.Test.YtaepgjjmfopiiaaDoorGen
namespace Go.Proofs.YtaepgjjmfopiiaaDoor
set_option linter.unusedSimpArgs false
set_option linter.unusedVariables false
open Go.RowKit
attribute [local go_sem] cell?_mk frozen?_mk

theorem Entry.ones (x : Entry) : ∀ v ∈ x.vals, v.oneCell' = true := by
  intro v hv
  simp only [Entry.vals, List.mem_cons, List.not_mem_nil, or_false] at hv
  rcases hv with rfl | rfl | rfl <;> rfl
def markEntry (k : Int) (i : Nat) : Entry := ⟨IntKind.i8.wrap (k + 3 * i), IntKind.i16.wrap (k + 3 * i + 1), IntKind.i16.wrap (k + 3 * i + 1 + 1)⟩
def marksEntry (k : Int) (n : Nat) : List Entry := (List.range n).map (markEntry k)
theorem marksEntry_len (k : Int) (n : Nat) : (marksEntry k n).length = n := by simp [marksEntry]
theorem marksEntry_at {k : Int} {n i : Nat} (h : i < n) : (marksEntry k n)[i]? = some (markEntry k i) := by simp [marksEntry, h]
def mixEntry (k : Int) (xs : List Entry) (i : Nat) : List Entry := (List.range i).map (markEntry k) ++ xs.drop i
theorem mixEntry_len (k : Int) (xs : List Entry) (i : Nat) (h : i ≤ xs.length) : (mixEntry k xs i).length = xs.length := by simp [mixEntry]; omega
theorem mixEntry_at (k : Int) {xs : List Entry} {i : Nat} (h : i < xs.length) : (mixEntry k xs i)[i]? = some xs[i] := by
  rw [mixEntry, List.getElem?_append_right (by simp), List.length_map, List.length_range, Nat.sub_self, List.getElem?_drop]
  simp [h]
theorem mixEntry_set (k : Int) {xs : List Entry} {i : Nat} (h : i < xs.length) : (mixEntry k xs i).set i (markEntry k i) = mixEntry k xs (i + 1) := by
  rw [mixEntry, mixEntry, List.set_append, if_neg (by simp), List.length_map, List.length_range, Nat.sub_self, List.range_succ, List.map_append, List.drop_eq_getElem_cons h]
  simp only [List.set_cons_zero, List.map_cons, List.map_nil, List.append_assoc, List.cons_append, List.nil_append]
theorem mixEntry_0 (k : Int) (xs : List Entry) : mixEntry k xs 0 = xs := by simp [mixEntry]
theorem mixEntry_all (k : Int) (xs : List Entry) : mixEntry k xs xs.length = marksEntry k xs.length := by simp [mixEntry, marksEntry]
theorem flat_putEntry {xs : List Entry} {k : Nat} {x y : Entry} (hk : xs[k]? = some x) :
    ((((flat Entry.vals xs).set (k * 3) (.int .i8 y.what)).set (k * 3 + 1) (.int .i16 y.cell)).set (k * 3 + 2) (.int .i16 y.amount)) = flat Entry.vals (xs.set k y) := by
  have hl : k < xs.length := (List.getElem?_eq_some_iff.1 hk).1
  have h0 := flat_put Entry.vl (by decide : 0 < 3) (v := .int .i8 y.what) xs k x ⟨y.what, x.cell, x.amount⟩ hk rfl
  have h1 := flat_put Entry.vl (by decide : 1 < 3) (v := .int .i16 y.cell) (xs.set k ⟨y.what, x.cell, x.amount⟩) k ⟨y.what, x.cell, x.amount⟩ ⟨y.what, y.cell, x.amount⟩ (by rw [List.getElem?_set_self hl]) rfl
  have h2 := flat_put Entry.vl (by decide : 2 < 3) (v := .int .i16 y.amount) (xs.set k ⟨y.what, y.cell, x.amount⟩) k ⟨y.what, y.cell, x.amount⟩ y (by rw [List.getElem?_set_self hl]) rfl
  rw [List.set_set] at h1 h2
  rw [Nat.add_zero] at h0
  rw [h0, h1, h2]
set_option maxRecDepth 100000 in
set_option maxHeartbeats 1000000 in
theorem markEntry_any {w0 w : World} {L : List Ent} (i : Nat) (M0 : Mem w0 w L) (A : Option Addr) (c : Nat) (xs : List Entry) (hL : L[i]? = some (.row (.slice A xs.length c) 37 3 xs.length (flat Entry.vals xs))) (hl : xs.length ≤ 1048576) :
    Calls Tryd.prog 7 #[.slice A xs.length c, .int .i64 1] w fun e w' => e = .returned (.int .i64 (1 + 3 * xs.length)) ∧ Mem w0 w' (L.set i (.row (.slice A xs.length c) 37 3 xs.length (flat Entry.vals (marksEntry 1 xs.length)))) := by
  have M := Lib.hid M0
  have HL := Lib.hid hL
  have hi : i < L.length := (List.getElem?_eq_some_iff.1 hL).1
  clear M0 hL
  go_enter Tryd.func7, Tryd.ntmps7
  go_wp2
  go_loopw [1, 5] (fun u v wr => ∃ k : Nat, k ≤ xs.length ∧ v = .int .i64 k ∧ u = .int .i64 (1 + 3 * (k : Int)) ∧ Mem w0 wr (L.set i (.row (.slice A xs.length c) 37 3 xs.length (flat Entry.vals (mixEntry 1 xs k)))))
    (fun _ v _ => xs.length - (intOf v).toNat)
  case atStart => exact ⟨0, by omega, rfl, rfl, by rw [mixEntry_0, set_same HL.out]; exact M.out⟩
  case round =>
    clear M
    obtain ⟨k, hk, rfl, rfl, m⟩ := hrel
    have M := Lib.hid m
    clear m
    by_cases hlt : k < xs.length
    · have hLs : ∀ e : Ent, (L.set i e)[i]? = some e := fun e => by rw [List.getElem?_set_self hi]
      obtain ⟨g, cap, he, _⟩ := M.out.row_form i (hLs _) (by omega)
      obtain ⟨rfl, rfl⟩ : A = some ⟨g, 0, none⟩ ∧ c = cap := by injection he with e1 _ e2; exact ⟨e1, e2⟩
      clear he
      have hk1 := mixEntry_at 1 hlt
      have HK1 := Lib.hid hk1
      have HLs := Lib.hid hLs
      have e0 : IntKind.i64.wrap (1 + 3 * (k : Int) + 1) = 1 + 3 * (k : Int) + 1 := IntWalk.i64_in _ (by omega)
      have e1 : IntKind.i64.wrap (1 + 3 * (k : Int) + 1 + 1) = 1 + 3 * (k : Int) + 1 + 1 := IntWalk.i64_in _ (by omega)
      have e2 : IntKind.i64.wrap (1 + 3 * (k : Int) + 1 + 1 + 1) = 1 + 3 * (k : Int) + 1 + 1 + 1 := IntWalk.i64_in _ (by omega)
      have hl0 : k * 3 + 2 < (flat Entry.vals (mixEntry 1 xs k)).length := by rw [flat_len Entry.vl, mixEntry_len _ _ _ hk]; omega
      have HL0 := Lib.hid hl0
      clear hk1 hLs hl0
      go_wp2_with (first
        | ((with_reducible refine gate_store (x := .tmp 17) rfl ?_); go_must (refine M.out.ev_rput1 i _ _ _ rfl rfl (HLs.out _) rfl (.int .i8 (IntKind.i8.wrap (1 + 3 * (k : Int)))) rfl (by have := HL0.out; first | omega | (simp only [List.length_set]; omega)) sz34 rfl rfl ?_); intro wn m; rw [List.set_set] at m; have M := Lib.hid m; clear m)
        | ((with_reducible refine gate_store (x := .tmp 25) rfl ?_); go_must (refine M.out.ev_rput1 i _ _ _ rfl rfl (HLs.out _) rfl (.int .i16 (IntKind.i16.wrap (1 + 3 * (k : Int) + 1))) rfl (by have := HL0.out; first | omega | (simp only [List.length_set]; omega)) sz35 rfl rfl ?_); intro wn m; rw [List.set_set] at m; have M := Lib.hid m; clear m)
        | ((with_reducible refine gate_store (x := .tmp 33) rfl ?_); go_must (refine M.out.ev_rput1 i _ _ _ rfl rfl (HLs.out _) rfl (.int .i16 (IntKind.i16.wrap (1 + 3 * (k : Int) + 1 + 1))) rfl (by have := HL0.out; first | omega | (simp only [List.length_set]; omega)) sz35 rfl rfl ?_); intro wn m; rw [List.set_set] at m; have M := Lib.hid m; clear m)
        )
      refine ⟨⟨k + 1, by omega, by go_num, ?_, ?_⟩, by simp [intOf]; omega⟩
      · first | (congr 1; done) | (congr 1; omega)
      · have m := M.out
        have hf := flat_putEntry (y := markEntry 1 k) HK1.out
        rw [mixEntry_set 1 hlt] at hf
        rw [← hf]
        exact m
    · obtain rfl : k = xs.length := by omega
      go_wp2
      go_ret
      exact ⟨rfl, by have m := M.out; rw [mixEntry_all] at m; exact m⟩
set_option maxRecDepth 100000 in
set_option maxHeartbeats 1000000 in
theorem heldEntry_any (A : Option Addr) (c n : Nat) (hl : n ≤ 1048576) (w : World) (hs : Sl w 3 A n (flat Entry.vals (marksEntry 1 n))) :
    Calls Tryd.prog 8 #[.slice A n c, .int .i64 1] w fun e w' => e = .returned (.int .i64 (1 + 3 * n)) ∧ w = w' := by
  have HS := Lib.hid hs
  clear hs
  go_enter Tryd.func8, Tryd.ntmps8
  go_wp2
  go_loop [1, 5] (fun u v => ∃ k : Nat, k ≤ n ∧ v = .int .i64 k ∧ u = .int .i64 (1 + 3 * (k : Int)))
    (fun _ v => n - (intOf v).toNat)
  case atStart => exact ⟨0, by omega, rfl, rfl⟩
  case round =>
    obtain ⟨k, hk, rfl, rfl⟩ := hrel
    by_cases hlt : k < n
    · obtain ⟨b, off, rfl, hr⟩ := HS.out.2 (by omega)
      have R := range_at Entry.vl hr (marksEntry_at hlt)
      have x0 : w.cell? ⟨b, off + k * 3, none⟩ = some (.int .i8 (IntKind.i8.wrap (1 + 3 * (k : Int)))) := R 0 _ rfl
      have x1 : w.cell? ⟨b, off + k * 3 + 1, none⟩ = some (.int .i16 (IntKind.i16.wrap (1 + 3 * (k : Int) + 1))) := R 1 _ rfl
      have x2 : w.cell? ⟨b, off + k * 3 + 2, none⟩ = some (.int .i16 (IntKind.i16.wrap (1 + 3 * (k : Int) + 1 + 1))) := R 2 _ rfl
      have e0 : IntKind.i64.wrap (1 + 3 * (k : Int) + 1) = 1 + 3 * (k : Int) + 1 := IntWalk.i64_in _ (by omega)
      have e1 : IntKind.i64.wrap (1 + 3 * (k : Int) + 1 + 1) = 1 + 3 * (k : Int) + 1 + 1 := IntWalk.i64_in _ (by omega)
      have e2 : IntKind.i64.wrap (1 + 3 * (k : Int) + 1 + 1 + 1) = 1 + 3 * (k : Int) + 1 + 1 + 1 := IntWalk.i64_in _ (by omega)
      clear hr R
      go_wp2
      exact ⟨⟨k + 1, by omega, by go_num, by first | (congr 1; done) | (congr 1; omega)⟩, by simp [intOf]; omega⟩
    · obtain rfl : k = n := by omega
      go_wp2
      go_ret
      exact ⟨rfl, rfl⟩
end Go.Proofs.YtaepgjjmfopiiaaDoor
