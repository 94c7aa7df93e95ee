/- Marks and clones of slices of structs. -/
import Derived.Test.YtnddoiapilookaaNet
import Derived.Test.YtnddoiapilookaaGen
namespace Go.Proofs.Ytnddoiapilookaa
set_option linter.unusedSimpArgs false
set_option linter.unusedVariables false
open Go.RowKit
attribute [local go_sem] cell?_mk frozen?_mk

theorem Net.ones (x : Net) : ∀ v ∈ x.vals, v.oneCell' = true := by
  intro v hv
  simp only [Net.vals, List.mem_cons, List.not_mem_nil, or_false] at hv
  rcases hv with rfl | rfl | rfl | rfl <;> rfl
def markNet (k : Int) (i : Nat) : Net := ⟨IntKind.i8.wrap (k + 4 * i), IntKind.i8.wrap (k + 4 * i + 1), IntKind.i8.wrap (k + 4 * i + 1 + 1), IntKind.i8.wrap (k + 4 * i + 1 + 1 + 1)⟩
def marksNet (k : Int) (n : Nat) : List Net := (List.range n).map (markNet k)
theorem marksNet_len (k : Int) (n : Nat) : (marksNet k n).length = n := by simp [marksNet]
theorem marksNet_at {k : Int} {n i : Nat} (h : i < n) : (marksNet k n)[i]? = some (markNet k i) := by simp [marksNet, h]
def mixNet (k : Int) (xs : List Net) (i : Nat) : List Net := (List.range i).map (markNet k) ++ xs.drop i
theorem mixNet_len (k : Int) (xs : List Net) (i : Nat) (h : i ≤ xs.length) : (mixNet k xs i).length = xs.length := by simp [mixNet]; omega
theorem mixNet_at (k : Int) {xs : List Net} {i : Nat} (h : i < xs.length) : (mixNet k xs i)[i]? = some xs[i] := by
  rw [mixNet, List.getElem?_append_right (by simp), List.length_map, List.length_range, Nat.sub_self, List.getElem?_drop]
  simp [h]
theorem mixNet_set (k : Int) {xs : List Net} {i : Nat} (h : i < xs.length) : (mixNet k xs i).set i (markNet k i) = mixNet k xs (i + 1) := by
  rw [mixNet, mixNet, List.set_append, if_neg (by simp), List.length_map, List.length_range, Nat.sub_self, List.range_succ, List.map_append, List.drop_eq_getElem_cons h]
  simp only [List.set_cons_zero, List.map_cons, List.map_nil, List.append_assoc, List.cons_append, List.nil_append]
theorem mixNet_0 (k : Int) (xs : List Net) : mixNet k xs 0 = xs := by simp [mixNet]
theorem mixNet_all (k : Int) (xs : List Net) : mixNet k xs xs.length = marksNet k xs.length := by simp [mixNet, marksNet]
theorem flat_putNet {xs : List Net} {k : Nat} {x y : Net} (hk : xs[k]? = some x) :
    (((((flat Net.vals xs).set (k * 4) (.int .i8 y.x)).set (k * 4 + 1) (.int .i8 y.y)).set (k * 4 + 2) (.int .i8 y.wide)).set (k * 4 + 3) (.int .i8 y.high)) = flat Net.vals (xs.set k y) := by
  have hl : k < xs.length := (List.getElem?_eq_some_iff.1 hk).1
  have h0 := flat_put Net.vl (by decide : 0 < 4) (v := .int .i8 y.x) xs k x ⟨y.x, x.y, x.wide, x.high⟩ hk rfl
  have h1 := flat_put Net.vl (by decide : 1 < 4) (v := .int .i8 y.y) (xs.set k ⟨y.x, x.y, x.wide, x.high⟩) k ⟨y.x, x.y, x.wide, x.high⟩ ⟨y.x, y.y, x.wide, x.high⟩ (by rw [List.getElem?_set_self hl]) rfl
  have h2 := flat_put Net.vl (by decide : 2 < 4) (v := .int .i8 y.wide) (xs.set k ⟨y.x, y.y, x.wide, x.high⟩) k ⟨y.x, y.y, x.wide, x.high⟩ ⟨y.x, y.y, y.wide, x.high⟩ (by rw [List.getElem?_set_self hl]) rfl
  have h3 := flat_put Net.vl (by decide : 3 < 4) (v := .int .i8 y.high) (xs.set k ⟨y.x, y.y, y.wide, x.high⟩) k ⟨y.x, y.y, y.wide, x.high⟩ y (by rw [List.getElem?_set_self hl]) rfl
  rw [List.set_set] at h1 h2 h3
  rw [Nat.add_zero] at h0
  rw [h0, h1, h2, h3]
set_option maxRecDepth 100000 in
set_option maxHeartbeats 1000000 in
theorem markNet_any {w0 w : World} {L : List Ent} (i : Nat) (M0 : Mem w0 w L) (A : Option Addr) (c : Nat) (xs : List Net) (hL : L[i]? = some (.row (.slice A xs.length c) 44 4 xs.length (flat Net.vals xs))) (hl : xs.length ≤ 1048576) :
    Calls Try.prog 19 #[.slice A xs.length c, .int .i64 1] w fun e w' => e = .returned (.int .i64 (1 + 4 * xs.length)) ∧ Mem w0 w' (L.set i (.row (.slice A xs.length c) 44 4 xs.length (flat Net.vals (marksNet 1 xs.length)))) := by
  have M := Lib.hid M0
  have HL := Lib.hid hL
  have hi : i < L.length := (List.getElem?_eq_some_iff.1 hL).1
  clear M0 hL
  go_enter Try.func19, Try.ntmps19
  go_wp2
  go_loopw [1, 5] (fun u v wr => ∃ k : Nat, k ≤ xs.length ∧ v = .int .i64 k ∧ u = .int .i64 (1 + 4 * (k : Int)) ∧ Mem w0 wr (L.set i (.row (.slice A xs.length c) 44 4 xs.length (flat Net.vals (mixNet 1 xs k)))))
    (fun _ v _ => xs.length - (intOf v).toNat)
  case atStart => exact ⟨0, by omega, rfl, rfl, by rw [mixNet_0, set_same HL.out]; exact M.out⟩
  case round =>
    clear M
    obtain ⟨k, hk, rfl, rfl, m⟩ := hrel
    have M := Lib.hid m
    clear m
    by_cases hlt : k < xs.length
    · have hLs : ∀ e : Ent, (L.set i e)[i]? = some e := fun e => by rw [List.getElem?_set_self hi]
      obtain ⟨g, cap, he, _⟩ := M.out.row_form i (hLs _) (by omega)
      obtain ⟨rfl, rfl⟩ : A = some ⟨g, 0, none⟩ ∧ c = cap := by injection he with e1 _ e2; exact ⟨e1, e2⟩
      clear he
      have hk1 := mixNet_at 1 hlt
      have HK1 := Lib.hid hk1
      have HLs := Lib.hid hLs
      have e0 : IntKind.i64.wrap (1 + 4 * (k : Int) + 1) = 1 + 4 * (k : Int) + 1 := IntWalk.i64_in _ (by omega)
      have e1 : IntKind.i64.wrap (1 + 4 * (k : Int) + 1 + 1) = 1 + 4 * (k : Int) + 1 + 1 := IntWalk.i64_in _ (by omega)
      have e2 : IntKind.i64.wrap (1 + 4 * (k : Int) + 1 + 1 + 1) = 1 + 4 * (k : Int) + 1 + 1 + 1 := IntWalk.i64_in _ (by omega)
      have e3 : IntKind.i64.wrap (1 + 4 * (k : Int) + 1 + 1 + 1 + 1) = 1 + 4 * (k : Int) + 1 + 1 + 1 + 1 := IntWalk.i64_in _ (by omega)
      have hl0 : k * 4 + 3 < (flat Net.vals (mixNet 1 xs k)).length := by rw [flat_len Net.vl, mixNet_len _ _ _ hk]; omega
      have HL0 := Lib.hid hl0
      clear hk1 hLs hl0
      go_wp2_with (first
        | ((with_reducible refine gate_store (x := .tmp 17) rfl ?_); go_must (refine M.out.ev_rput1 i _ _ _ rfl rfl (HLs.out _) rfl (.int .i8 (IntKind.i8.wrap (1 + 4 * (k : Int)))) rfl (by have := HL0.out; first | omega | (simp only [List.length_set]; omega)) sz22 rfl rfl ?_); intro wn m; rw [List.set_set] at m; have M := Lib.hid m; clear m)
        | ((with_reducible refine gate_store (x := .tmp 25) rfl ?_); go_must (refine M.out.ev_rput1 i _ _ _ rfl rfl (HLs.out _) rfl (.int .i8 (IntKind.i8.wrap (1 + 4 * (k : Int) + 1))) rfl (by have := HL0.out; first | omega | (simp only [List.length_set]; omega)) sz22 rfl rfl ?_); intro wn m; rw [List.set_set] at m; have M := Lib.hid m; clear m)
        | ((with_reducible refine gate_store (x := .tmp 33) rfl ?_); go_must (refine M.out.ev_rput1 i _ _ _ rfl rfl (HLs.out _) rfl (.int .i8 (IntKind.i8.wrap (1 + 4 * (k : Int) + 1 + 1))) rfl (by have := HL0.out; first | omega | (simp only [List.length_set]; omega)) sz22 rfl rfl ?_); intro wn m; rw [List.set_set] at m; have M := Lib.hid m; clear m)
        | ((with_reducible refine gate_store (x := .tmp 41) rfl ?_); go_must (refine M.out.ev_rput1 i _ _ _ rfl rfl (HLs.out _) rfl (.int .i8 (IntKind.i8.wrap (1 + 4 * (k : Int) + 1 + 1 + 1))) rfl (by have := HL0.out; first | omega | (simp only [List.length_set]; omega)) sz22 rfl rfl ?_); intro wn m; rw [List.set_set] at m; have M := Lib.hid m; clear m)
        )
      refine ⟨⟨k + 1, by omega, by go_num, ?_, ?_⟩, by simp [intOf]; omega⟩
      · first | (congr 1; done) | (congr 1; omega)
      · have m := M.out
        have hf := flat_putNet (y := markNet 1 k) HK1.out
        rw [mixNet_set 1 hlt] at hf
        rw [← hf]
        exact m
    · obtain rfl : k = xs.length := by omega
      go_wp2
      go_ret
      exact ⟨rfl, by have m := M.out; rw [mixNet_all] at m; exact m⟩
set_option maxRecDepth 100000 in
set_option maxHeartbeats 1000000 in
theorem heldNet_any (A : Option Addr) (c n : Nat) (hl : n ≤ 1048576) (w : World) (hs : Sl w 4 A n (flat Net.vals (marksNet 1 n))) :
    Calls Try.prog 20 #[.slice A n c, .int .i64 1] w fun e w' => e = .returned (.int .i64 (1 + 4 * n)) ∧ w = w' := by
  have HS := Lib.hid hs
  clear hs
  go_enter Try.func20, Try.ntmps20
  go_wp2
  go_loop [1, 5] (fun u v => ∃ k : Nat, k ≤ n ∧ v = .int .i64 k ∧ u = .int .i64 (1 + 4 * (k : Int)))
    (fun _ v => n - (intOf v).toNat)
  case atStart => exact ⟨0, by omega, rfl, rfl⟩
  case round =>
    obtain ⟨k, hk, rfl, rfl⟩ := hrel
    by_cases hlt : k < n
    · obtain ⟨b, off, rfl, hr⟩ := HS.out.2 (by omega)
      have R := range_at Net.vl hr (marksNet_at hlt)
      have x0 : w.cell? ⟨b, off + k * 4, none⟩ = some (.int .i8 (IntKind.i8.wrap (1 + 4 * (k : Int)))) := R 0 _ rfl
      have x1 : w.cell? ⟨b, off + k * 4 + 1, none⟩ = some (.int .i8 (IntKind.i8.wrap (1 + 4 * (k : Int) + 1))) := R 1 _ rfl
      have x2 : w.cell? ⟨b, off + k * 4 + 2, none⟩ = some (.int .i8 (IntKind.i8.wrap (1 + 4 * (k : Int) + 1 + 1))) := R 2 _ rfl
      have x3 : w.cell? ⟨b, off + k * 4 + 3, none⟩ = some (.int .i8 (IntKind.i8.wrap (1 + 4 * (k : Int) + 1 + 1 + 1))) := R 3 _ rfl
      have e0 : IntKind.i64.wrap (1 + 4 * (k : Int) + 1) = 1 + 4 * (k : Int) + 1 := IntWalk.i64_in _ (by omega)
      have e1 : IntKind.i64.wrap (1 + 4 * (k : Int) + 1 + 1) = 1 + 4 * (k : Int) + 1 + 1 := IntWalk.i64_in _ (by omega)
      have e2 : IntKind.i64.wrap (1 + 4 * (k : Int) + 1 + 1 + 1) = 1 + 4 * (k : Int) + 1 + 1 + 1 := IntWalk.i64_in _ (by omega)
      have e3 : IntKind.i64.wrap (1 + 4 * (k : Int) + 1 + 1 + 1 + 1) = 1 + 4 * (k : Int) + 1 + 1 + 1 + 1 := IntWalk.i64_in _ (by omega)
      clear hr R
      go_wp2
      exact ⟨⟨k + 1, by omega, by go_num, by first | (congr 1; done) | (congr 1; omega)⟩, by simp [intOf]; omega⟩
    · obtain rfl : k = n := by omega
      go_wp2
      go_ret
      exact ⟨rfl, rfl⟩
set_option maxRecDepth 100000 in
set_option maxHeartbeats 1000000 in
theorem cloneNet_any (A : Option Addr) (n : Nat) (xs : List Net) (hl : xs.length ≤ 1048576) (hc : xs.length ≤ n) (hA : A = none → n = 0) (w : World) (hs : Sl w 4 A xs.length (flat Net.vals xs)) :
    Calls Try.prog 81 #[.slice A xs.length n] w (RetRow w 44 4 xs.length (flat Net.vals xs)) := by
  have M := Lib.hid (Mem.start w)
  have HS := Lib.hid hs
  clear hs
  cases A with
  | none =>
    obtain rfl := hA rfl
    obtain rfl : xs = [] := List.length_eq_zero_iff.1 (by omega)
    have he : ∀ w : World, (binOp .eql 28 (.slice none 0 0) (.slice none 0 0)).run Try.prog w = .ok (.bool true) w := fun _ => rfl
    go_enter Try.func81, Try.ntmps81
    go_wp2
    go_ret
    exact ⟨none, 0, rfl, by simp, M.out.nilrow _ _⟩
  | some a =>
    have he : ∀ w : World, (binOp .eql 28 (.slice (some a) xs.length n) (.slice none 0 0)).run Try.prog w = .ok (.bool false) w := fun _ => rfl
    go_enter Try.func81, Try.ntmps81
    go_wp2_with (first
      | ((with_reducible refine gate_dst (N := 5) rfl ?_); go_must (refine M.out.ev_bs0 elem_Net rfl rfl ?_); intro g5 w5 m; simp only [List.nil_append] at m; have M := Lib.hid m; clear m)
      | ((with_reducible refine gate_dst (N := 7) rfl ?_); go_must (refine M.out.ev_appends 0 elem_Net rfl _ _ rfl rfl rfl rfl (M.out.sl HS.out) (fun h => by cases h) hc (flat_one Net.ones xs) (by omega) (by decide) ?_); intro v7 w7 m; simp only [List.set_cons_zero, List.nil_append, Nat.zero_add] at m; have M := Lib.hid m; clear m)
      )
    obtain ⟨B, c, rfl, hc1, _⟩ := M.out.row_slice 0 rfl
    go_ret
    exact ⟨B, c, rfl, hc1, M.out⟩
end Go.Proofs.Ytnddoiapilookaa
