/- Marks and clones of slices of structs. -/
import Derived.Test.YtkodcfnofjkohaaPlot
import Derived.Test.YtkodcfnofjkohaaGen
namespace Go.Proofs.Ytkodcfnofjkohaa
set_option linter.unusedSimpArgs false
set_option linter.unusedVariables false
open Go.RowKit
attribute [local go_sem] cell?_mk frozen?_mk

theorem Plot.ones (x : Plot) : ∀ v ∈ x.vals, v.oneCell' = true := by
  intro v hv
  simp only [Plot.vals, List.mem_cons, List.not_mem_nil, or_false] at hv
  rcases hv with rfl | rfl | rfl | rfl <;> rfl
def markPlot (k : Int) (i : Nat) : Plot := ⟨IntKind.i16.wrap (k + 4 * i), IntKind.i16.wrap (k + 4 * i + 1), IntKind.i16.wrap (k + 4 * i + 1 + 1), IntKind.i16.wrap (k + 4 * i + 1 + 1 + 1)⟩
def marksPlot (k : Int) (n : Nat) : List Plot := (List.range n).map (markPlot k)
theorem marksPlot_len (k : Int) (n : Nat) : (marksPlot k n).length = n := by simp [marksPlot]
theorem marksPlot_at {k : Int} {n i : Nat} (h : i < n) : (marksPlot k n)[i]? = some (markPlot k i) := by simp [marksPlot, h]
def mixPlot (k : Int) (xs : List Plot) (i : Nat) : List Plot := (List.range i).map (markPlot k) ++ xs.drop i
theorem mixPlot_len (k : Int) (xs : List Plot) (i : Nat) (h : i ≤ xs.length) : (mixPlot k xs i).length = xs.length := by simp [mixPlot]; omega
theorem mixPlot_at (k : Int) {xs : List Plot} {i : Nat} (h : i < xs.length) : (mixPlot k xs i)[i]? = some xs[i] := by
  rw [mixPlot, List.getElem?_append_right (by simp), List.length_map, List.length_range, Nat.sub_self, List.getElem?_drop]
  simp [h]
theorem mixPlot_set (k : Int) {xs : List Plot} {i : Nat} (h : i < xs.length) : (mixPlot k xs i).set i (markPlot k i) = mixPlot k xs (i + 1) := by
  rw [mixPlot, mixPlot, List.set_append, if_neg (by simp), List.length_map, List.length_range, Nat.sub_self, List.range_succ, List.map_append, List.drop_eq_getElem_cons h]
  simp only [List.set_cons_zero, List.map_cons, List.map_nil, List.append_assoc, List.cons_append, List.nil_append]
theorem mixPlot_0 (k : Int) (xs : List Plot) : mixPlot k xs 0 = xs := by simp [mixPlot]
theorem mixPlot_all (k : Int) (xs : List Plot) : mixPlot k xs xs.length = marksPlot k xs.length := by simp [mixPlot, marksPlot]
theorem flat_putPlot {xs : List Plot} {k : Nat} {x y : Plot} (hk : xs[k]? = some x) :
    (((((flat Plot.vals xs).set (k * 4) (.int .i16 y.seeds)).set (k * 4 + 1) (.int .i16 y.ripe)).set (k * 4 + 2) (.int .i16 y.keep)).set (k * 4 + 3) (.int .i16 y.loss)) = flat Plot.vals (xs.set k y) := by
  have hl : k < xs.length := (List.getElem?_eq_some_iff.1 hk).1
  have h0 := flat_put Plot.vl (by decide : 0 < 4) (v := .int .i16 y.seeds) xs k x ⟨y.seeds, x.ripe, x.keep, x.loss⟩ hk rfl
  have h1 := flat_put Plot.vl (by decide : 1 < 4) (v := .int .i16 y.ripe) (xs.set k ⟨y.seeds, x.ripe, x.keep, x.loss⟩) k ⟨y.seeds, x.ripe, x.keep, x.loss⟩ ⟨y.seeds, y.ripe, x.keep, x.loss⟩ (by rw [List.getElem?_set_self hl]) rfl
  have h2 := flat_put Plot.vl (by decide : 2 < 4) (v := .int .i16 y.keep) (xs.set k ⟨y.seeds, y.ripe, x.keep, x.loss⟩) k ⟨y.seeds, y.ripe, x.keep, x.loss⟩ ⟨y.seeds, y.ripe, y.keep, x.loss⟩ (by rw [List.getElem?_set_self hl]) rfl
  have h3 := flat_put Plot.vl (by decide : 3 < 4) (v := .int .i16 y.loss) (xs.set k ⟨y.seeds, y.ripe, y.keep, x.loss⟩) k ⟨y.seeds, y.ripe, y.keep, x.loss⟩ y (by rw [List.getElem?_set_self hl]) rfl
  rw [List.set_set] at h1 h2 h3
  rw [Nat.add_zero] at h0
  rw [h0, h1, h2, h3]
set_option maxRecDepth 100000 in
set_option maxHeartbeats 1000000 in
theorem markPlot_any {w0 w : World} {L : List Ent} (i : Nat) (M0 : Mem w0 w L) (A : Option Addr) (c : Nat) (xs : List Plot) (hL : L[i]? = some (.row (.slice A xs.length c) 67 4 xs.length (flat Plot.vals xs))) (hl : xs.length ≤ 1048576) :
    Calls Try.prog 16 #[.slice A xs.length c, .int .i64 1] w fun e w' => e = .returned (.int .i64 (1 + 4 * xs.length)) ∧ Mem w0 w' (L.set i (.row (.slice A xs.length c) 67 4 xs.length (flat Plot.vals (marksPlot 1 xs.length)))) := by
  have M := Lib.hid M0
  have HL := Lib.hid hL
  have hi : i < L.length := (List.getElem?_eq_some_iff.1 hL).1
  clear M0 hL
  go_enter Try.func16, Try.ntmps16
  go_wp2
  go_loopw [1, 5] (fun u v wr => ∃ k : Nat, k ≤ xs.length ∧ v = .int .i64 k ∧ u = .int .i64 (1 + 4 * (k : Int)) ∧ Mem w0 wr (L.set i (.row (.slice A xs.length c) 67 4 xs.length (flat Plot.vals (mixPlot 1 xs k)))))
    (fun _ v _ => xs.length - (intOf v).toNat)
  case atStart => exact ⟨0, by omega, rfl, rfl, by rw [mixPlot_0, set_same HL.out]; exact M.out⟩
  case round =>
    clear M
    obtain ⟨k, hk, rfl, rfl, m⟩ := hrel
    have M := Lib.hid m
    clear m
    by_cases hlt : k < xs.length
    · have hLs : ∀ e : Ent, (L.set i e)[i]? = some e := fun e => by rw [List.getElem?_set_self hi]
      obtain ⟨g, cap, he, _⟩ := M.out.row_form i (hLs _) (by omega)
      obtain ⟨rfl, rfl⟩ : A = some ⟨g, 0, none⟩ ∧ c = cap := by injection he with e1 _ e2; exact ⟨e1, e2⟩
      clear he
      have hk1 := mixPlot_at 1 hlt
      have HK1 := Lib.hid hk1
      have HLs := Lib.hid hLs
      have e0 : IntKind.i64.wrap (1 + 4 * (k : Int) + 1) = 1 + 4 * (k : Int) + 1 := IntWalk.i64_in _ (by omega)
      have e1 : IntKind.i64.wrap (1 + 4 * (k : Int) + 1 + 1) = 1 + 4 * (k : Int) + 1 + 1 := IntWalk.i64_in _ (by omega)
      have e2 : IntKind.i64.wrap (1 + 4 * (k : Int) + 1 + 1 + 1) = 1 + 4 * (k : Int) + 1 + 1 + 1 := IntWalk.i64_in _ (by omega)
      have e3 : IntKind.i64.wrap (1 + 4 * (k : Int) + 1 + 1 + 1 + 1) = 1 + 4 * (k : Int) + 1 + 1 + 1 + 1 := IntWalk.i64_in _ (by omega)
      have hl0 : k * 4 + 3 < (flat Plot.vals (mixPlot 1 xs k)).length := by rw [flat_len Plot.vl, mixPlot_len _ _ _ hk]; omega
      have HL0 := Lib.hid hl0
      clear hk1 hLs hl0
      go_wp2_with (first
        | ((with_reducible refine gate_store (x := .tmp 17) rfl ?_); go_must (refine M.out.ev_rput1 i _ _ _ rfl rfl (HLs.out _) rfl (.int .i16 (IntKind.i16.wrap (1 + 4 * (k : Int)))) rfl (by have := HL0.out; first | omega | (simp only [List.length_set]; omega)) sz38 rfl rfl ?_); intro wn m; rw [List.set_set] at m; have M := Lib.hid m; clear m)
        | ((with_reducible refine gate_store (x := .tmp 25) rfl ?_); go_must (refine M.out.ev_rput1 i _ _ _ rfl rfl (HLs.out _) rfl (.int .i16 (IntKind.i16.wrap (1 + 4 * (k : Int) + 1))) rfl (by have := HL0.out; first | omega | (simp only [List.length_set]; omega)) sz38 rfl rfl ?_); intro wn m; rw [List.set_set] at m; have M := Lib.hid m; clear m)
        | ((with_reducible refine gate_store (x := .tmp 33) rfl ?_); go_must (refine M.out.ev_rput1 i _ _ _ rfl rfl (HLs.out _) rfl (.int .i16 (IntKind.i16.wrap (1 + 4 * (k : Int) + 1 + 1))) rfl (by have := HL0.out; first | omega | (simp only [List.length_set]; omega)) sz38 rfl rfl ?_); intro wn m; rw [List.set_set] at m; have M := Lib.hid m; clear m)
        | ((with_reducible refine gate_store (x := .tmp 41) rfl ?_); go_must (refine M.out.ev_rput1 i _ _ _ rfl rfl (HLs.out _) rfl (.int .i16 (IntKind.i16.wrap (1 + 4 * (k : Int) + 1 + 1 + 1))) rfl (by have := HL0.out; first | omega | (simp only [List.length_set]; omega)) sz38 rfl rfl ?_); intro wn m; rw [List.set_set] at m; have M := Lib.hid m; clear m)
        )
      refine ⟨⟨k + 1, by omega, by go_num, ?_, ?_⟩, by simp [intOf]; omega⟩
      · first | (congr 1; done) | (congr 1; omega)
      · have m := M.out
        have hf := flat_putPlot (y := markPlot 1 k) HK1.out
        rw [mixPlot_set 1 hlt] at hf
        rw [← hf]
        exact m
    · obtain rfl : k = xs.length := by omega
      go_wp2
      go_ret
      exact ⟨rfl, by have m := M.out; rw [mixPlot_all] at m; exact m⟩
end Go.Proofs.Ytkodcfnofjkohaa
