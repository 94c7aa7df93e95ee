/- Where scarecrows stand, and whether they are as they must be: the walks. -/
import Derived.Test.YteecfclccfhdhaaScares2
namespace Go.Proofs.Yteecfclccfhdhaa
set_option linter.unusedSimpArgs false
set_option linter.unusedVariables false
open Go.RowKit
attribute [local go_sem] cell?_mk frozen?_mk

def standsAt (xs : List Scarecrow) (c : Int) : Bool := xs.any fun x => decide (x.cell = c)
def scAt (F : Fld) (xs : List Scarecrow) (i : Nat) : Bool := match xs[i]? with | none => true | some x => x.plain && (F.place x.cell && !standsAt (xs.take i) x.cell)
def scOk (F : Fld) (xs : List Scarecrow) : Bool := decide (xs.length ≤ 20) && (List.range xs.length).all (scAt F xs)
theorem scOk_of {F : Fld} {xs : List Scarecrow} (hl : xs.length ≤ 20) (h : ∀ j, j < xs.length → scAt F xs j = true) : scOk F xs = true := by
  simp only [scOk, decide_eq_true hl, Bool.true_and, List.all_eq_true, List.mem_range]
  exact h
theorem not_scOk {F : Fld} {xs : List Scarecrow} {k : Nat} (hk : k < xs.length) (h : scAt F xs k = false) : scOk F xs = false := by
  rw [← Bool.not_eq_true]
  intro hv
  simp only [scOk, Bool.and_eq_true, List.all_eq_true, List.mem_range] at hv
  rw [hv.2 k hk] at h
  cases h
theorem scOk_iff {F : Fld} {xs : List Scarecrow} : scOk F xs = true ↔ xs.length ≤ 20 ∧ ∀ j, j < xs.length → scAt F xs j = true := by
  simp [scOk]
theorem scOk_plain {F : Fld} {xs : List Scarecrow} (h : scOk F xs = true) : ∀ x ∈ xs, x.plain = true := fun x hx => by
  obtain ⟨i, hi⟩ := List.getElem?_of_mem hx
  have := (scOk_iff.1 h).2 i (List.getElem?_eq_some_iff.1 hi).1
  simp only [scAt, hi, Bool.and_eq_true] at this
  exact this.1

set_option maxRecDepth 100000 in
set_option maxHeartbeats 1000000 in
theorem stands1_any (x : Scarecrow) (hx : x.ok) (g : Nat) (t : TypeId) (c : Int) (w : World) (hb : Blk w g t #[.int .i64 c]) :
    Calls Try.prog 120 #[.agg x.vals.toArray, .pointer (some ⟨g, 0, none⟩)] w fun e w' => e = .returned (.bool (decide (x.cell = c))) ∧ Mem w w' [] := by
  have M := Lib.hid (Mem.start w)
  obtain ⟨a0, a1⟩ := hx.cell
  obtain ⟨a, b, d⟩ := x
  simp only [Scarecrow.vals] at *
  have HB := Lib.hid hb
  clear hb
  go_enter Try.func120, Try.ntmps120
  go_wp2_with (first
    | ((with_reducible refine gate_dst (N := 2) rfl ?_); go_must (refine M.out.ev_new rfl (by first | (go_simp; done) | (go_simp; rfl)) ?_); intro g2 w2 m; simp only [List.cons_append, List.nil_append] at m; have M := Lib.hid m; clear m)
    | ((with_reducible refine gate_dst (N := 5) rfl ?_); go_must (refine M.out.ev_ld 0 _ _ rfl rfl rfl Try.underlying24 rfl rfl (by first | assumption | rfl) ?_))
    | ((with_reducible refine gate_dst (N := 7) rfl ?_); go_must (refine ev_get _ _ rfl rfl ((M.out.arg HB.out).cellv (i := 0) rfl) Try.underlying2 rfl rfl ?_))
    )
  go_ret
  exact ⟨rfl, M.out.take 0⟩

set_option maxRecDepth 100000 in
set_option maxHeartbeats 1000000 in
theorem indexS_any (f : FuncId) (cap : Value) (p : Scarecrow → Bool) (A : Option Addr) (n : Nat) (xs : List Scarecrow) (hn : xs.length ≤ 1048576) (w : World) (hs : Sl w 3 A xs.length (flat Scarecrow.vals xs))
    (HF : ∀ (vs : Array Value) (w : World), Sem.run Try.prog (callFunc f vs) w = Result.ok (Next.enter f vs) w)
    (H : ∀ x ∈ xs, ∀ w1, Mem w w1 [] → Calls Try.prog f #[.agg x.vals.toArray, cap] w1 fun e w' => e = .returned (.bool (p x)) ∧ Mem w1 w' []) :
    Calls Try.prog 140 #[.slice A xs.length n, .func (.func f) #[] #[cap]] w fun e w' => ∃ r : Int, e = .returned (.int .i64 r) ∧ decide (0 ≤ r) = xs.any p ∧ Mem w w' [] := by
  have M := Lib.hid (Mem.start w)
  have HS := Lib.hid hs
  have HH := Lib.hid H
  clear hs H
  go_enter Try.func140, Try.ntmps140
  go_wp2
  go_loopw [8] (fun v wr => ∃ k : Nat, k ≤ xs.length ∧ v = .int .i64 k ∧ (xs.take k).any p = false ∧ Mem w wr [])
    (fun v _ => xs.length - (intOf v).toNat)
  case atStart => exact ⟨0, by omega, rfl, rfl, M.out⟩
  case round =>
    clear M
    obtain ⟨k, hk, rfl, he, m⟩ := hrel
    have M := Lib.hid m
    have HE := Lib.hid he
    clear m he
    by_cases hlt : k < xs.length
    · obtain ⟨b, off, rfl, hr⟩ := (M.out.sl HS.out).2 (by omega)
      have hxk : xs[k]? = some xs[k] := List.getElem?_eq_getElem hlt
      have R := Lib.hid (range_at Scarecrow.vl hr hxk)
      have i0 : (0 : Int) ≤ (k : Int) := by omega
      have i1 : (k : Int) < (xs.length : Int) := by omega
      clear hr hxk
      cases hp : p xs[k]
      · have HP := Lib.hid hp
        clear hp
        go_wp2_with (first
          | ((with_reducible refine gate_dst (N := 15) rfl ?_); go_must (refine ev_ldr _ _ rfl rfl (R.out) Try.underlying89 rfl (by first | exact sz89 | (rw [S1.out]; exact sz89)) rfl ?_))
          | (refine (HH.out xs[k] (List.getElem_mem hlt) _ M.out).mono ?_; rintro e w_ ⟨rfl, N_⟩; have m := M.out.join N_; clear N_; simp only [List.append_nil] at m; have M := Lib.hid m; clear m; rw [HP.out])
          )
        refine ⟨⟨k + 1, by omega, by go_num, ?_, M.out⟩, by simp [intOf]; omega⟩
        rw [List.take_succ_eq_append_getElem hlt, List.any_append, HE.out]
        simp [HP.out]
      · have HP := Lib.hid hp
        clear hp
        go_wp2_with (first
          | ((with_reducible refine gate_dst (N := 15) rfl ?_); go_must (refine ev_ldr _ _ rfl rfl (R.out) Try.underlying89 rfl (by first | exact sz89 | (rw [S1.out]; exact sz89)) rfl ?_))
          | (refine (HH.out xs[k] (List.getElem_mem hlt) _ M.out).mono ?_; rintro e w_ ⟨rfl, N_⟩; have m := M.out.join N_; clear N_; simp only [List.append_nil] at m; have M := Lib.hid m; clear m; rw [HP.out])
          )
        go_ret
        refine ⟨k, rfl, ?_, M.out⟩
        rw [decide_eq_true i0]
        symm
        rw [List.any_eq_true]
        exact ⟨xs[k], List.getElem_mem hlt, HP.out⟩
    · obtain rfl : k = xs.length := by omega
      go_wp2
      go_ret
      refine ⟨-1, rfl, ?_, M.out⟩
      have he := HE.out
      rw [List.take_length] at he
      rw [he]
      rfl

set_option maxRecDepth 100000 in
set_option maxHeartbeats 1000000 in
theorem containsS_any (f : FuncId) (cap : Value) (p : Scarecrow → Bool) (A : Option Addr) (n : Nat) (xs : List Scarecrow) (hn : xs.length ≤ 1048576) (w : World) (hs : Sl w 3 A xs.length (flat Scarecrow.vals xs))
    (HF : ∀ (vs : Array Value) (w : World), Sem.run Try.prog (callFunc f vs) w = Result.ok (Next.enter f vs) w)
    (H : ∀ x ∈ xs, ∀ w1, Mem w w1 [] → Calls Try.prog f #[.agg x.vals.toArray, cap] w1 fun e w' => e = .returned (.bool (p x)) ∧ Mem w1 w' []) :
    Calls Try.prog 119 #[.slice A xs.length n, .func (.func f) #[] #[cap]] w fun e w' => e = .returned (.bool (xs.any p)) ∧ Mem w w' [] := by
  go_enter Try.func119, Try.ntmps119
  go_wp2_with (first
    | (go_at_call 140; refine (indexS_any f cap p A n xs hn _ hs HF H).mono ?_; rintro e w_ ⟨r, rfl, hr, N_⟩)
    )
  go_ret
  exact ⟨rfl, N_⟩

set_option maxRecDepth 100000 in
set_option maxHeartbeats 1000000 in
theorem stands_any (A : Option Addr) (n : Nat) (xs : List Scarecrow) (hx : ∀ x ∈ xs, x.ok) (hn : xs.length ≤ 1048576) (c : Int) (w : World) (hs : Sl w 3 A xs.length (flat Scarecrow.vals xs)) :
    Calls Try.prog 80 #[.slice A xs.length n, .int .i64 c] w fun e w' => e = .returned (.bool (standsAt xs c)) ∧ Mem w w' [] := by
  have M := Lib.hid (Mem.start w)
  have HX := Lib.hid hx
  have HS := Lib.hid hs
  clear hs hx
  go_enter Try.func80, Try.ntmps80
  go_wp2_with (first
    | ((with_reducible refine gate_dst (N := 3) rfl ?_); go_must (refine M.out.ev_new rfl (by first | (go_simp; done) | (go_simp; rfl)) ?_); intro g3 w3 m; simp only [List.cons_append, List.nil_append] at m; have M := Lib.hid m; clear m)
    | (go_at_call 119; go_must (refine (containsS_any 120 _ (fun x => decide (x.cell = c)) A n xs hn _ (M.out.sl HS.out) (fun _ _ => by go_simp) (fun x hx w1 m1 => stands1_any x (HX.out x hx) _ _ c w1 ((M.out.join m1).blk 0 rfl))).mono ?_); rintro e w_ ⟨rfl, N_⟩; have m := M.out.join N_; clear N_; simp only [List.append_nil] at m; have M := Lib.hid m; clear m)
    )
  go_ret
  exact ⟨rfl, M.out.take 0⟩
end Go.Proofs.Yteecfclccfhdhaa
