/- The fear of a cell: the walks. -/
import Derived.Test.YteecfclccfhdhaaScares
namespace Go.Proofs.Yteecfclccfhdhaa
set_option linter.unusedSimpArgs false
set_option linter.unusedVariables false
open Go.RowKit
attribute [local go_sem] cell?_mk frozen?_mk

def big (a b : Int) : Int := if a < b then b else a
def fearAt (xs : List Scarecrow) (c : Int) : Int := xs.foldl (fun m x => big m (x.fear c)) 0
theorem fearAt_snoc (xs : List Scarecrow) (x : Scarecrow) (c : Int) : fearAt (xs ++ [x]) c = big (fearAt xs c) (x.fear c) := by simp [fearAt]
theorem fearAt_small {xs : List Scarecrow} {c : Int} (hx : ∀ x ∈ xs, x.plain = true) (d0 : 0 ≤ c) (d1 : c ≤ 99) : 0 ≤ fearAt xs c ∧ fearAt xs c ≤ 1000 := by
  have key : ∀ (xs : List Scarecrow) (m : Int), (∀ x ∈ xs, x.plain = true) → 0 ≤ m ∧ m ≤ 1000 → 0 ≤ xs.foldl (fun m x => big m (x.fear c)) m ∧ xs.foldl (fun m x => big m (x.fear c)) m ≤ 1000 := by
    intro xs
    induction xs with
    | nil => intro m _ h; exact h
    | cons x r ih =>
      intro m h hm
      have := fear_small (h x (by simp)) d0 d1
      exact ih _ (fun y hy => h y (by simp [hy])) (by show 0 ≤ big m (x.fear c) ∧ big m (x.fear c) ≤ 1000; unfold big; split <;> omega)
  exact key xs 0 hx (by omega)

set_option maxRecDepth 100000 in
set_option maxHeartbeats 1000000 in
theorem fearOf_any (A : Option Addr) (n : Nat) (xs : List Scarecrow) (hx : ∀ x ∈ xs, x.plain = true) (hn : xs.length ≤ 1048576) (c : Int) (d0 : 0 ≤ c) (d1 : c ≤ 99) (w : World) (hs : Sl w 3 A xs.length (flat Scarecrow.vals xs)) :
    Calls Try.prog 66 #[.slice A xs.length n, .int .i64 c] w fun e w' => e = .returned (.int .i64 (fearAt xs c)) ∧ Mem w w' [] := by
  have M := Lib.hid (Mem.start w)
  have HX := Lib.hid hx
  have HS := Lib.hid hs
  clear hx hs
  go_enter Try.func66, Try.ntmps66
  go_wp2
  go_loopw [5, 10] (fun m v wr => ∃ k : Nat, k ≤ xs.length ∧ v = .int .i64 k ∧ m = .int .i64 (fearAt (xs.take k) c) ∧ Mem w wr [])
    (fun _ v _ => xs.length - (intOf v).toNat)
  case atStart => exact ⟨0, by omega, rfl, rfl, M.out⟩
  case round =>
    clear M
    obtain ⟨k, hk, rfl, rfl, m⟩ := hrel
    have M := Lib.hid m
    clear m
    by_cases hlt : k < xs.length
    · obtain ⟨b, off, rfl, hr⟩ := (M.out.sl HS.out).2 (by omega)
      have hxk : xs[k]? = some xs[k] := List.getElem?_eq_getElem hlt
      have R := Lib.hid (range_at Scarecrow.vl hr hxk)
      have HP := Lib.hid (HX.out xs[k] (List.getElem_mem hlt))
      have O1 := Lib.hid (Scarecrow.one xs[k])
      have hb := fearAt_small (fun x hx => HX.out x (List.mem_of_mem_take hx)) d0 d1 (xs := xs.take k)
      have hc := fear_small HP.out d0 d1
      clear hr hxk
      go_wp2_with (first
        | ((with_reducible refine gate_dst (N := 13) rfl ?_); go_must (refine ev_ldr _ _ rfl rfl (R.out) Try.underlying89 rfl (by first | exact sz89 | (rw [S1.out]; exact sz89)) rfl ?_))
        | ((with_reducible refine gate_dst (N := 7) rfl ?_); go_must (refine M.out.ev_new rfl (by first | (go_simp; done) | (go_simp; rfl)) ?_); intro g7 w7 m; simp only [List.cons_append, List.nil_append] at m; have M := Lib.hid m; clear m)
        | ((with_reducible refine gate_store (x := .tmp 7) rfl ?_); go_must (refine M.out.ev_stw 0 _ _ _ rfl rfl rfl rfl _ rfl (by first | rfl | (simp only [S1.out]; rfl) | (simp only [S1.out, S2.out]; rfl) | (simp only [S3.out]; rfl) | (simp only [S1.out, S2.out, S3.out]; rfl)) (by first | exact sz89 | (rw [S1.out]; exact sz89) | (rw [S2.out]; exact sz89) | (rw [S3.out]; exact sz89)) (by first | exact ints_one _ _ | exact Fld.one _ | exact O1.out | rfl | (simp [Value.oneCell']; done)) rfl ?_); intro wn m; simp only [List.set_cons_succ, List.set_cons_zero, List.setIfInBounds_toArray] at m; have M := Lib.hid m; clear m)
        | ((with_reducible refine gate_dst (N := 15) rfl ?_); go_must (refine M.out.ev_ldw 0 _ _ rfl rfl rfl Try.underlying89 rfl (by first | exact sz89 | (rw [S1.out]; exact sz89) | (rw [S2.out]; exact sz89) | (rw [S3.out]; exact sz89)) rfl ?_))
        | (go_at_call 116; go_must (refine (fear_any xs[k] HP.out c d0 d1 _).mono ?_); rintro e w_ ⟨rfl, N_⟩; have m := M.out.join N_; clear N_; simp only [List.cons_append, List.nil_append, List.append_nil] at m; have M := Lib.hid m; clear m)
        )
      refine ⟨⟨k + 1, by omega, by go_num, ?_, M.out.take 0⟩, by simp [intOf]; omega⟩
      rw [List.take_succ_eq_append_getElem hlt, fearAt_snoc]
      rfl
    · obtain rfl : k = xs.length := by omega
      rw [List.take_length]
      go_wp2
      go_ret
      exact ⟨ret_int rfl, M.out⟩

theorem fear_wrap {x : Scarecrow} (hx : x.plain = true) {c : Int} (d0 : 0 ≤ c) (d1 : c ≤ 99) : IntKind.i64.wrap ((x.power / 2 ^ (x.age / 3).toNat).tdiv (1 + sq x.cell c)) = x.fear c := by
  obtain ⟨⟨a0, a1⟩, ⟨b0, b1⟩, c0, c1⟩ := Scarecrow.plain_iff.1 hx
  have hf := fear_small hx d0 d1
  have p0 : 0 ≤ x.power / 2 ^ (x.age / 3).toNat := by
    have := Int.pow_pos (n := (2 : Int)) (m := (x.age / 3).toNat) (by omega)
    exact Int.ediv_nonneg (by omega) (by omega)
  rw [Int.tdiv_eq_ediv_of_nonneg p0]
  exact IntWalk.i64_in _ (by unfold Scarecrow.fear at hf; omega)
set_option maxRecDepth 100000 in
set_option maxHeartbeats 1000000 in
theorem l00Max_any (a b : Int) (w : World) :
    Calls Try.prog 113 #[.int .i64 a, .int .i64 b] w fun e w' => e = .returned (.int .i64 (big a b)) ∧ w = w' := by
  by_cases h : b < a
  · go_enter Try.func113, Try.ntmps113
    go_wp2
    go_ret
    exact ⟨ret_int (by unfold big; rw [if_neg (by omega)]), rfl⟩
  · go_enter Try.func113, Try.ntmps113
    go_wp2
    go_ret
    exact ⟨ret_int (by unfold big; split <;> omega), rfl⟩
set_option maxRecDepth 100000 in
set_option maxHeartbeats 1000000 in
theorem l03Fear_any (A : Option Addr) (n : Nat) (xs : List Scarecrow) (hx : ∀ x ∈ xs, x.plain = true) (hn : xs.length ≤ 1048576) (c : Int) (d0 : 0 ≤ c) (d1 : c ≤ 99) (w : World) (hs : Sl w 3 A xs.length (flat Scarecrow.vals xs)) :
    Calls Try.prog 59 #[.slice A xs.length n, .int .i64 c] w fun e w' => e = .returned (.int .i64 (fearAt xs c)) ∧ Mem w w' [] := by
  have M := Lib.hid (Mem.start w)
  have HX := Lib.hid hx
  have HS := Lib.hid hs
  clear hx hs
  go_enter Try.func59, Try.ntmps59
  go_wp2
  go_loopw [5, 6] (fun m v wr => ∃ k : Nat, k ≤ xs.length ∧ v = .int .i64 k ∧ m = .int .i64 (fearAt (xs.take k) c) ∧ Mem w wr [])
    (fun _ v _ => xs.length - (intOf v).toNat)
  case atStart => exact ⟨0, by omega, rfl, rfl, M.out⟩
  case round =>
    clear M
    obtain ⟨k, hk, rfl, rfl, m⟩ := hrel
    have M := Lib.hid m
    clear m
    by_cases hlt : k < xs.length
    · obtain ⟨b, off, rfl, hr⟩ := (M.out.sl HS.out).2 (by omega)
      have hxk : xs[k]? = some xs[k] := List.getElem?_eq_getElem hlt
      have R := Lib.hid (range_at Scarecrow.vl hr hxk)
      have HP := Lib.hid (HX.out xs[k] (List.getElem_mem hlt))
      have hb := fearAt_small (fun x hx => HX.out x (List.mem_of_mem_take hx)) d0 d1 (xs := xs.take k)
      have hc := fear_small HP.out d0 d1
      obtain ⟨⟨p0, p1⟩, ⟨p2, p3⟩, p4, p5⟩ := Scarecrow.plain_iff.1 HP.out
      have hq := sq_small p0 p1 d0 d1
      have e2 : IntKind.i64.wrap (1 + sq xs[k].cell c) = 1 + sq xs[k].cell c := IntWalk.i64_in _ (by omega)
      have e3 : ¬ (1 + sq xs[k].cell c = 0) := by omega
      have ea : IntKind.i64.wrap xs[k].cell = xs[k].cell := IntWalk.i64_in _ (by omega)
      have x0 : wr.cell? ⟨b, off + k * 3, none⟩ = some (.int .i16 xs[k].cell) := R.out 0 _ rfl
      have x1 : wr.cell? ⟨b, off + k * 3 + 1, none⟩ = some (.int .i16 xs[k].power) := R.out 1 _ rfl
      have x2 : wr.cell? ⟨b, off + k * 3 + 2, none⟩ = some (.int .i8 xs[k].age) := R.out 2 _ rfl
      clear hr hxk
      go_wp2
      go_region_held3 (fun w' => w'.cell? ⟨b, off + k * 3, none⟩ = some (.int .i16 xs[k].cell) ∧ w'.cell? ⟨b, off + k * 3 + 1, none⟩ = some (.int .i16 xs[k].power) ∧ w'.cell? ⟨b, off + k * 3 + 2, none⟩ = some (.int .i8 xs[k].age)) (first | go_keep | (go_split_ands; (repeat' apply And.intro) <;> exact cell_kept N_.below (by assumption)))
        (first | (go_at_call 114; refine (l03Counts_any xs[k] HP.out _).mono ?_; rintro e w_ ⟨rfl, N_⟩) | (go_at_call 115; refine (l01Square_any xs[k].cell c (by omega) (by omega) d0 d1 _).mono ?_; rintro e w_ ⟨rfl, rfl⟩) | (go_at_call 113; refine (l00Max_any _ _ _).mono ?_; rintro e w_ ⟨rfl, rfl⟩))
      rw [fear_wrap HP.out d0 d1]
      have M := Lib.hid ((M.out.drew.join N_).take 0)
      clear N_ x0 x1 x2
      go_wp2
      refine ⟨⟨k + 1, by omega, by go_num, ?_, M.out⟩, by simp [intOf]; omega⟩
      rw [List.take_succ_eq_append_getElem hlt, fearAt_snoc]
    · obtain rfl : k = xs.length := by omega
      rw [List.take_length]
      go_wp2
      go_ret
      exact ⟨ret_int rfl, M.out⟩
end Go.Proofs.Yteecfclccfhdhaa
