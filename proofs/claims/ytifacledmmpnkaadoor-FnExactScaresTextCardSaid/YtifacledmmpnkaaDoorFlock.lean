/- Structs of whole numbers, and the laws' own ways to hand them over. -/
import Derived.Test.YtifacledmmpnkaaDoorTy
import Derived.Test.YtifacledmmpnkaaDoorSl
import Derived.Test.YtifacledmmpnkaaDoorBase
import Derived.Test.YtifacledmmpnkaaDoorConf0
namespace Go.Proofs.YtifacledmmpnkaaDoor
set_option linter.unusedSimpArgs false
set_option linter.unusedVariables false
open Go.RowKit
structure Flock where
  tree : Int
  birds : Int
  eats : Int
  bold : Int
  reach : Int
  taste : Int
  deriving DecidableEq
def Flock.vals (x : Flock) : List Value := [.int .i16 x.tree, .int .i16 x.birds, .int .i16 x.eats, .int .i16 x.bold, .int .i16 x.reach, .int .i8 x.taste]
theorem Flock.vl (x : Flock) : x.vals.length = 6 := rfl
theorem Flock.one (x : Flock) : x.vals.toArray.all (·.oneCell') = true := by simp [Flock.vals, Value.oneCell']
structure Flock.ok (x : Flock) : Prop where
  tree : -32768 ≤ x.tree ∧ x.tree ≤ 32767
  birds : -32768 ≤ x.birds ∧ x.birds ≤ 32767
  eats : -32768 ≤ x.eats ∧ x.eats ≤ 32767
  bold : -32768 ≤ x.bold ∧ x.bold ≤ 32767
  reach : -32768 ≤ x.reach ∧ x.reach ≤ 32767
  taste : -128 ≤ x.taste ∧ x.taste ≤ 127
def Flock.z : Flock := ⟨0, 0, 0, 0, 0, 0⟩
theorem elem_Flock : ElemOk Tryd.prog 46 91 (.agg Flock.z.vals.toArray) 6 12 := ⟨by kernel_rfl, by kernel_rfl, by kernel_rfl, by decide⟩
set_option maxRecDepth 100000 in
set_option maxHeartbeats 1000000 in
theorem toFlock_any (x : Flock) (w : World) :
    Calls Tryd.prog 55 #[.agg x.vals.toArray] w fun e w' => e = .returned (.agg x.vals.toArray) ∧ Mem w w' [] := by
  have M := Lib.hid (Mem.start w)
  obtain ⟨e0, e1, e2, e3, e4, e5⟩ := x
  simp only [Flock.vals]
  go_enter Tryd.func55, Tryd.ntmps55
  go_wp2_with (first
    | ((with_reducible refine gate_dst (N := 1) rfl ?_); go_must (refine M.out.ev_new rfl (by first | (go_simp; done) | (go_simp; rfl)) ?_); intro g1 w1 m; simp only [List.cons_append, List.nil_append] at m; have M := Lib.hid m; clear m)
    | ((with_reducible refine gate_dst (N := 2) rfl ?_); go_must (refine M.out.ev_new rfl (by first | (go_simp; done) | (go_simp; rfl)) ?_); intro g2 w2 m; simp only [List.cons_append, List.nil_append] at m; have M := Lib.hid m; clear m)
    | ((with_reducible refine gate_dst (N := 3) rfl ?_); go_must (refine M.out.ev_new rfl (by first | (go_simp; done) | (go_simp; rfl)) ?_); intro g3 w3 m; simp only [List.cons_append, List.nil_append] at m; have M := Lib.hid m; clear m)
    | ((with_reducible refine gate_dst (N := 5) rfl ?_); go_must (refine M.out.ev_ld 0 _ _ rfl rfl rfl Tryd.underlying56 rfl rfl (by first | assumption | rfl) ?_))
    | ((with_reducible refine gate_store (x := .tmp 6) rfl ?_); go_must (refine M.out.ev_put 2 _ _ _ rfl rfl rfl rfl (.int _ _) rfl (by first | assumption | exact Fld.lt0 _ | exact Fld.lt1 _ | (simp; done) | (simp only [ints_size]; omega)) sz56 rfl rfl ?_); intro wn m; simp only [List.set_cons_succ, List.set_cons_zero, List.setIfInBounds_toArray] at m; have M := Lib.hid m; clear m)
    | ((with_reducible refine gate_dst (N := 8) rfl ?_); go_must (refine M.out.ev_ld 0 _ _ rfl rfl rfl Tryd.underlying56 rfl rfl (by first | assumption | rfl) ?_))
    | ((with_reducible refine gate_store (x := .tmp 9) rfl ?_); go_must (refine M.out.ev_put 2 _ _ _ rfl rfl rfl rfl (.int _ _) rfl (by first | assumption | exact Fld.lt0 _ | exact Fld.lt1 _ | (simp; done) | (simp only [ints_size]; omega)) sz56 rfl rfl ?_); intro wn m; simp only [List.set_cons_succ, List.set_cons_zero, List.setIfInBounds_toArray] at m; have M := Lib.hid m; clear m)
    | ((with_reducible refine gate_dst (N := 11) rfl ?_); go_must (refine M.out.ev_ld 0 _ _ rfl rfl rfl Tryd.underlying56 rfl rfl (by first | assumption | rfl) ?_))
    | ((with_reducible refine gate_store (x := .tmp 12) rfl ?_); go_must (refine M.out.ev_put 2 _ _ _ rfl rfl rfl rfl (.int _ _) rfl (by first | assumption | exact Fld.lt0 _ | exact Fld.lt1 _ | (simp; done) | (simp only [ints_size]; omega)) sz56 rfl rfl ?_); intro wn m; simp only [List.set_cons_succ, List.set_cons_zero, List.setIfInBounds_toArray] at m; have M := Lib.hid m; clear m)
    | ((with_reducible refine gate_dst (N := 14) rfl ?_); go_must (refine M.out.ev_ld 0 _ _ rfl rfl rfl Tryd.underlying56 rfl rfl (by first | assumption | rfl) ?_))
    | ((with_reducible refine gate_store (x := .tmp 15) rfl ?_); go_must (refine M.out.ev_put 2 _ _ _ rfl rfl rfl rfl (.int _ _) rfl (by first | assumption | exact Fld.lt0 _ | exact Fld.lt1 _ | (simp; done) | (simp only [ints_size]; omega)) sz56 rfl rfl ?_); intro wn m; simp only [List.set_cons_succ, List.set_cons_zero, List.setIfInBounds_toArray] at m; have M := Lib.hid m; clear m)
    | ((with_reducible refine gate_dst (N := 17) rfl ?_); go_must (refine M.out.ev_ld 0 _ _ rfl rfl rfl Tryd.underlying56 rfl rfl (by first | assumption | rfl) ?_))
    | ((with_reducible refine gate_store (x := .tmp 18) rfl ?_); go_must (refine M.out.ev_put 2 _ _ _ rfl rfl rfl rfl (.int _ _) rfl (by first | assumption | exact Fld.lt0 _ | exact Fld.lt1 _ | (simp; done) | (simp only [ints_size]; omega)) sz56 rfl rfl ?_); intro wn m; simp only [List.set_cons_succ, List.set_cons_zero, List.setIfInBounds_toArray] at m; have M := Lib.hid m; clear m)
    | ((with_reducible refine gate_dst (N := 20) rfl ?_); go_must (refine M.out.ev_ld 0 _ _ rfl rfl rfl Tryd.underlying55 rfl rfl (by first | assumption | rfl) ?_))
    | ((with_reducible refine gate_store (x := .tmp 21) rfl ?_); go_must (refine M.out.ev_put 2 _ _ _ rfl rfl rfl rfl (.int _ _) rfl (by first | assumption | exact Fld.lt0 _ | exact Fld.lt1 _ | (simp; done) | (simp only [ints_size]; omega)) sz55 rfl rfl ?_); intro wn m; simp only [List.set_cons_succ, List.set_cons_zero, List.setIfInBounds_toArray] at m; have M := Lib.hid m; clear m)
    | ((with_reducible refine gate_dst (N := 22) rfl ?_); go_must (refine M.out.ev_ldw 2 _ _ rfl rfl rfl Tryd.underlying91 rfl (by first | exact sz91 | (rw [S1.out]; exact sz91) | (rw [S2.out]; exact sz91) | (rw [S3.out]; exact sz91)) rfl ?_))
    | ((with_reducible refine gate_store (x := .tmp 2) rfl ?_); go_must (refine M.out.ev_stw 1 _ _ _ rfl rfl rfl rfl _ rfl (by first | rfl | (simp only [S1.out]; rfl) | (simp only [S1.out, S2.out]; rfl) | (simp only [S3.out]; rfl) | (simp only [S1.out, S2.out, S3.out]; rfl)) (by first | exact sz91 | (rw [S1.out]; exact sz91) | (rw [S2.out]; exact sz91) | (rw [S3.out]; exact sz91)) (by first | exact ints_one _ _ | exact Fld.one _ | exact O1.out | rfl | (simp [Value.oneCell']; done)) rfl ?_); intro wn m; simp only [List.set_cons_succ, List.set_cons_zero, List.setIfInBounds_toArray] at m; have M := Lib.hid m; clear m)
    )
  exact ret_cell rfl (M.out.blk 1 rfl) Tryd.underlying91 rfl sz91 rfl ⟨rfl, M.out.take 0⟩
set_option maxRecDepth 100000 in
set_option maxHeartbeats 1000000 in
theorem szFlockS_any (A : Option Addr) (n c : Nat) (left : Int) (w : World) (h1 : 0 ≤ left) (h2 : left ≤ 1048576) (h3 : n ≤ 9223372036854775807) :
    Calls Tryd.prog 23 #[.slice A n c, .int .i64 left] w fun e w' => e = .returned (.int .i64 (if left < n then -1 else left - n)) ∧ w = w' := by
  by_cases hlt : left < n
  · go_enter Tryd.func23, Tryd.ntmps23
    go_wp2
    go_ret
    exact ⟨ret_int (by simp [hlt]), rfl⟩
  · go_enter Tryd.func23, Tryd.ntmps23
    go_wp2
    go_ret
    exact ⟨ret_int (by simp [hlt]), rfl⟩
set_option maxRecDepth 100000 in
set_option maxHeartbeats 1000000 in
theorem toFlockS_any (A : Option Addr) (c : Nat) (xs : List Flock) (w : World) (h1 : xs.length ≤ 1048576) (hs : Sl w 6 A xs.length (flat Flock.vals xs)) :
    Calls Tryd.prog 25 #[.slice A xs.length c] w (RetRow w 91 6 xs.length (flat Flock.vals xs)) := by
  have M := Lib.hid (Mem.start w)
  have HS := Lib.hid hs
  clear hs
  go_enter Tryd.func25, Tryd.ntmps25
  go_wp2_with (first
    | ((with_reducible refine gate_make (T := 46) rfl ?_); go_must (refine M.out.ev_make Flock.vals Flock.z elem_Flock Flock.vl rfl rfl _ _ rfl _ rfl rfl (by omega) (by unfold maxLen; omega) ?_); intro g w1 m; simp only [List.nil_append] at m; have M := Lib.hid m; clear m))
  go_loopw [4] (fun v wr => ∃ k : Nat, k ≤ xs.length ∧ v = .int .i64 k ∧ Mem w wr [.row (.slice (some ⟨g, 0, none⟩) xs.length xs.length) 91 6 xs.length (flat Flock.vals (xs.take k ++ (List.replicate xs.length Flock.z).drop k))])
    (fun v _ => xs.length - (intOf v).toNat)
  case atStart => exact ⟨0, by omega, rfl, M.out⟩
  case round =>
    clear M
    obtain ⟨k, hk, rfl, m⟩ := hrel
    have M := Lib.hid m
    clear m
    by_cases hlt : k < xs.length
    · obtain ⟨b, off, rfl, hr⟩ := (M.out.sl HS.out).2 (by omega)
      have hx : xs[k]? = some xs[k] := List.getElem?_eq_getElem hlt
      have HX := Lib.hid hx
      have R := Lib.hid (range_at Flock.vl hr hx)
      have hl : k * 6 + 6 ≤ (flat Flock.vals (xs.take k ++ (List.replicate xs.length Flock.z).drop k)).length := by
        rw [flat_len Flock.vl]; simp; omega
      clear hr hx
      go_wp2_with (first
        | ((with_reducible refine gate_dst (N := 19) rfl ?_); go_must (refine ev_ldr _ _ rfl rfl (R.out) Tryd.underlying93 rfl (by first | exact sz93 | (rw [S1.out]; exact sz93)) rfl ?_))
        | (go_at_call 55; go_must (refine (toFlock_any xs[k] _).mono ?_); rintro e w_ ⟨rfl, N_⟩; have m := M.out.join N_; clear N_; simp only [List.cons_append, List.nil_append, List.append_nil] at m; have M := Lib.hid m; clear m)
        | ((with_reducible refine gate_store (x := .tmp 21) rfl ?_); go_must (refine M.out.ev_rput 0 _ _ _ rfl rfl rfl rfl xs[k].vals rfl hl sz91 (Flock.one _) rfl ?_); intro w9 m; simp only [List.set_cons_zero] at m; have M := Lib.hid m; clear m)
        )
      go_roundw
      case rel =>
        refine ⟨k + 1, by omega, by go_num, ?_⟩
        have m := M.out
        rw [flat_set Flock.vl _ _ _ (by simp; omega), take_set_drop _ _ _ _ HX.out (by simp; omega)] at m
        exact m
      case measure => simp [intOf]; omega
    · obtain rfl : k = xs.length := by omega
      go_wp2
      go_ret
      have m := M.out
      rw [List.take_of_length_le (by omega), List.drop_of_length_le (by simp), List.append_nil] at m
      exact ⟨_, _, rfl, Nat.le_refl _, m⟩
set_option maxRecDepth 100000 in
set_option maxHeartbeats 1000000 in
theorem eqFlock_any (x y : Flock) (w : World) :
    Calls Tryd.prog 59 #[.agg x.vals.toArray, .agg y.vals.toArray] w fun e w' => e = .returned (.bool (decide (x = y))) ∧ Mem w w' [] := by
  have M := Lib.hid (Mem.start w)
  obtain ⟨a0, a1, a2, a3, a4, a5⟩ := x
  obtain ⟨b0, b1, b2, b3, b4, b5⟩ := y
  simp only [Flock.vals]
  go_enter Tryd.func59, Tryd.ntmps59
  go_wp2_with (first
    | ((with_reducible refine gate_dst (N := 2) rfl ?_); go_must (refine M.out.ev_new rfl (by first | (go_simp; done) | (go_simp; rfl)) ?_); intro g2 w2 m; simp only [List.cons_append, List.nil_append] at m; have M := Lib.hid m; clear m)
    | ((with_reducible refine gate_dst (N := 3) rfl ?_); go_must (refine M.out.ev_new rfl (by first | (go_simp; done) | (go_simp; rfl)) ?_); intro g3 w3 m; simp only [List.cons_append, List.nil_append] at m; have M := Lib.hid m; clear m)
    | ((with_reducible refine gate_dst (N := 6) rfl ?_); go_must (refine M.out.ev_ld 0 _ _ rfl rfl rfl Tryd.underlying56 rfl rfl (by first | assumption | rfl) ?_))
    | ((with_reducible refine gate_dst (N := 8) rfl ?_); go_must (refine M.out.ev_ld 1 _ _ rfl rfl rfl Tryd.underlying56 rfl rfl (by first | assumption | rfl) ?_))
    | ((with_reducible refine gate_dst (N := 11) rfl ?_); go_must (refine M.out.ev_ld 0 _ _ rfl rfl rfl Tryd.underlying56 rfl rfl (by first | assumption | rfl) ?_))
    | ((with_reducible refine gate_dst (N := 13) rfl ?_); go_must (refine M.out.ev_ld 1 _ _ rfl rfl rfl Tryd.underlying56 rfl rfl (by first | assumption | rfl) ?_))
    | ((with_reducible refine gate_dst (N := 16) rfl ?_); go_must (refine M.out.ev_ld 0 _ _ rfl rfl rfl Tryd.underlying56 rfl rfl (by first | assumption | rfl) ?_))
    | ((with_reducible refine gate_dst (N := 18) rfl ?_); go_must (refine M.out.ev_ld 1 _ _ rfl rfl rfl Tryd.underlying56 rfl rfl (by first | assumption | rfl) ?_))
    | ((with_reducible refine gate_dst (N := 21) rfl ?_); go_must (refine M.out.ev_ld 0 _ _ rfl rfl rfl Tryd.underlying56 rfl rfl (by first | assumption | rfl) ?_))
    | ((with_reducible refine gate_dst (N := 23) rfl ?_); go_must (refine M.out.ev_ld 1 _ _ rfl rfl rfl Tryd.underlying56 rfl rfl (by first | assumption | rfl) ?_))
    | ((with_reducible refine gate_dst (N := 26) rfl ?_); go_must (refine M.out.ev_ld 0 _ _ rfl rfl rfl Tryd.underlying56 rfl rfl (by first | assumption | rfl) ?_))
    | ((with_reducible refine gate_dst (N := 28) rfl ?_); go_must (refine M.out.ev_ld 1 _ _ rfl rfl rfl Tryd.underlying56 rfl rfl (by first | assumption | rfl) ?_))
    | ((with_reducible refine gate_dst (N := 31) rfl ?_); go_must (refine M.out.ev_ld 0 _ _ rfl rfl rfl Tryd.underlying55 rfl rfl (by first | assumption | rfl) ?_))
    | ((with_reducible refine gate_dst (N := 33) rfl ?_); go_must (refine M.out.ev_ld 1 _ _ rfl rfl rfl Tryd.underlying55 rfl rfl (by first | assumption | rfl) ?_))
    )
  all_goals
    go_ret
    exact ⟨ret_bool (by simp_all), M.out.take 0⟩

set_option maxRecDepth 100000 in
set_option maxHeartbeats 1000000 in
theorem eqFlockS_any (A B : Option Addr) (c d : Nat) (xs ys : List Flock) (w : World) (h1 : xs.length ≤ 1048576) (hx : Sl w 6 A xs.length (flat Flock.vals xs)) (hy : Sl w 6 B ys.length (flat Flock.vals ys)) :
    Calls Tryd.prog 27 #[.slice A xs.length c, .slice B ys.length d] w fun e w' => e = .returned (.bool (decide (xs = ys))) ∧ Mem w w' [] := by
  have M := Lib.hid (Mem.start w)
  have HX := Lib.hid hx
  have HY := Lib.hid hy
  clear hx hy
  by_cases hl : xs.length = ys.length
  · have HL := Lib.hid hl
    have hb : ((xs.length : Int) != (ys.length : Int)) = false := by simp [hl]
    clear hl
    go_enter Tryd.func27, Tryd.ntmps27
    go_wp2_with fail
    clear hb
    go_loopw [5] (fun v wr => ∃ k : Nat, k ≤ xs.length ∧ v = .int .i64 k ∧ xs.take k = ys.take k ∧ Mem w wr [])
      (fun v _ => xs.length - (intOf v).toNat)
    case atStart => exact ⟨0, by omega, rfl, rfl, M.out⟩
    case round =>
      clear M
      obtain ⟨k, hk, rfl, he, m⟩ := hrel
      have HE := Lib.hid he
      have M := Lib.hid m
      clear m he
      by_cases hlt : k < xs.length
      · have hlt2 : k < ys.length := by have := HL.out; omega
        obtain ⟨b, off, rfl, hr⟩ := (M.out.sl HX.out).2 (by omega)
        obtain ⟨b2, off2, rfl, hr2⟩ := (M.out.sl HY.out).2 (by omega)
        have R := Lib.hid (range_at Flock.vl hr (List.getElem?_eq_getElem hlt))
        have R2 := Lib.hid (range_at Flock.vl hr2 (List.getElem?_eq_getElem hlt2))
        have i0 : (0 : Int) ≤ (k : Int) := by omega
        have i1 : (k : Int) < (xs.length : Int) := by omega
        have i2 : (k : Int) < (ys.length : Int) := by omega
        clear hr hr2
        have x0 : wr.cell? ⟨b, off + k * 6, none⟩ = some (.int .i16 xs[k].tree) := R.out 0 _ rfl
        have x1 : wr.cell? ⟨b, off + k * 6 + 1, none⟩ = some (.int .i16 xs[k].birds) := R.out 1 _ rfl
        have x2 : wr.cell? ⟨b, off + k * 6 + 2, none⟩ = some (.int .i16 xs[k].eats) := R.out 2 _ rfl
        have x3 : wr.cell? ⟨b, off + k * 6 + 3, none⟩ = some (.int .i16 xs[k].bold) := R.out 3 _ rfl
        have x4 : wr.cell? ⟨b, off + k * 6 + 4, none⟩ = some (.int .i16 xs[k].reach) := R.out 4 _ rfl
        have x5 : wr.cell? ⟨b, off + k * 6 + 5, none⟩ = some (.int .i8 xs[k].taste) := R.out 5 _ rfl
        have y0 : wr.cell? ⟨b2, off2 + k * 6, none⟩ = some (.int .i16 ys[k].tree) := R2.out 0 _ rfl
        have y1 : wr.cell? ⟨b2, off2 + k * 6 + 1, none⟩ = some (.int .i16 ys[k].birds) := R2.out 1 _ rfl
        have y2 : wr.cell? ⟨b2, off2 + k * 6 + 2, none⟩ = some (.int .i16 ys[k].eats) := R2.out 2 _ rfl
        have y3 : wr.cell? ⟨b2, off2 + k * 6 + 3, none⟩ = some (.int .i16 ys[k].bold) := R2.out 3 _ rfl
        have y4 : wr.cell? ⟨b2, off2 + k * 6 + 4, none⟩ = some (.int .i16 ys[k].reach) := R2.out 4 _ rfl
        have y5 : wr.cell? ⟨b2, off2 + k * 6 + 5, none⟩ = some (.int .i8 ys[k].taste) := R2.out 5 _ rfl
        go_wp2_with fail
        go_region_held3 (fun w' => w'.cell? ⟨b, off + k * 6, none⟩ = some (.int .i16 xs[k].tree) ∧ w'.cell? ⟨b, off + k * 6 + 1, none⟩ = some (.int .i16 xs[k].birds) ∧ w'.cell? ⟨b, off + k * 6 + 2, none⟩ = some (.int .i16 xs[k].eats) ∧ w'.cell? ⟨b, off + k * 6 + 3, none⟩ = some (.int .i16 xs[k].bold) ∧ w'.cell? ⟨b, off + k * 6 + 4, none⟩ = some (.int .i16 xs[k].reach) ∧ w'.cell? ⟨b, off + k * 6 + 5, none⟩ = some (.int .i8 xs[k].taste) ∧ w'.cell? ⟨b2, off2 + k * 6, none⟩ = some (.int .i16 ys[k].tree) ∧ w'.cell? ⟨b2, off2 + k * 6 + 1, none⟩ = some (.int .i16 ys[k].birds) ∧ w'.cell? ⟨b2, off2 + k * 6 + 2, none⟩ = some (.int .i16 ys[k].eats) ∧ w'.cell? ⟨b2, off2 + k * 6 + 3, none⟩ = some (.int .i16 ys[k].bold) ∧ w'.cell? ⟨b2, off2 + k * 6 + 4, none⟩ = some (.int .i16 ys[k].reach) ∧ w'.cell? ⟨b2, off2 + k * 6 + 5, none⟩ = some (.int .i8 ys[k].taste)) (first | go_keep | (go_split_ands; (repeat' apply And.intro) <;> exact cell_kept N_.below (by assumption)))
          (first | (go_at_call 59; refine (eqFlock_any xs[k] ys[k] _).mono ?_; rintro e w_ ⟨rfl, N_⟩))
        have M := Lib.hid ((M.out.drew.join N_).take 0)
        clear N_ x0 x1 x2 x3 x4 x5 y0 y1 y2 y3 y4 y5
        go_wp2
        · have hq : (!decide (xs[k] = ys[k])) = true := by assumption
          go_ret
          refine ⟨ret_bool ?_, M.out⟩
          symm
          rw [decide_eq_false_iff_not]
          rintro rfl
          simp at hq
        · have hq : (!decide (xs[k] = ys[k])) = false := by assumption
          refine ⟨⟨k + 1, by omega, by go_num, ?_, M.out⟩, by simp [intOf]; omega⟩
          rw [List.take_succ_eq_append_getElem hlt, List.take_succ_eq_append_getElem hlt2, HE.out, show xs[k] = ys[k] by simpa using hq]
      · have hk2 : k = xs.length := by omega
        have HK := Lib.hid hk2
        have hn : decide ((k : Int) < (xs.length : Int)) = false := by simp; omega
        clear hk2
        go_wp2
        go_ret
        refine ⟨ret_bool ?_, M.out⟩
        have he := HE.out
        rw [HK.out, List.take_of_length_le (Nat.le_refl _), HL.out, List.take_of_length_le (Nat.le_refl _)] at he
        simp [he]
  · have hb : ((xs.length : Int) != (ys.length : Int)) = true := by rw [bne_iff_ne]; omega
    go_enter Tryd.func27, Tryd.ntmps27
    go_wp2
    go_ret
    refine ⟨ret_bool ?_, M.out⟩
    symm
    rw [decide_eq_false_iff_not]
    rintro rfl
    exact hl rfl
def Flock.ks : List IntKind := [.i16, .i16, .i16, .i16, .i16, .i8]
theorem Flock.of_conf (cs : List Value) (h : Conf Flock.ks cs) : ∃ x : Flock, x.ok ∧ x.vals = cs := by
  obtain ⟨e0, r, rfl, w0, h⟩ := h.cons
  obtain ⟨e1, r, rfl, w1, h⟩ := h.cons
  obtain ⟨e2, r, rfl, w2, h⟩ := h.cons
  obtain ⟨e3, r, rfl, w3, h⟩ := h.cons
  obtain ⟨e4, r, rfl, w4, h⟩ := h.cons
  obtain ⟨e5, r, rfl, w5, h⟩ := h.cons
  obtain rfl := h.nil_eq
  exact ⟨⟨e0, e1, e2, e3, e4, e5⟩, ⟨bounds_i16 w0, bounds_i16 w1, bounds_i16 w2, bounds_i16 w3, bounds_i16 w4, bounds_i8 w5⟩, rfl⟩
end Go.Proofs.YtifacledmmpnkaaDoor
