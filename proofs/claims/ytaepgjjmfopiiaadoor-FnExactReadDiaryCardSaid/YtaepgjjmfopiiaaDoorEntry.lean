/- A diary's entries: as data, and the laws' own ways to hand them over. -/
import Derived.Test.YtaepgjjmfopiiaaDoorTy
import Derived.Test.YtaepgjjmfopiiaaDoorSl
import Derived.Test.YtaepgjjmfopiiaaDoorBase
namespace Go.Proofs.YtaepgjjmfopiiaaDoor
set_option linter.unusedSimpArgs false
set_option linter.unusedVariables false
open Go.RowKit
structure Entry where
  what : Int
  cell : Int
  amount : Int
  deriving DecidableEq
def Entry.vals (x : Entry) : List Value := [.int .i8 x.what, .int .i16 x.cell, .int .i16 x.amount]
theorem Entry.vl (x : Entry) : x.vals.length = 3 := rfl
theorem Entry.one (x : Entry) : x.vals.toArray.all (·.oneCell') = true := by simp [Entry.vals, Value.oneCell']
def Entry.z : Entry := ⟨0, 0, 0⟩
theorem elem_Entry : ElemOk Tryd.prog 22 37 (.agg Entry.z.vals.toArray) 3 6 := ⟨by kernel_rfl, by kernel_rfl, by kernel_rfl, by decide⟩
set_option maxRecDepth 100000 in
set_option maxHeartbeats 1000000 in
theorem eqEntry_any (x y : Entry) (w : World) :
    Calls Tryd.prog 18 #[.agg x.vals.toArray, .agg y.vals.toArray] w fun e w' => e = .returned (.bool (decide (x = y))) ∧ Mem w w' [] := by
  have M := Lib.hid (Mem.start w)
  obtain ⟨a1, b1, c1⟩ := x
  obtain ⟨a2, b2, c2⟩ := y
  simp only [Entry.vals]
  go_enter Tryd.func18, Tryd.ntmps18
  go_wp2_with (first
    | ((with_reducible refine gate_dst (N := 2) rfl ?_); go_must (refine M.out.ev_new rfl (by first | (go_simp; done) | (go_simp; rfl)) ?_); intro g2 w2 m; simp only [List.cons_append, List.nil_append] at m; have M := Lib.hid m; clear m)
    | ((with_reducible refine gate_dst (N := 3) rfl ?_); go_must (refine M.out.ev_new rfl (by first | (go_simp; done) | (go_simp; rfl)) ?_); intro g3 w3 m; simp only [List.cons_append, List.nil_append] at m; have M := Lib.hid m; clear m)
    | ((with_reducible refine gate_dst (N := 6) rfl ?_); go_must (refine M.out.ev_ld 0 _ _ rfl rfl rfl Tryd.underlying34 rfl rfl (by first | assumption | rfl) ?_))
    | ((with_reducible refine gate_dst (N := 8) rfl ?_); go_must (refine M.out.ev_ld 1 _ _ rfl rfl rfl Tryd.underlying34 rfl rfl (by first | assumption | rfl) ?_))
    | ((with_reducible refine gate_dst (N := 11) rfl ?_); go_must (refine M.out.ev_ld 0 _ _ rfl rfl rfl Tryd.underlying35 rfl rfl (by first | assumption | rfl) ?_))
    | ((with_reducible refine gate_dst (N := 13) rfl ?_); go_must (refine M.out.ev_ld 1 _ _ rfl rfl rfl Tryd.underlying35 rfl rfl (by first | assumption | rfl) ?_))
    | ((with_reducible refine gate_dst (N := 16) rfl ?_); go_must (refine M.out.ev_ld 0 _ _ rfl rfl rfl Tryd.underlying35 rfl rfl (by first | assumption | rfl) ?_))
    | ((with_reducible refine gate_dst (N := 18) rfl ?_); go_must (refine M.out.ev_ld 1 _ _ rfl rfl rfl Tryd.underlying35 rfl rfl (by first | assumption | rfl) ?_))
    )
  all_goals
    go_ret
    exact ⟨ret_bool (by simp_all), M.out.take 0⟩

set_option maxRecDepth 100000 in
set_option maxHeartbeats 1000000 in
theorem eqEntryS_any (A B : Option Addr) (c d : Nat) (xs ys : List Entry) (w : World) (h1 : xs.length ≤ 1048576) (hx : Sl w 3 A xs.length (flat Entry.vals xs)) (hy : Sl w 3 B ys.length (flat Entry.vals ys)) :
    Calls Tryd.prog 6 #[.slice A xs.length c, .slice B ys.length d] w fun e w' => e = .returned (.bool (decide (xs = ys))) ∧ Mem w w' [] := by
  have M := Lib.hid (Mem.start w)
  have HX := Lib.hid hx
  have HY := Lib.hid hy
  clear hx hy
  by_cases hl : xs.length = ys.length
  · have HL := Lib.hid hl
    have hb : ((xs.length : Int) != (ys.length : Int)) = false := by simp [hl]
    clear hl
    go_enter Tryd.func6, Tryd.ntmps6
    go_wp2_with fail
    clear hb
    go_loopw [5] (fun v wr => ∃ k : Nat, k ≤ xs.length ∧ v = .int .i64 k ∧ xs.take k = ys.take k ∧ Mem w wr [])
      (fun v _ => xs.length - (intOf v).toNat)
    case atStart => exact ⟨0, by omega, rfl, rfl, M.out⟩
    case round =>
      clear M
      obtain ⟨k, hk, rfl, he, m⟩ := hrel
      have HE := Lib.hid he
      have M := Lib.hid m
      clear m he
      by_cases hlt : k < xs.length
      · have hlt2 : k < ys.length := by have := HL.out; omega
        obtain ⟨b, off, rfl, hr⟩ := (M.out.sl HX.out).2 (by omega)
        obtain ⟨b2, off2, rfl, hr2⟩ := (M.out.sl HY.out).2 (by omega)
        have R := Lib.hid (range_at Entry.vl hr (List.getElem?_eq_getElem hlt))
        have R2 := Lib.hid (range_at Entry.vl hr2 (List.getElem?_eq_getElem hlt2))
        have i0 : (0 : Int) ≤ (k : Int) := by omega
        have i1 : (k : Int) < (xs.length : Int) := by omega
        have i2 : (k : Int) < (ys.length : Int) := by omega
        clear hr hr2
        have x0 : wr.cell? ⟨b, off + k * 3, none⟩ = some (.int .i8 xs[k].what) := R.out 0 _ rfl
        have x1 : wr.cell? ⟨b, off + k * 3 + 1, none⟩ = some (.int .i16 xs[k].cell) := R.out 1 _ rfl
        have x2 : wr.cell? ⟨b, off + k * 3 + 2, none⟩ = some (.int .i16 xs[k].amount) := R.out 2 _ rfl
        have y0 : wr.cell? ⟨b2, off2 + k * 3, none⟩ = some (.int .i8 ys[k].what) := R2.out 0 _ rfl
        have y1 : wr.cell? ⟨b2, off2 + k * 3 + 1, none⟩ = some (.int .i16 ys[k].cell) := R2.out 1 _ rfl
        have y2 : wr.cell? ⟨b2, off2 + k * 3 + 2, none⟩ = some (.int .i16 ys[k].amount) := R2.out 2 _ rfl
        go_wp2_with fail
        go_region_held3 (fun w' => w'.cell? ⟨b, off + k * 3, none⟩ = some (.int .i8 xs[k].what) ∧ w'.cell? ⟨b, off + k * 3 + 1, none⟩ = some (.int .i16 xs[k].cell) ∧ w'.cell? ⟨b, off + k * 3 + 2, none⟩ = some (.int .i16 xs[k].amount) ∧
            w'.cell? ⟨b2, off2 + k * 3, none⟩ = some (.int .i8 ys[k].what) ∧ w'.cell? ⟨b2, off2 + k * 3 + 1, none⟩ = some (.int .i16 ys[k].cell) ∧ w'.cell? ⟨b2, off2 + k * 3 + 2, none⟩ = some (.int .i16 ys[k].amount)) (first | go_keep | (go_split_ands; (repeat' apply And.intro) <;> exact cell_kept N_.below (by assumption)))
          (first | (go_at_call 18; refine (eqEntry_any xs[k] ys[k] _).mono ?_; rintro e w_ ⟨rfl, N_⟩))
        have M := Lib.hid ((M.out.drew.join N_).take 0)
        clear N_ x0 x1 x2 y0 y1 y2
        go_wp2
        · have hq : (!decide (xs[k] = ys[k])) = true := by assumption
          go_ret
          refine ⟨ret_bool ?_, M.out⟩
          symm
          rw [decide_eq_false_iff_not]
          rintro rfl
          simp at hq
        · have hq : (!decide (xs[k] = ys[k])) = false := by assumption
          refine ⟨⟨k + 1, by omega, by go_num, ?_, M.out⟩, by simp [intOf]; omega⟩
          rw [List.take_succ_eq_append_getElem hlt, List.take_succ_eq_append_getElem hlt2, HE.out, show xs[k] = ys[k] by simpa using hq]
      · have hk2 : k = xs.length := by omega
        have HK := Lib.hid hk2
        have hn : decide ((k : Int) < (xs.length : Int)) = false := by simp; omega
        clear hk2
        go_wp2
        go_ret
        refine ⟨ret_bool ?_, M.out⟩
        have he := HE.out
        rw [HK.out, List.take_of_length_le (Nat.le_refl _), HL.out, List.take_of_length_le (Nat.le_refl _)] at he
        simp [he]
  · have hb : ((xs.length : Int) != (ys.length : Int)) = true := by rw [bne_iff_ne]; omega
    go_enter Tryd.func6, Tryd.ntmps6
    go_wp2
    go_ret
    refine ⟨ret_bool ?_, M.out⟩
    symm
    rw [decide_eq_false_iff_not]
    rintro rfl
    exact hl rfl
end Go.Proofs.YtaepgjjmfopiiaaDoor
