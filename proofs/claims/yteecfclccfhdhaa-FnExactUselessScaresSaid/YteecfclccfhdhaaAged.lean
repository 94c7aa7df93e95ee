/- Scarecrows that are some days older: the walks. -/
import Derived.Test.YteecfclccfhdhaaScares2
import Derived.Test.YteecfclccfhdhaaGrow
namespace Go.Proofs.Yteecfclccfhdhaa
set_option linter.unusedSimpArgs false
set_option linter.unusedVariables false
open Go.RowKit
attribute [local go_sem] cell?_mk frozen?_mk

def Scarecrow.older (d : Int) (x : Scarecrow) : Scarecrow := { x with age := min 30 (x.age + d) }
theorem Scarecrow.older_plain {x : Scarecrow} (h : x.plain = true) {d : Int} (d0 : 0 ≤ d) : (x.older d).plain = true := by
  rw [Scarecrow.plain_iff] at h ⊢
  refine ⟨h.1, h.2.1, ?_⟩
  show 0 ≤ min 30 (x.age + d) ∧ min 30 (x.age + d) ≤ 30
  omega
theorem Mem.row_range {w0 w : World} {L : List Ent} (M : Mem w0 w L) (i : Nat) {g cap : Nat} {e : TypeId} {sz n : Nat} {cs : List Value} (h : L[i]? = some (.row (.slice (some ⟨g, 0, none⟩) n cap) e sz n cs)) : w.rangeAt g 0 cs :=
  fun j u hu => by rw [Nat.zero_add]; exact M.row_cell i h hu
theorem Mem.nilrow {w0 w : World} {L : List Ent} (M : Mem w0 w L) (e : TypeId) (sz : Nat) : Mem w0 w (L ++ [.row (.slice none 0 0) e sz 0 []]) :=
  M.push _ (Below.refl _ _) ⟨by simp, .inl ⟨rfl, rfl⟩⟩ (fun k hk => by simp [Ent.place, Value.ownBlock] at hk)
theorem flat_one {α : Type} {enc : α → List Value} (h : ∀ x, ∀ v ∈ enc x, v.oneCell' = true) (xs : List α) : ∀ v ∈ flat enc xs, v.oneCell' = true := by
  intro v hv
  obtain ⟨x, _, hx⟩ := List.mem_flatMap.1 hv
  exact h x v hx
theorem Scarecrow.ones (x : Scarecrow) : ∀ v ∈ x.vals, v.oneCell' = true := by
  intro v hv
  simp only [Scarecrow.vals, List.mem_cons, List.not_mem_nil, or_false] at hv
  rcases hv with rfl | rfl | rfl <;> rfl
/-- The first ones already turned. -/
def partly {α : Type} (f : α → α) (xs : List α) (k : Nat) : List α := (xs.take k).map f ++ xs.drop k
theorem partly_0 {α : Type} (f : α → α) (xs : List α) : partly f xs 0 = xs := by simp [partly]
theorem partly_all {α : Type} (f : α → α) (xs : List α) : partly f xs xs.length = xs.map f := by simp [partly]
theorem partly_at {α : Type} (f : α → α) {xs : List α} {k : Nat} (hk : k < xs.length) : (partly f xs k)[k]? = some xs[k] := by
  rw [partly, List.getElem?_append_right (by rw [List.length_map, List.length_take]; omega), List.length_map, List.length_take, Nat.min_eq_left (by omega), Nat.sub_self, List.getElem?_drop]
  simp [hk]
theorem partly_set {α : Type} (f : α → α) {xs : List α} {k : Nat} (hk : k < xs.length) : (partly f xs k).set k (f xs[k]) = partly f xs (k + 1) := by
  rw [partly, partly, List.set_append, if_neg (by rw [List.length_map, List.length_take]; omega), List.length_map, List.length_take, Nat.min_eq_left (by omega), Nat.sub_self, List.take_succ_eq_append_getElem hk]
  rw [List.drop_eq_getElem_cons hk]
  simp only [List.map_append, List.map_cons, List.map_nil, List.set_cons_zero, List.append_assoc, List.cons_append, List.nil_append]
theorem partly_len {α : Type} (f : α → α) (xs : List α) (k : Nat) : (partly f xs k).length = xs.length := by
  simp only [partly, List.length_append, List.length_map, List.length_take, List.length_drop]
  omega

set_option maxRecDepth 100000 in
set_option maxHeartbeats 1000000 in
theorem cloneS_any (A : Option Addr) (n : Nat) (xs : List Scarecrow) (hl : xs.length ≤ 1048576) (hc : xs.length ≤ n) (hA : A = none → n = 0) (w : World) (hs : Sl w 3 A xs.length (flat Scarecrow.vals xs)) :
    Calls Try.prog 81 #[.slice A xs.length n] w (RetRow w 89 3 xs.length (flat Scarecrow.vals xs)) := by
  have M := Lib.hid (Mem.start w)
  have HS := Lib.hid hs
  clear hs
  cases A with
  | none =>
    obtain rfl := hA rfl
    obtain rfl : xs = [] := List.length_eq_zero_iff.1 (by omega)
    have he : ∀ w : World, (binOp .eql 34 (.slice none 0 0) (.slice none 0 0)).run Try.prog w = .ok (.bool true) w := fun _ => rfl
    go_enter Try.func81, Try.ntmps81
    go_wp2
    go_ret
    exact ⟨none, 0, rfl, by simp, M.out.nilrow _ _⟩
  | some a =>
    have he : ∀ w : World, (binOp .eql 34 (.slice (some a) xs.length n) (.slice none 0 0)).run Try.prog w = .ok (.bool false) w := fun _ => rfl
    go_enter Try.func81, Try.ntmps81
    go_wp2_with (first
      | ((with_reducible refine gate_dst (N := 5) rfl ?_); go_must (refine M.out.ev_bs0 elem_Scarecrow rfl rfl ?_); intro g5 w5 m; simp only [List.nil_append] at m; have M := Lib.hid m; clear m)
      | ((with_reducible refine gate_dst (N := 7) rfl ?_); go_must (refine M.out.ev_appends 0 elem_Scarecrow rfl _ _ rfl rfl rfl rfl (M.out.sl HS.out) (fun h => by cases h) hc (flat_one Scarecrow.ones xs) (by omega) (by decide) ?_); intro v7 w7 m; simp only [List.set_cons_zero, List.nil_append, Nat.zero_add] at m; have M := Lib.hid m; clear m)
      )
    obtain ⟨B, c, rfl, hc1, _⟩ := M.out.row_slice 0 rfl
    go_ret
    exact ⟨B, c, rfl, hc1, M.out⟩

set_option maxRecDepth 100000 in
set_option maxHeartbeats 1000000 in
theorem aged_any (A : Option Addr) (n : Nat) (xs : List Scarecrow) (hx : ∀ x ∈ xs, x.plain = true) (hl : xs.length ≤ 1048576) (hc : xs.length ≤ n) (hA : A = none → n = 0) (d : Int) (d0 : 0 ≤ d) (d1 : d ≤ 1000) (w : World) (hs : Sl w 3 A xs.length (flat Scarecrow.vals xs)) :
    Calls Try.prog 74 #[.slice A xs.length n, .int .i64 d] w (RetRow w 89 3 xs.length (flat Scarecrow.vals (xs.map (Scarecrow.older d)))) := by
  have M := Lib.hid (Mem.start w)
  have HX := Lib.hid hx
  have HS := Lib.hid hs
  clear hs hx
  go_enter Try.func74, Try.ntmps74
  go_wp2_with (first
    | (go_at_call 81; go_must (refine (cloneS_any A n xs hl hc hA _ (M.out.sl HS.out)).mono ?_); rintro e w_ ⟨A_, c_, rfl, hc_, N_⟩; have m := M.out.join N_; clear N_; simp only [List.cons_append, List.nil_append, List.append_nil] at m; have M := Lib.hid m; clear m)
    )
  go_loopw [12] (fun v wr => ∃ k : Nat, k ≤ xs.length ∧ v = .int .i64 k ∧ Mem w wr [.row (.slice A_ xs.length c_) 89 3 xs.length (flat Scarecrow.vals (partly (Scarecrow.older d) xs k))])
    (fun v _ => xs.length - (intOf v).toNat)
  case atStart => exact ⟨0, by omega, rfl, by rw [partly_0]; exact M.out⟩
  case round =>
    clear M
    obtain ⟨k, hk, rfl, m⟩ := hrel
    have M := Lib.hid m
    clear m
    by_cases hlt : k < xs.length
    · obtain ⟨g, cap, he, _⟩ := M.out.row_form 0 rfl (by omega)
      obtain ⟨rfl, rfl⟩ : A_ = some ⟨g, 0, none⟩ ∧ c_ = cap := by injection he with e1 _ e2; exact ⟨e1, e2⟩
      clear he
      have hk1 := partly_at (Scarecrow.older d) hlt
      have r0 := range_at Scarecrow.vl (M.out.row_range 0 rfl) hk1
      rw [Nat.zero_add] at r0
      have R := Lib.hid r0
      have O1 := Lib.hid (Scarecrow.one xs[k])
      have q2 : xs[k].vals.toArray[2]? = some (.int .i8 xs[k].age) := rfl
      obtain ⟨_, _, a0, a1⟩ := Scarecrow.plain_iff.1 (HX.out xs[k] (List.getElem_mem hlt))
      have e1 : IntKind.i64.wrap (xs[k].age + d) = xs[k].age + d := IntWalk.i64_in _ (by omega)
      have hln : k * 3 + 2 < (flat Scarecrow.vals (partly (Scarecrow.older d) xs k)).length := by rw [flat_len Scarecrow.vl, partly_len]; omega
      have HK := Lib.hid hk1
      have HL := Lib.hid hln
      clear hk1 r0 hln
      rcases Int.lt_trichotomy (xs[k].age + d) 30 with h | h | h <;>
      · try have hw : IntKind.i8.wrap (xs[k].age + d) = xs[k].age + d := IntWalk.i8_in _ (by omega)
        go_wp2_with (first
          | ((with_reducible refine gate_dst (N := 16) rfl ?_); go_must (refine ev_ldr _ _ rfl rfl (R.out) Try.underlying89 rfl (by first | exact sz89 | (rw [S1.out]; exact sz89)) rfl ?_))
          | ((with_reducible refine gate_dst (N := 7) rfl ?_); go_must (refine M.out.ev_new rfl (by first | (go_simp; done) | (go_simp; rfl)) ?_); intro g7 w7 m; simp only [List.cons_append, List.nil_append] at m; have M := Lib.hid m; clear m)
          | ((with_reducible refine gate_store (x := .tmp 7) rfl ?_); go_must (refine M.out.ev_stw 1 _ _ _ rfl rfl rfl rfl _ rfl (by first | rfl | (simp only [S1.out]; rfl) | (simp only [S1.out, S2.out]; rfl) | (simp only [S3.out]; rfl) | (simp only [S1.out, S2.out, S3.out]; rfl)) (by first | exact sz89 | (rw [S1.out]; exact sz89) | (rw [S2.out]; exact sz89) | (rw [S3.out]; exact sz89)) (by first | exact ints_one _ _ | exact Fld.one _ | exact O1.out | rfl | (simp [Value.oneCell']; done)) rfl ?_); intro wn m; simp only [List.set_cons_succ, List.set_cons_zero, List.setIfInBounds_toArray] at m; have M := Lib.hid m; clear m)
          | ((with_reducible refine gate_dst (N := 20) rfl ?_); go_must (refine M.out.ev_ld 1 _ _ rfl rfl rfl Try.underlying22 rfl rfl (by first | assumption | rfl) ?_))
          | ((with_reducible refine gate_store (x := .tmp 27) rfl ?_); go_must (first | (refine M.out.ev_rput1 0 _ _ _ rfl rfl rfl rfl (.int .i8 30) rfl HL.out sz22 rfl rfl ?_) | (refine M.out.ev_rput1 0 _ _ _ rfl rfl rfl rfl (.int .i8 (xs[k].age + d)) rfl HL.out sz22 rfl rfl ?_)); intro wn m; simp only [List.set_cons_succ, List.set_cons_zero] at m; have M := Lib.hid m; clear m)
          )
        refine ⟨⟨k + 1, by omega, by go_num, ?_⟩, by simp [intOf]; omega⟩
        have m := M.out.take 1
        rw [← partly_set (Scarecrow.older d) hlt, ← flat_put Scarecrow.vl (by decide : 2 < 3) (v := .int .i8 (xs[k].older d).age) _ k _ (xs[k].older d) HK.out rfl]
        rw [show (xs[k].older d).age = min 30 (xs[k].age + d) from rfl]
        first
          | (rw [show min 30 (xs[k].age + d) = 30 by omega]; exact m)
          | (rw [show min 30 (xs[k].age + d) = xs[k].age + d by omega]; exact m)
    · obtain rfl : k = xs.length := by omega
      go_wp2
      go_ret
      exact ⟨A_, c_, rfl, hc_, by have m := M.out; rw [partly_all] at m; exact m⟩
set_option maxRecDepth 100000 in
set_option maxHeartbeats 1000000 in
theorem l00Min_any (a b : Int) (w : World) :
    Calls Try.prog 101 #[.int .i64 a, .int .i64 b] w fun e w' => e = .returned (.int .i64 (min a b)) ∧ w = w' := by
  by_cases h : a < b
  · go_enter Try.func101, Try.ntmps101
    go_wp2
    go_ret
    exact ⟨ret_int (by omega), rfl⟩
  · go_enter Try.func101, Try.ntmps101
    go_wp2
    go_ret
    exact ⟨ret_int (by omega), rfl⟩
set_option maxRecDepth 100000 in
set_option maxHeartbeats 1000000 in
theorem l03Older_any (A : Option Addr) (n : Nat) (xs : List Scarecrow) (hx : ∀ x ∈ xs, x.plain = true) (hl : xs.length ≤ 1048576) (hc : xs.length ≤ n) (hA : A = none → n = 0) (d : Int) (d0 : 0 ≤ d) (d1 : d ≤ 1000) (w : World) (hs : Sl w 3 A xs.length (flat Scarecrow.vals xs)) :
    Calls Try.prog 71 #[.slice A xs.length n, .int .i64 d] w (RetRow w 89 3 xs.length (flat Scarecrow.vals (xs.map (Scarecrow.older d)))) := by
  have M := Lib.hid (Mem.start w)
  have HX := Lib.hid hx
  have HS := Lib.hid hs
  clear hs hx
  go_enter Try.func71, Try.ntmps71
  go_wp2_with (first
    | ((with_reducible refine gate_dst (N := 7) rfl ?_); go_must (refine M.out.ev_bs0 elem_Scarecrow rfl rfl ?_); intro g7 w7 m; simp only [List.nil_append] at m; have M := Lib.hid m; clear m)
    | ((with_reducible refine gate_dst (N := 9) rfl ?_); go_must (refine M.out.ev_appends 0 elem_Scarecrow rfl _ _ rfl rfl rfl rfl (M.out.sl HS.out) hA hc (flat_one Scarecrow.ones xs) (by omega) (by decide) ?_); intro v9 w9 m; simp only [List.set_cons_zero, List.nil_append, Nat.zero_add] at m; have M := Lib.hid m; clear m)
    )
  obtain ⟨A_, c_, rfl, hc_, _⟩ := M.out.row_slice 0 rfl
  go_wp2
  go_loopw [6] (fun v wr => ∃ k : Nat, k ≤ xs.length ∧ v = .int .i64 k ∧ Mem w wr [.row (.slice A_ xs.length c_) 89 3 xs.length (flat Scarecrow.vals (partly (Scarecrow.older d) xs k))])
    (fun v _ => xs.length - (intOf v).toNat)
  case atStart => exact ⟨0, by omega, rfl, by rw [partly_0]; exact M.out⟩
  case round =>
    clear M
    obtain ⟨k, hk, rfl, m⟩ := hrel
    have M := Lib.hid m
    clear m
    by_cases hlt : k < xs.length
    · obtain ⟨g, cap, he, _⟩ := M.out.row_form 0 rfl (by omega)
      obtain ⟨rfl, rfl⟩ : A_ = some ⟨g, 0, none⟩ ∧ c_ = cap := by injection he with e1 _ e2; exact ⟨e1, e2⟩
      clear he
      have hk1 := partly_at (Scarecrow.older d) hlt
      have r0 := range_at Scarecrow.vl (M.out.row_range 0 rfl) hk1
      rw [Nat.zero_add] at r0
      have x2 : wr.cell? ⟨g, k * 3 + 2, none⟩ = some (.int .i8 xs[k].age) := r0 2 _ rfl
      obtain ⟨_, _, a0, a1⟩ := Scarecrow.plain_iff.1 (HX.out xs[k] (List.getElem_mem hlt))
      have e0 : IntKind.i64.wrap xs[k].age = xs[k].age := IntWalk.i64_in _ (by omega)
      have e1 : IntKind.i64.wrap (xs[k].age + d) = xs[k].age + d := IntWalk.i64_in _ (by omega)
      have e2 : IntKind.i8.wrap (min 30 (xs[k].age + d)) = min 30 (xs[k].age + d) := IntWalk.i8_in _ (by omega)
      have hln : k * 3 + 2 < (flat Scarecrow.vals (partly (Scarecrow.older d) xs k)).length := by rw [flat_len Scarecrow.vl, partly_len]; omega
      have HK := Lib.hid hk1
      have HL := Lib.hid hln
      clear hk1 r0 hln
      go_wp2_with (first
        | (go_at_call 101; go_must (refine (l00Min_any _ _ _).mono ?_); rintro e w_ ⟨rfl, rfl⟩)
        | ((with_reducible refine gate_store (x := .tmp 29) rfl ?_); go_must (refine M.out.ev_rput1 0 _ _ _ rfl rfl rfl rfl (.int .i8 (min 30 (xs[k].age + d))) rfl HL.out sz22 rfl rfl ?_); intro wn m; simp only [List.set_cons_succ, List.set_cons_zero] at m; have M := Lib.hid m; clear m)
        )
      refine ⟨⟨k + 1, by omega, by go_num, ?_⟩, by simp [intOf]; omega⟩
      have m := M.out.take 1
      rw [← partly_set (Scarecrow.older d) hlt, ← flat_put Scarecrow.vl (by decide : 2 < 3) (v := .int .i8 (xs[k].older d).age) _ k _ (xs[k].older d) HK.out rfl]
      exact m
    · obtain rfl : k = xs.length := by omega
      go_wp2
      go_ret
      exact ⟨A_, c_, rfl, hc_, by have m := M.out; rw [partly_all] at m; exact m⟩
end Go.Proofs.Yteecfclccfhdhaa
