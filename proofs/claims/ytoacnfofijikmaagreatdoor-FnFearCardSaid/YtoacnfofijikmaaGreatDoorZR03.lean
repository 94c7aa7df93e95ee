/- Texts of a proof, laid together: Gen2, Scares3, Scares4, Drawn. -/
import Derived.Test.YtoacnfofijikmaaGreatDoorZR02
import Derived.Test.YtoacnfofijikmaaGreatDoorZR01
namespace Go.Proofs.YtoacnfofijikmaaGreatDoor
set_option linter.unusedSimpArgs false
set_option linter.unusedVariables false
open Go.RowKit

theorem Mem.row_cap {w0 w : World} {L : List Ent} (M : Mem w0 w L) (i : Nat) {A : Option Addr} {m c : Nat} {e : TypeId} {sz n : Nat} {cs : List Value} (h : L[i]? = some (.row (.slice A m c) e sz n cs)) : c ≤ 9223372036854775807 := by
  obtain ⟨A', c', he, _, hm⟩ := M.row_slice i h
  injection he with _ _ he
  unfold maxLen at hm
  omega
theorem Mem.row_le {w0 w : World} {L : List Ent} (M : Mem w0 w L) (i : Nat) {A : Option Addr} {m c : Nat} {e : TypeId} {sz n : Nat} {cs : List Value} (h : L[i]? = some (.row (.slice A m c) e sz n cs)) : n ≤ c ∧ m = n := by
  obtain ⟨A', c', he, hm, _⟩ := M.row_slice i h
  injection he with _ he2 he
  omega
end Go.Proofs.YtoacnfofijikmaaGreatDoor
namespace Go.Proofs.YtoacnfofijikmaaGreatDoor
set_option linter.unusedSimpArgs false
set_option linter.unusedVariables false
open Go.RowKit
attribute [local go_sem] cell?_mk frozen?_mk

def standsAt (xs : List Scarecrow) (c : Int) : Bool := xs.any fun x => decide (x.cell = c)
def scAt (F : Fld) (xs : List Scarecrow) (i : Nat) : Bool := match xs[i]? with | none => true | some x => x.plain && (F.place x.cell && !standsAt (xs.take i) x.cell)
def scOk (F : Fld) (xs : List Scarecrow) : Bool := decide (xs.length ≤ 20) && (List.range xs.length).all (scAt F xs)
theorem scOk_of {F : Fld} {xs : List Scarecrow} (hl : xs.length ≤ 20) (h : ∀ j, j < xs.length → scAt F xs j = true) : scOk F xs = true := by
  simp only [scOk, decide_eq_true hl, Bool.true_and, List.all_eq_true, List.mem_range]
  exact h
theorem not_scOk {F : Fld} {xs : List Scarecrow} {k : Nat} (hk : k < xs.length) (h : scAt F xs k = false) : scOk F xs = false := by
  rw [← Bool.not_eq_true]
  intro hv
  simp only [scOk, Bool.and_eq_true, List.all_eq_true, List.mem_range] at hv
  rw [hv.2 k hk] at h
  cases h
theorem scOk_iff {F : Fld} {xs : List Scarecrow} : scOk F xs = true ↔ xs.length ≤ 20 ∧ ∀ j, j < xs.length → scAt F xs j = true := by
  simp [scOk]
theorem scOk_plain {F : Fld} {xs : List Scarecrow} (h : scOk F xs = true) : ∀ x ∈ xs, x.plain = true := fun x hx => by
  obtain ⟨i, hi⟩ := List.getElem?_of_mem hx
  have := (scOk_iff.1 h).2 i (List.getElem?_eq_some_iff.1 hi).1
  simp only [scAt, hi, Bool.and_eq_true] at this
  exact this.1

set_option maxRecDepth 100000 in
set_option maxHeartbeats 1000000 in
theorem stands1_any (x : Scarecrow) (hx : x.ok) (g : Nat) (t : TypeId) (c : Int) (w : World) (hb : Blk w g t #[.int .i64 c]) :
    Calls Tryz.prog 105 #[.agg x.vals.toArray, .pointer (some ⟨g, 0, none⟩)] w fun e w' => e = .returned (.bool (decide (x.cell = c))) ∧ Mem w w' [] := by
  have M := Lib.hid (Mem.start w)
  obtain ⟨a0, a1⟩ := hx.cell
  obtain ⟨a, b, d⟩ := x
  simp only [Scarecrow.vals] at *
  have HB := Lib.hid hb
  clear hb
  go_enter Tryz.func105, Tryz.ntmps105
  go_wp2_with (first
    | ((with_reducible refine gate_dst (N := 2) rfl ?_); go_must (refine M.out.ev_new rfl (by first | (go_simp; done) | (go_simp; rfl)) ?_); intro g2 w2 m; simp only [List.cons_append, List.nil_append] at m; have M := Lib.hid m; clear m)
    | ((with_reducible refine gate_dst (N := 5) rfl ?_); go_must (refine M.out.ev_ld 0 _ _ rfl rfl rfl Tryz.underlying26 rfl rfl (by first | assumption | rfl) ?_))
    | ((with_reducible refine gate_dst (N := 7) rfl ?_); go_must (refine ev_get _ _ rfl rfl ((M.out.arg HB.out).cellv (i := 0) rfl) Tryz.underlying2 rfl rfl ?_))
    )
  go_ret
  exact ⟨rfl, M.out.take 0⟩

set_option maxRecDepth 100000 in
set_option maxHeartbeats 1000000 in
theorem indexS_any (f : FuncId) (cap : Value) (p : Scarecrow → Bool) (A : Option Addr) (n : Nat) (xs : List Scarecrow) (hn : xs.length ≤ 1048576) (w : World) (hs : Sl w 3 A xs.length (flat Scarecrow.vals xs))
    (HF : ∀ (vs : Array Value) (w : World), Sem.run Tryz.prog (callFunc f vs) w = Result.ok (Next.enter f vs) w)
    (H : ∀ x ∈ xs, ∀ w1, Mem w w1 [] → Calls Tryz.prog f #[.agg x.vals.toArray, cap] w1 fun e w' => e = .returned (.bool (p x)) ∧ Mem w1 w' []) :
    Calls Tryz.prog 121 #[.slice A xs.length n, .func (.func f) #[] #[cap]] w fun e w' => ∃ r : Int, e = .returned (.int .i64 r) ∧ decide (0 ≤ r) = xs.any p ∧ Mem w w' [] := by
  have M := Lib.hid (Mem.start w)
  have HS := Lib.hid hs
  have HH := Lib.hid H
  clear hs H
  go_enter Tryz.func121, Tryz.ntmps121
  go_wp2
  go_loopw [8] (fun v wr => ∃ k : Nat, k ≤ xs.length ∧ v = .int .i64 k ∧ (xs.take k).any p = false ∧ Mem w wr [])
    (fun v _ => xs.length - (intOf v).toNat)
  case atStart => exact ⟨0, by omega, rfl, rfl, M.out⟩
  case round =>
    clear M
    obtain ⟨k, hk, rfl, he, m⟩ := hrel
    have M := Lib.hid m
    have HE := Lib.hid he
    clear m he
    by_cases hlt : k < xs.length
    · obtain ⟨b, off, rfl, hr⟩ := (M.out.sl HS.out).2 (by omega)
      have hxk : xs[k]? = some xs[k] := List.getElem?_eq_getElem hlt
      have R := Lib.hid (range_at Scarecrow.vl hr hxk)
      have i0 : (0 : Int) ≤ (k : Int) := by omega
      have i1 : (k : Int) < (xs.length : Int) := by omega
      clear hr hxk
      cases hp : p xs[k]
      · have HP := Lib.hid hp
        clear hp
        go_wp2_with (first
          | ((with_reducible refine gate_dst (N := 15) rfl ?_); go_must (refine ev_ldr _ _ rfl rfl (R.out) Tryz.underlying60 rfl (by first | exact sz60 | (rw [S1.out]; exact sz60)) rfl ?_))
          | (refine (HH.out xs[k] (List.getElem_mem hlt) _ M.out).mono ?_; rintro e w_ ⟨rfl, N_⟩; have m := M.out.join N_; clear N_; simp only [List.append_nil] at m; have M := Lib.hid m; clear m; rw [HP.out])
          )
        refine ⟨⟨k + 1, by omega, by go_num, ?_, M.out⟩, by simp [intOf]; omega⟩
        rw [List.take_succ_eq_append_getElem hlt, List.any_append, HE.out]
        simp [HP.out]
      · have HP := Lib.hid hp
        clear hp
        go_wp2_with (first
          | ((with_reducible refine gate_dst (N := 15) rfl ?_); go_must (refine ev_ldr _ _ rfl rfl (R.out) Tryz.underlying60 rfl (by first | exact sz60 | (rw [S1.out]; exact sz60)) rfl ?_))
          | (refine (HH.out xs[k] (List.getElem_mem hlt) _ M.out).mono ?_; rintro e w_ ⟨rfl, N_⟩; have m := M.out.join N_; clear N_; simp only [List.append_nil] at m; have M := Lib.hid m; clear m; rw [HP.out])
          )
        go_ret
        refine ⟨k, rfl, ?_, M.out⟩
        rw [decide_eq_true i0]
        symm
        rw [List.any_eq_true]
        exact ⟨xs[k], List.getElem_mem hlt, HP.out⟩
    · obtain rfl : k = xs.length := by omega
      go_wp2
      go_ret
      refine ⟨-1, rfl, ?_, M.out⟩
      have he := HE.out
      rw [List.take_length] at he
      rw [he]
      rfl

set_option maxRecDepth 100000 in
set_option maxHeartbeats 1000000 in
theorem containsS_any (f : FuncId) (cap : Value) (p : Scarecrow → Bool) (A : Option Addr) (n : Nat) (xs : List Scarecrow) (hn : xs.length ≤ 1048576) (w : World) (hs : Sl w 3 A xs.length (flat Scarecrow.vals xs))
    (HF : ∀ (vs : Array Value) (w : World), Sem.run Tryz.prog (callFunc f vs) w = Result.ok (Next.enter f vs) w)
    (H : ∀ x ∈ xs, ∀ w1, Mem w w1 [] → Calls Tryz.prog f #[.agg x.vals.toArray, cap] w1 fun e w' => e = .returned (.bool (p x)) ∧ Mem w1 w' []) :
    Calls Tryz.prog 104 #[.slice A xs.length n, .func (.func f) #[] #[cap]] w fun e w' => e = .returned (.bool (xs.any p)) ∧ Mem w w' [] := by
  go_enter Tryz.func104, Tryz.ntmps104
  go_wp2_with (first
    | (go_at_call 121; refine (indexS_any f cap p A n xs hn _ hs HF H).mono ?_; rintro e w_ ⟨r, rfl, hr, N_⟩)
    )
  go_ret
  exact ⟨rfl, N_⟩

set_option maxRecDepth 100000 in
set_option maxHeartbeats 1000000 in
theorem stands_any (A : Option Addr) (n : Nat) (xs : List Scarecrow) (hx : ∀ x ∈ xs, x.ok) (hn : xs.length ≤ 1048576) (c : Int) (w : World) (hs : Sl w 3 A xs.length (flat Scarecrow.vals xs)) :
    Calls Tryz.prog 80 #[.slice A xs.length n, .int .i64 c] w fun e w' => e = .returned (.bool (standsAt xs c)) ∧ Mem w w' [] := by
  have M := Lib.hid (Mem.start w)
  have HX := Lib.hid hx
  have HS := Lib.hid hs
  clear hs hx
  go_enter Tryz.func80, Tryz.ntmps80
  go_wp2_with (first
    | ((with_reducible refine gate_dst (N := 3) rfl ?_); go_must (refine M.out.ev_new rfl (by first | (go_simp; done) | (go_simp; rfl)) ?_); intro g3 w3 m; simp only [List.cons_append, List.nil_append] at m; have M := Lib.hid m; clear m)
    | (go_at_call 104; go_must (refine (containsS_any 105 _ (fun x => decide (x.cell = c)) A n xs hn _ (M.out.sl HS.out) (fun _ _ => by go_simp) (fun x hx w1 m1 => stands1_any x (HX.out x hx) _ _ c w1 ((M.out.join m1).blk 0 rfl))).mono ?_); rintro e w_ ⟨rfl, N_⟩; have m := M.out.join N_; clear N_; simp only [List.append_nil] at m; have M := Lib.hid m; clear m)
    )
  go_ret
  exact ⟨rfl, M.out.take 0⟩
end Go.Proofs.YtoacnfofijikmaaGreatDoor
namespace Go.Proofs.YtoacnfofijikmaaGreatDoor
set_option linter.unusedSimpArgs false
set_option linter.unusedVariables false
open Go.RowKit
attribute [local go_sem] cell?_mk frozen?_mk

theorem Sl.takeN {α : Type} {en : α → List Value} {w : World} {sz : Nat} {A : Option Addr} {xs : List α} (hen : ∀ x, (en x).length = sz) (h : Sl w sz A xs.length (flat en xs)) (k : Nat) (hk : k ≤ xs.length) : Sl w sz A k (flat en (xs.take k)) := by
  refine ⟨by rw [flat_len hen, List.length_take, Nat.min_eq_left hk], fun hn => ?_⟩
  obtain ⟨b, off, e, hr⟩ := h.2 (by omega)
  refine ⟨b, off, e, fun j v hv => hr j v ?_⟩
  have hj := (List.getElem?_eq_some_iff.1 hv).1
  rw [← List.take_append_drop k xs]
  unfold flat at hv hj ⊢
  rw [List.flatMap_append, List.getElem?_append_left hj]
  exact hv
theorem scAt_some {F : Fld} {xs : List Scarecrow} {k : Nat} {x : Scarecrow} (h : xs[k]? = some x) : scAt F xs k = (x.plain && (F.place x.cell && !standsAt (xs.take k) x.cell)) := by
  simp only [scAt, h]

set_option maxRecDepth 100000 in
set_option maxHeartbeats 2000000 in
theorem areScares_any (g : Nat) {t : TypeId} (F : Fld) (hF : F.ok) (A : Option Addr) (n : Nat) (xs : List Scarecrow) (hx : ∀ x ∈ xs, x.ok) (hc : xs.length ≤ n) (hn : n ≤ 9223372036854775807) (w : World) (hb : Blk w g t F.cells) (hs : Sl w 3 A xs.length (flat Scarecrow.vals xs)) :
    Calls Tryz.prog 65 #[.pointer (some ⟨g, 0, none⟩), .slice A xs.length n] w fun e w' => e = .returned (.bool (scOk F xs)) ∧ Mem w w' [] := by
  have M := Lib.hid (Mem.start w)
  have HX := Lib.hid hx
  have HS := Lib.hid hs
  have HB := Lib.hid hb
  clear hs hx hb
  by_cases hl : xs.length ≤ 20
  · go_enter Tryz.func65, Tryz.ntmps65
    go_wp2
    go_loopw [13] (fun v wr => ∃ k : Nat, k ≤ xs.length ∧ v = .int .i64 k ∧ (∀ j, j < k → scAt F xs j = true) ∧ Mem w wr [])
      (fun v _ => xs.length - (intOf v).toNat)
    case atStart => exact ⟨0, by omega, rfl, fun j hj => by omega, M.out⟩
    case round =>
      clear M
      obtain ⟨k, hk, rfl, he, m⟩ := hrel
      have M := Lib.hid m
      have HE := Lib.hid he
      clear m he
      by_cases hlt : k < xs.length
      · obtain ⟨b, off, rfl, hr⟩ := (M.out.sl HS.out).2 (by omega)
        have hxk : xs[k]? = some xs[k] := List.getElem?_eq_getElem hlt
        have HXK := Lib.hid (scAt_some (F := F) hxk)
        have R := Lib.hid (range_at Scarecrow.vl hr hxk)
        have HO := Lib.hid (HX.out xs[k] (List.getElem_mem hlt))
        have O1 := Lib.hid (Scarecrow.one xs[k])
        have ST := Lib.hid (fun c w hs => stands_any (some ⟨b, off, none⟩) n (xs.take k) (fun x hx => HX.out x (List.mem_of_mem_take hx)) (by rw [List.length_take]; omega) c w hs)
        have hl2 : (xs.take k).length = k := by rw [List.length_take]; omega
        rw [hl2] at ST
        have q0 : xs[k].vals.toArray[0]? = some (.int .i16 xs[k].cell) := rfl
        have ob := HO.out.cell
        have oc := ob.1
        have od := ob.2
        clear hr hxk hl2 ob
        cases hp : xs[k].plain <;> cases hq : F.place xs[k].cell <;> cases hz : standsAt (xs.take k) xs[k].cell <;>
        · have HP := Lib.hid hp
          have HQ := Lib.hid hq
          have HZ := Lib.hid hz
          clear hp hq hz
          go_wp2_with (first
            | ((with_reducible refine gate_dst (N := 17) rfl ?_); go_must (refine ev_ldr _ _ rfl rfl (R.out) Tryz.underlying60 rfl (by first | exact sz60 | (rw [S1.out]; exact sz60)) rfl ?_))
            | ((with_reducible refine gate_dst (N := 6) rfl ?_); go_must (refine M.out.ev_new rfl (by first | (go_simp; done) | (go_simp; rfl)) ?_); intro g6 w6 m; simp only [List.cons_append, List.nil_append] at m; have M := Lib.hid m; clear m)
            | ((with_reducible refine gate_store (x := .tmp 6) rfl ?_); go_must (refine M.out.ev_stw 0 _ _ _ rfl rfl rfl rfl _ rfl (by first | rfl | (simp only [S1.out]; rfl) | (simp only [S1.out, S2.out]; rfl) | (simp only [S3.out]; rfl) | (simp only [S1.out, S2.out, S3.out]; rfl)) (by first | exact sz60 | (rw [S1.out]; exact sz60) | (rw [S2.out]; exact sz60) | (rw [S3.out]; exact sz60)) (by first | exact ints_one _ _ | exact Fld.one _ | exact O1.out | rfl | (simp [Value.oneCell']; done)) rfl ?_); intro wn m; simp only [List.set_cons_succ, List.set_cons_zero, List.setIfInBounds_toArray] at m; have M := Lib.hid m; clear m)
            | ((with_reducible refine gate_dst (N := 19) rfl ?_); go_must (refine M.out.ev_ld 0 _ _ rfl rfl rfl Tryz.underlying26 rfl rfl (by first | assumption | rfl) ?_))
            | ((with_reducible refine gate_dst (N := 21) rfl ?_); go_must (refine M.out.ev_ldw 0 _ _ rfl rfl rfl Tryz.underlying60 rfl (by first | exact sz60 | (rw [S1.out]; exact sz60) | (rw [S2.out]; exact sz60) | (rw [S3.out]; exact sz60)) rfl ?_))
            | (go_at_call 41; go_must (refine (isPlainS_any xs[k] HO.out _).mono ?_); rintro e w_ ⟨rfl, N_⟩; have m := M.out.join N_; clear N_; simp only [List.append_nil] at m; have M := Lib.hid m; clear m; rw [HP.out])
            | (go_at_call 79; go_must (refine (isPlace_any g F hF _ _ (M.out.arg HB.out)).mono ?_); rintro e w_ ⟨rfl, rfl⟩; rw [HQ.out])
            | (go_at_call 80; go_must (refine (ST.out _ _ ((M.out.sl HS.out).takeN Scarecrow.vl k (by omega))).mono ?_); rintro e w_ ⟨rfl, N_⟩; have m := M.out.join N_; clear N_; simp only [List.append_nil] at m; have M := Lib.hid m; clear m; rw [HZ.out])
            )
          first
            | (refine ⟨⟨k + 1, by omega, by go_num, all_succ HE.out ?_, M.out.take 0⟩, by simp [intOf]; omega⟩; rw [HXK.out, HP.out, HQ.out, HZ.out]; rfl)
            | (go_ret; refine ⟨ret_bool ?_, M.out.take 0⟩; rw [not_scOk hlt]; rw [HXK.out, HP.out, HQ.out, HZ.out]; rfl)
      · obtain rfl : k = xs.length := by omega
        go_wp2
        go_ret
        exact ⟨ret_bool (scOk_of hl HE.out).symm, M.out⟩
  · go_enter Tryz.func65, Tryz.ntmps65
    go_wp2
    go_ret
    exact ⟨ret_bool (by simp [scOk, hl]), M.out⟩
end Go.Proofs.YtoacnfofijikmaaGreatDoor
namespace Go.Proofs.YtoacnfofijikmaaGreatDoor
set_option linter.unusedSimpArgs false
set_option linter.unusedVariables false
open Go.RowKit

def onward (K : Act → World → Prop) : Exit → Act → World → Prop := fun e a w => match e with | .normal => K a w | _ => False
theorem onward_normal {K : Act → World → Prop} {a : Act} {w : World} (h : K a w) : onward K .normal a w := h
theorem Oper.of_onward {P : Program} {o : Oper} {a : Act} {w : World} {K K' : Act → World → Prop} {Q : Exit → Act → World → Prop} (hk : ∀ a w, K' a w → K a w)
    (hh : o.wp P a w K' (onward K)) : o.wp P a w K Q := by
  unfold Oper.wp at *
  generalize (execOp a.eval o).run P w = r at *
  cases r with
  | ok n w' =>
    cases n <;> simp only [Oper.upon] at hh ⊢ <;>
      first
        | exact hk _ _ hh
        | exact Calls.mono hh (fun e w'' he => by
            cases e
            · exact hk _ _ he
            · exact absurd he id
            · exact absurd (show LetsOut (onward K) from he).choose_spec.choose_spec id)
        | exact Rows.mono hh (fun _ _ he => hk _ _ he)
  | halt x w' => cases x <;> simp only [Oper.upon] at hh ⊢ <;> exact absurd hh id

theorem wpOp_onward {P : Program} {ops : Array Oper} {Q : Exit → Act → World → Prop} {i : Nat} {K : Act → World → Prop} {a : Act} {w : World} {o : Oper} (ho : ops[i]? = some o)
    (h : wpList P ops (onward K) [o] a w) : wpOp P ops Q i K a w := by
  unfold wpOp
  rw [ho]
  show if Region.wanted o (yielded ops a.tmps) = true then _ else _
  unfold wpList at h
  split
  · rename_i hw
    rw [if_pos hw] at h
    rcases h with h | h
    · exact .inl (Oper.of_onward (fun _ _ h => h) h)
    · exact absurd h.2.choose_spec.choose_spec id
  · rename_i hw
    rw [if_neg hw] at h
    exact h

theorem any1 {P : Program} {md : Region.Mode} {ops : Array Oper} {Q : Exit → Act → World → Prop} {fuel : Nat} {listed : Array Bool} {a : Act} {w : World} (i : Nat) {o : Oper}
    (hr : Region.ready md ops listed = [i]) (ho : ops[i]? = some o) (h : wpList P ops (onward (wpAny P md ops Q fuel (listed.setIfInBounds i true))) [o] a w) : wpAny P md ops Q (fuel + 1) listed a w :=
  wpAny_all hr (by simp) fun j hj => by
    rw [List.mem_singleton.1 hj]
    exact wpOp_onward ho h
theorem any2 {P : Program} {md : Region.Mode} {ops : Array Oper} {Q : Exit → Act → World → Prop} {fuel : Nat} {listed : Array Bool} {a : Act} {w : World} (i j : Nat) {o o' : Oper}
    (hr : Region.ready md ops listed = [i, j]) (ho : ops[i]? = some o) (ho' : ops[j]? = some o')
    (h : wpList P ops (onward (wpAny P md ops Q fuel (listed.setIfInBounds i true))) [o] a w)
    (h' : wpList P ops (onward (wpAny P md ops Q fuel (listed.setIfInBounds j true))) [o'] a w) : wpAny P md ops Q (fuel + 1) listed a w :=
  wpAny_all hr (by simp) fun k hk => by
    rcases List.mem_cons.1 hk with rfl | hk
    · exact wpOp_onward ho h
    · rw [List.mem_singleton.1 hk]
      exact wpOp_onward ho' h'
theorem any1k {P : Program} {md : Region.Mode} {ops : Array Oper} {Q : Exit → Act → World → Prop} {fuel : Nat} {listed : Array Bool} {a : Act} {w : World} (i : Nat) {o : Oper}
    (hr : Region.ready md ops listed = [i]) (ho : ops[i]? = some o)
    (h : ∀ K : Act → World → Prop, (∀ a w, wpAny P md ops Q fuel (listed.setIfInBounds i true) a w → K a w) → wpList P ops (onward K) [o] a w) : wpAny P md ops Q (fuel + 1) listed a w :=
  any1 i hr ho (h _ fun _ _ h => h)
theorem any2k {P : Program} {md : Region.Mode} {ops : Array Oper} {Q : Exit → Act → World → Prop} {fuel : Nat} {listed : Array Bool} {a : Act} {w : World} (i j : Nat) {o o' : Oper}
    (hr : Region.ready md ops listed = [i, j]) (ho : ops[i]? = some o) (ho' : ops[j]? = some o')
    (h : ∀ K : Act → World → Prop, (∀ a w, wpAny P md ops Q fuel (listed.setIfInBounds i true) a w → K a w) → wpList P ops (onward K) [o] a w)
    (h' : ∀ K : Act → World → Prop, (∀ a w, wpAny P md ops Q fuel (listed.setIfInBounds j true) a w → K a w) → wpList P ops (onward K) [o'] a w) : wpAny P md ops Q (fuel + 1) listed a w :=
  any2 i j hr ho ho' (h _ fun _ _ h => h) (h' _ fun _ _ h => h)
theorem region_any {P : Program} {ops : Array Oper} {Q : Exit → Act → World → Prop} {id : Nat} {a : Act} {w : World} (hm : P.follows .mixedOrders = true)
    (h : wpAny P .any ops Q ops.size (Array.replicate ops.size false) a w.drew) : (Code.region id ops true).wp P Q a w := wp_region_any hm h
end Go.Proofs.YtoacnfofijikmaaGreatDoor
