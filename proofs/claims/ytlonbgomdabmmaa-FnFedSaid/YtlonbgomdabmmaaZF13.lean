/- Texts of a proof, laid together: Eaten. -/
import Derived.Test.YtlonbgomdabmmaaZF12
import Derived.Test.YtlonbgomdabmmaaZF08
import Derived.Test.YtlonbgomdabmmaaZF11
import Derived.Test.YtlonbgomdabmmaaZF09
namespace Go.Proofs.Ytlonbgomdabmmaa
set_option linter.unusedSimpArgs false
set_option linter.unusedVariables false
open Go.RowKit
attribute [local go_sem] cell?_mk frozen?_mk

/-- One visit's seeds put to its flock's sum. -/
def addTo (acc : List Int) (v : Visit) : List Int := acc.set v.flock.toNat (IntKind.i64.wrap (gi acc v.flock.toNat + v.seeds))
def sumsOf (n : Nat) (vs : List Visit) : List Int := vs.foldl addTo (List.replicate n 0)
theorem sumsOf_snoc (n : Nat) (vs : List Visit) (v : Visit) : sumsOf n (vs ++ [v]) = addTo (sumsOf n vs) v := by simp [sumsOf]
theorem sumsOf_len (n : Nat) (vs : List Visit) : (sumsOf n vs).length = n := by
  have key : ∀ (vs : List Visit) (acc : List Int), (vs.foldl addTo acc).length = acc.length := by
    intro vs
    induction vs with
    | nil => intro acc; rfl
    | cons v r ih => intro acc; rw [List.foldl_cons, ih]; simp [addTo]
  rw [sumsOf, key]
  simp
theorem sums_put {acc : List Int} {f : Nat} {s : Int} (x : Int) (hf : f < acc.length) (hx : x = IntKind.i64.wrap (gi acc f + s)) : (flat oneI acc).set f (.int .i64 x) = flat oneI (acc.set f x) := by
  rw [flat_oneI, flat_oneI, List.map_set]
theorem acc_at {acc : List Int} {f : Nat} (hf : f < acc.length) : (flat oneI acc)[f]? = some (.int .i64 (gi acc f)) := by
  rw [flat_oneI, List.getElem?_map, getElem?_gi hf]
  rfl
def inFl (n : Nat) (v : Visit) : Bool := inB v.flock 0 ((n : Int) - 1)
set_option maxRecDepth 100000 in
set_option maxHeartbeats 1000000 in
theorem indexV_any (f : FuncId) (caps : Array Value) (p : Visit → Bool) (A : Option Addr) (n : Nat) (xs : List Visit) (hn : xs.length ≤ 1048576) (w : World) (hs : Sl w 3 A xs.length (flat Visit.vals xs))
    (HF : ∀ (vs : Array Value) (w : World), Sem.run Try.prog (callFunc f vs) w = Result.ok (Next.enter f vs) w)
    (H : ∀ x ∈ xs, ∀ w1, Mem w w1 [] → Calls Try.prog f (#[.agg x.vals.toArray] ++ caps) w1 fun e w' => e = .returned (.bool (p x)) ∧ Mem w1 w' []) :
    Calls Try.prog 66 #[.slice A xs.length n, .func (.func f) #[] caps] w fun e w' => ∃ r : Int, e = .returned (.int .i64 r) ∧ decide (0 ≤ r) = xs.any p ∧ Mem w w' [] := by
  have M := Lib.hid (Mem.start w)
  have HS := Lib.hid hs
  have HH := Lib.hid H
  clear hs H
  go_enter Try.func66, Try.ntmps66
  go_wp2
  go_loopw [8] (fun v wr => ∃ k : Nat, k ≤ xs.length ∧ v = .int .i64 k ∧ (xs.take k).any p = false ∧ Mem w wr [])
    (fun v _ => xs.length - (intOf v).toNat)
  case atStart => exact ⟨0, by omega, rfl, rfl, M.out⟩
  case round =>
    clear M
    obtain ⟨k, hk, rfl, he, m⟩ := hrel
    have M := Lib.hid m
    have HE := Lib.hid he
    clear m he
    by_cases hlt : k < xs.length
    · obtain ⟨b, off, rfl, hr⟩ := (M.out.sl HS.out).2 (by omega)
      have hxk : xs[k]? = some xs[k] := List.getElem?_eq_getElem hlt
      have R := Lib.hid (range_at Visit.vl hr hxk)
      have i0 : (0 : Int) ≤ (k : Int) := by omega
      have i1 : (k : Int) < (xs.length : Int) := by omega
      clear hr hxk
      cases hp : p xs[k]
      · have HP := Lib.hid hp
        clear hp
        go_wp2_with (first
          | ((with_reducible refine gate_dst (N := 15) rfl ?_); go_must (refine ev_ldr _ _ rfl rfl (R.out) Try.underlying51 rfl (by first | exact sz51 | (rw [S1.out]; exact sz51)) rfl ?_))
          | (refine (HH.out xs[k] (List.getElem_mem hlt) _ M.out).mono ?_; rintro e w_ ⟨rfl, N_⟩; have m := M.out.join N_; clear N_; simp only [List.append_nil] at m; have M := Lib.hid m; clear m; rw [HP.out])
          )
        refine ⟨⟨k + 1, by omega, by go_num, ?_, M.out⟩, by simp [intOf]; omega⟩
        rw [List.take_succ_eq_append_getElem hlt, List.any_append, HE.out]
        simp [HP.out]
      · have HP := Lib.hid hp
        clear hp
        go_wp2_with (first
          | ((with_reducible refine gate_dst (N := 15) rfl ?_); go_must (refine ev_ldr _ _ rfl rfl (R.out) Try.underlying51 rfl (by first | exact sz51 | (rw [S1.out]; exact sz51)) rfl ?_))
          | (refine (HH.out xs[k] (List.getElem_mem hlt) _ M.out).mono ?_; rintro e w_ ⟨rfl, N_⟩; have m := M.out.join N_; clear N_; simp only [List.append_nil] at m; have M := Lib.hid m; clear m; rw [HP.out])
          )
        go_ret
        refine ⟨k, rfl, ?_, M.out⟩
        rw [decide_eq_true i0]
        symm
        rw [List.any_eq_true]
        exact ⟨xs[k], List.getElem_mem hlt, HP.out⟩
    · obtain rfl : k = xs.length := by omega
      go_wp2
      go_ret
      refine ⟨-1, rfl, ?_, M.out⟩
      have he := HE.out
      rw [List.take_length] at he
      rw [he]
      rfl
set_option maxRecDepth 100000 in
set_option maxHeartbeats 1000000 in
theorem containsV_any (f : FuncId) (caps : Array Value) (p : Visit → Bool) (A : Option Addr) (n : Nat) (xs : List Visit) (hn : xs.length ≤ 1048576) (w : World) (hs : Sl w 3 A xs.length (flat Visit.vals xs))
    (HF : ∀ (vs : Array Value) (w : World), Sem.run Try.prog (callFunc f vs) w = Result.ok (Next.enter f vs) w)
    (H : ∀ x ∈ xs, ∀ w1, Mem w w1 [] → Calls Try.prog f (#[.agg x.vals.toArray] ++ caps) w1 fun e w' => e = .returned (.bool (p x)) ∧ Mem w1 w' []) :
    Calls Try.prog 39 #[.slice A xs.length n, .func (.func f) #[] caps] w fun e w' => e = .returned (.bool (xs.any p)) ∧ Mem w w' [] := by
  go_enter Try.func39, Try.ntmps39
  go_wp2_with (first
    | (go_at_call 66; refine (indexV_any f caps p A n xs hn _ hs HF H).mono ?_; rintro e w_ ⟨r, rfl, hr, N_⟩)
    )
  go_ret
  exact ⟨rfl, N_⟩
set_option maxRecDepth 100000 in
set_option maxHeartbeats 1000000 in
theorem ebFlock_any (h : Nat) {t : TypeId} (v : Visit) (hv : v.ok) (A : Option Addr) (n c : Nat) (hn : n ≤ 1048576) (w : World) (hb : Blk w h t #[.slice A n c]) :
    Calls Try.prog 40 #[.agg v.vals.toArray, .pointer (some ⟨h, 0, none⟩)] w fun e w' => e = .returned (.bool (!inFl n v)) ∧ Mem w w' [] := by
  have M := Lib.hid (Mem.start w)
  have HB := Lib.hid (hb.cellv (i := 0) rfl)
  obtain ⟨f0, f1⟩ := hv.flock
  have e1 : IntKind.i64.wrap v.flock = v.flock := IntWalk.i64_in _ (by omega)
  have e2 : IntKind.i64.wrap ((n : Int) - 1) = (n : Int) - 1 := IntWalk.i64_in _ (by omega)
  have HI := Lib.hid (show inB v.flock 0 ((n : Int) - 1) = inFl n v from rfl)
  clear hb
  go_enter Try.func40, Try.ntmps40
  go_wp2_with (first
    | ((with_reducible refine gate_dst (N := 2) rfl ?_); go_must (refine M.out.ev_new rfl (by first | (go_simp; done) | (go_simp; rfl)) ?_); intro g2 w2 m; simp only [List.nil_append] at m; have M := Lib.hid m; clear m; have q0 := M.out.cell (j := 0) (v := .int .i8 v.flock) 0 rfl rfl; have q1 := M.out.argcell HB.out)
    | (go_at_call 41; go_must (refine (within_any _ _ _ _).mono ?_); rintro e w_ ⟨rfl, rfl⟩; rw [HI.out])
    )
  go_ret
  exact ⟨rfl, M.out.take 0⟩
set_option maxRecDepth 100000 in
set_option maxHeartbeats 1000000 in
theorem ebSeeds_any (v : Visit) (hv : v.ok) (w : World) :
    Calls Try.prog 42 #[.agg v.vals.toArray] w fun e w' => e = .returned (.bool (decide (v.seeds < 0))) ∧ Mem w w' [] := by
  have M := Lib.hid (Mem.start w)
  go_enter Try.func42, Try.ntmps42
  go_wp2_with (first
    | ((with_reducible refine gate_dst (N := 1) rfl ?_); go_must (refine M.out.ev_new rfl (by first | (go_simp; done) | (go_simp; rfl)) ?_); intro g1 w1 m; simp only [List.nil_append] at m; have M := Lib.hid m; clear m; have q0 := M.out.cell (j := 2) (v := .int .i16 v.seeds) 0 rfl rfl)
    )
  go_ret
  exact ⟨rfl, M.out.take 0⟩
def ebCode (F : Fld) (xs : List Flock) (vs : List Visit) : Int := if (F.valid && flocksOk F xs) = true then if (vs.any fun v => !inFl xs.length v) = true then 2 else if (vs.any fun v => decide (v.seeds < 0)) = true then 4 else 0 else 1
def ebRes (F : Fld) (xs : List Flock) (vs : List Visit) : List Int := if ebCode F xs vs = 0 then sumsOf xs.length vs else []
theorem none_in {n : Nat} {vs : List Visit} (h : (vs.any fun v => !inFl n v) = false) : ∀ v ∈ vs, inFl n v = true := by
  intro v hv
  cases hi : inFl n v
  · rw [← Bool.not_eq_true] at h
    exact absurd (List.any_eq_true.2 ⟨v, hv, by rw [hi]; rfl⟩) h
  · rfl
set_option maxRecDepth 100000 in
set_option maxHeartbeats 4000000 in
theorem impl_EatenBy_any (F : Fld) (hF : F.ok) (A : Option Addr) (n : Nat) (xs : List Flock) (hx : ∀ x ∈ xs, x.ok) (hl : xs.length ≤ 1048576) (B : Option Addr) (c : Nat) (vs : List Visit) (hv : ∀ v ∈ vs, v.ok) (hm : vs.length ≤ 1048576) (w : World) (hs : Sl w 6 A xs.length (flat Flock.vals xs)) (ht : Sl w 3 B vs.length (flat Visit.vals vs)) :
    Calls Try.prog 11 #[.agg F.cells, .slice A xs.length n, .slice B vs.length c] w (RetRowC w 2 1 (ebRes F xs vs).length (flat oneI (ebRes F xs vs)) (ebCode F xs vs)) := by
  have M := Lib.hid (Mem.start w)
  have HX := Lib.hid hx
  have HS := Lib.hid hs
  have HT := Lib.hid ht
  have HV := Lib.hid hv
  have HF := Lib.hid hF
  have S1 := Lib.hid (Fld.size hF.toLen)
  clear hx hs ht hv hF
  cases hk : (F.valid && flocksOk F xs)
  · have HK := Lib.hid hk
    clear hk
    go_enter Try.func11, Try.ntmps11
    go_wp2_with (first
      | ((with_reducible refine gate_dst (N := 3) rfl ?_); go_must (refine M.out.ev_new rfl (by first | (go_simp; done) | (go_simp; rfl)) ?_); intro g3 w3 m; simp only [List.cons_append, List.nil_append] at m; have M := Lib.hid m; clear m; try have q2_0 := M.out.cell (j := 0) 2 rfl (by first | assumption | rfl); try have q2_2 := M.out.cell (j := 2) 2 rfl (by first | assumption | rfl))
      | ((with_reducible refine gate_dst (N := 4) rfl ?_); go_must (refine M.out.ev_new rfl (by first | (go_simp; done) | (go_simp; rfl)) ?_); intro g4 w4 m; simp only [List.cons_append, List.nil_append] at m; have M := Lib.hid m; clear m; try have q2_0 := M.out.cell (j := 0) 2 rfl (by first | assumption | rfl); try have q2_2 := M.out.cell (j := 2) 2 rfl (by first | assumption | rfl))
      | ((with_reducible refine gate_dst (N := 12) rfl ?_); go_must (refine M.out.ev_ldw 0 _ _ rfl rfl rfl Try.underlying29 rfl (by first | exact sz29 | (rw [S1.out]; exact sz29) | (rw [S2.out]; exact sz29) | (rw [S3.out]; exact sz29)) rfl ?_))
      | ((with_reducible refine gate_dst (N := 13) rfl ?_); go_must (refine M.out.ev_ld 1 _ _ rfl rfl rfl Try.underlying33 rfl rfl (by first | assumption | rfl) ?_))
      | ((with_reducible refine gate_dst (N := 23) rfl ?_); go_must (refine M.out.ev_ld 1 _ _ rfl rfl rfl Try.underlying33 rfl rfl (by first | assumption | rfl) ?_))
      | ((with_reducible refine gate_dst (N := 10) rfl ?_); go_must (refine M.out.ev_new rfl (by first | (go_simp; done) | (go_simp; rfl)) ?_); intro g10 w10 m; simp only [List.cons_append, List.nil_append] at m; have M := Lib.hid m; clear m; try have q2_0 := M.out.cell (j := 0) 2 rfl (by first | assumption | rfl); try have q2_2 := M.out.cell (j := 2) 2 rfl (by first | assumption | rfl))
      | ((with_reducible refine gate_store (x := .tmp 10) rfl ?_); go_must (refine M.out.ev_stw 2 _ _ _ rfl rfl rfl rfl _ rfl (by first | rfl | (simp only [S1.out]; rfl) | (simp only [S1.out, S2.out]; rfl) | (simp only [S3.out]; rfl) | (simp only [S1.out, S2.out, S3.out]; rfl)) (by first | exact sz51 | (rw [S1.out]; exact sz51) | (rw [S2.out]; exact sz51) | (rw [S3.out]; exact sz51)) (by first | exact ints_one _ _ | exact Fld.one _ | exact O1.out | rfl | (simp [Value.oneCell']; done)) rfl ?_); intro wn m; simp only [List.set_cons_succ, List.set_cons_zero, List.setIfInBounds_toArray] at m; have M := Lib.hid m; clear m; try have q2_0 := M.out.cell (j := 0) 2 rfl (by first | assumption | rfl); try have q2_2 := M.out.cell (j := 2) 2 rfl (by first | assumption | rfl))
      | ((with_reducible refine gate_dst (N := 34) rfl ?_); go_must (refine M.out.ev_ld 2 _ _ rfl rfl rfl Try.underlying24 rfl rfl (by first | assumption | rfl) ?_))
      | ((with_reducible refine gate_dst (N := 38) rfl ?_); go_must (refine M.out.ev_ld 2 _ _ rfl rfl rfl Try.underlying26 rfl rfl (by first | assumption | rfl) ?_))
      | (go_at_call 38; go_must (refine (ValidFlocks_any F HF.out A n xs HX.out hl _ (M.out.sl HS.out)).mono ?_); rintro e w_ ⟨rfl, N_⟩; have m := M.out.join N_; clear N_; simp only [List.cons_append, List.nil_append, List.append_nil] at m; have M := Lib.hid m; clear m; rw [HK.out])
      )
    go_ret2
    have m := (M.out.take 0).nilrow 2 1
    have hac : ebCode F xs vs = 1 := by simp [ebCode, HK.out]
    rw [ebRes, hac]
    exact ⟨none, 0, rfl, Nat.le_refl _, m⟩
  · cases hq : (vs.any fun v => !inFl xs.length v)
    · have hin := none_in hq
      cases hr : (vs.any fun v => decide (v.seeds < 0))
      · have HK := Lib.hid hk
        have HQ := Lib.hid hq
        have HR := Lib.hid hr
        have HIN := Lib.hid hin
        clear hk hq hr hin
        go_enter Try.func11, Try.ntmps11
        go_wp2_with (first
          | ((with_reducible refine gate_dst (N := 3) rfl ?_); go_must (refine M.out.ev_new rfl (by first | (go_simp; done) | (go_simp; rfl)) ?_); intro g3 w3 m; simp only [List.cons_append, List.nil_append] at m; have M := Lib.hid m; clear m; try have q2_0 := M.out.cell (j := 0) 2 rfl (by first | assumption | rfl); try have q2_2 := M.out.cell (j := 2) 2 rfl (by first | assumption | rfl))
          | ((with_reducible refine gate_dst (N := 4) rfl ?_); go_must (refine M.out.ev_new rfl (by first | (go_simp; done) | (go_simp; rfl)) ?_); intro g4 w4 m; simp only [List.cons_append, List.nil_append] at m; have M := Lib.hid m; clear m; try have q2_0 := M.out.cell (j := 0) 2 rfl (by first | assumption | rfl); try have q2_2 := M.out.cell (j := 2) 2 rfl (by first | assumption | rfl))
          | ((with_reducible refine gate_dst (N := 12) rfl ?_); go_must (refine M.out.ev_ldw 0 _ _ rfl rfl rfl Try.underlying29 rfl (by first | exact sz29 | (rw [S1.out]; exact sz29) | (rw [S2.out]; exact sz29) | (rw [S3.out]; exact sz29)) rfl ?_))
          | ((with_reducible refine gate_dst (N := 13) rfl ?_); go_must (refine M.out.ev_ld 1 _ _ rfl rfl rfl Try.underlying33 rfl rfl (by first | assumption | rfl) ?_))
          | ((with_reducible refine gate_dst (N := 23) rfl ?_); go_must (refine M.out.ev_ld 1 _ _ rfl rfl rfl Try.underlying33 rfl rfl (by first | assumption | rfl) ?_))
          | ((with_reducible refine gate_dst (N := 10) rfl ?_); go_must (refine M.out.ev_new rfl (by first | (go_simp; done) | (go_simp; rfl)) ?_); intro g10 w10 m; simp only [List.cons_append, List.nil_append] at m; have M := Lib.hid m; clear m; try have q2_0 := M.out.cell (j := 0) 2 rfl (by first | assumption | rfl); try have q2_2 := M.out.cell (j := 2) 2 rfl (by first | assumption | rfl))
          | ((with_reducible refine gate_store (x := .tmp 10) rfl ?_); go_must (refine M.out.ev_stw 2 _ _ _ rfl rfl rfl rfl _ rfl (by first | rfl | (simp only [S1.out]; rfl) | (simp only [S1.out, S2.out]; rfl) | (simp only [S3.out]; rfl) | (simp only [S1.out, S2.out, S3.out]; rfl)) (by first | exact sz51 | (rw [S1.out]; exact sz51) | (rw [S2.out]; exact sz51) | (rw [S3.out]; exact sz51)) (by first | exact ints_one _ _ | exact Fld.one _ | exact O1.out | rfl | (simp [Value.oneCell']; done)) rfl ?_); intro wn m; simp only [List.set_cons_succ, List.set_cons_zero, List.setIfInBounds_toArray] at m; have M := Lib.hid m; clear m; try have q2_0 := M.out.cell (j := 0) 2 rfl (by first | assumption | rfl); try have q2_2 := M.out.cell (j := 2) 2 rfl (by first | assumption | rfl))
          | ((with_reducible refine gate_dst (N := 34) rfl ?_); go_must (refine M.out.ev_ld 2 _ _ rfl rfl rfl Try.underlying24 rfl rfl (by first | assumption | rfl) ?_))
          | ((with_reducible refine gate_dst (N := 38) rfl ?_); go_must (refine M.out.ev_ld 2 _ _ rfl rfl rfl Try.underlying26 rfl rfl (by first | assumption | rfl) ?_))
          | (go_at_call 38; go_must (refine (ValidFlocks_any F HF.out A n xs HX.out hl _ (M.out.sl HS.out)).mono ?_); rintro e w_ ⟨rfl, N_⟩; have m := M.out.join N_; clear N_; simp only [List.cons_append, List.nil_append, List.append_nil] at m; have M := Lib.hid m; clear m; rw [HK.out])
          | (go_at_call 39; go_must (first | (refine Calls.mono (calls_args (by with_reducible rfl) (containsV_any 40 #[.pointer (some ⟨g4, 0, none⟩)] (fun v => !inFl xs.length v) B c vs hm _ (M.out.sl HT.out) (fun _ _ => by go_simp) (fun v hv w1 m1 => calls_caps (ebFlock_any g4 v (HV.out v hv) A xs.length n hl w1 ((M.out.join m1).blk 1 rfl))))) ?_; rw [HQ.out]) | (refine Calls.mono (calls_args (by with_reducible rfl) (containsV_any 42 #[] (fun v => decide (v.seeds < 0)) B c vs hm _ (M.out.sl HT.out) (fun _ _ => by go_simp) (fun v hv w1 m1 => ebSeeds_any v (HV.out v hv) w1))) ?_; rw [HR.out])); rintro e w_ ⟨rfl, N_⟩; have m := M.out.join N_; clear N_; simp only [List.cons_append, List.nil_append, List.append_nil] at m; have M := Lib.hid m; clear m)
          | ((with_reducible refine gate_dst (N := 25) rfl ?_); go_must (refine M.out.ev_make oneI 0 elem_int64 oneI_len rfl rfl _ _ rfl xs.length rfl rfl (by omega) (by unfold maxLen; omega) ?_); intro g25 w25 m; simp only [List.cons_append, List.nil_append] at m; have M := Lib.hid m; clear m)
          )
        go_loopw [28] (fun v wr => ∃ k : Nat, k ≤ vs.length ∧ v = .int .i64 k ∧ Mem w wr [.blk g3 29 F.cells, .blk g4 33 #[.slice A xs.length n], .row (.slice (some ⟨g25, 0, none⟩) xs.length xs.length) 2 1 xs.length (flat oneI (sumsOf xs.length (vs.take k)))])
          (fun v _ => vs.length - (intOf v).toNat)
        case atStart => exact ⟨0, by omega, rfl, M.out⟩
        case round =>
          clear M
          obtain ⟨k, hk, rfl, mm⟩ := hrel
          have M := Lib.hid mm
          clear mm
          by_cases hlt : k < vs.length
          · obtain ⟨b, off, rfl, hr⟩ := (M.out.sl HT.out).2 (by omega)
            have hin := HIN.out vs[k] (List.getElem_mem hlt)
            have ok := HV.out vs[k] (List.getElem_mem hlt)
            obtain ⟨p0, p1⟩ := inB_iff.1 hin
            obtain ⟨s0, s1⟩ := ok.seeds
            have R := Lib.hid (range_at Visit.vl hr (List.getElem?_eq_getElem hlt))
            have HTK := Lib.hid (show sumsOf xs.length (vs.take (k + 1)) = addTo (sumsOf xs.length (vs.take k)) vs[k] by rw [List.take_succ_eq_append_getElem hlt, sumsOf_snoc])
            have hsl := sumsOf_len xs.length (vs.take k)
            obtain ⟨acc, hacc⟩ : ∃ acc, acc = sumsOf xs.length (vs.take k) := ⟨_, rfl⟩
            rw [← hacc] at M HTK hsl
            obtain ⟨f, hf⟩ : ∃ f : Nat, vs[k].flock = f := ⟨vs[k].flock.toNat, by omega⟩
            have HFQ := Lib.hid hf
            rw [hf] at p0 p1
            have hfn : f < xs.length := by omega
            have i0 : (0 : Int) ≤ (f : Int) := by omega
            have i1 : (f : Int) < (xs.length : Int) := by omega
            have j0 : (0 : Int) ≤ (k : Int) := by omega
            have j1 : (k : Int) < (vs.length : Int) := by omega
            have e1 : IntKind.i64.wrap vs[k].seeds = vs[k].seeds := IntWalk.i64_in _ (by omega)
            have HA := Lib.hid (show addTo acc vs[k] = acc.set f (IntKind.i64.wrap (gi acc f + vs[k].seeds)) by rw [addTo, hf, Int.toNat_natCast])
            have HL := Lib.hid (show f < (flat oneI acc).length by rw [flat_len oneI_len]; omega)
            have HAT := Lib.hid (acc_at (acc := acc) (f := f) (by omega))
            obtain ⟨z, hz⟩ : ∃ z, z = IntKind.i64.wrap (gi acc f + vs[k].seeds) := ⟨_, rfl⟩
            have hz2 : IntKind.i64.wrap (gi acc f + vs[k].seeds) = z := hz.symm
            have HP := Lib.hid (sums_put z (by omega : f < acc.length) hz)
            have V1 := Lib.hid (Visit.one vs[k])
            rw [← hz] at HA
            clear hz hr ok hin hacc hf
            go_wp2_with (first
              | ((with_reducible refine gate_dst (N := 31) rfl ?_); go_must (refine ev_ldr _ _ rfl rfl (R.out) Try.underlying51 rfl (by first | exact sz51 | (rw [S1.out]; exact sz51)) rfl ?_))
              | ((with_reducible refine gate_dst (N := 10) rfl ?_); go_must (refine M.out.ev_new rfl (by first | (go_simp; done) | (go_simp; rfl)) ?_); intro g10 w10 m; simp only [List.cons_append, List.nil_append] at m; have M := Lib.hid m; clear m)
              | ((with_reducible refine gate_store (x := .tmp 10) rfl ?_); go_must (refine M.out.ev_stw 3 _ _ _ rfl rfl rfl rfl vs[k].vals.toArray rfl rfl sz51 V1.out rfl ?_); intro wn m; simp only [List.set_cons_succ, List.set_cons_zero] at m; have M := Lib.hid m; clear m)
              )
            have q0 := M.out.cell (j := 0) (v := .int .i8 (f : Int)) 3 rfl (by show some (Value.int .i8 vs[k].flock) = _; rw [HFQ.out])
            have q2 := M.out.cell (j := 2) (v := .int .i16 vs[k].seeds) 3 rfl rfl
            have y0 := M.out.row_cell 2 rfl HAT.out
            go_still_tail 10, (by kernel_rfl)
            have M := Lib.hid M.out.drew
            go_wp2_with (first
              | ((with_reducible refine gate_store (x := .tmp 41) rfl ?_); go_must (refine M.out.ev_rput1 2 _ _ _ rfl rfl rfl rfl (.int .i64 z) rfl HL.out sz2 rfl rfl ?_); intro wn m; simp only [List.set_cons_succ, List.set_cons_zero, HP.out] at m; have M := Lib.hid m; clear m)
              )
            refine ⟨⟨k + 1, by omega, by go_num, ?_⟩, by simp [intOf]; omega⟩
            rw [HTK.out, HA.out]
            exact M.out.take 3
          · obtain rfl : k = vs.length := by omega
            rw [List.take_length] at M
            go_wp2
            go_ret2
            have hac : ebCode F xs vs = 0 := by simp only [ebCode, HK.out, HQ.out, HR.out]; rfl
            rw [ebRes, hac, if_pos rfl, sumsOf_len]
            exact ⟨_, _, rfl, Nat.le_refl _, M.out.only [2] (K := [_]) rfl (by decide)⟩
      · have HK := Lib.hid hk
        have HQ := Lib.hid hq
        have HR := Lib.hid hr
        clear hk hq hr hin
        go_enter Try.func11, Try.ntmps11
        go_wp2_with (first
          | ((with_reducible refine gate_dst (N := 3) rfl ?_); go_must (refine M.out.ev_new rfl (by first | (go_simp; done) | (go_simp; rfl)) ?_); intro g3 w3 m; simp only [List.cons_append, List.nil_append] at m; have M := Lib.hid m; clear m; try have q2_0 := M.out.cell (j := 0) 2 rfl (by first | assumption | rfl); try have q2_2 := M.out.cell (j := 2) 2 rfl (by first | assumption | rfl))
          | ((with_reducible refine gate_dst (N := 4) rfl ?_); go_must (refine M.out.ev_new rfl (by first | (go_simp; done) | (go_simp; rfl)) ?_); intro g4 w4 m; simp only [List.cons_append, List.nil_append] at m; have M := Lib.hid m; clear m; try have q2_0 := M.out.cell (j := 0) 2 rfl (by first | assumption | rfl); try have q2_2 := M.out.cell (j := 2) 2 rfl (by first | assumption | rfl))
          | ((with_reducible refine gate_dst (N := 12) rfl ?_); go_must (refine M.out.ev_ldw 0 _ _ rfl rfl rfl Try.underlying29 rfl (by first | exact sz29 | (rw [S1.out]; exact sz29) | (rw [S2.out]; exact sz29) | (rw [S3.out]; exact sz29)) rfl ?_))
          | ((with_reducible refine gate_dst (N := 13) rfl ?_); go_must (refine M.out.ev_ld 1 _ _ rfl rfl rfl Try.underlying33 rfl rfl (by first | assumption | rfl) ?_))
          | ((with_reducible refine gate_dst (N := 23) rfl ?_); go_must (refine M.out.ev_ld 1 _ _ rfl rfl rfl Try.underlying33 rfl rfl (by first | assumption | rfl) ?_))
          | ((with_reducible refine gate_dst (N := 10) rfl ?_); go_must (refine M.out.ev_new rfl (by first | (go_simp; done) | (go_simp; rfl)) ?_); intro g10 w10 m; simp only [List.cons_append, List.nil_append] at m; have M := Lib.hid m; clear m; try have q2_0 := M.out.cell (j := 0) 2 rfl (by first | assumption | rfl); try have q2_2 := M.out.cell (j := 2) 2 rfl (by first | assumption | rfl))
          | ((with_reducible refine gate_store (x := .tmp 10) rfl ?_); go_must (refine M.out.ev_stw 2 _ _ _ rfl rfl rfl rfl _ rfl (by first | rfl | (simp only [S1.out]; rfl) | (simp only [S1.out, S2.out]; rfl) | (simp only [S3.out]; rfl) | (simp only [S1.out, S2.out, S3.out]; rfl)) (by first | exact sz51 | (rw [S1.out]; exact sz51) | (rw [S2.out]; exact sz51) | (rw [S3.out]; exact sz51)) (by first | exact ints_one _ _ | exact Fld.one _ | exact O1.out | rfl | (simp [Value.oneCell']; done)) rfl ?_); intro wn m; simp only [List.set_cons_succ, List.set_cons_zero, List.setIfInBounds_toArray] at m; have M := Lib.hid m; clear m; try have q2_0 := M.out.cell (j := 0) 2 rfl (by first | assumption | rfl); try have q2_2 := M.out.cell (j := 2) 2 rfl (by first | assumption | rfl))
          | ((with_reducible refine gate_dst (N := 34) rfl ?_); go_must (refine M.out.ev_ld 2 _ _ rfl rfl rfl Try.underlying24 rfl rfl (by first | assumption | rfl) ?_))
          | ((with_reducible refine gate_dst (N := 38) rfl ?_); go_must (refine M.out.ev_ld 2 _ _ rfl rfl rfl Try.underlying26 rfl rfl (by first | assumption | rfl) ?_))
          | (go_at_call 38; go_must (refine (ValidFlocks_any F HF.out A n xs HX.out hl _ (M.out.sl HS.out)).mono ?_); rintro e w_ ⟨rfl, N_⟩; have m := M.out.join N_; clear N_; simp only [List.cons_append, List.nil_append, List.append_nil] at m; have M := Lib.hid m; clear m; rw [HK.out])
          | (go_at_call 39; go_must (first | (refine Calls.mono (calls_args (by with_reducible rfl) (containsV_any 40 #[.pointer (some ⟨g4, 0, none⟩)] (fun v => !inFl xs.length v) B c vs hm _ (M.out.sl HT.out) (fun _ _ => by go_simp) (fun v hv w1 m1 => calls_caps (ebFlock_any g4 v (HV.out v hv) A xs.length n hl w1 ((M.out.join m1).blk 1 rfl))))) ?_; rw [HQ.out]) | (refine Calls.mono (calls_args (by with_reducible rfl) (containsV_any 42 #[] (fun v => decide (v.seeds < 0)) B c vs hm _ (M.out.sl HT.out) (fun _ _ => by go_simp) (fun v hv w1 m1 => ebSeeds_any v (HV.out v hv) w1))) ?_; rw [HR.out])); rintro e w_ ⟨rfl, N_⟩; have m := M.out.join N_; clear N_; simp only [List.cons_append, List.nil_append, List.append_nil] at m; have M := Lib.hid m; clear m)
          )
        go_ret2
        have m := (M.out.take 0).nilrow 2 1
        have hac : ebCode F xs vs = 4 := by simp only [ebCode, HK.out, HQ.out, HR.out]; rfl
        rw [ebRes, hac]
        exact ⟨none, 0, rfl, Nat.le_refl _, m⟩
    · have HK := Lib.hid hk
      have HQ := Lib.hid hq
      have HR := Lib.hid hq
      clear hk hq
      go_enter Try.func11, Try.ntmps11
      go_wp2_with (first
        | ((with_reducible refine gate_dst (N := 3) rfl ?_); go_must (refine M.out.ev_new rfl (by first | (go_simp; done) | (go_simp; rfl)) ?_); intro g3 w3 m; simp only [List.cons_append, List.nil_append] at m; have M := Lib.hid m; clear m; try have q2_0 := M.out.cell (j := 0) 2 rfl (by first | assumption | rfl); try have q2_2 := M.out.cell (j := 2) 2 rfl (by first | assumption | rfl))
        | ((with_reducible refine gate_dst (N := 4) rfl ?_); go_must (refine M.out.ev_new rfl (by first | (go_simp; done) | (go_simp; rfl)) ?_); intro g4 w4 m; simp only [List.cons_append, List.nil_append] at m; have M := Lib.hid m; clear m; try have q2_0 := M.out.cell (j := 0) 2 rfl (by first | assumption | rfl); try have q2_2 := M.out.cell (j := 2) 2 rfl (by first | assumption | rfl))
        | ((with_reducible refine gate_dst (N := 12) rfl ?_); go_must (refine M.out.ev_ldw 0 _ _ rfl rfl rfl Try.underlying29 rfl (by first | exact sz29 | (rw [S1.out]; exact sz29) | (rw [S2.out]; exact sz29) | (rw [S3.out]; exact sz29)) rfl ?_))
        | ((with_reducible refine gate_dst (N := 13) rfl ?_); go_must (refine M.out.ev_ld 1 _ _ rfl rfl rfl Try.underlying33 rfl rfl (by first | assumption | rfl) ?_))
        | ((with_reducible refine gate_dst (N := 23) rfl ?_); go_must (refine M.out.ev_ld 1 _ _ rfl rfl rfl Try.underlying33 rfl rfl (by first | assumption | rfl) ?_))
        | ((with_reducible refine gate_dst (N := 10) rfl ?_); go_must (refine M.out.ev_new rfl (by first | (go_simp; done) | (go_simp; rfl)) ?_); intro g10 w10 m; simp only [List.cons_append, List.nil_append] at m; have M := Lib.hid m; clear m; try have q2_0 := M.out.cell (j := 0) 2 rfl (by first | assumption | rfl); try have q2_2 := M.out.cell (j := 2) 2 rfl (by first | assumption | rfl))
        | ((with_reducible refine gate_store (x := .tmp 10) rfl ?_); go_must (refine M.out.ev_stw 2 _ _ _ rfl rfl rfl rfl _ rfl (by first | rfl | (simp only [S1.out]; rfl) | (simp only [S1.out, S2.out]; rfl) | (simp only [S3.out]; rfl) | (simp only [S1.out, S2.out, S3.out]; rfl)) (by first | exact sz51 | (rw [S1.out]; exact sz51) | (rw [S2.out]; exact sz51) | (rw [S3.out]; exact sz51)) (by first | exact ints_one _ _ | exact Fld.one _ | exact O1.out | rfl | (simp [Value.oneCell']; done)) rfl ?_); intro wn m; simp only [List.set_cons_succ, List.set_cons_zero, List.setIfInBounds_toArray] at m; have M := Lib.hid m; clear m; try have q2_0 := M.out.cell (j := 0) 2 rfl (by first | assumption | rfl); try have q2_2 := M.out.cell (j := 2) 2 rfl (by first | assumption | rfl))
        | ((with_reducible refine gate_dst (N := 34) rfl ?_); go_must (refine M.out.ev_ld 2 _ _ rfl rfl rfl Try.underlying24 rfl rfl (by first | assumption | rfl) ?_))
        | ((with_reducible refine gate_dst (N := 38) rfl ?_); go_must (refine M.out.ev_ld 2 _ _ rfl rfl rfl Try.underlying26 rfl rfl (by first | assumption | rfl) ?_))
        | (go_at_call 38; go_must (refine (ValidFlocks_any F HF.out A n xs HX.out hl _ (M.out.sl HS.out)).mono ?_); rintro e w_ ⟨rfl, N_⟩; have m := M.out.join N_; clear N_; simp only [List.cons_append, List.nil_append, List.append_nil] at m; have M := Lib.hid m; clear m; rw [HK.out])
        | (go_at_call 39; go_must (first | (refine Calls.mono (calls_args (by with_reducible rfl) (containsV_any 40 #[.pointer (some ⟨g4, 0, none⟩)] (fun v => !inFl xs.length v) B c vs hm _ (M.out.sl HT.out) (fun _ _ => by go_simp) (fun v hv w1 m1 => calls_caps (ebFlock_any g4 v (HV.out v hv) A xs.length n hl w1 ((M.out.join m1).blk 1 rfl))))) ?_; rw [HQ.out]) | (refine Calls.mono (calls_args (by with_reducible rfl) (containsV_any 42 #[] (fun v => decide (v.seeds < 0)) B c vs hm _ (M.out.sl HT.out) (fun _ _ => by go_simp) (fun v hv w1 m1 => ebSeeds_any v (HV.out v hv) w1))) ?_; rw [HR.out])); rintro e w_ ⟨rfl, N_⟩; have m := M.out.join N_; clear N_; simp only [List.cons_append, List.nil_append, List.append_nil] at m; have M := Lib.hid m; clear m)
        )
      go_ret2
      have m := (M.out.take 0).nilrow 2 1
      have hac : ebCode F xs vs = 2 := by simp only [ebCode, HK.out, HQ.out]; rfl
      rw [ebRes, hac]
      exact ⟨none, 0, rfl, Nat.le_refl _, m⟩
end Go.Proofs.Ytlonbgomdabmmaa
