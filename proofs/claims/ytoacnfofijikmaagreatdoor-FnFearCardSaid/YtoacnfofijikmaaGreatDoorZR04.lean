/- Texts of a proof, laid together: Scares5. -/
import Derived.Test.YtoacnfofijikmaaGreatDoorZR03
namespace Go.Proofs.YtoacnfofijikmaaGreatDoor
set_option linter.unusedSimpArgs false
set_option linter.unusedVariables false
open Go.RowKit
attribute [local go_sem] cell?_mk frozen?_mk

def bools (bs : List Bool) : Array Value := (bs.map Value.bool).toArray
theorem bools_size (bs : List Bool) : (bools bs).size = bs.length := by simp [bools]
theorem bools_at {bs : List Bool} {i : Nat} {b : Bool} (h : bs[i]? = some b) : (bools bs)[i]? = some (.bool b) := by simp [bools, h]
theorem bools_set (bs : List Bool) (i : Nat) (b : Bool) : (bools bs).setIfInBounds i (.bool b) = bools (bs.set i b) := by simp [bools, List.map_set]
theorem bools_one (bs : List Bool) : (bools bs).all (·.oneCell') = true := by simp [bools, Value.oneCell']
/-- Where scarecrows stand, cell by cell. -/
def seenOf (xs : List Scarecrow) : List Bool := (List.range 100).map fun (c : Nat) => standsAt xs c
theorem seenOf_len (xs : List Scarecrow) : (seenOf xs).length = 100 := by simp [seenOf]
theorem seenOf_at (xs : List Scarecrow) {c : Int} (c0 : 0 ≤ c) (c1 : c ≤ 99) : (seenOf xs)[c.toNat]? = some (standsAt xs c) := by
  unfold seenOf
  rw [List.getElem?_map, List.getElem?_range (by omega)]
  simp only [Option.map_some, Option.some.injEq]
  rw [Int.toNat_of_nonneg c0]
theorem seenOf_snoc (xs : List Scarecrow) (x : Scarecrow) (c0 : 0 ≤ x.cell) (c1 : x.cell ≤ 99) : (seenOf xs).set x.cell.toNat true = seenOf (xs ++ [x]) := by
  apply List.ext_getElem?
  intro i
  rw [List.getElem?_set]
  by_cases hi : i < 100
  · have h1 : (seenOf xs)[i]? = some (standsAt xs i) := by unfold seenOf; rw [List.getElem?_map, List.getElem?_range hi]; rfl
    have h2 : (seenOf (xs ++ [x]))[i]? = some (standsAt (xs ++ [x]) i) := by unfold seenOf; rw [List.getElem?_map, List.getElem?_range hi]; rfl
    rw [h1, h2, seenOf_len]
    by_cases he : x.cell.toNat = i
    · have : x.cell = (i : Int) := by omega
      simp [he, hi, standsAt, this]
    · have : ¬ x.cell = (i : Int) := by omega
      simp [he, standsAt, this]
  · rw [List.getElem?_eq_none (by rw [seenOf_len]; omega), List.getElem?_eq_none (l := seenOf (xs ++ [x])) (by rw [seenOf_len]; omega)]
    simp [seenOf_len]
    omega
theorem zeroSeen : Tryz.zeroCells129 = bools (seenOf []) := by kernel_rfl
def scCode (F : Fld) (xs : List Scarecrow) (fine : Bool) : Int := if (F.valid && scOk F xs) = false then 1 else if fine = false then 2 else 0

set_option maxRecDepth 100000 in
set_option maxHeartbeats 2000000 in
theorem ValidScares_any (F : Fld) (hF : F.ok) (A : Option Addr) (n : Nat) (xs : List Scarecrow) (hx : ∀ x ∈ xs, x.ok) (hc : xs.length ≤ n) (hn : n ≤ 9223372036854775807) (w : World) (hs : Sl w 3 A xs.length (flat Scarecrow.vals xs)) :
    Calls Tryz.prog 21 #[.agg F.cells, .slice A xs.length n] w fun e w' => e = .returned (.bool (F.valid && scOk F xs)) ∧ Mem w w' [] := by
  have M := Lib.hid (Mem.start w)
  have HX := Lib.hid hx
  have HS := Lib.hid hs
  have S1 := Lib.hid (Fld.size hF.toLen)
  have O1 := Lib.hid (Fld.one F)
  clear hs hx
  cases hv : F.valid <;>
  · have HV := Lib.hid hv
    clear hv
    go_enter Tryz.func21, Tryz.ntmps21
    go_wp2_with (first
      | ((with_reducible refine gate_dst (N := 2) rfl ?_); go_must (refine M.out.ev_new rfl (by first | (go_simp; done) | (go_simp; rfl)) ?_); intro g2 w2 m; simp only [List.cons_append, List.nil_append] at m; have M := Lib.hid m; clear m)
      | ((with_reducible refine gate_dst (N := 5) rfl ?_); go_must (refine M.out.ev_ldw 0 _ _ rfl rfl rfl Tryz.underlying29 rfl (by first | exact sz29 | (rw [S1.out]; exact sz29) | (rw [S2.out]; exact sz29) | (rw [S3.out]; exact sz29)) rfl ?_))
      | (go_at_call 64; go_must (refine (ValidField_any F hF _).mono ?_); rintro e w_ ⟨rfl, N_⟩; have m := M.out.join N_; clear N_; simp only [List.cons_append, List.nil_append, List.append_nil] at m; have M := Lib.hid m; clear m; rw [HV.out])
      | (go_at_call 65; go_must (refine (areScares_any _ F hF A n xs HX.out hc hn _ (M.out.blk 0 rfl) (M.out.sl HS.out)).mono ?_); rintro e w_ ⟨rfl, N_⟩; have m := M.out.join N_; clear N_; simp only [List.cons_append, List.nil_append, List.append_nil] at m; have M := Lib.hid m; clear m)
      )
    go_ret
    exact ⟨ret_bool (by simp), M.out.take 0⟩

set_option maxRecDepth 100000 in
set_option maxHeartbeats 2000000 in
theorem scaresCode_any (g : Nat) {t : TypeId} (F : Fld) (hF : F.ok) (A : Option Addr) (n : Nat) (xs : List Scarecrow) (hx : ∀ x ∈ xs, x.ok) (hc : xs.length ≤ n) (hn : n ≤ 9223372036854775807) (f : FuncId) (caps : Array Value) (p : Bool) (w : World) (hb : Blk w g t F.cells) (hs : Sl w 3 A xs.length (flat Scarecrow.vals xs))
    (HF : ∀ (vs : Array Value) (w : World), Sem.run Tryz.prog (callFunc f vs) w = Result.ok (Next.enter f vs) w)
    (H : (F.valid && scOk F xs) = true → ∀ w1, Mem w w1 [] → Calls Tryz.prog f caps w1 fun e w' => e = .returned (.bool p) ∧ Mem w1 w' []) :
    Calls Tryz.prog 45 #[.pointer (some ⟨g, 0, none⟩), .slice A xs.length n, .func (.func f) #[] caps] w fun e w' => e = .returned (.int .i64 (scCode F xs p)) ∧ Mem w w' [] := by
  have M := Lib.hid (Mem.start w)
  have HX := Lib.hid hx
  have HS := Lib.hid hs
  have HB := Lib.hid hb
  have HH := Lib.hid H
  have S1 := Lib.hid (Fld.size hF.toLen)
  have hc0 := hb.cellv F.cell0
  clear hs hx hb H
  cases hv : (F.valid && scOk F xs) <;> cases hp : p <;>
  · have HV := Lib.hid hv
    have HP := Lib.hid hp
    clear hv hp
    go_enter Tryz.func45, Tryz.ntmps45
    go_wp2_with (first
      | ((with_reducible refine gate_dst (N := 10) rfl ?_); go_must (refine M.out.ev_lda _ _ rfl rfl HB.out Tryz.underlying29 rfl (by rw [S1.out]; exact sz29) rfl ?_))
      | (go_at_call 21; go_must (refine (ValidScares_any F hF A n xs HX.out hc hn _ (M.out.sl HS.out)).mono ?_); rintro e w_ ⟨rfl, N_⟩; have m := M.out.join N_; clear N_; simp only [List.cons_append, List.nil_append, List.append_nil] at m; have M := Lib.hid m; clear m; rw [HV.out])
      | (refine (HH.out HV.out _ M.out).mono ?_; rintro e w_ ⟨rfl, N_⟩; have m := M.out.join N_; clear N_; simp only [List.cons_append, List.nil_append, List.append_nil] at m; have M := Lib.hid m; clear m; rw [HP.out])
      )
    go_ret
    exact ⟨ret_int (by simp [scCode, HV.out]), M.out.take 0⟩

set_option maxRecDepth 100000 in
set_option maxHeartbeats 2000000 in
theorem l03Ok_any (g : Nat) {t : TypeId} (F : Fld) (hF : F.ok) (A : Option Addr) (n : Nat) (xs : List Scarecrow) (hx : ∀ x ∈ xs, x.ok) (hn : xs.length ≤ 9223372036854775807) (w : World) (hb : Blk w g t F.cells) (hs : Sl w 3 A xs.length (flat Scarecrow.vals xs)) :
    Calls Tryz.prog 93 #[.pointer (some ⟨g, 0, none⟩), .slice A xs.length n] w fun e w' => e = .returned (.bool (F.valid && scOk F xs)) ∧ Mem w w' [] := by
  have M := Lib.hid (Mem.start w)
  have HX := Lib.hid hx
  have HS := Lib.hid hs
  have HB := Lib.hid hb
  clear hs hx hb
  cases hv : F.valid
  · have HV := Lib.hid hv
    clear hv
    go_enter Tryz.func93, Tryz.ntmps93
    go_wp2_with (first
      | (go_at_call 116; go_must (refine (l01Ok_any g F hF _ HB.out).mono ?_); rintro e w_ ⟨rfl, rfl⟩; rw [HV.out])
      )
    go_ret
    exact ⟨ret_bool (by simp), M.out.take 0⟩
  · have HV := Lib.hid hv
    clear hv
    by_cases hl : xs.length ≤ 20
    · have S1 := Lib.hid (show (bools (seenOf [])).size = 100 by rw [bools_size, seenOf_len])
      have O1 := Lib.hid (bools_one (seenOf []))
      go_enter Tryz.func93, Tryz.ntmps93
      go_wp2_with (first
        | (go_at_call 116; go_must (refine (l01Ok_any g F hF _ HB.out).mono ?_); rintro e w_ ⟨rfl, rfl⟩; rw [HV.out])
        | ((with_reducible refine gate_dst (N := 5) rfl ?_); go_must (refine M.out.ev_new rfl (by first | (go_simp; done) | (go_simp; rfl)) ?_); intro g5 w5 m; simp only [List.cons_append, List.nil_append, zeroSeen] at m; have M := Lib.hid m; clear m; try have q1_0 := M.out.cell (j := 0) 1 rfl (by first | assumption | rfl))
        | ((with_reducible refine gate_store (x := .tmp 5) rfl ?_); go_must (refine M.out.ev_stw 0 _ _ _ rfl rfl rfl rfl _ rfl (by first | rfl | (simp only [S1.out]; rfl) | (simp only [S1.out, S2.out]; rfl) | (simp only [S3.out]; rfl) | (simp only [S1.out, S2.out, S3.out]; rfl)) (by first | exact sz129 | (rw [S1.out]; exact sz129) | (rw [S2.out]; exact sz129) | (rw [S3.out]; exact sz129)) (by first | exact ints_one _ _ | exact Fld.one _ | exact O1.out | rfl | (simp [Value.oneCell']; done)) rfl ?_); intro wn m; simp only [List.set_cons_succ, List.set_cons_zero, List.setIfInBounds_toArray, zeroSeen] at m; have M := Lib.hid m; clear m; try have q1_0 := M.out.cell (j := 0) 1 rfl (by first | assumption | rfl))
        | ((with_reducible refine gate_dst (N := 7) rfl ?_); go_must (refine M.out.ev_new rfl (by first | (go_simp; done) | (go_simp; rfl)) ?_); intro g7 w7 m; simp only [List.cons_append, List.nil_append, zeroSeen] at m; have M := Lib.hid m; clear m; try have q1_0 := M.out.cell (j := 0) 1 rfl (by first | assumption | rfl))
        | ((with_reducible refine gate_store (x := .tmp 7) rfl ?_); go_must (refine M.out.ev_stw 1 _ _ _ rfl rfl rfl rfl _ rfl (by first | rfl | (simp only [S1.out]; rfl) | (simp only [S1.out, S2.out]; rfl) | (simp only [S3.out]; rfl) | (simp only [S1.out, S2.out, S3.out]; rfl)) (by first | exact sz60 | (rw [S1.out]; exact sz60) | (rw [S2.out]; exact sz60) | (rw [S3.out]; exact sz60)) (by first | exact ints_one _ _ | exact Fld.one _ | exact O1.out | rfl | (simp [Value.oneCell']; done)) rfl ?_); intro wn m; simp only [List.set_cons_succ, List.set_cons_zero, List.setIfInBounds_toArray, zeroSeen] at m; have M := Lib.hid m; clear m; try have q1_0 := M.out.cell (j := 0) 1 rfl (by first | assumption | rfl))
        | ((with_reducible refine gate_dst (N := 27) rfl ?_); go_must (refine M.out.ev_ldw 1 _ _ rfl rfl rfl Tryz.underlying60 rfl (by first | exact sz60 | (rw [S1.out]; exact sz60) | (rw [S2.out]; exact sz60) | (rw [S3.out]; exact sz60)) rfl ?_))
        | ((with_reducible refine gate_dst (N := 55) rfl ?_); go_must (refine M.out.ev_ld 1 _ _ rfl rfl rfl Tryz.underlying26 rfl rfl (by first | assumption | rfl) ?_))
        | ((with_reducible refine gate_store (x := .tmp 56) rfl ?_); go_must (refine M.out.ev_put 0 _ _ _ rfl rfl rfl rfl (.bool _) rfl (by first | assumption | exact Fld.lt0 _ | exact Fld.lt1 _ | (simp; done) | (simp only [ints_size]; omega)) sz4 rfl rfl ?_); intro wn m; simp only [List.set_cons_succ, List.set_cons_zero, List.setIfInBounds_toArray, zeroSeen] at m; have M := Lib.hid m; clear m; try have q1_0 := M.out.cell (j := 0) 1 rfl (by first | assumption | rfl))
        )
      go_loopw [6] (fun v wr => ∃ k : Nat, k ≤ xs.length ∧ v = .int .i64 k ∧ (∀ j, j < k → scAt F xs j = true) ∧ Mem w wr [.blk g5 129 (bools (seenOf (xs.take k)))])
        (fun v _ => xs.length - (intOf v).toNat)
      case atStart => exact ⟨0, by omega, rfl, fun j hj => by omega, M.out⟩
      case round =>
        clear M
        obtain ⟨k, hk, rfl, he, m⟩ := hrel
        have M := Lib.hid m
        have HE := Lib.hid he
        clear m he
        by_cases hlt : k < xs.length
        · obtain ⟨b, off, rfl, hr⟩ := (M.out.sl HS.out).2 (by omega)
          have hxk : xs[k]? = some xs[k] := List.getElem?_eq_getElem hlt
          have HXK := Lib.hid (scAt_some (F := F) hxk)
          have R := Lib.hid (range_at Scarecrow.vl hr hxk)
          have HSN := Lib.hid (show 0 ≤ xs[k].cell → xs[k].cell ≤ 99 → (seenOf (xs.take k)).set xs[k].cell.toNat true = seenOf (xs.take (k + 1)) from fun h0 h1 => by rw [List.take_succ_eq_append_getElem hlt]; exact seenOf_snoc _ _ h0 h1)
          have HO := Lib.hid (HX.out xs[k] (List.getElem_mem hlt))
          have OX := Lib.hid (Scarecrow.one xs[k])
          have ob := HO.out.cell
          have oc := ob.1
          have od := ob.2
          clear hr hxk ob
          obtain ⟨x, hxe⟩ : ∃ x, x = xs[k] := ⟨_, rfl⟩
          rw [← hxe] at HXK R HO OX oc od HSN
          clear hxe
          cases hp : x.plain
          · have HP := Lib.hid hp
            clear hp
            go_wp2_with (first
              | ((with_reducible refine gate_dst (N := 26) rfl ?_); go_must (refine ev_ldr _ _ rfl rfl (R.out) Tryz.underlying60 rfl (by first | exact sz60 | (rw [S1.out]; exact sz60)) rfl ?_))
              | ((with_reducible refine gate_dst (N := 7) rfl ?_); go_must (refine M.out.ev_new rfl (by first | (go_simp; done) | (go_simp; rfl)) ?_); intro g7 w7 m; simp only [List.cons_append, List.nil_append] at m; have M := Lib.hid m; clear m)
              | ((with_reducible refine gate_store (x := .tmp 7) rfl ?_); go_must (refine M.out.ev_stw 1 _ _ _ rfl rfl rfl rfl x.vals.toArray rfl rfl sz60 OX.out rfl ?_); intro wn m; simp only [List.set_cons_succ, List.set_cons_zero] at m; have M := Lib.hid m; clear m)
              )
            have S1 := Lib.hid (show x.vals.toArray.size = 3 from rfl)
            refine region_any (by kernel_rfl) ?_
            have m := M.out.drew
            clear M
            have M := Lib.hid m
            clear m
            refine any1k 0 (by kernel_rfl) rfl (fun K hK => ?_)
            go_wp2_with (first | ((with_reducible refine gate_dst (N := 27) rfl ?_); go_must (refine M.out.ev_ldw 1 _ _ rfl rfl rfl Tryz.underlying60 rfl (by first | exact sz60 | (rw [S1.out]; exact sz60) | (rw [S2.out]; exact sz60) | (rw [S3.out]; exact sz60)) rfl ?_)) | (go_at_call 117; go_must (refine (l03Shape_any _ HO.out _).mono ?_); rintro e w_ ⟨rfl, N_⟩; have m := M.out.join N_; clear N_; simp only [List.cons_append, List.nil_append, List.append_nil] at m; have M := Lib.hid m; clear m; rw [HP.out]))
            refine onward_normal (hK _ _ ?_)
            clear hK K
            refine any1k 1 (by kernel_rfl) rfl (fun K hK => ?_)
            go_wp2_with (first | ((with_reducible refine gate_dst (N := 27) rfl ?_); go_must (refine M.out.ev_ldw 1 _ _ rfl rfl rfl Tryz.underlying60 rfl (by first | exact sz60 | (rw [S1.out]; exact sz60) | (rw [S2.out]; exact sz60) | (rw [S3.out]; exact sz60)) rfl ?_)) | (go_at_call 117; go_must (refine (l03Shape_any _ HO.out _).mono ?_); rintro e w_ ⟨rfl, N_⟩; have m := M.out.join N_; clear N_; simp only [List.cons_append, List.nil_append, List.append_nil] at m; have M := Lib.hid m; clear m; rw [HP.out]))
            refine onward_normal (hK _ _ ?_)
            clear hK K
            refine any1k 2 (by kernel_rfl) rfl (fun K hK => ?_)
            go_wp2
            refine onward_normal (hK _ _ ?_)
            clear hK K
            refine any1k 3 (by kernel_rfl) rfl (fun K hK => ?_)
            go_wp2
            refine onward_normal (hK _ _ ?_)
            clear hK K
            refine wpAny_take (i := 4) (v := undef) rfl (by kernel_rfl) (by kernel_rfl) (by kernel_rfl) (fun _ _ _ h => h) (Or.inr ⟨by kernel_rfl, rfl⟩) ?_
            try simp only [Act.put, List.setIfInBounds_toArray, List.set_cons_succ, List.set_cons_zero]
            refine wpAny_take (i := 5) (v := undef) rfl (by kernel_rfl) (by kernel_rfl) (by kernel_rfl) (fun _ _ _ h => h) (Or.inr ⟨by kernel_rfl, rfl⟩) ?_
            try simp only [Act.put, List.setIfInBounds_toArray, List.set_cons_succ, List.set_cons_zero]
            refine wpAny_take (i := 6) (v := undef) rfl (by kernel_rfl) (by kernel_rfl) (by kernel_rfl) (fun _ _ _ h => h) (Or.inr ⟨by kernel_rfl, rfl⟩) ?_
            try simp only [Act.put, List.setIfInBounds_toArray, List.set_cons_succ, List.set_cons_zero]
            refine wpAny_take (i := 7) (v := undef) rfl (by kernel_rfl) (by kernel_rfl) (by kernel_rfl) (fun _ _ _ h => h) (Or.inr ⟨by kernel_rfl, rfl⟩) ?_
            try simp only [Act.put, List.setIfInBounds_toArray, List.set_cons_succ, List.set_cons_zero]
            refine wpAny_take (i := 8) (v := undef) rfl (by kernel_rfl) (by kernel_rfl) (by kernel_rfl) (fun _ _ _ h => h) (Or.inr ⟨by kernel_rfl, rfl⟩) ?_
            try simp only [Act.put, List.setIfInBounds_toArray, List.set_cons_succ, List.set_cons_zero]
            refine wpAny_take (i := 9) (v := undef) rfl (by kernel_rfl) (by kernel_rfl) (by kernel_rfl) (fun _ _ _ h => h) (Or.inr ⟨by kernel_rfl, rfl⟩) ?_
            try simp only [Act.put, List.setIfInBounds_toArray, List.set_cons_succ, List.set_cons_zero]
            refine any1k 10 (by kernel_rfl) rfl (fun K hK => ?_)
            go_wp2
            refine onward_normal (hK _ _ ?_)
            clear hK K
            refine any1k 11 (by kernel_rfl) rfl (fun K hK => ?_)
            go_wp2
            refine onward_normal (hK _ _ ?_)
            clear hK K
            refine wpAny_take (i := 12) (v := undef) rfl (by kernel_rfl) (by kernel_rfl) (by kernel_rfl) (fun _ _ _ h => h) (Or.inr ⟨by kernel_rfl, rfl⟩) ?_
            try simp only [Act.put, List.setIfInBounds_toArray, List.set_cons_succ, List.set_cons_zero]
            refine wpAny_take (i := 13) (v := undef) rfl (by kernel_rfl) (by kernel_rfl) (by kernel_rfl) (fun _ _ _ h => h) (Or.inr ⟨by kernel_rfl, rfl⟩) ?_
            try simp only [Act.put, List.setIfInBounds_toArray, List.set_cons_succ, List.set_cons_zero]
            refine wpAny_take (i := 14) (v := undef) rfl (by kernel_rfl) (by kernel_rfl) (by kernel_rfl) (fun _ _ _ h => h) (Or.inr ⟨by kernel_rfl, rfl⟩) ?_
            try simp only [Act.put, List.setIfInBounds_toArray, List.set_cons_succ, List.set_cons_zero]
            refine wpAny_take (i := 15) (v := undef) rfl (by kernel_rfl) (by kernel_rfl) (by kernel_rfl) (fun _ _ _ h => h) (Or.inr ⟨by kernel_rfl, rfl⟩) ?_
            try simp only [Act.put, List.setIfInBounds_toArray, List.set_cons_succ, List.set_cons_zero]
            refine wpAny_take (i := 16) (v := undef) rfl (by kernel_rfl) (by kernel_rfl) (by kernel_rfl) (fun _ _ _ h => h) (Or.inr ⟨by kernel_rfl, rfl⟩) ?_
            try simp only [Act.put, List.setIfInBounds_toArray, List.set_cons_succ, List.set_cons_zero]
            refine wpAny_take (i := 17) (v := undef) rfl (by kernel_rfl) (by kernel_rfl) (by kernel_rfl) (fun _ _ _ h => h) (Or.inr ⟨by kernel_rfl, rfl⟩) ?_
            try simp only [Act.put, List.setIfInBounds_toArray, List.set_cons_succ, List.set_cons_zero]
            refine wpAny_take (i := 18) (v := undef) rfl (by kernel_rfl) (by kernel_rfl) (by kernel_rfl) (fun _ _ _ h => h) (Or.inr ⟨by kernel_rfl, rfl⟩) ?_
            try simp only [Act.put, List.setIfInBounds_toArray, List.set_cons_succ, List.set_cons_zero]
            refine wpAny_take (i := 19) (v := undef) rfl (by kernel_rfl) (by kernel_rfl) (by kernel_rfl) (fun _ _ _ h => h) (Or.inr ⟨by kernel_rfl, rfl⟩) ?_
            try simp only [Act.put, List.setIfInBounds_toArray, List.set_cons_succ, List.set_cons_zero]
            refine any1k 20 (by kernel_rfl) rfl (fun K hK => ?_)
            go_wp2
            refine onward_normal (hK _ _ ?_)
            clear hK K
            refine any1k 21 (by kernel_rfl) rfl (fun K hK => ?_)
            go_wp2
            refine onward_normal (hK _ _ ?_)
            clear hK K
            refine wpAny_take (i := 22) (v := undef) rfl (by kernel_rfl) (by kernel_rfl) (by kernel_rfl) (fun _ _ _ h => h) (Or.inr ⟨by kernel_rfl, rfl⟩) ?_
            try simp only [Act.put, List.setIfInBounds_toArray, List.set_cons_succ, List.set_cons_zero]
            refine wpAny_take (i := 23) (v := undef) rfl (by kernel_rfl) (by kernel_rfl) (by kernel_rfl) (fun _ _ _ h => h) (Or.inr ⟨by kernel_rfl, rfl⟩) ?_
            try simp only [Act.put, List.setIfInBounds_toArray, List.set_cons_succ, List.set_cons_zero]
            refine wpAny_take (i := 24) (v := undef) rfl (by kernel_rfl) (by kernel_rfl) (by kernel_rfl) (fun _ _ _ h => h) (Or.inr ⟨by kernel_rfl, rfl⟩) ?_
            try simp only [Act.put, List.setIfInBounds_toArray, List.set_cons_succ, List.set_cons_zero]
            refine wpAny_take (i := 25) (v := undef) rfl (by kernel_rfl) (by kernel_rfl) (by kernel_rfl) (fun _ _ _ h => h) (Or.inr ⟨by kernel_rfl, rfl⟩) ?_
            try simp only [Act.put, List.setIfInBounds_toArray, List.set_cons_succ, List.set_cons_zero]
            refine any1k 26 (by kernel_rfl) rfl (fun K hK => ?_)
            go_wp2
            refine onward_normal (hK _ _ ?_)
            clear hK K
            refine wpAny_done (by kernel_rfl) ?_ _
            all_goals
              go_wp2
              go_ret
              refine ⟨ret_bool ?_, M.out.take 0⟩
              rw [not_scOk hlt]
              · rfl
              · rw [HXK.out, HP.out]
                rfl
          · have HP := Lib.hid hp
            obtain ⟨⟨p0, p1⟩, _⟩ := Scarecrow.plain_iff.1 hp
            have ea : IntKind.i64.wrap x.cell = x.cell := IntWalk.i64_in _ (by omega)
            clear hp
            cases hq : F.has x.cell
            · have HQ := Lib.hid hq
              clear hq
              go_wp2_with (first
                | ((with_reducible refine gate_dst (N := 26) rfl ?_); go_must (refine ev_ldr _ _ rfl rfl (R.out) Tryz.underlying60 rfl (by first | exact sz60 | (rw [S1.out]; exact sz60)) rfl ?_))
                | ((with_reducible refine gate_dst (N := 7) rfl ?_); go_must (refine M.out.ev_new rfl (by first | (go_simp; done) | (go_simp; rfl)) ?_); intro g7 w7 m; simp only [List.cons_append, List.nil_append] at m; have M := Lib.hid m; clear m)
                | ((with_reducible refine gate_store (x := .tmp 7) rfl ?_); go_must (refine M.out.ev_stw 1 _ _ _ rfl rfl rfl rfl x.vals.toArray rfl rfl sz60 OX.out rfl ?_); intro wn m; simp only [List.set_cons_succ, List.set_cons_zero] at m; have M := Lib.hid m; clear m)
                )
              have S1 := Lib.hid (show x.vals.toArray.size = 3 from rfl)
              refine region_any (by kernel_rfl) ?_
              have m := M.out.drew
              clear M
              have M := Lib.hid m
              clear m
              refine any1k 0 (by kernel_rfl) rfl (fun K hK => ?_)
              go_wp2_with (first | ((with_reducible refine gate_dst (N := 27) rfl ?_); go_must (refine M.out.ev_ldw 1 _ _ rfl rfl rfl Tryz.underlying60 rfl (by first | exact sz60 | (rw [S1.out]; exact sz60) | (rw [S2.out]; exact sz60) | (rw [S3.out]; exact sz60)) rfl ?_)) | (go_at_call 117; go_must (refine (l03Shape_any _ HO.out _).mono ?_); rintro e w_ ⟨rfl, N_⟩; have m := M.out.join N_; clear N_; simp only [List.cons_append, List.nil_append, List.append_nil] at m; have M := Lib.hid m; clear m; rw [HP.out]; have x0 := M.out.cell (j := 0) (v := .int .i16 x.cell) 1 rfl rfl) | (go_at_call 50; go_must (refine (l01Is_any g F hF _ _ (M.out.arg HB.out)).mono ?_); rintro e w_ ⟨rfl, rfl⟩; rw [HQ.out]))
              refine onward_normal (hK _ _ ?_)
              clear hK K
              refine any1k 1 (by kernel_rfl) rfl (fun K hK => ?_)
              go_wp2_with (first | ((with_reducible refine gate_dst (N := 27) rfl ?_); go_must (refine M.out.ev_ldw 1 _ _ rfl rfl rfl Tryz.underlying60 rfl (by first | exact sz60 | (rw [S1.out]; exact sz60) | (rw [S2.out]; exact sz60) | (rw [S3.out]; exact sz60)) rfl ?_)) | (go_at_call 117; go_must (refine (l03Shape_any _ HO.out _).mono ?_); rintro e w_ ⟨rfl, N_⟩; have m := M.out.join N_; clear N_; simp only [List.cons_append, List.nil_append, List.append_nil] at m; have M := Lib.hid m; clear m; rw [HP.out]; have x0 := M.out.cell (j := 0) (v := .int .i16 x.cell) 1 rfl rfl) | (go_at_call 50; go_must (refine (l01Is_any g F hF _ _ (M.out.arg HB.out)).mono ?_); rintro e w_ ⟨rfl, rfl⟩; rw [HQ.out]))
              refine onward_normal (hK _ _ ?_)
              clear hK K
              refine any1k 2 (by kernel_rfl) rfl (fun K hK => ?_)
              go_wp2
              refine onward_normal (hK _ _ ?_)
              clear hK K
              refine any1k 3 (by kernel_rfl) rfl (fun K hK => ?_)
              go_wp2
              refine onward_normal (hK _ _ ?_)
              clear hK K
              refine wpAny_take (i := 4) (v := ?v0) rfl (by kernel_rfl) (by kernel_rfl) (by kernel_rfl) (fun _ _ _ h => h) (Or.inl ⟨by first | rfl | (go_simp; done), ?y0⟩) ?r0
              case' y0 =>
                intro w
                go_simp
                try with_reducible rfl
              case' r0 =>
                try simp only [Act.put, List.setIfInBounds_toArray, List.set_cons_succ, List.set_cons_zero]
                refine any1k 5 (by kernel_rfl) rfl (fun K hK => ?_)
                go_wp2
                refine onward_normal (hK _ _ ?_)
                clear hK K
                refine any1k 6 (by kernel_rfl) rfl (fun K hK => ?_)
                go_wp2_with (first | ((with_reducible refine gate_dst (N := 27) rfl ?_); go_must (refine M.out.ev_ldw 1 _ _ rfl rfl rfl Tryz.underlying60 rfl (by first | exact sz60 | (rw [S1.out]; exact sz60) | (rw [S2.out]; exact sz60) | (rw [S3.out]; exact sz60)) rfl ?_)) | (go_at_call 117; go_must (refine (l03Shape_any _ HO.out _).mono ?_); rintro e w_ ⟨rfl, N_⟩; have m := M.out.join N_; clear N_; simp only [List.cons_append, List.nil_append, List.append_nil] at m; have M := Lib.hid m; clear m; rw [HP.out]; have x0 := M.out.cell (j := 0) (v := .int .i16 x.cell) 1 rfl rfl) | (go_at_call 50; go_must (refine (l01Is_any g F hF _ _ (M.out.arg HB.out)).mono ?_); rintro e w_ ⟨rfl, rfl⟩; rw [HQ.out]))
                refine onward_normal (hK _ _ ?_)
                clear hK K
                refine any1k 7 (by kernel_rfl) rfl (fun K hK => ?_)
                go_wp2
                refine onward_normal (hK _ _ ?_)
                clear hK K
                refine any1k 8 (by kernel_rfl) rfl (fun K hK => ?_)
                go_wp2_with (first | ((with_reducible refine gate_dst (N := 27) rfl ?_); go_must (refine M.out.ev_ldw 1 _ _ rfl rfl rfl Tryz.underlying60 rfl (by first | exact sz60 | (rw [S1.out]; exact sz60) | (rw [S2.out]; exact sz60) | (rw [S3.out]; exact sz60)) rfl ?_)) | (go_at_call 117; go_must (refine (l03Shape_any _ HO.out _).mono ?_); rintro e w_ ⟨rfl, N_⟩; have m := M.out.join N_; clear N_; simp only [List.cons_append, List.nil_append, List.append_nil] at m; have M := Lib.hid m; clear m; rw [HP.out]; have x0 := M.out.cell (j := 0) (v := .int .i16 x.cell) 1 rfl rfl) | (go_at_call 50; go_must (refine (l01Is_any g F hF _ _ (M.out.arg HB.out)).mono ?_); rintro e w_ ⟨rfl, rfl⟩; rw [HQ.out]))
                refine onward_normal (hK _ _ ?_)
                clear hK K
                refine any1k 9 (by kernel_rfl) rfl (fun K hK => ?_)
                go_wp2
                refine onward_normal (hK _ _ ?_)
                clear hK K
                refine any1k 10 (by kernel_rfl) rfl (fun K hK => ?_)
                go_wp2
                refine onward_normal (hK _ _ ?_)
                clear hK K
                refine any1k 11 (by kernel_rfl) rfl (fun K hK => ?_)
                go_wp2
                refine onward_normal (hK _ _ ?_)
                clear hK K
                refine wpAny_take (i := 12) (v := undef) rfl (by kernel_rfl) (by kernel_rfl) (by kernel_rfl) (fun _ _ _ h => h) (Or.inr ⟨by kernel_rfl, rfl⟩) ?_
                try simp only [Act.put, List.setIfInBounds_toArray, List.set_cons_succ, List.set_cons_zero]
                refine wpAny_take (i := 13) (v := undef) rfl (by kernel_rfl) (by kernel_rfl) (by kernel_rfl) (fun _ _ _ h => h) (Or.inr ⟨by kernel_rfl, rfl⟩) ?_
                try simp only [Act.put, List.setIfInBounds_toArray, List.set_cons_succ, List.set_cons_zero]
                refine wpAny_take (i := 14) (v := undef) rfl (by kernel_rfl) (by kernel_rfl) (by kernel_rfl) (fun _ _ _ h => h) (Or.inr ⟨by kernel_rfl, rfl⟩) ?_
                try simp only [Act.put, List.setIfInBounds_toArray, List.set_cons_succ, List.set_cons_zero]
                refine wpAny_take (i := 15) (v := undef) rfl (by kernel_rfl) (by kernel_rfl) (by kernel_rfl) (fun _ _ _ h => h) (Or.inr ⟨by kernel_rfl, rfl⟩) ?_
                try simp only [Act.put, List.setIfInBounds_toArray, List.set_cons_succ, List.set_cons_zero]
                refine wpAny_take (i := 16) (v := undef) rfl (by kernel_rfl) (by kernel_rfl) (by kernel_rfl) (fun _ _ _ h => h) (Or.inr ⟨by kernel_rfl, rfl⟩) ?_
                try simp only [Act.put, List.setIfInBounds_toArray, List.set_cons_succ, List.set_cons_zero]
                refine wpAny_take (i := 17) (v := undef) rfl (by kernel_rfl) (by kernel_rfl) (by kernel_rfl) (fun _ _ _ h => h) (Or.inr ⟨by kernel_rfl, rfl⟩) ?_
                try simp only [Act.put, List.setIfInBounds_toArray, List.set_cons_succ, List.set_cons_zero]
                refine wpAny_take (i := 18) (v := undef) rfl (by kernel_rfl) (by kernel_rfl) (by kernel_rfl) (fun _ _ _ h => h) (Or.inr ⟨by kernel_rfl, rfl⟩) ?_
                try simp only [Act.put, List.setIfInBounds_toArray, List.set_cons_succ, List.set_cons_zero]
                refine wpAny_take (i := 19) (v := undef) rfl (by kernel_rfl) (by kernel_rfl) (by kernel_rfl) (fun _ _ _ h => h) (Or.inr ⟨by kernel_rfl, rfl⟩) ?_
                try simp only [Act.put, List.setIfInBounds_toArray, List.set_cons_succ, List.set_cons_zero]
                refine any1k 20 (by kernel_rfl) rfl (fun K hK => ?_)
                go_wp2
                refine onward_normal (hK _ _ ?_)
                clear hK K
                refine any1k 21 (by kernel_rfl) rfl (fun K hK => ?_)
                go_wp2
                refine onward_normal (hK _ _ ?_)
                clear hK K
                refine wpAny_take (i := 22) (v := undef) rfl (by kernel_rfl) (by kernel_rfl) (by kernel_rfl) (fun _ _ _ h => h) (Or.inr ⟨by kernel_rfl, rfl⟩) ?_
                try simp only [Act.put, List.setIfInBounds_toArray, List.set_cons_succ, List.set_cons_zero]
                refine wpAny_take (i := 23) (v := undef) rfl (by kernel_rfl) (by kernel_rfl) (by kernel_rfl) (fun _ _ _ h => h) (Or.inr ⟨by kernel_rfl, rfl⟩) ?_
                try simp only [Act.put, List.setIfInBounds_toArray, List.set_cons_succ, List.set_cons_zero]
                refine wpAny_take (i := 24) (v := undef) rfl (by kernel_rfl) (by kernel_rfl) (by kernel_rfl) (fun _ _ _ h => h) (Or.inr ⟨by kernel_rfl, rfl⟩) ?_
                try simp only [Act.put, List.setIfInBounds_toArray, List.set_cons_succ, List.set_cons_zero]
                refine wpAny_take (i := 25) (v := undef) rfl (by kernel_rfl) (by kernel_rfl) (by kernel_rfl) (fun _ _ _ h => h) (Or.inr ⟨by kernel_rfl, rfl⟩) ?_
                try simp only [Act.put, List.setIfInBounds_toArray, List.set_cons_succ, List.set_cons_zero]
                refine any1k 26 (by kernel_rfl) rfl (fun K hK => ?_)
                go_wp2
                refine onward_normal (hK _ _ ?_)
                clear hK K
                refine wpAny_done (by kernel_rfl) ?_ _
              all_goals
                go_wp2
                go_ret
                refine ⟨ret_bool ?_, M.out.take 0⟩
                rw [not_scOk hlt]
                · rfl
                · rw [HXK.out, HP.out]
                  simp [Fld.place, HQ.out]
            · have HQ := Lib.hid hq
              clear hq
              obtain ⟨xc, xp, xa⟩ := x
              obtain ⟨c, rfl⟩ : ∃ c : Nat, xc = c := ⟨xc.toNat, by simp only at p0; omega⟩
              simp only at p0 p1 ea oc od HQ HXK HSN
              have HF := Lib.hid hF
              have kb := hF.kb c
              have i0 : (0 : Int) ≤ (c : Int) := by omega
              have i1 : (c : Int) < 100 := by omega
              have i2 : c < 100 := by omega
              have SA := Lib.hid (bools_at (seenOf_at (xs.take k) (c := (c : Int)) i0 (by omega)))
              simp only [Int.toNat_natCast] at SA
              by_cases hk3 : F.kind c = 3
              · have HK := Lib.hid hk3
                go_wp2_with (first
                  | ((with_reducible refine gate_dst (N := 26) rfl ?_); go_must (refine ev_ldr _ _ rfl rfl (R.out) Tryz.underlying60 rfl (by first | exact sz60 | (rw [S1.out]; exact sz60)) rfl ?_))
                  | ((with_reducible refine gate_dst (N := 7) rfl ?_); go_must (refine M.out.ev_new rfl (by first | (go_simp; done) | (go_simp; rfl)) ?_); intro g7 w7 m; simp only [List.cons_append, List.nil_append] at m; have M := Lib.hid m; clear m)
                  | ((with_reducible refine gate_store (x := .tmp 7) rfl ?_); go_must (refine M.out.ev_stw 1 _ _ _ rfl rfl rfl rfl (Scarecrow.vals ⟨c, xp, xa⟩).toArray rfl rfl sz60 OX.out rfl ?_); intro wn m; simp only [List.set_cons_succ, List.set_cons_zero] at m; have M := Lib.hid m; clear m)
                  )
                have S1 := Lib.hid (show (Scarecrow.vals ⟨c, xp, xa⟩).toArray.size = 3 from rfl)
                refine region_any (by kernel_rfl) ?_
                have m := M.out.drew
                clear M
                have M := Lib.hid m
                clear m
                refine any1k 0 (by kernel_rfl) rfl (fun K hK => ?_)
                go_wp2_with (first | ((with_reducible refine gate_dst (N := 27) rfl ?_); go_must (refine M.out.ev_ldw 1 _ _ rfl rfl rfl Tryz.underlying60 rfl (by first | exact sz60 | (rw [S1.out]; exact sz60) | (rw [S2.out]; exact sz60) | (rw [S3.out]; exact sz60)) rfl ?_)) | (go_at_call 117; go_must (refine (l03Shape_any _ HO.out _).mono ?_); rintro e w_ ⟨rfl, N_⟩; have m := M.out.join N_; clear N_; simp only [List.cons_append, List.nil_append, List.append_nil] at m; have M := Lib.hid m; clear m; rw [HP.out]; have x0 := M.out.cell (j := 0) (v := .int .i16 c) 1 rfl rfl; have k0 := (M.out.arg HB.out).cellv (Fld.cellK HF.out.toLen (k := c) i2); have s0 := M.out.cell (j := c) (v := .bool (standsAt (xs.take k) c)) 0 rfl SA.out) | (go_at_call 50; go_must (refine (l01Is_any g F HF.out _ _ (M.out.arg HB.out)).mono ?_); rintro e w_ ⟨rfl, rfl⟩; rw [HQ.out]))
                refine onward_normal (hK _ _ ?_)
                clear hK K
                refine any1k 1 (by kernel_rfl) rfl (fun K hK => ?_)
                go_wp2_with (first | ((with_reducible refine gate_dst (N := 27) rfl ?_); go_must (refine M.out.ev_ldw 1 _ _ rfl rfl rfl Tryz.underlying60 rfl (by first | exact sz60 | (rw [S1.out]; exact sz60) | (rw [S2.out]; exact sz60) | (rw [S3.out]; exact sz60)) rfl ?_)) | (go_at_call 117; go_must (refine (l03Shape_any _ HO.out _).mono ?_); rintro e w_ ⟨rfl, N_⟩; have m := M.out.join N_; clear N_; simp only [List.cons_append, List.nil_append, List.append_nil] at m; have M := Lib.hid m; clear m; rw [HP.out]; have x0 := M.out.cell (j := 0) (v := .int .i16 c) 1 rfl rfl; have k0 := (M.out.arg HB.out).cellv (Fld.cellK HF.out.toLen (k := c) i2); have s0 := M.out.cell (j := c) (v := .bool (standsAt (xs.take k) c)) 0 rfl SA.out) | (go_at_call 50; go_must (refine (l01Is_any g F HF.out _ _ (M.out.arg HB.out)).mono ?_); rintro e w_ ⟨rfl, rfl⟩; rw [HQ.out]))
                refine onward_normal (hK _ _ ?_)
                clear hK K
                refine any1k 2 (by kernel_rfl) rfl (fun K hK => ?_)
                go_wp2
                refine onward_normal (hK _ _ ?_)
                clear hK K
                refine any1k 3 (by kernel_rfl) rfl (fun K hK => ?_)
                go_wp2
                refine onward_normal (hK _ _ ?_)
                clear hK K
                refine wpAny_take (i := 4) (v := ?v1) rfl (by kernel_rfl) (by kernel_rfl) (by kernel_rfl) (fun _ _ _ h => h) (Or.inl ⟨by first | rfl | (go_simp; done), ?y1⟩) ?r1
                case' y1 =>
                  intro w
                  go_simp
                  try with_reducible rfl
                case' r1 =>
                  try simp only [Act.put, List.setIfInBounds_toArray, List.set_cons_succ, List.set_cons_zero]
                  refine any1k 5 (by kernel_rfl) rfl (fun K hK => ?_)
                  go_wp2
                  refine onward_normal (hK _ _ ?_)
                  clear hK K
                  refine any1k 6 (by kernel_rfl) rfl (fun K hK => ?_)
                  go_wp2_with (first | ((with_reducible refine gate_dst (N := 27) rfl ?_); go_must (refine M.out.ev_ldw 1 _ _ rfl rfl rfl Tryz.underlying60 rfl (by first | exact sz60 | (rw [S1.out]; exact sz60) | (rw [S2.out]; exact sz60) | (rw [S3.out]; exact sz60)) rfl ?_)) | (go_at_call 117; go_must (refine (l03Shape_any _ HO.out _).mono ?_); rintro e w_ ⟨rfl, N_⟩; have m := M.out.join N_; clear N_; simp only [List.cons_append, List.nil_append, List.append_nil] at m; have M := Lib.hid m; clear m; rw [HP.out]; have x0 := M.out.cell (j := 0) (v := .int .i16 c) 1 rfl rfl; have k0 := (M.out.arg HB.out).cellv (Fld.cellK HF.out.toLen (k := c) i2); have s0 := M.out.cell (j := c) (v := .bool (standsAt (xs.take k) c)) 0 rfl SA.out) | (go_at_call 50; go_must (refine (l01Is_any g F HF.out _ _ (M.out.arg HB.out)).mono ?_); rintro e w_ ⟨rfl, rfl⟩; rw [HQ.out]))
                  refine onward_normal (hK _ _ ?_)
                  clear hK K
                  refine any1k 7 (by kernel_rfl) rfl (fun K hK => ?_)
                  go_wp2
                  refine onward_normal (hK _ _ ?_)
                  clear hK K
                  refine any1k 8 (by kernel_rfl) rfl (fun K hK => ?_)
                  go_wp2_with (first | ((with_reducible refine gate_dst (N := 27) rfl ?_); go_must (refine M.out.ev_ldw 1 _ _ rfl rfl rfl Tryz.underlying60 rfl (by first | exact sz60 | (rw [S1.out]; exact sz60) | (rw [S2.out]; exact sz60) | (rw [S3.out]; exact sz60)) rfl ?_)) | (go_at_call 117; go_must (refine (l03Shape_any _ HO.out _).mono ?_); rintro e w_ ⟨rfl, N_⟩; have m := M.out.join N_; clear N_; simp only [List.cons_append, List.nil_append, List.append_nil] at m; have M := Lib.hid m; clear m; rw [HP.out]; have x0 := M.out.cell (j := 0) (v := .int .i16 c) 1 rfl rfl; have k0 := (M.out.arg HB.out).cellv (Fld.cellK HF.out.toLen (k := c) i2); have s0 := M.out.cell (j := c) (v := .bool (standsAt (xs.take k) c)) 0 rfl SA.out) | (go_at_call 50; go_must (refine (l01Is_any g F HF.out _ _ (M.out.arg HB.out)).mono ?_); rintro e w_ ⟨rfl, rfl⟩; rw [HQ.out]))
                  refine onward_normal (hK _ _ ?_)
                  clear hK K
                  refine any1k 9 (by kernel_rfl) rfl (fun K hK => ?_)
                  go_wp2
                  refine onward_normal (hK _ _ ?_)
                  clear hK K
                  refine any1k 10 (by kernel_rfl) rfl (fun K hK => ?_)
                  go_wp2
                  refine onward_normal (hK _ _ ?_)
                  clear hK K
                  refine any1k 11 (by kernel_rfl) rfl (fun K hK => ?_)
                  go_wp2
                  refine onward_normal (hK _ _ ?_)
                  clear hK K
                  refine wpAny_take (i := 12) (v := ?v2) rfl (by kernel_rfl) (by kernel_rfl) (by kernel_rfl) (fun _ _ _ h => h) (Or.inl ⟨by first | rfl | (go_simp; done), ?y2⟩) ?r2
                  case' y2 =>
                    intro w
                    go_simp
                    try with_reducible rfl
                  case' r2 =>
                    try simp only [Act.put, List.setIfInBounds_toArray, List.set_cons_succ, List.set_cons_zero]
                    refine wpAny_take (i := 13) (v := ?v3) rfl (by kernel_rfl) (by kernel_rfl) (by kernel_rfl) (fun _ _ _ h => h) (Or.inl ⟨by first | rfl | (go_simp; done), ?y3⟩) ?r3
                    case' y3 =>
                      intro w
                      go_simp
                      try with_reducible rfl
                    case' r3 =>
                      try simp only [Act.put, List.setIfInBounds_toArray, List.set_cons_succ, List.set_cons_zero]
                      refine wpAny_take (i := 15) (v := ?v4) rfl (by kernel_rfl) (by kernel_rfl) (by kernel_rfl) (fun _ _ _ h => h) (Or.inl ⟨by first | rfl | (go_simp; done), ?y4⟩) ?r4
                      case' y4 =>
                        intro w
                        go_simp
                        try with_reducible rfl
                      case' r4 =>
                        try simp only [Act.put, List.setIfInBounds_toArray, List.set_cons_succ, List.set_cons_zero]
                        refine wpAny_take (i := 16) (v := ?v5) rfl (by kernel_rfl) (by kernel_rfl) (by kernel_rfl) (fun _ _ _ h => h) (Or.inl ⟨by first | rfl | (go_simp; done), ?y5⟩) ?r5
                        case' y5 =>
                          intro w
                          go_simp
                          try with_reducible rfl
                        case' r5 =>
                          try simp only [Act.put, List.setIfInBounds_toArray, List.set_cons_succ, List.set_cons_zero]
                          refine any1k 14 (by kernel_rfl) rfl (fun K hK => ?_)
                          go_wp2_with (first | ((with_reducible refine gate_dst (N := 27) rfl ?_); go_must (refine M.out.ev_ldw 1 _ _ rfl rfl rfl Tryz.underlying60 rfl (by first | exact sz60 | (rw [S1.out]; exact sz60) | (rw [S2.out]; exact sz60) | (rw [S3.out]; exact sz60)) rfl ?_)) | (go_at_call 117; go_must (refine (l03Shape_any _ HO.out _).mono ?_); rintro e w_ ⟨rfl, N_⟩; have m := M.out.join N_; clear N_; simp only [List.cons_append, List.nil_append, List.append_nil] at m; have M := Lib.hid m; clear m; rw [HP.out]; have x0 := M.out.cell (j := 0) (v := .int .i16 c) 1 rfl rfl; have k0 := (M.out.arg HB.out).cellv (Fld.cellK HF.out.toLen (k := c) i2); have s0 := M.out.cell (j := c) (v := .bool (standsAt (xs.take k) c)) 0 rfl SA.out) | (go_at_call 50; go_must (refine (l01Is_any g F HF.out _ _ (M.out.arg HB.out)).mono ?_); rintro e w_ ⟨rfl, rfl⟩; rw [HQ.out]))
                          refine onward_normal (hK _ _ ?_)
                          clear hK K
                          refine any1k 17 (by kernel_rfl) rfl (fun K hK => ?_)
                          go_wp2
                          refine onward_normal (hK _ _ ?_)
                          clear hK K
                          refine any1k 18 (by kernel_rfl) rfl (fun K hK => ?_)
                          go_wp2_with (first | ((with_reducible refine gate_dst (N := 27) rfl ?_); go_must (refine M.out.ev_ldw 1 _ _ rfl rfl rfl Tryz.underlying60 rfl (by first | exact sz60 | (rw [S1.out]; exact sz60) | (rw [S2.out]; exact sz60) | (rw [S3.out]; exact sz60)) rfl ?_)) | (go_at_call 117; go_must (refine (l03Shape_any _ HO.out _).mono ?_); rintro e w_ ⟨rfl, N_⟩; have m := M.out.join N_; clear N_; simp only [List.cons_append, List.nil_append, List.append_nil] at m; have M := Lib.hid m; clear m; rw [HP.out]; have x0 := M.out.cell (j := 0) (v := .int .i16 c) 1 rfl rfl; have k0 := (M.out.arg HB.out).cellv (Fld.cellK HF.out.toLen (k := c) i2); have s0 := M.out.cell (j := c) (v := .bool (standsAt (xs.take k) c)) 0 rfl SA.out) | (go_at_call 50; go_must (refine (l01Is_any g F HF.out _ _ (M.out.arg HB.out)).mono ?_); rintro e w_ ⟨rfl, rfl⟩; rw [HQ.out]))
                          refine onward_normal (hK _ _ ?_)
                          clear hK K
                          refine any1k 19 (by kernel_rfl) rfl (fun K hK => ?_)
                          go_wp2
                          refine onward_normal (hK _ _ ?_)
                          clear hK K
                          refine any1k 20 (by kernel_rfl) rfl (fun K hK => ?_)
                          go_wp2
                          refine onward_normal (hK _ _ ?_)
                          clear hK K
                          refine any1k 21 (by kernel_rfl) rfl (fun K hK => ?_)
                          go_wp2
                          refine onward_normal (hK _ _ ?_)
                          clear hK K
                          refine wpAny_take (i := 22) (v := undef) rfl (by kernel_rfl) (by kernel_rfl) (by kernel_rfl) (fun _ _ _ h => h) (Or.inr ⟨by kernel_rfl, rfl⟩) ?_
                          try simp only [Act.put, List.setIfInBounds_toArray, List.set_cons_succ, List.set_cons_zero]
                          refine wpAny_take (i := 23) (v := undef) rfl (by kernel_rfl) (by kernel_rfl) (by kernel_rfl) (fun _ _ _ h => h) (Or.inr ⟨by kernel_rfl, rfl⟩) ?_
                          try simp only [Act.put, List.setIfInBounds_toArray, List.set_cons_succ, List.set_cons_zero]
                          refine wpAny_take (i := 24) (v := undef) rfl (by kernel_rfl) (by kernel_rfl) (by kernel_rfl) (fun _ _ _ h => h) (Or.inr ⟨by kernel_rfl, rfl⟩) ?_
                          try simp only [Act.put, List.setIfInBounds_toArray, List.set_cons_succ, List.set_cons_zero]
                          refine wpAny_take (i := 25) (v := undef) rfl (by kernel_rfl) (by kernel_rfl) (by kernel_rfl) (fun _ _ _ h => h) (Or.inr ⟨by kernel_rfl, rfl⟩) ?_
                          try simp only [Act.put, List.setIfInBounds_toArray, List.set_cons_succ, List.set_cons_zero]
                          refine any1k 26 (by kernel_rfl) rfl (fun K hK => ?_)
                          go_wp2
                          refine onward_normal (hK _ _ ?_)
                          clear hK K
                          refine wpAny_done (by kernel_rfl) ?_ _
                all_goals
                  go_wp2
                  go_ret
                  refine ⟨ret_bool ?_, M.out.take 0⟩
                  rw [not_scOk hlt]
                  · rfl
                  · rw [HXK.out, HP.out]
                    simp [Fld.place, HQ.out, HK.out]
              · have HK := Lib.hid hk3
                cases hz : standsAt (xs.take k) c
                · have HZ := Lib.hid hz
                  rw [hz] at SA
                  clear hz
                  have hjc : c < (bools (seenOf (xs.take k))).size := by rw [bools_size, seenOf_len]; omega
                  go_wp2_with (first
                    | ((with_reducible refine gate_dst (N := 26) rfl ?_); go_must (refine ev_ldr _ _ rfl rfl (R.out) Tryz.underlying60 rfl (by first | exact sz60 | (rw [S1.out]; exact sz60)) rfl ?_))
                    | ((with_reducible refine gate_dst (N := 7) rfl ?_); go_must (refine M.out.ev_new rfl (by first | (go_simp; done) | (go_simp; rfl)) ?_); intro g7 w7 m; simp only [List.cons_append, List.nil_append] at m; have M := Lib.hid m; clear m)
                    | ((with_reducible refine gate_store (x := .tmp 7) rfl ?_); go_must (refine M.out.ev_stw 1 _ _ _ rfl rfl rfl rfl (Scarecrow.vals ⟨c, xp, xa⟩).toArray rfl rfl sz60 OX.out rfl ?_); intro wn m; simp only [List.set_cons_succ, List.set_cons_zero] at m; have M := Lib.hid m; clear m)
                    )
                  have S1 := Lib.hid (show (Scarecrow.vals ⟨c, xp, xa⟩).toArray.size = 3 from rfl)
                  refine region_any (by kernel_rfl) ?_
                  have m := M.out.drew
                  clear M
                  have M := Lib.hid m
                  clear m
                  refine any1k 0 (by kernel_rfl) rfl (fun K hK => ?_)
                  go_wp2_with (first | ((with_reducible refine gate_dst (N := 27) rfl ?_); go_must (refine M.out.ev_ldw 1 _ _ rfl rfl rfl Tryz.underlying60 rfl (by first | exact sz60 | (rw [S1.out]; exact sz60) | (rw [S2.out]; exact sz60) | (rw [S3.out]; exact sz60)) rfl ?_)) | (go_at_call 117; go_must (refine (l03Shape_any _ HO.out _).mono ?_); rintro e w_ ⟨rfl, N_⟩; have m := M.out.join N_; clear N_; simp only [List.cons_append, List.nil_append, List.append_nil] at m; have M := Lib.hid m; clear m; rw [HP.out]; have x0 := M.out.cell (j := 0) (v := .int .i16 c) 1 rfl rfl; have k0 := (M.out.arg HB.out).cellv (Fld.cellK HF.out.toLen (k := c) i2); have s0 := M.out.cell (j := c) (v := .bool false) 0 rfl SA.out) | (go_at_call 50; go_must (refine (l01Is_any g F HF.out _ _ (M.out.arg HB.out)).mono ?_); rintro e w_ ⟨rfl, rfl⟩; rw [HQ.out]))
                  refine onward_normal (hK _ _ ?_)
                  clear hK K
                  refine any1k 1 (by kernel_rfl) rfl (fun K hK => ?_)
                  go_wp2_with (first | ((with_reducible refine gate_dst (N := 27) rfl ?_); go_must (refine M.out.ev_ldw 1 _ _ rfl rfl rfl Tryz.underlying60 rfl (by first | exact sz60 | (rw [S1.out]; exact sz60) | (rw [S2.out]; exact sz60) | (rw [S3.out]; exact sz60)) rfl ?_)) | (go_at_call 117; go_must (refine (l03Shape_any _ HO.out _).mono ?_); rintro e w_ ⟨rfl, N_⟩; have m := M.out.join N_; clear N_; simp only [List.cons_append, List.nil_append, List.append_nil] at m; have M := Lib.hid m; clear m; rw [HP.out]; have x0 := M.out.cell (j := 0) (v := .int .i16 c) 1 rfl rfl; have k0 := (M.out.arg HB.out).cellv (Fld.cellK HF.out.toLen (k := c) i2); have s0 := M.out.cell (j := c) (v := .bool false) 0 rfl SA.out) | (go_at_call 50; go_must (refine (l01Is_any g F HF.out _ _ (M.out.arg HB.out)).mono ?_); rintro e w_ ⟨rfl, rfl⟩; rw [HQ.out]))
                  refine onward_normal (hK _ _ ?_)
                  clear hK K
                  refine any1k 2 (by kernel_rfl) rfl (fun K hK => ?_)
                  go_wp2
                  refine onward_normal (hK _ _ ?_)
                  clear hK K
                  refine any1k 3 (by kernel_rfl) rfl (fun K hK => ?_)
                  go_wp2
                  refine onward_normal (hK _ _ ?_)
                  clear hK K
                  refine wpAny_take (i := 4) (v := ?v6) rfl (by kernel_rfl) (by kernel_rfl) (by kernel_rfl) (fun _ _ _ h => h) (Or.inl ⟨by first | rfl | (go_simp; done), ?y6⟩) ?r6
                  case' y6 =>
                    intro w
                    go_simp
                    try with_reducible rfl
                  case' r6 =>
                    try simp only [Act.put, List.setIfInBounds_toArray, List.set_cons_succ, List.set_cons_zero]
                    refine any1k 5 (by kernel_rfl) rfl (fun K hK => ?_)
                    go_wp2
                    refine onward_normal (hK _ _ ?_)
                    clear hK K
                    refine any1k 6 (by kernel_rfl) rfl (fun K hK => ?_)
                    go_wp2_with (first | ((with_reducible refine gate_dst (N := 27) rfl ?_); go_must (refine M.out.ev_ldw 1 _ _ rfl rfl rfl Tryz.underlying60 rfl (by first | exact sz60 | (rw [S1.out]; exact sz60) | (rw [S2.out]; exact sz60) | (rw [S3.out]; exact sz60)) rfl ?_)) | (go_at_call 117; go_must (refine (l03Shape_any _ HO.out _).mono ?_); rintro e w_ ⟨rfl, N_⟩; have m := M.out.join N_; clear N_; simp only [List.cons_append, List.nil_append, List.append_nil] at m; have M := Lib.hid m; clear m; rw [HP.out]; have x0 := M.out.cell (j := 0) (v := .int .i16 c) 1 rfl rfl; have k0 := (M.out.arg HB.out).cellv (Fld.cellK HF.out.toLen (k := c) i2); have s0 := M.out.cell (j := c) (v := .bool false) 0 rfl SA.out) | (go_at_call 50; go_must (refine (l01Is_any g F HF.out _ _ (M.out.arg HB.out)).mono ?_); rintro e w_ ⟨rfl, rfl⟩; rw [HQ.out]))
                    refine onward_normal (hK _ _ ?_)
                    clear hK K
                    refine any1k 7 (by kernel_rfl) rfl (fun K hK => ?_)
                    go_wp2
                    refine onward_normal (hK _ _ ?_)
                    clear hK K
                    refine any1k 8 (by kernel_rfl) rfl (fun K hK => ?_)
                    go_wp2_with (first | ((with_reducible refine gate_dst (N := 27) rfl ?_); go_must (refine M.out.ev_ldw 1 _ _ rfl rfl rfl Tryz.underlying60 rfl (by first | exact sz60 | (rw [S1.out]; exact sz60) | (rw [S2.out]; exact sz60) | (rw [S3.out]; exact sz60)) rfl ?_)) | (go_at_call 117; go_must (refine (l03Shape_any _ HO.out _).mono ?_); rintro e w_ ⟨rfl, N_⟩; have m := M.out.join N_; clear N_; simp only [List.cons_append, List.nil_append, List.append_nil] at m; have M := Lib.hid m; clear m; rw [HP.out]; have x0 := M.out.cell (j := 0) (v := .int .i16 c) 1 rfl rfl; have k0 := (M.out.arg HB.out).cellv (Fld.cellK HF.out.toLen (k := c) i2); have s0 := M.out.cell (j := c) (v := .bool false) 0 rfl SA.out) | (go_at_call 50; go_must (refine (l01Is_any g F HF.out _ _ (M.out.arg HB.out)).mono ?_); rintro e w_ ⟨rfl, rfl⟩; rw [HQ.out]))
                    refine onward_normal (hK _ _ ?_)
                    clear hK K
                    refine any1k 9 (by kernel_rfl) rfl (fun K hK => ?_)
                    go_wp2
                    refine onward_normal (hK _ _ ?_)
                    clear hK K
                    refine any1k 10 (by kernel_rfl) rfl (fun K hK => ?_)
                    go_wp2
                    refine onward_normal (hK _ _ ?_)
                    clear hK K
                    refine any1k 11 (by kernel_rfl) rfl (fun K hK => ?_)
                    go_wp2
                    refine onward_normal (hK _ _ ?_)
                    clear hK K
                    refine wpAny_take (i := 12) (v := ?v7) rfl (by kernel_rfl) (by kernel_rfl) (by kernel_rfl) (fun _ _ _ h => h) (Or.inl ⟨by first | rfl | (go_simp; done), ?y7⟩) ?r7
                    case' y7 =>
                      intro w
                      go_simp
                      try with_reducible rfl
                    case' r7 =>
                      try simp only [Act.put, List.setIfInBounds_toArray, List.set_cons_succ, List.set_cons_zero]
                      refine wpAny_take (i := 13) (v := ?v8) rfl (by kernel_rfl) (by kernel_rfl) (by kernel_rfl) (fun _ _ _ h => h) (Or.inl ⟨by first | rfl | (go_simp; done), ?y8⟩) ?r8
                      case' y8 =>
                        intro w
                        go_simp
                        try with_reducible rfl
                      case' r8 =>
                        try simp only [Act.put, List.setIfInBounds_toArray, List.set_cons_succ, List.set_cons_zero]
                        refine wpAny_take (i := 15) (v := ?v9) rfl (by kernel_rfl) (by kernel_rfl) (by kernel_rfl) (fun _ _ _ h => h) (Or.inl ⟨by first | rfl | (go_simp; done), ?y9⟩) ?r9
                        case' y9 =>
                          intro w
                          go_simp
                          try with_reducible rfl
                        case' r9 =>
                          try simp only [Act.put, List.setIfInBounds_toArray, List.set_cons_succ, List.set_cons_zero]
                          refine wpAny_take (i := 16) (v := ?v10) rfl (by kernel_rfl) (by kernel_rfl) (by kernel_rfl) (fun _ _ _ h => h) (Or.inl ⟨by first | rfl | (go_simp; done), ?y10⟩) ?r10
                          case' y10 =>
                            intro w
                            go_simp
                            try with_reducible rfl
                          case' r10 =>
                            try simp only [Act.put, List.setIfInBounds_toArray, List.set_cons_succ, List.set_cons_zero]
                            refine any1k 14 (by kernel_rfl) rfl (fun K hK => ?_)
                            go_wp2_with (first | ((with_reducible refine gate_dst (N := 27) rfl ?_); go_must (refine M.out.ev_ldw 1 _ _ rfl rfl rfl Tryz.underlying60 rfl (by first | exact sz60 | (rw [S1.out]; exact sz60) | (rw [S2.out]; exact sz60) | (rw [S3.out]; exact sz60)) rfl ?_)) | (go_at_call 117; go_must (refine (l03Shape_any _ HO.out _).mono ?_); rintro e w_ ⟨rfl, N_⟩; have m := M.out.join N_; clear N_; simp only [List.cons_append, List.nil_append, List.append_nil] at m; have M := Lib.hid m; clear m; rw [HP.out]; have x0 := M.out.cell (j := 0) (v := .int .i16 c) 1 rfl rfl; have k0 := (M.out.arg HB.out).cellv (Fld.cellK HF.out.toLen (k := c) i2); have s0 := M.out.cell (j := c) (v := .bool false) 0 rfl SA.out) | (go_at_call 50; go_must (refine (l01Is_any g F HF.out _ _ (M.out.arg HB.out)).mono ?_); rintro e w_ ⟨rfl, rfl⟩; rw [HQ.out]))
                            refine onward_normal (hK _ _ ?_)
                            clear hK K
                            refine any1k 17 (by kernel_rfl) rfl (fun K hK => ?_)
                            go_wp2
                            refine onward_normal (hK _ _ ?_)
                            clear hK K
                            refine any1k 18 (by kernel_rfl) rfl (fun K hK => ?_)
                            go_wp2_with (first | ((with_reducible refine gate_dst (N := 27) rfl ?_); go_must (refine M.out.ev_ldw 1 _ _ rfl rfl rfl Tryz.underlying60 rfl (by first | exact sz60 | (rw [S1.out]; exact sz60) | (rw [S2.out]; exact sz60) | (rw [S3.out]; exact sz60)) rfl ?_)) | (go_at_call 117; go_must (refine (l03Shape_any _ HO.out _).mono ?_); rintro e w_ ⟨rfl, N_⟩; have m := M.out.join N_; clear N_; simp only [List.cons_append, List.nil_append, List.append_nil] at m; have M := Lib.hid m; clear m; rw [HP.out]; have x0 := M.out.cell (j := 0) (v := .int .i16 c) 1 rfl rfl; have k0 := (M.out.arg HB.out).cellv (Fld.cellK HF.out.toLen (k := c) i2); have s0 := M.out.cell (j := c) (v := .bool false) 0 rfl SA.out) | (go_at_call 50; go_must (refine (l01Is_any g F HF.out _ _ (M.out.arg HB.out)).mono ?_); rintro e w_ ⟨rfl, rfl⟩; rw [HQ.out]))
                            refine onward_normal (hK _ _ ?_)
                            clear hK K
                            refine any1k 19 (by kernel_rfl) rfl (fun K hK => ?_)
                            go_wp2
                            refine onward_normal (hK _ _ ?_)
                            clear hK K
                            refine any1k 20 (by kernel_rfl) rfl (fun K hK => ?_)
                            go_wp2
                            refine onward_normal (hK _ _ ?_)
                            clear hK K
                            refine any1k 21 (by kernel_rfl) rfl (fun K hK => ?_)
                            go_wp2
                            refine onward_normal (hK _ _ ?_)
                            clear hK K
                            refine any1k 22 (by kernel_rfl) rfl (fun K hK => ?_)
                            go_wp2
                            refine onward_normal (hK _ _ ?_)
                            clear hK K
                            refine any1k 23 (by kernel_rfl) rfl (fun K hK => ?_)
                            go_wp2_with (first | ((with_reducible refine gate_dst (N := 27) rfl ?_); go_must (refine M.out.ev_ldw 1 _ _ rfl rfl rfl Tryz.underlying60 rfl (by first | exact sz60 | (rw [S1.out]; exact sz60) | (rw [S2.out]; exact sz60) | (rw [S3.out]; exact sz60)) rfl ?_)) | (go_at_call 117; go_must (refine (l03Shape_any _ HO.out _).mono ?_); rintro e w_ ⟨rfl, N_⟩; have m := M.out.join N_; clear N_; simp only [List.cons_append, List.nil_append, List.append_nil] at m; have M := Lib.hid m; clear m; rw [HP.out]; have x0 := M.out.cell (j := 0) (v := .int .i16 c) 1 rfl rfl; have k0 := (M.out.arg HB.out).cellv (Fld.cellK HF.out.toLen (k := c) i2); have s0 := M.out.cell (j := c) (v := .bool false) 0 rfl SA.out) | (go_at_call 50; go_must (refine (l01Is_any g F HF.out _ _ (M.out.arg HB.out)).mono ?_); rintro e w_ ⟨rfl, rfl⟩; rw [HQ.out]))
                            refine onward_normal (hK _ _ ?_)
                            clear hK K
                            refine any1k 24 (by kernel_rfl) rfl (fun K hK => ?_)
                            go_wp2
                            refine onward_normal (hK _ _ ?_)
                            clear hK K
                            refine any1k 25 (by kernel_rfl) rfl (fun K hK => ?_)
                            go_wp2_with (first | ((with_reducible refine gate_dst (N := 27) rfl ?_); go_must (refine M.out.ev_ldw 1 _ _ rfl rfl rfl Tryz.underlying60 rfl (by first | exact sz60 | (rw [S1.out]; exact sz60) | (rw [S2.out]; exact sz60) | (rw [S3.out]; exact sz60)) rfl ?_)) | (go_at_call 117; go_must (refine (l03Shape_any _ HO.out _).mono ?_); rintro e w_ ⟨rfl, N_⟩; have m := M.out.join N_; clear N_; simp only [List.cons_append, List.nil_append, List.append_nil] at m; have M := Lib.hid m; clear m; rw [HP.out]; have x0 := M.out.cell (j := 0) (v := .int .i16 c) 1 rfl rfl; have k0 := (M.out.arg HB.out).cellv (Fld.cellK HF.out.toLen (k := c) i2); have s0 := M.out.cell (j := c) (v := .bool false) 0 rfl SA.out) | (go_at_call 50; go_must (refine (l01Is_any g F HF.out _ _ (M.out.arg HB.out)).mono ?_); rintro e w_ ⟨rfl, rfl⟩; rw [HQ.out]))
                            refine onward_normal (hK _ _ ?_)
                            clear hK K
                            refine any1k 26 (by kernel_rfl) rfl (fun K hK => ?_)
                            go_wp2
                            refine onward_normal (hK _ _ ?_)
                            clear hK K
                            refine wpAny_done (by kernel_rfl) ?_ _
                  all_goals
                    go_wp2_with (first
                      | ((with_reducible refine gate_store (x := .tmp 56) rfl ?_); go_must (refine M.out.ev_put 0 _ _ _ rfl rfl rfl rfl (.bool true) rfl hjc sz4 rfl rfl ?_); intro wn m; simp only [List.set_cons_succ, List.set_cons_zero] at m; have M := Lib.hid m; clear m)
                      )
                    refine ⟨⟨k + 1, by omega, by go_num, all_succ HE.out ?_, ?_⟩, by simp [intOf]; omega⟩
                    · rw [HXK.out, HP.out, HZ.out]
                      simp [Fld.place, HQ.out, HK.out]
                    · have m := M.out
                      have hsn := HSN.out i0 (by omega)
                      simp only [Int.toNat_natCast] at hsn
                      rw [bools_set, hsn] at m
                      exact m.take 1
                · have HZ := Lib.hid hz
                  rw [hz] at SA
                  clear hz
                  go_wp2_with (first
                    | ((with_reducible refine gate_dst (N := 26) rfl ?_); go_must (refine ev_ldr _ _ rfl rfl (R.out) Tryz.underlying60 rfl (by first | exact sz60 | (rw [S1.out]; exact sz60)) rfl ?_))
                    | ((with_reducible refine gate_dst (N := 7) rfl ?_); go_must (refine M.out.ev_new rfl (by first | (go_simp; done) | (go_simp; rfl)) ?_); intro g7 w7 m; simp only [List.cons_append, List.nil_append] at m; have M := Lib.hid m; clear m)
                    | ((with_reducible refine gate_store (x := .tmp 7) rfl ?_); go_must (refine M.out.ev_stw 1 _ _ _ rfl rfl rfl rfl (Scarecrow.vals ⟨c, xp, xa⟩).toArray rfl rfl sz60 OX.out rfl ?_); intro wn m; simp only [List.set_cons_succ, List.set_cons_zero] at m; have M := Lib.hid m; clear m)
                    )
                  have S1 := Lib.hid (show (Scarecrow.vals ⟨c, xp, xa⟩).toArray.size = 3 from rfl)
                  refine region_any (by kernel_rfl) ?_
                  have m := M.out.drew
                  clear M
                  have M := Lib.hid m
                  clear m
                  refine any1k 0 (by kernel_rfl) rfl (fun K hK => ?_)
                  go_wp2_with (first | ((with_reducible refine gate_dst (N := 27) rfl ?_); go_must (refine M.out.ev_ldw 1 _ _ rfl rfl rfl Tryz.underlying60 rfl (by first | exact sz60 | (rw [S1.out]; exact sz60) | (rw [S2.out]; exact sz60) | (rw [S3.out]; exact sz60)) rfl ?_)) | (go_at_call 117; go_must (refine (l03Shape_any _ HO.out _).mono ?_); rintro e w_ ⟨rfl, N_⟩; have m := M.out.join N_; clear N_; simp only [List.cons_append, List.nil_append, List.append_nil] at m; have M := Lib.hid m; clear m; rw [HP.out]; have x0 := M.out.cell (j := 0) (v := .int .i16 c) 1 rfl rfl; have k0 := (M.out.arg HB.out).cellv (Fld.cellK HF.out.toLen (k := c) i2); have s0 := M.out.cell (j := c) (v := .bool true) 0 rfl SA.out) | (go_at_call 50; go_must (refine (l01Is_any g F HF.out _ _ (M.out.arg HB.out)).mono ?_); rintro e w_ ⟨rfl, rfl⟩; rw [HQ.out]))
                  refine onward_normal (hK _ _ ?_)
                  clear hK K
                  refine any1k 1 (by kernel_rfl) rfl (fun K hK => ?_)
                  go_wp2_with (first | ((with_reducible refine gate_dst (N := 27) rfl ?_); go_must (refine M.out.ev_ldw 1 _ _ rfl rfl rfl Tryz.underlying60 rfl (by first | exact sz60 | (rw [S1.out]; exact sz60) | (rw [S2.out]; exact sz60) | (rw [S3.out]; exact sz60)) rfl ?_)) | (go_at_call 117; go_must (refine (l03Shape_any _ HO.out _).mono ?_); rintro e w_ ⟨rfl, N_⟩; have m := M.out.join N_; clear N_; simp only [List.cons_append, List.nil_append, List.append_nil] at m; have M := Lib.hid m; clear m; rw [HP.out]; have x0 := M.out.cell (j := 0) (v := .int .i16 c) 1 rfl rfl; have k0 := (M.out.arg HB.out).cellv (Fld.cellK HF.out.toLen (k := c) i2); have s0 := M.out.cell (j := c) (v := .bool true) 0 rfl SA.out) | (go_at_call 50; go_must (refine (l01Is_any g F HF.out _ _ (M.out.arg HB.out)).mono ?_); rintro e w_ ⟨rfl, rfl⟩; rw [HQ.out]))
                  refine onward_normal (hK _ _ ?_)
                  clear hK K
                  refine any1k 2 (by kernel_rfl) rfl (fun K hK => ?_)
                  go_wp2
                  refine onward_normal (hK _ _ ?_)
                  clear hK K
                  refine any1k 3 (by kernel_rfl) rfl (fun K hK => ?_)
                  go_wp2
                  refine onward_normal (hK _ _ ?_)
                  clear hK K
                  refine wpAny_take (i := 4) (v := ?v11) rfl (by kernel_rfl) (by kernel_rfl) (by kernel_rfl) (fun _ _ _ h => h) (Or.inl ⟨by first | rfl | (go_simp; done), ?y11⟩) ?r11
                  case' y11 =>
                    intro w
                    go_simp
                    try with_reducible rfl
                  case' r11 =>
                    try simp only [Act.put, List.setIfInBounds_toArray, List.set_cons_succ, List.set_cons_zero]
                    refine any1k 5 (by kernel_rfl) rfl (fun K hK => ?_)
                    go_wp2
                    refine onward_normal (hK _ _ ?_)
                    clear hK K
                    refine any1k 6 (by kernel_rfl) rfl (fun K hK => ?_)
                    go_wp2_with (first | ((with_reducible refine gate_dst (N := 27) rfl ?_); go_must (refine M.out.ev_ldw 1 _ _ rfl rfl rfl Tryz.underlying60 rfl (by first | exact sz60 | (rw [S1.out]; exact sz60) | (rw [S2.out]; exact sz60) | (rw [S3.out]; exact sz60)) rfl ?_)) | (go_at_call 117; go_must (refine (l03Shape_any _ HO.out _).mono ?_); rintro e w_ ⟨rfl, N_⟩; have m := M.out.join N_; clear N_; simp only [List.cons_append, List.nil_append, List.append_nil] at m; have M := Lib.hid m; clear m; rw [HP.out]; have x0 := M.out.cell (j := 0) (v := .int .i16 c) 1 rfl rfl; have k0 := (M.out.arg HB.out).cellv (Fld.cellK HF.out.toLen (k := c) i2); have s0 := M.out.cell (j := c) (v := .bool true) 0 rfl SA.out) | (go_at_call 50; go_must (refine (l01Is_any g F HF.out _ _ (M.out.arg HB.out)).mono ?_); rintro e w_ ⟨rfl, rfl⟩; rw [HQ.out]))
                    refine onward_normal (hK _ _ ?_)
                    clear hK K
                    refine any1k 7 (by kernel_rfl) rfl (fun K hK => ?_)
                    go_wp2
                    refine onward_normal (hK _ _ ?_)
                    clear hK K
                    refine any1k 8 (by kernel_rfl) rfl (fun K hK => ?_)
                    go_wp2_with (first | ((with_reducible refine gate_dst (N := 27) rfl ?_); go_must (refine M.out.ev_ldw 1 _ _ rfl rfl rfl Tryz.underlying60 rfl (by first | exact sz60 | (rw [S1.out]; exact sz60) | (rw [S2.out]; exact sz60) | (rw [S3.out]; exact sz60)) rfl ?_)) | (go_at_call 117; go_must (refine (l03Shape_any _ HO.out _).mono ?_); rintro e w_ ⟨rfl, N_⟩; have m := M.out.join N_; clear N_; simp only [List.cons_append, List.nil_append, List.append_nil] at m; have M := Lib.hid m; clear m; rw [HP.out]; have x0 := M.out.cell (j := 0) (v := .int .i16 c) 1 rfl rfl; have k0 := (M.out.arg HB.out).cellv (Fld.cellK HF.out.toLen (k := c) i2); have s0 := M.out.cell (j := c) (v := .bool true) 0 rfl SA.out) | (go_at_call 50; go_must (refine (l01Is_any g F HF.out _ _ (M.out.arg HB.out)).mono ?_); rintro e w_ ⟨rfl, rfl⟩; rw [HQ.out]))
                    refine onward_normal (hK _ _ ?_)
                    clear hK K
                    refine any1k 9 (by kernel_rfl) rfl (fun K hK => ?_)
                    go_wp2
                    refine onward_normal (hK _ _ ?_)
                    clear hK K
                    refine any1k 10 (by kernel_rfl) rfl (fun K hK => ?_)
                    go_wp2
                    refine onward_normal (hK _ _ ?_)
                    clear hK K
                    refine any1k 11 (by kernel_rfl) rfl (fun K hK => ?_)
                    go_wp2
                    refine onward_normal (hK _ _ ?_)
                    clear hK K
                    refine wpAny_take (i := 12) (v := ?v12) rfl (by kernel_rfl) (by kernel_rfl) (by kernel_rfl) (fun _ _ _ h => h) (Or.inl ⟨by first | rfl | (go_simp; done), ?y12⟩) ?r12
                    case' y12 =>
                      intro w
                      go_simp
                      try with_reducible rfl
                    case' r12 =>
                      try simp only [Act.put, List.setIfInBounds_toArray, List.set_cons_succ, List.set_cons_zero]
                      refine wpAny_take (i := 13) (v := ?v13) rfl (by kernel_rfl) (by kernel_rfl) (by kernel_rfl) (fun _ _ _ h => h) (Or.inl ⟨by first | rfl | (go_simp; done), ?y13⟩) ?r13
                      case' y13 =>
                        intro w
                        go_simp
                        try with_reducible rfl
                      case' r13 =>
                        try simp only [Act.put, List.setIfInBounds_toArray, List.set_cons_succ, List.set_cons_zero]
                        refine wpAny_take (i := 15) (v := ?v14) rfl (by kernel_rfl) (by kernel_rfl) (by kernel_rfl) (fun _ _ _ h => h) (Or.inl ⟨by first | rfl | (go_simp; done), ?y14⟩) ?r14
                        case' y14 =>
                          intro w
                          go_simp
                          try with_reducible rfl
                        case' r14 =>
                          try simp only [Act.put, List.setIfInBounds_toArray, List.set_cons_succ, List.set_cons_zero]
                          refine wpAny_take (i := 16) (v := ?v15) rfl (by kernel_rfl) (by kernel_rfl) (by kernel_rfl) (fun _ _ _ h => h) (Or.inl ⟨by first | rfl | (go_simp; done), ?y15⟩) ?r15
                          case' y15 =>
                            intro w
                            go_simp
                            try with_reducible rfl
                          case' r15 =>
                            try simp only [Act.put, List.setIfInBounds_toArray, List.set_cons_succ, List.set_cons_zero]
                            refine any1k 14 (by kernel_rfl) rfl (fun K hK => ?_)
                            go_wp2_with (first | ((with_reducible refine gate_dst (N := 27) rfl ?_); go_must (refine M.out.ev_ldw 1 _ _ rfl rfl rfl Tryz.underlying60 rfl (by first | exact sz60 | (rw [S1.out]; exact sz60) | (rw [S2.out]; exact sz60) | (rw [S3.out]; exact sz60)) rfl ?_)) | (go_at_call 117; go_must (refine (l03Shape_any _ HO.out _).mono ?_); rintro e w_ ⟨rfl, N_⟩; have m := M.out.join N_; clear N_; simp only [List.cons_append, List.nil_append, List.append_nil] at m; have M := Lib.hid m; clear m; rw [HP.out]; have x0 := M.out.cell (j := 0) (v := .int .i16 c) 1 rfl rfl; have k0 := (M.out.arg HB.out).cellv (Fld.cellK HF.out.toLen (k := c) i2); have s0 := M.out.cell (j := c) (v := .bool true) 0 rfl SA.out) | (go_at_call 50; go_must (refine (l01Is_any g F HF.out _ _ (M.out.arg HB.out)).mono ?_); rintro e w_ ⟨rfl, rfl⟩; rw [HQ.out]))
                            refine onward_normal (hK _ _ ?_)
                            clear hK K
                            refine any1k 17 (by kernel_rfl) rfl (fun K hK => ?_)
                            go_wp2
                            refine onward_normal (hK _ _ ?_)
                            clear hK K
                            refine any1k 18 (by kernel_rfl) rfl (fun K hK => ?_)
                            go_wp2_with (first | ((with_reducible refine gate_dst (N := 27) rfl ?_); go_must (refine M.out.ev_ldw 1 _ _ rfl rfl rfl Tryz.underlying60 rfl (by first | exact sz60 | (rw [S1.out]; exact sz60) | (rw [S2.out]; exact sz60) | (rw [S3.out]; exact sz60)) rfl ?_)) | (go_at_call 117; go_must (refine (l03Shape_any _ HO.out _).mono ?_); rintro e w_ ⟨rfl, N_⟩; have m := M.out.join N_; clear N_; simp only [List.cons_append, List.nil_append, List.append_nil] at m; have M := Lib.hid m; clear m; rw [HP.out]; have x0 := M.out.cell (j := 0) (v := .int .i16 c) 1 rfl rfl; have k0 := (M.out.arg HB.out).cellv (Fld.cellK HF.out.toLen (k := c) i2); have s0 := M.out.cell (j := c) (v := .bool true) 0 rfl SA.out) | (go_at_call 50; go_must (refine (l01Is_any g F HF.out _ _ (M.out.arg HB.out)).mono ?_); rintro e w_ ⟨rfl, rfl⟩; rw [HQ.out]))
                            refine onward_normal (hK _ _ ?_)
                            clear hK K
                            refine any1k 19 (by kernel_rfl) rfl (fun K hK => ?_)
                            go_wp2
                            refine onward_normal (hK _ _ ?_)
                            clear hK K
                            refine any1k 20 (by kernel_rfl) rfl (fun K hK => ?_)
                            go_wp2
                            refine onward_normal (hK _ _ ?_)
                            clear hK K
                            refine any1k 21 (by kernel_rfl) rfl (fun K hK => ?_)
                            go_wp2
                            refine onward_normal (hK _ _ ?_)
                            clear hK K
                            refine any1k 22 (by kernel_rfl) rfl (fun K hK => ?_)
                            go_wp2
                            refine onward_normal (hK _ _ ?_)
                            clear hK K
                            refine any1k 23 (by kernel_rfl) rfl (fun K hK => ?_)
                            go_wp2_with (first | ((with_reducible refine gate_dst (N := 27) rfl ?_); go_must (refine M.out.ev_ldw 1 _ _ rfl rfl rfl Tryz.underlying60 rfl (by first | exact sz60 | (rw [S1.out]; exact sz60) | (rw [S2.out]; exact sz60) | (rw [S3.out]; exact sz60)) rfl ?_)) | (go_at_call 117; go_must (refine (l03Shape_any _ HO.out _).mono ?_); rintro e w_ ⟨rfl, N_⟩; have m := M.out.join N_; clear N_; simp only [List.cons_append, List.nil_append, List.append_nil] at m; have M := Lib.hid m; clear m; rw [HP.out]; have x0 := M.out.cell (j := 0) (v := .int .i16 c) 1 rfl rfl; have k0 := (M.out.arg HB.out).cellv (Fld.cellK HF.out.toLen (k := c) i2); have s0 := M.out.cell (j := c) (v := .bool true) 0 rfl SA.out) | (go_at_call 50; go_must (refine (l01Is_any g F HF.out _ _ (M.out.arg HB.out)).mono ?_); rintro e w_ ⟨rfl, rfl⟩; rw [HQ.out]))
                            refine onward_normal (hK _ _ ?_)
                            clear hK K
                            refine any1k 24 (by kernel_rfl) rfl (fun K hK => ?_)
                            go_wp2
                            refine onward_normal (hK _ _ ?_)
                            clear hK K
                            refine any1k 25 (by kernel_rfl) rfl (fun K hK => ?_)
                            go_wp2_with (first | ((with_reducible refine gate_dst (N := 27) rfl ?_); go_must (refine M.out.ev_ldw 1 _ _ rfl rfl rfl Tryz.underlying60 rfl (by first | exact sz60 | (rw [S1.out]; exact sz60) | (rw [S2.out]; exact sz60) | (rw [S3.out]; exact sz60)) rfl ?_)) | (go_at_call 117; go_must (refine (l03Shape_any _ HO.out _).mono ?_); rintro e w_ ⟨rfl, N_⟩; have m := M.out.join N_; clear N_; simp only [List.cons_append, List.nil_append, List.append_nil] at m; have M := Lib.hid m; clear m; rw [HP.out]; have x0 := M.out.cell (j := 0) (v := .int .i16 c) 1 rfl rfl; have k0 := (M.out.arg HB.out).cellv (Fld.cellK HF.out.toLen (k := c) i2); have s0 := M.out.cell (j := c) (v := .bool true) 0 rfl SA.out) | (go_at_call 50; go_must (refine (l01Is_any g F HF.out _ _ (M.out.arg HB.out)).mono ?_); rintro e w_ ⟨rfl, rfl⟩; rw [HQ.out]))
                            refine onward_normal (hK _ _ ?_)
                            clear hK K
                            refine any1k 26 (by kernel_rfl) rfl (fun K hK => ?_)
                            go_wp2
                            refine onward_normal (hK _ _ ?_)
                            clear hK K
                            refine wpAny_done (by kernel_rfl) ?_ _
                  all_goals
                    go_wp2
                    go_ret
                    refine ⟨ret_bool ?_, M.out.take 0⟩
                    rw [not_scOk hlt]
                    · rfl
                    · rw [HXK.out, HP.out, HZ.out]
                      simp
        · obtain rfl : k = xs.length := by omega
          go_wp2
          go_ret
          exact ⟨ret_bool (by rw [scOk_of hl HE.out]; rfl), M.out.take 0⟩
    · go_enter Tryz.func93, Tryz.ntmps93
      go_wp2_with (first
        | (go_at_call 116; go_must (refine (l01Ok_any g F hF _ HB.out).mono ?_); rintro e w_ ⟨rfl, rfl⟩; rw [HV.out])
        )
      go_ret
      exact ⟨ret_bool (by simp [scOk, hl]), M.out.take 0⟩
end Go.Proofs.YtoacnfofijikmaaGreatDoor
