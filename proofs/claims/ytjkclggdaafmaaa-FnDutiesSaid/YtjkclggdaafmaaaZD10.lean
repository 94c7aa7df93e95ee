/- Texts of a proof, laid together: NetCode, Under, Targets, Prices. -/
import Derived.Test.YtjkclggdaafmaaaZD07
import Derived.Test.YtjkclggdaafmaaaZD09
import Derived.Test.YtjkclggdaafmaaaZD05
import Derived.Test.YtjkclggdaafmaaaZD00
import Derived.Test.YtjkclggdaafmaaaZD01
import Derived.Test.YtjkclggdaafmaaaZD02
namespace Go.Proofs.Ytjkclggdaafmaaa
set_option linter.unusedSimpArgs false
set_option linter.unusedVariables false
open Go.RowKit
attribute [local go_sem] cell?_mk frozen?_mk

set_option maxRecDepth 100000 in
set_option maxHeartbeats 1000000 in
theorem indexN_any (f : FuncId) (caps : Array Value) (p : Net → Bool) (A : Option Addr) (n : Nat) (xs : List Net) (hn : xs.length ≤ 1048576) (w : World) (hs : Sl w 4 A xs.length (flat Net.vals xs))
    (HF : ∀ (vs : Array Value) (w : World), Sem.run Try.prog (callFunc f vs) w = Result.ok (Next.enter f vs) w)
    (H : ∀ x ∈ xs, ∀ w1, Mem w w1 [] → Calls Try.prog f (#[.agg x.vals.toArray] ++ caps) w1 fun e w' => e = .returned (.bool (p x)) ∧ Mem w1 w' []) :
    Calls Try.prog 105 #[.slice A xs.length n, .func (.func f) #[] caps] w fun e w' => ∃ r : Int, e = .returned (.int .i64 r) ∧ decide (0 ≤ r) = xs.any p ∧ Mem w w' [] := by
  have M := Lib.hid (Mem.start w)
  have HS := Lib.hid hs
  have HH := Lib.hid H
  clear hs H
  go_enter Try.func105, Try.ntmps105
  go_wp2
  go_loopw [8] (fun v wr => ∃ k : Nat, k ≤ xs.length ∧ v = .int .i64 k ∧ (xs.take k).any p = false ∧ Mem w wr [])
    (fun v _ => xs.length - (intOf v).toNat)
  case atStart => exact ⟨0, by omega, rfl, rfl, M.out⟩
  case round =>
    clear M
    obtain ⟨k, hk, rfl, he, m⟩ := hrel
    have M := Lib.hid m
    have HE := Lib.hid he
    clear m he
    by_cases hlt : k < xs.length
    · obtain ⟨b, off, rfl, hr⟩ := (M.out.sl HS.out).2 (by omega)
      have hxk : xs[k]? = some xs[k] := List.getElem?_eq_getElem hlt
      have R := Lib.hid (range_at Net.vl hr hxk)
      have i0 : (0 : Int) ≤ (k : Int) := by omega
      have i1 : (k : Int) < (xs.length : Int) := by omega
      clear hr hxk
      cases hp : p xs[k]
      · have HP := Lib.hid hp
        clear hp
        go_wp2_with (first
          | ((with_reducible refine gate_dst (N := 15) rfl ?_); go_must (refine ev_ldr _ _ rfl rfl (R.out) Try.underlying65 rfl (by first | exact sz65 | (rw [S1.out]; exact sz65)) rfl ?_))
          | (refine (HH.out xs[k] (List.getElem_mem hlt) _ M.out).mono ?_; rintro e w_ ⟨rfl, N_⟩; have m := M.out.join N_; clear N_; simp only [List.append_nil] at m; have M := Lib.hid m; clear m; rw [HP.out])
          )
        refine ⟨⟨k + 1, by omega, by go_num, ?_, M.out⟩, by simp [intOf]; omega⟩
        rw [List.take_succ_eq_append_getElem hlt, List.any_append, HE.out]
        simp [HP.out]
      · have HP := Lib.hid hp
        clear hp
        go_wp2_with (first
          | ((with_reducible refine gate_dst (N := 15) rfl ?_); go_must (refine ev_ldr _ _ rfl rfl (R.out) Try.underlying65 rfl (by first | exact sz65 | (rw [S1.out]; exact sz65)) rfl ?_))
          | (refine (HH.out xs[k] (List.getElem_mem hlt) _ M.out).mono ?_; rintro e w_ ⟨rfl, N_⟩; have m := M.out.join N_; clear N_; simp only [List.append_nil] at m; have M := Lib.hid m; clear m; rw [HP.out])
          )
        go_ret
        refine ⟨k, rfl, ?_, M.out⟩
        rw [decide_eq_true i0]
        symm
        rw [List.any_eq_true]
        exact ⟨xs[k], List.getElem_mem hlt, HP.out⟩
    · obtain rfl : k = xs.length := by omega
      go_wp2
      go_ret
      refine ⟨-1, rfl, ?_, M.out⟩
      have he := HE.out
      rw [List.take_length] at he
      rw [he]
      rfl
set_option maxRecDepth 100000 in
set_option maxHeartbeats 1000000 in
theorem containsN_any (f : FuncId) (caps : Array Value) (p : Net → Bool) (A : Option Addr) (n : Nat) (xs : List Net) (hn : xs.length ≤ 1048576) (w : World) (hs : Sl w 4 A xs.length (flat Net.vals xs))
    (HF : ∀ (vs : Array Value) (w : World), Sem.run Try.prog (callFunc f vs) w = Result.ok (Next.enter f vs) w)
    (H : ∀ x ∈ xs, ∀ w1, Mem w w1 [] → Calls Try.prog f (#[.agg x.vals.toArray] ++ caps) w1 fun e w' => e = .returned (.bool (p x)) ∧ Mem w1 w' []) :
    Calls Try.prog 94 #[.slice A xs.length n, .func (.func f) #[] caps] w fun e w' => e = .returned (.bool (xs.any p)) ∧ Mem w w' [] := by
  go_enter Try.func94, Try.ntmps94
  go_wp2_with (first
    | (go_at_call 105; refine (indexN_any f caps p A n xs hn _ hs HF H).mono ?_; rintro e w_ ⟨r, rfl, hr, N_⟩)
    )
  go_ret
  exact ⟨rfl, N_⟩
set_option maxRecDepth 100000 in
set_option maxHeartbeats 1000000 in
theorem index64_any (f : FuncId) (caps : Array Value) (p : Nat → Bool) (A : Option Addr) (n : Nat) (xs : List Nat) (hn : xs.length ≤ 1048576) (w : World) (hs : Sl w 1 A xs.length (flat one64 xs))
    (HF : ∀ (vs : Array Value) (w : World), Sem.run Try.prog (callFunc f vs) w = Result.ok (Next.enter f vs) w)
    (H : ∀ x ∈ xs, ∀ w1, Mem w w1 [] → Calls Try.prog f (#[.int .i64 x] ++ caps) w1 fun e w' => e = .returned (.bool (p x)) ∧ Mem w1 w' []) :
    Calls Try.prog 102 #[.slice A xs.length n, .func (.func f) #[] caps] w fun e w' => ∃ r : Int, e = .returned (.int .i64 r) ∧ decide (0 ≤ r) = xs.any p ∧ Mem w w' [] := by
  have M := Lib.hid (Mem.start w)
  have HS := Lib.hid hs
  have HH := Lib.hid H
  clear hs H
  go_enter Try.func102, Try.ntmps102
  go_wp2
  go_loopw [8] (fun v wr => ∃ k : Nat, k ≤ xs.length ∧ v = .int .i64 k ∧ (xs.take k).any p = false ∧ Mem w wr [])
    (fun v _ => xs.length - (intOf v).toNat)
  case atStart => exact ⟨0, by omega, rfl, rfl, M.out⟩
  case round =>
    clear M
    obtain ⟨k, hk, rfl, he, m⟩ := hrel
    have M := Lib.hid m
    have HE := Lib.hid he
    clear m he
    by_cases hlt : k < xs.length
    · obtain ⟨b, off, rfl, hr⟩ := (M.out.sl HS.out).2 (by omega)
      have hxk : xs[k]? = some xs[k] := List.getElem?_eq_getElem hlt
      have R := Lib.hid (range_at one64_len hr hxk)
      have i0 : (0 : Int) ≤ (k : Int) := by omega
      have i1 : (k : Int) < (xs.length : Int) := by omega
      have x0 : wr.cell? ⟨b, off + k, none⟩ = some (.int .i64 xs[k]) := by simpa [nat64] using R.out 0 _ rfl
      clear hr hxk
      cases hp : p xs[k]
      · have HP := Lib.hid hp
        clear hp
        go_wp2_with (first
          | (refine (HH.out xs[k] (List.getElem_mem hlt) _ M.out).mono ?_; rintro e w_ ⟨rfl, N_⟩; have m := M.out.join N_; clear N_; simp only [List.append_nil] at m; have M := Lib.hid m; clear m; rw [HP.out])
          )
        refine ⟨⟨k + 1, by omega, by go_num, ?_, M.out⟩, by simp [intOf]; omega⟩
        rw [List.take_succ_eq_append_getElem hlt, List.any_append, HE.out]
        simp [HP.out]
      · have HP := Lib.hid hp
        clear hp
        go_wp2_with (first
          | (refine (HH.out xs[k] (List.getElem_mem hlt) _ M.out).mono ?_; rintro e w_ ⟨rfl, N_⟩; have m := M.out.join N_; clear N_; simp only [List.append_nil] at m; have M := Lib.hid m; clear m; rw [HP.out])
          )
        go_ret
        refine ⟨k, rfl, ?_, M.out⟩
        rw [decide_eq_true i0]
        symm
        rw [List.any_eq_true]
        exact ⟨xs[k], List.getElem_mem hlt, HP.out⟩
    · obtain rfl : k = xs.length := by omega
      go_wp2
      go_ret
      refine ⟨-1, rfl, ?_, M.out⟩
      have he := HE.out
      rw [List.take_length] at he
      rw [he]
      rfl
set_option maxRecDepth 100000 in
set_option maxHeartbeats 1000000 in
theorem contains64_any (f : FuncId) (caps : Array Value) (p : Nat → Bool) (A : Option Addr) (n : Nat) (xs : List Nat) (hn : xs.length ≤ 1048576) (w : World) (hs : Sl w 1 A xs.length (flat one64 xs))
    (HF : ∀ (vs : Array Value) (w : World), Sem.run Try.prog (callFunc f vs) w = Result.ok (Next.enter f vs) w)
    (H : ∀ x ∈ xs, ∀ w1, Mem w w1 [] → Calls Try.prog f (#[.int .i64 x] ++ caps) w1 fun e w' => e = .returned (.bool (p x)) ∧ Mem w1 w' []) :
    Calls Try.prog 87 #[.slice A xs.length n, .func (.func f) #[] caps] w fun e w' => e = .returned (.bool (xs.any p)) ∧ Mem w w' [] := by
  go_enter Try.func87, Try.ntmps87
  go_wp2_with (first
    | (go_at_call 102; refine (index64_any f caps p A n xs hn _ hs HF H).mono ?_; rintro e w_ ⟨r, rfl, hr, N_⟩)
    )
  go_ret
  exact ⟨rfl, N_⟩
set_option maxRecDepth 100000 in
set_option maxHeartbeats 1000000 in
theorem netIs_any (g h : Nat) {t t' : TypeId} (F : Fld) (hF : F.ok) (hv : F.valid = true) (n : Net) (hx : n.ok) (w : World) (hb : Blk w g t F.cells) (hp : Blk w h t' #[.pointer (some ⟨g, 0, none⟩)]) :
    Calls Try.prog 95 #[.agg n.vals.toArray, .pointer (some ⟨h, 0, none⟩)] w fun e w' => e = .returned (.bool (!n.fits F)) ∧ Mem w w' [] := by
  have M := Lib.hid (Mem.start w)
  have HB := Lib.hid hb
  have HP := Lib.hid hp
  clear hb hp
  go_enter Try.func95, Try.ntmps95
  go_wp2_with (first
    | ((with_reducible refine gate_dst (N := 2) rfl ?_); go_must (refine M.out.ev_new rfl (by first | (go_simp; done) | (go_simp; rfl)) ?_); intro g2 w2 m; simp only [List.nil_append] at m; have M := Lib.hid m; clear m; have q1 := (M.out.arg HP.out).cellv (i := 0) rfl)
    | ((with_reducible refine gate_dst (N := 5) rfl ?_); go_must (refine M.out.ev_ldw 0 _ _ rfl rfl rfl Try.underlying65 rfl sz65 rfl ?_))
    | (go_at_call 80; go_must (refine (isNet_any g F hF hv n hx _ (M.out.arg HB.out)).mono ?_); rintro e w_ ⟨rfl, N_⟩; have m := M.out.join N_; clear N_; simp only [List.cons_append, List.nil_append, List.append_nil] at m; have M := Lib.hid m; clear m)
    )
  go_ret
  exact ⟨rfl, M.out.take 0⟩
set_option maxRecDepth 100000 in
set_option maxHeartbeats 1000000 in
theorem aimIs_any (g h : Nat) {t t' : TypeId} (F : Fld) (hF : F.ok) (k : Nat) (w : World) (hb : Blk w g t F.cells) (hp : Blk w h t' #[.pointer (some ⟨g, 0, none⟩)]) :
    Calls Try.prog 97 #[.int .i64 k, .pointer (some ⟨h, 0, none⟩)] w fun e w' => e = .returned (.bool (!F.has k)) ∧ Mem w w' [] := by
  have M := Lib.hid (Mem.start w)
  have HB := Lib.hid hb
  have q1 := hp.cellv (i := 0) rfl
  clear hb hp
  go_enter Try.func97, Try.ntmps97
  go_wp2_with (first
    | (go_at_call 67; go_must (refine (has_any g F hF _ _ HB.out).mono ?_); rintro e w_ ⟨rfl, rfl⟩)
    )
  go_ret
  exact ⟨rfl, M.out⟩
def badNet (F : Fld) (xs : List Net) : Bool := xs.any fun n => !n.fits F
theorem netsOk_bad (F : Fld) (xs : List Net) : netsOk F xs = (F.valid && !badNet F xs) := by
  unfold netsOk badNet
  congr 1
  induction xs with
  | nil => rfl
  | cons x r ih => simp [List.all_cons, List.any_cons, ih]
/-- The code for nets and targets. -/
def ntCode (F : Fld) (xs : List Net) (c : Cs) : Int := if netsOk F xs = true then if (decide (20 < xs.length) || decide (12 < c.all.length)) = true then 3 else if (c.all.any fun k => !F.has k) = true then 2 else 0 else 1
theorem Cs.z_all : Cs.z.all = [] := by decide
theorem ntCode_z (F : Fld) (xs : List Net) : ntCode F xs Cs.z = if netsOk F xs = true then if 20 < xs.length then 3 else 0 else 1 := by
  unfold ntCode
  rw [Cs.z_all]
  simp
theorem ntCode_0 {F : Fld} {xs : List Net} {c : Cs} (h : ntCode F xs c = 0) : netsOk F xs = true ∧ xs.length ≤ 20 ∧ c.all.length ≤ 12 ∧ ∀ k ∈ c.all, F.has k = true := by
  unfold ntCode at h
  split at h
  · rename_i h1
    split at h
    · cases h
    · rename_i h2
      split at h
      · cases h
      · rename_i h3
        simp only [Bool.or_eq_true, decide_eq_true_eq] at h2
        refine ⟨h1, by omega, by omega, fun k hk => ?_⟩
        simp only [List.any_eq_true, Bool.not_eq_true'] at h3
        cases hh : F.has k
        · exact absurd ⟨k, hk, hh⟩ h3
        · rfl
  · cases h
theorem netsOk_iff {F : Fld} {xs : List Net} : netsOk F xs = true ↔ F.valid = true ∧ ∀ n ∈ xs, n.fits F = true := by
  rw [netsOk, Bool.and_eq_true, List.all_eq_true]
set_option maxRecDepth 100000 in
set_option maxHeartbeats 4000000 in
theorem netsCode_any (g : Nat) {t : TypeId} (F : Fld) (hF : F.ok) (A : Option Addr) (n : Nat) (xs : List Net) (hx : ∀ x ∈ xs, x.ok) (hl : xs.length ≤ 1048576) (c : Cs) (hc : c.ok) (w : World) (hb : Blk w g t F.cells) (hs : Sl w 4 A xs.length (flat Net.vals xs)) :
    Calls Try.prog 77 #[.pointer (some ⟨g, 0, none⟩), .slice A xs.length n, .agg c.cells] w fun e w' => e = .returned (.int .i64 (ntCode F xs c)) ∧ Mem w w' [] := by
  have M := Lib.hid (Mem.start w)
  have HX := Lib.hid hx
  have HS := Lib.hid hs
  have HB := Lib.hid hb
  have HF := Lib.hid hF
  have HC := Lib.hid hc
  have S1 := Lib.hid (Fld.size hF.toLen)
  have O1 := Lib.hid (Cs.one c)
  have hcl : c.all.length ≤ 100 := c.below_len 100
  clear hx hs hb hF hc
  cases hv : F.valid
  · have HV := Lib.hid hv
    clear hv
    go_enter Try.func77, Try.ntmps77
    go_wp2_with (first
      | ((with_reducible refine gate_dst (N := 3) rfl ?_); go_must (refine M.out.ev_new rfl (by first | (go_simp; done) | (go_simp; rfl)) ?_); intro g3 w3 m; simp only [List.cons_append, List.nil_append] at m; have M := Lib.hid m; clear m)
      | ((with_reducible refine gate_dst (N := 5) rfl ?_); go_must (refine M.out.ev_new rfl (by first | (go_simp; done) | (go_simp; rfl)) ?_); intro g5 w5 m; simp only [List.cons_append, List.nil_append] at m; have M := Lib.hid m; clear m)
      | ((with_reducible refine gate_dst (N := 8) rfl ?_); go_must (refine M.out.ev_ld 0 _ _ rfl rfl rfl Try.underlying69 rfl rfl (by first | assumption | rfl) ?_))
      | ((with_reducible refine gate_dst (N := 28) rfl ?_); go_must (refine M.out.ev_ldw 1 _ _ rfl rfl rfl Try.underlying39 rfl (by first | exact sz39 | (rw [S1.out]; exact sz39) | (rw [S2.out]; exact sz39) | (rw [S3.out]; exact sz39)) rfl ?_))
      | ((with_reducible refine gate_dst (N := 10) rfl ?_); go_must (refine M.out.ev_lda _ _ rfl rfl HB.out Try.underlying35 rfl (by rw [S1.out]; exact sz35) rfl ?_))
      | (go_at_call 90; go_must (refine (ValidField_any F HF.out _).mono ?_); rintro e w_ ⟨rfl, N_⟩; have m := M.out.join N_; clear N_; simp only [List.cons_append, List.nil_append, List.append_nil] at m; have M := Lib.hid m; clear m; rw [HV.out])
      )
    go_ret
    exact ⟨ret_int (by rw [ntCode, netsOk, HV.out]; rfl), M.out.take 0⟩
  · have HV := Lib.hid hv
    clear hv
    cases hn : (xs.any fun n => !n.fits F)
    · have HN := Lib.hid hn
      have HOK := Lib.hid (show netsOk F xs = true by rw [netsOk_bad, HV.out, badNet, hn]; rfl)
      clear hn
      cases h20 : decide ((20 : Int) < (xs.length : Int))
      · have h20' := of_decide_eq_false h20
        cases h12 : decide ((12 : Int) < (c.all.length : Int))
        · have h12' := of_decide_eq_false h12
          cases ht : (c.all.any fun k => !F.has k) <;>
          · have HT := Lib.hid ht
            have HR := Lib.hid (show ntCode F xs c = if (c.all.any fun k => !F.has k) = true then 2 else 0 by rw [ntCode, HOK.out, if_pos rfl, decide_eq_false (by omega : ¬ 20 < xs.length), decide_eq_false (by omega : ¬ 12 < c.all.length)]; rfl)
            clear ht h12' h20'
            go_enter Try.func77, Try.ntmps77
            go_wp2_with (first
              | ((with_reducible refine gate_dst (N := 3) rfl ?_); go_must (refine M.out.ev_new rfl (by first | (go_simp; done) | (go_simp; rfl)) ?_); intro g3 w3 m; simp only [List.cons_append, List.nil_append] at m; have M := Lib.hid m; clear m)
              | ((with_reducible refine gate_dst (N := 5) rfl ?_); go_must (refine M.out.ev_new rfl (by first | (go_simp; done) | (go_simp; rfl)) ?_); intro g5 w5 m; simp only [List.cons_append, List.nil_append] at m; have M := Lib.hid m; clear m)
              | ((with_reducible refine gate_dst (N := 8) rfl ?_); go_must (refine M.out.ev_ld 0 _ _ rfl rfl rfl Try.underlying69 rfl rfl (by first | assumption | rfl) ?_))
              | ((with_reducible refine gate_dst (N := 28) rfl ?_); go_must (refine M.out.ev_ldw 1 _ _ rfl rfl rfl Try.underlying39 rfl (by first | exact sz39 | (rw [S1.out]; exact sz39) | (rw [S2.out]; exact sz39) | (rw [S3.out]; exact sz39)) rfl ?_))
              | ((with_reducible refine gate_dst (N := 10) rfl ?_); go_must (refine M.out.ev_lda _ _ rfl rfl HB.out Try.underlying35 rfl (by rw [S1.out]; exact sz35) rfl ?_))
              | (go_at_call 90; go_must (refine (ValidField_any F HF.out _).mono ?_); rintro e w_ ⟨rfl, N_⟩; have m := M.out.join N_; clear N_; simp only [List.cons_append, List.nil_append, List.append_nil] at m; have M := Lib.hid m; clear m; rw [HV.out])
              | (go_at_call 94; go_must (refine (containsN_any 95 #[.pointer (some ⟨g3, 0, none⟩)] (fun n => !n.fits F) A n xs hl _ (M.out.sl HS.out) (fun _ _ => by go_simp) (fun x hx w1 m1 => calls_caps (netIs_any g g3 F HF.out HV.out x (HX.out x hx) w1 ((M.out.join m1).arg HB.out) ((M.out.join m1).blk 0 rfl)))).mono ?_); rintro e w_ ⟨rfl, N_⟩; have m := M.out.join N_; clear N_; simp only [List.cons_append, List.nil_append, List.append_nil] at m; have M := Lib.hid m; clear m; rw [HN.out])
              | ((with_reducible refine gate_dst (N := 23) rfl ?_); refine gate_want rfl ?_; go_must (refine M.out.ev_ldw 1 _ _ rfl rfl rfl Try.underlying39 rfl sz39 rfl ?_))
              | (go_at_call 96; go_must (refine (CountCells_any c HC.out _).mono ?_); rintro e w_ ⟨rfl, N_⟩; have m := M.out.join N_; clear N_; simp only [List.cons_append, List.nil_append, List.append_nil] at m; have M := Lib.hid m; clear m)
              | (go_at_call 44; go_must (refine (ListOf_any c HC.out _).mono ?_); rintro e w_ ⟨A_, c_, rfl, hc_, N_⟩; have m := M.out.join N_; clear N_; simp only [List.cons_append, List.nil_append, List.append_nil] at m; have M := Lib.hid m; clear m)
              | (go_at_call 87; go_must (refine (contains64_any 97 #[.pointer (some ⟨g3, 0, none⟩)] (fun k => !F.has k) A_ c_ c.all (by omega) _ (M.out.slof 2 rfl) (fun _ _ => by go_simp) (fun k hk w1 m1 => calls_caps (aimIs_any g g3 F HF.out k w1 ((M.out.join m1).arg HB.out) ((M.out.join m1).blk 0 rfl)))).mono ?_); rintro e w_ ⟨rfl, N_⟩; have m := M.out.join N_; clear N_; simp only [List.cons_append, List.nil_append, List.append_nil] at m; have M := Lib.hid m; clear m; rw [HT.out])
              )
            go_ret
            exact ⟨ret_int (by rw [HR.out, HT.out]; rfl), M.out.take 0⟩
        · have h12' := of_decide_eq_true h12
          have HR := Lib.hid (show ntCode F xs c = 3 by rw [ntCode, HOK.out, if_pos rfl, decide_eq_true (by omega : 12 < c.all.length), Bool.or_true]; rfl)
          clear h12' h20'
          go_enter Try.func77, Try.ntmps77
          go_wp2_with (first
            | ((with_reducible refine gate_dst (N := 3) rfl ?_); go_must (refine M.out.ev_new rfl (by first | (go_simp; done) | (go_simp; rfl)) ?_); intro g3 w3 m; simp only [List.cons_append, List.nil_append] at m; have M := Lib.hid m; clear m)
            | ((with_reducible refine gate_dst (N := 5) rfl ?_); go_must (refine M.out.ev_new rfl (by first | (go_simp; done) | (go_simp; rfl)) ?_); intro g5 w5 m; simp only [List.cons_append, List.nil_append] at m; have M := Lib.hid m; clear m)
            | ((with_reducible refine gate_dst (N := 8) rfl ?_); go_must (refine M.out.ev_ld 0 _ _ rfl rfl rfl Try.underlying69 rfl rfl (by first | assumption | rfl) ?_))
            | ((with_reducible refine gate_dst (N := 28) rfl ?_); go_must (refine M.out.ev_ldw 1 _ _ rfl rfl rfl Try.underlying39 rfl (by first | exact sz39 | (rw [S1.out]; exact sz39) | (rw [S2.out]; exact sz39) | (rw [S3.out]; exact sz39)) rfl ?_))
            | ((with_reducible refine gate_dst (N := 10) rfl ?_); go_must (refine M.out.ev_lda _ _ rfl rfl HB.out Try.underlying35 rfl (by rw [S1.out]; exact sz35) rfl ?_))
            | (go_at_call 90; go_must (refine (ValidField_any F HF.out _).mono ?_); rintro e w_ ⟨rfl, N_⟩; have m := M.out.join N_; clear N_; simp only [List.cons_append, List.nil_append, List.append_nil] at m; have M := Lib.hid m; clear m; rw [HV.out])
            | (go_at_call 94; go_must (refine (containsN_any 95 #[.pointer (some ⟨g3, 0, none⟩)] (fun n => !n.fits F) A n xs hl _ (M.out.sl HS.out) (fun _ _ => by go_simp) (fun x hx w1 m1 => calls_caps (netIs_any g g3 F HF.out HV.out x (HX.out x hx) w1 ((M.out.join m1).arg HB.out) ((M.out.join m1).blk 0 rfl)))).mono ?_); rintro e w_ ⟨rfl, N_⟩; have m := M.out.join N_; clear N_; simp only [List.cons_append, List.nil_append, List.append_nil] at m; have M := Lib.hid m; clear m; rw [HN.out])
            | ((with_reducible refine gate_dst (N := 23) rfl ?_); refine gate_want rfl ?_; go_must (refine M.out.ev_ldw 1 _ _ rfl rfl rfl Try.underlying39 rfl sz39 rfl ?_))
            | (go_at_call 96; go_must (refine (CountCells_any c HC.out _).mono ?_); rintro e w_ ⟨rfl, N_⟩; have m := M.out.join N_; clear N_; simp only [List.cons_append, List.nil_append, List.append_nil] at m; have M := Lib.hid m; clear m)
            )
          go_ret
          exact ⟨ret_int HR.out.symm, M.out.take 0⟩
      · have h20' := of_decide_eq_true h20
        have HR := Lib.hid (show ntCode F xs c = 3 by rw [ntCode, HOK.out, if_pos rfl, decide_eq_true (by omega : 20 < xs.length)]; rfl)
        clear h20'
        go_enter Try.func77, Try.ntmps77
        go_wp2_with (first
          | ((with_reducible refine gate_dst (N := 3) rfl ?_); go_must (refine M.out.ev_new rfl (by first | (go_simp; done) | (go_simp; rfl)) ?_); intro g3 w3 m; simp only [List.cons_append, List.nil_append] at m; have M := Lib.hid m; clear m)
          | ((with_reducible refine gate_dst (N := 5) rfl ?_); go_must (refine M.out.ev_new rfl (by first | (go_simp; done) | (go_simp; rfl)) ?_); intro g5 w5 m; simp only [List.cons_append, List.nil_append] at m; have M := Lib.hid m; clear m)
          | ((with_reducible refine gate_dst (N := 8) rfl ?_); go_must (refine M.out.ev_ld 0 _ _ rfl rfl rfl Try.underlying69 rfl rfl (by first | assumption | rfl) ?_))
          | ((with_reducible refine gate_dst (N := 28) rfl ?_); go_must (refine M.out.ev_ldw 1 _ _ rfl rfl rfl Try.underlying39 rfl (by first | exact sz39 | (rw [S1.out]; exact sz39) | (rw [S2.out]; exact sz39) | (rw [S3.out]; exact sz39)) rfl ?_))
          | ((with_reducible refine gate_dst (N := 10) rfl ?_); go_must (refine M.out.ev_lda _ _ rfl rfl HB.out Try.underlying35 rfl (by rw [S1.out]; exact sz35) rfl ?_))
          | (go_at_call 90; go_must (refine (ValidField_any F HF.out _).mono ?_); rintro e w_ ⟨rfl, N_⟩; have m := M.out.join N_; clear N_; simp only [List.cons_append, List.nil_append, List.append_nil] at m; have M := Lib.hid m; clear m; rw [HV.out])
          | (go_at_call 94; go_must (refine (containsN_any 95 #[.pointer (some ⟨g3, 0, none⟩)] (fun n => !n.fits F) A n xs hl _ (M.out.sl HS.out) (fun _ _ => by go_simp) (fun x hx w1 m1 => calls_caps (netIs_any g g3 F HF.out HV.out x (HX.out x hx) w1 ((M.out.join m1).arg HB.out) ((M.out.join m1).blk 0 rfl)))).mono ?_); rintro e w_ ⟨rfl, N_⟩; have m := M.out.join N_; clear N_; simp only [List.cons_append, List.nil_append, List.append_nil] at m; have M := Lib.hid m; clear m; rw [HN.out])
          )
        go_ret
        exact ⟨ret_int HR.out.symm, M.out.take 0⟩
    · have HN := Lib.hid hn
      have HOK := Lib.hid (show netsOk F xs = false by rw [netsOk_bad, HV.out, badNet, hn]; rfl)
      clear hn
      go_enter Try.func77, Try.ntmps77
      go_wp2_with (first
        | ((with_reducible refine gate_dst (N := 3) rfl ?_); go_must (refine M.out.ev_new rfl (by first | (go_simp; done) | (go_simp; rfl)) ?_); intro g3 w3 m; simp only [List.cons_append, List.nil_append] at m; have M := Lib.hid m; clear m)
        | ((with_reducible refine gate_dst (N := 5) rfl ?_); go_must (refine M.out.ev_new rfl (by first | (go_simp; done) | (go_simp; rfl)) ?_); intro g5 w5 m; simp only [List.cons_append, List.nil_append] at m; have M := Lib.hid m; clear m)
        | ((with_reducible refine gate_dst (N := 8) rfl ?_); go_must (refine M.out.ev_ld 0 _ _ rfl rfl rfl Try.underlying69 rfl rfl (by first | assumption | rfl) ?_))
        | ((with_reducible refine gate_dst (N := 28) rfl ?_); go_must (refine M.out.ev_ldw 1 _ _ rfl rfl rfl Try.underlying39 rfl (by first | exact sz39 | (rw [S1.out]; exact sz39) | (rw [S2.out]; exact sz39) | (rw [S3.out]; exact sz39)) rfl ?_))
        | ((with_reducible refine gate_dst (N := 10) rfl ?_); go_must (refine M.out.ev_lda _ _ rfl rfl HB.out Try.underlying35 rfl (by rw [S1.out]; exact sz35) rfl ?_))
        | (go_at_call 90; go_must (refine (ValidField_any F HF.out _).mono ?_); rintro e w_ ⟨rfl, N_⟩; have m := M.out.join N_; clear N_; simp only [List.cons_append, List.nil_append, List.append_nil] at m; have M := Lib.hid m; clear m; rw [HV.out])
        | (go_at_call 94; go_must (refine (containsN_any 95 #[.pointer (some ⟨g3, 0, none⟩)] (fun n => !n.fits F) A n xs hl _ (M.out.sl HS.out) (fun _ _ => by go_simp) (fun x hx w1 m1 => calls_caps (netIs_any g g3 F HF.out HV.out x (HX.out x hx) w1 ((M.out.join m1).arg HB.out) ((M.out.join m1).blk 0 rfl)))).mono ?_); rintro e w_ ⟨rfl, N_⟩; have m := M.out.join N_; clear N_; simp only [List.cons_append, List.nil_append, List.append_nil] at m; have M := Lib.hid m; clear m; rw [HN.out])
        )
      go_ret
      exact ⟨ret_int (by rw [ntCode, HOK.out]; rfl), M.out.take 0⟩
end Go.Proofs.Ytjkclggdaafmaaa
namespace Go.Proofs.Ytjkclggdaafmaaa
set_option linter.unusedSimpArgs false
set_option linter.unusedVariables false
open Go.RowKit
attribute [local go_sem] cell?_mk frozen?_mk
--ONES exact Cs.one _ | exact Net.one _
def Net.snug (n : Net) : Prop := n.plain = true ∧ n.x + n.wide ≤ 10 ∧ n.y + n.high ≤ 10
theorem Net.snug_of {F : Fld} {n : Net} (hv : F.valid = true) (h : n.fits F = true) : n.snug := by
  obtain ⟨⟨_, v1⟩, ⟨_, v3⟩⟩ := Fld.valid_size hv
  simp only [Net.fits, Bool.and_eq_true, decide_eq_true_eq] at h
  exact ⟨h.1, by omega, by omega⟩
set_option maxRecDepth 100000 in
set_option maxHeartbeats 2000000 in
theorem l04Nets_any (g : Nat) {t : TypeId} (F : Fld) (hF : F.ok) (A : Option Addr) (n : Nat) (xs : List Net) (hx : ∀ x ∈ xs, x.ok) (hl : xs.length ≤ 1048576) (w : World) (hb : Blk w g t F.cells) (hs : Sl w 4 A xs.length (flat Net.vals xs)) :
    Calls Try.prog 93 #[.pointer (some ⟨g, 0, none⟩), .slice A xs.length n] w fun e w' => e = .returned (.int .i64 (ntCode F xs Cs.z)) ∧ Mem w w' [] := by
  have M := Lib.hid (Mem.start w)
  have HX := Lib.hid hx
  have HS := Lib.hid hs
  have HB := Lib.hid hb
  have HC := Lib.hid (ntCode_z F xs)
  clear hx hs hb
  cases hv : F.valid
  · have HV := Lib.hid hv
    clear hv
    go_enter Try.func93, Try.ntmps93
    go_wp2_with (first
      | (go_at_call 91; go_must (refine (l01Ok_any g F hF _ HB.out).mono ?_); rintro e w_ ⟨rfl, rfl⟩; rw [HV.out])
      )
    go_ret
    exact ⟨ret_int (by rw [HC.out, netsOk, HV.out]; rfl), M.out⟩
  · have HV := Lib.hid hv
    clear hv
    go_enter Try.func93, Try.ntmps93
    go_wp2_with (first
      | (go_at_call 91; go_must (refine (l01Ok_any g F hF _ HB.out).mono ?_); rintro e w_ ⟨rfl, rfl⟩; rw [HV.out])
      )
    go_loopw [5] (fun v wr => ∃ k : Nat, k ≤ xs.length ∧ v = .int .i64 k ∧ (xs.take k).all (·.fits F) = true ∧ Mem w wr [])
      (fun v _ => xs.length - (intOf v).toNat)
    case atStart => exact ⟨0, by omega, rfl, rfl, M.out⟩
    case round =>
      clear M
      obtain ⟨k, hk, rfl, he, mm⟩ := hrel
      have M := Lib.hid mm
      have HE := Lib.hid he
      clear mm he
      by_cases hlt : k < xs.length
      · obtain ⟨b, off, rfl, hr⟩ := (M.out.sl HS.out).2 (by omega)
        have R := Lib.hid (range_at Net.vl hr (List.getElem?_eq_getElem hlt))
        have i0 : (0 : Int) ≤ (k : Int) := by omega
        have i1 : (k : Int) < (xs.length : Int) := by omega
        clear hr
        cases hp : xs[k].fits F
        · have HP := Lib.hid hp
          clear hp
          go_wp2_with (first
            | ((with_reducible refine gate_dst (N := 19) rfl ?_); go_must (refine ev_ldr _ _ rfl rfl (R.out) Try.underlying65 rfl (by first | exact sz65 | (rw [S1.out]; exact sz65)) rfl ?_))
            | (go_at_call 74; go_must (refine (l04Net_any g F hF HV.out xs[k] (HX.out _ (List.getElem_mem hlt)) _ (M.out.arg HB.out)).mono ?_); rintro e w_ ⟨rfl, N_⟩; have m := M.out.join N_; clear N_; simp only [List.cons_append, List.nil_append, List.append_nil] at m; have M := Lib.hid m; clear m; rw [HP.out])
            )
          go_ret
          refine ⟨ret_int ?_, M.out⟩
          rw [HC.out, if_neg]
          intro h
          have := (netsOk_iff.1 h).2 _ (List.getElem_mem hlt)
          rw [HP.out] at this
          cases this
        · have HP := Lib.hid hp
          clear hp
          go_wp2_with (first
            | ((with_reducible refine gate_dst (N := 19) rfl ?_); go_must (refine ev_ldr _ _ rfl rfl (R.out) Try.underlying65 rfl (by first | exact sz65 | (rw [S1.out]; exact sz65)) rfl ?_))
            | (go_at_call 74; go_must (refine (l04Net_any g F hF HV.out xs[k] (HX.out _ (List.getElem_mem hlt)) _ (M.out.arg HB.out)).mono ?_); rintro e w_ ⟨rfl, N_⟩; have m := M.out.join N_; clear N_; simp only [List.cons_append, List.nil_append, List.append_nil] at m; have M := Lib.hid m; clear m; rw [HP.out])
            )
          refine ⟨⟨k + 1, by omega, by go_num, ?_, M.out⟩, by simp [intOf]; omega⟩
          rw [List.take_succ_eq_append_getElem hlt, List.all_append, HE.out]
          simp [HP.out]
      · obtain rfl : k = xs.length := by omega
        have he := HE.out
        rw [List.take_length] at he
        have HOK := Lib.hid (show netsOk F xs = true by rw [netsOk, HV.out, he]; rfl)
        clear he
        cases h20 : decide ((20 : Int) < (xs.length : Int))
        · have HR := Lib.hid (show ntCode F xs Cs.z = 0 by
            have := of_decide_eq_false h20
            rw [HC.out, HOK.out, if_pos rfl, if_neg (by omega)])
          go_wp2
          go_ret
          exact ⟨ret_int HR.out.symm, M.out⟩
        · have HR := Lib.hid (show ntCode F xs Cs.z = 3 by
            have := of_decide_eq_true h20
            rw [HC.out, HOK.out, if_pos rfl, if_pos (by omega)])
          go_wp2
          go_ret
          exact ⟨ret_int HR.out.symm, M.out⟩
end Go.Proofs.Ytjkclggdaafmaaa
namespace Go.Proofs.Ytjkclggdaafmaaa
set_option linter.unusedSimpArgs false
set_option linter.unusedVariables false
open Go.RowKit
attribute [local go_sem] cell?_mk frozen?_mk

set_option maxRecDepth 100000 in
set_option maxHeartbeats 1000000 in
theorem l01List_any (g : Nat) {t : TypeId} (c : Cs) (hc : c.ok) (w : World) (hb : Blk w g t c.cells) :
    Calls Try.prog 34 #[.pointer (some ⟨g, 0, none⟩)] w (RetRow w 2 1 c.all.length (flat one64 c.all)) := by
  have M := Lib.hid (Mem.start w)
  have HB := Lib.hid hb
  clear hb
  go_enter Try.func34, Try.ntmps34
  go_wp2_with (first
    | ((with_reducible refine gate_dst (N := 5) rfl ?_); go_must (refine M.out.ev_bs0 elem_int64 rfl rfl ?_); intro g5 w5 m; simp only [List.cons_append, List.nil_append] at m; have M := Lib.hid m; clear m)
    )
  go_loopw [3, 4] (fun s v wr => ∃ k : Nat, k ≤ 100 ∧ v = .int .i64 k ∧ Mem w wr [.row s 2 1 (c.below k).length (flat one64 (c.below k))])
    (fun _ v _ => 100 - (intOf v).toNat)
  case atStart => exact ⟨0, by omega, rfl, M.out⟩
  case round =>
    clear M
    obtain ⟨k, hk, rfl, m⟩ := hrel
    have M := Lib.hid m
    clear m
    by_cases hlt : k < 100
    · have hkl := c.below_len k
      cases hq : c.has k
      · have HQ := Lib.hid hq
        clear hq
        go_wp2_with (first
          | (go_at_call 71; go_must (refine (l01Has_any g c hc k hlt _ (M.out.arg HB.out)).mono ?_); rintro e w_ ⟨rfl, rfl⟩; rw [HQ.out])
          )
        refine ⟨⟨k + 1, by omega, by go_num, ?_⟩, by simp [intOf]; omega⟩
        rw [c.below_succ, HQ.out]
        simpa using M.out
      · have HQ := Lib.hid hq
        clear hq
        go_wp2_with (first
          | (go_at_call 71; go_must (refine (l01Has_any g c hc k hlt _ (M.out.arg HB.out)).mono ?_); rintro e w_ ⟨rfl, rfl⟩; rw [HQ.out])
          | ((with_reducible refine gate_dst (N := 15) rfl ?_); go_must (refine M.out.ev_bs1 elem_int64 rfl _ rfl #[.int .i64 k] rfl rfl (by decide) ?_); intro g14 w14 m; simp only [List.cons_append, List.nil_append] at m; have M := Lib.hid m; clear m)
          | ((with_reducible refine gate_dst (N := 16) rfl ?_); go_must (refine M.out.ev_append1 0 1 elem_int64 rfl _ _ rfl rfl rfl rfl rfl rfl (by simp [Value.oneCell']) (by omega) (by decide) ?_); intro v15 w15 m; simp only [List.set_cons_succ, List.set_cons_zero] at m; have M := Lib.hid m; clear m)
          )
        refine ⟨⟨k + 1, by omega, by go_num, ?_⟩, by simp [intOf]; omega⟩
        have m := M.out.take 1
        rw [c.below_succ, HQ.out]
        simpa [flat_append, flat, one64, nat64] using m
    · obtain rfl : k = 100 := by omega
      go_wp2
      obtain ⟨A, cc, rfl, hcc, _⟩ := M.out.row_slice 0 rfl
      go_ret
      exact ⟨A, cc, rfl, hcc, M.out⟩
theorem ntCode_bad {F : Fld} {xs : List Net} (c : Cs) (h : netsOk F xs = false) : ntCode F xs c = 1 := by
  rw [ntCode, h]
  rfl
theorem ntCode_many {F : Fld} {xs : List Net} (c : Cs) (h : netsOk F xs = true) (hl : 20 < xs.length) : ntCode F xs c = 3 := by
  rw [ntCode, h, if_pos rfl, decide_eq_true hl]
  rfl
theorem ntCode_big {F : Fld} {xs : List Net} {c : Cs} (h : netsOk F xs = true) (hl : 12 < c.all.length) : ntCode F xs c = 3 := by
  rw [ntCode, h, if_pos rfl, decide_eq_true hl, Bool.or_true]
  rfl
theorem ntCode_rest {F : Fld} {xs : List Net} {c : Cs} (h : netsOk F xs = true) (h1 : ¬ 20 < xs.length) (h2 : ¬ 12 < c.all.length) : ntCode F xs c = if (c.all.any fun k => !F.has k) = true then 2 else 0 := by
  rw [ntCode, h, if_pos rfl, decide_eq_false h1, decide_eq_false h2]
  rfl
set_option maxRecDepth 100000 in
set_option maxHeartbeats 4000000 in
theorem l04Targets_any (g h : Nat) {t t' : TypeId} (F : Fld) (hF : F.ok) (A : Option Addr) (n : Nat) (xs : List Net) (hx : ∀ x ∈ xs, x.ok) (hl : xs.length ≤ 1048576) (c : Cs) (hc : c.ok) (w : World) (hb : Blk w g t F.cells) (hs : Sl w 4 A xs.length (flat Net.vals xs)) (hcb : Blk w h t' c.cells) :
    Calls Try.prog 73 #[.pointer (some ⟨g, 0, none⟩), .slice A xs.length n, .pointer (some ⟨h, 0, none⟩)] w fun e w' => e = .returned (.int .i64 (ntCode F xs c)) ∧ Mem w w' [] := by
  have M := Lib.hid (Mem.start w)
  have HX := Lib.hid hx
  have HS := Lib.hid hs
  have HB := Lib.hid hb
  have HCB := Lib.hid hcb
  have hcl : c.all.length ≤ 100 := c.below_len 100
  clear hx hs hb hcb
  cases hk : netsOk F xs
  · have HZ := Lib.hid (ntCode_bad (xs := xs) Cs.z hk)
    have HR := Lib.hid (ntCode_bad (xs := xs) c hk)
    clear hk
    go_enter Try.func73, Try.ntmps73
    go_wp2_with (first
      | (go_at_call 93; go_must (refine (l04Nets_any g F hF A n xs HX.out hl _ HB.out HS.out).mono ?_); rintro e w_ ⟨rfl, N_⟩; have m := M.out.join N_; clear N_; simp only [List.cons_append, List.nil_append, List.append_nil] at m; have M := Lib.hid m; clear m; rw [HZ.out])
      )
    go_ret
    exact ⟨ret_int HR.out.symm, M.out⟩
  · have loop : ∀ z r : Int, ntCode F xs Cs.z = z → ntCode F xs c = r → (z = 3 ∧ r = 3) ∨ (z = 0 ∧ 12 < c.all.length ∧ r = 3) ∨ (z = 0 ∧ ¬ 12 < c.all.length ∧ r = if (c.all.any fun k => !F.has k) = true then 2 else 0) := by
      intro z r hz hr
      rw [ntCode_z, hk, if_pos rfl] at hz
      by_cases h20 : 20 < xs.length
      · rw [if_pos h20] at hz
        rw [ntCode_many c hk h20] at hr
        exact .inl ⟨hz.symm, hr.symm⟩
      · rw [if_neg h20] at hz
        by_cases h12 : 12 < c.all.length
        · rw [ntCode_big hk h12] at hr
          exact .inr (.inl ⟨hz.symm, h12, hr.symm⟩)
        · rw [ntCode_rest hk h20 h12] at hr
          exact .inr (.inr ⟨hz.symm, h12, hr.symm⟩)
    obtain ⟨z, hz⟩ : ∃ z, ntCode F xs Cs.z = z := ⟨_, rfl⟩
    obtain ⟨r, hr⟩ : ∃ r, ntCode F xs c = r := ⟨_, rfl⟩
    have hlp := loop z r hz hr
    rw [hr]
    have HZ := Lib.hid hz
    clear loop hz hr hk
    cases h12 : decide ((12 : Int) < (c.all.length : Int))
    all_goals
      rcases hlp with ⟨rfl, hr⟩ | ⟨rfl, h3, hr⟩ | ⟨rfl, h3, hr⟩
    all_goals first
      | (exfalso; have := of_decide_eq_false h12; omega)
      | (exfalso; have := of_decide_eq_true h12; omega)
      | skip
    all_goals
      have HR := Lib.hid hr
      clear hr
      go_enter Try.func73, Try.ntmps73
      go_wp2_with (first
        | (go_at_call 93; go_must (refine (l04Nets_any g F hF A n xs HX.out hl _ HB.out HS.out).mono ?_); rintro e w_ ⟨rfl, N_⟩; have m := M.out.join N_; clear N_; simp only [List.cons_append, List.nil_append, List.append_nil] at m; have M := Lib.hid m; clear m; rw [HZ.out])
        | (go_at_call 34; go_must (refine (l01List_any h c hc _ (M.out.arg HCB.out)).mono ?_); rintro e w_ ⟨A_, c_, rfl, hc_, N_⟩; have m := M.out.join N_; clear N_; simp only [List.cons_append, List.nil_append, List.append_nil] at m; have M := Lib.hid m; clear m)
        )
      go_loopw [7, 9] (fun u v wr => ∃ (k : Nat) (cd : Int), k ≤ c.all.length ∧ v = .int .i64 k ∧ u = .int .i64 cd ∧ ((cd = r ∧ r ≠ 0) ∨ (cd = 0 ∧ ((c.all.take k).any fun k => !F.has k) = false ∧ r = if (c.all.any fun k => !F.has k) = true then 2 else 0)) ∧ Mem w wr [.row (.slice A_ c.all.length c_) 2 1 c.all.length (flat one64 c.all)])
        (fun _ v _ => c.all.length - (intOf v).toNat)
      case atStart =>
        first
          | exact ⟨0, 3, by omega, rfl, rfl, .inl ⟨HR.out.symm, by rw [HR.out]; decide⟩, M.out⟩
          | exact ⟨0, 0, by omega, rfl, rfl, .inr ⟨rfl, rfl, HR.out⟩, M.out⟩
      case round =>
        clear M HR
        obtain ⟨k, cd, hk, rfl, rfl, hd, m⟩ := hrel
        have M := Lib.hid m
        clear m
        rcases hd with ⟨rfl, hr0⟩ | ⟨rfl, hany, hrr⟩
        · cases hL : decide ((k : Int) < (c.all.length : Int))
          all_goals
            go_wp2
          all_goals first
            | (exfalso; have := of_decide_eq_false hL; omega)
            | (exfalso; have := of_decide_eq_true hL; omega)
            | (go_ret
               exact ⟨rfl, M.out.take 0⟩)
        · have HA := Lib.hid hany
          have HRR := Lib.hid hrr
          clear hany hrr
          cases hL : decide ((k : Int) < (c.all.length : Int))
          · have hk2 : k = c.all.length := by have := of_decide_eq_false hL; omega
            have he := HA.out
            rw [hk2, List.take_length] at he
            have HR0 := Lib.hid (show r = 0 by rw [HRR.out, he]; rfl)
            clear he hk2
            go_wp2
            all_goals first
              | (exfalso; have := of_decide_eq_false hL; omega)
              | (go_ret
                 exact ⟨ret_int HR0.out.symm, M.out.take 0⟩)
          · have hlt : k < c.all.length := by have := of_decide_eq_true hL; omega
            obtain ⟨b, off, rfl, hr⟩ := (M.out.slof 0 rfl).2 (by omega)
            have hxk : c.all[k]? = some c.all[k] := List.getElem?_eq_getElem hlt
            have R := range_at one64_len hr hxk
            have HTK := Lib.hid (List.take_succ_eq_append_getElem hlt)
            have HME := Lib.hid (List.getElem_mem hlt)
            obtain ⟨j, hj⟩ : ∃ j, j = c.all[k] := ⟨_, rfl⟩
            rw [← hj] at R HTK HME
            have x0 : wr.cell? ⟨b, off + k, none⟩ = some (.int .i64 j) := by simpa [nat64] using R 0 _ rfl
            have i0 : (0 : Int) ≤ (k : Int) := by omega
            have i1 : (k : Int) < (c.all.length : Int) := by omega
            clear hr hxk R hj
            cases hq : F.has j
            · have HQ := Lib.hid hq
              clear hq
              go_wp2_with (first
                | (go_at_call 92; go_must (refine (l01Is_any g F hF _ _ (M.out.arg HB.out)).mono ?_); rintro e w_ ⟨rfl, rfl⟩; rw [HQ.out])
                )
              all_goals try (exfalso; omega)
              have hr2 : r = 2 := by
                rw [HRR.out, if_pos]
                rw [List.any_eq_true]
                exact ⟨j, HME.out, by rw [HQ.out]; rfl⟩
              exact ⟨⟨k + 1, 2, by omega, by go_num, rfl, .inl ⟨hr2.symm, by rw [hr2]; decide⟩, M.out⟩, by simp [intOf]; omega⟩
            · have HQ := Lib.hid hq
              clear hq
              go_wp2_with (first
                | (go_at_call 92; go_must (refine (l01Is_any g F hF _ _ (M.out.arg HB.out)).mono ?_); rintro e w_ ⟨rfl, rfl⟩; rw [HQ.out])
                )
              all_goals try (exfalso; omega)
              refine ⟨⟨k + 1, 0, by omega, by go_num, rfl, .inr ⟨rfl, ?_, HRR.out⟩, M.out⟩, by simp [intOf]; omega⟩
              rw [HTK.out, List.any_append, HA.out]
              simp [HQ.out]
end Go.Proofs.Ytjkclggdaafmaaa
namespace Go.Proofs.Ytjkclggdaafmaaa
set_option linter.unusedSimpArgs false
set_option linter.unusedVariables false
open Go.RowKit
structure Prices where
  base : Int
  cell : Int
  edge : Int
  deriving DecidableEq
def Prices.vals (x : Prices) : List Value := [.int .i16 x.base, .int .i16 x.cell, .int .i16 x.edge]
theorem Prices.vl (x : Prices) : x.vals.length = 3 := rfl
theorem Prices.one (x : Prices) : x.vals.toArray.all (·.oneCell') = true := by simp [Prices.vals, Value.oneCell']
structure Prices.ok (x : Prices) : Prop where
  base : -32768 ≤ x.base ∧ x.base ≤ 32767
  cell : -32768 ≤ x.cell ∧ x.cell ≤ 32767
  edge : -32768 ≤ x.edge ∧ x.edge ≤ 32767
def Prices.z : Prices := ⟨0, 0, 0⟩
def Prices.ks : List IntKind := [.i16, .i16, .i16]
theorem Prices.of_conf (cs : List Value) (h : Conf Prices.ks cs) : ∃ x : Prices, x.ok ∧ x.vals = cs := by
  obtain ⟨e0, r, rfl, w0, h⟩ := h.cons
  obtain ⟨e1, r, rfl, w1, h⟩ := h.cons
  obtain ⟨e2, r, rfl, w2, h⟩ := h.cons
  obtain rfl := h.nil_eq
  exact ⟨⟨e0, e1, e2⟩, ⟨bounds_i16 w0, bounds_i16 w1, bounds_i16 w2⟩, rfl⟩
end Go.Proofs.Ytjkclggdaafmaaa
