/- A flock that rests in another tree: the walks of both, and of the law. -/
import Derived.Test.YtbjcajhbhicokaaBirds2
import Derived.Test.YtbjcajhbhicokaaFlockM
namespace Go.Proofs.Ytbjcajhbhicokaa
set_option linter.unusedSimpArgs false
set_option linter.unusedVariables false
open Go.RowKit
attribute [local go_sem] cell?_mk frozen?_mk

set_option maxRecDepth 100000 in
set_option maxHeartbeats 1000000 in
theorem ValidFlocks_any (F : Fld) (hF : F.ok) (A : Option Addr) (n : Nat) (xs : List Flock) (hx : ∀ x ∈ xs, x.ok) (hl : xs.length ≤ 1048576) (w : World) (hs : Sl w 6 A xs.length (flat Flock.vals xs)) :
    Calls Try.prog 98 #[.agg F.cells, .slice A xs.length n] w fun e w' => e = .returned (.bool (F.valid && flocksOk F xs)) ∧ Mem w w' [] := by
  have M := Lib.hid (Mem.start w)
  have HX := Lib.hid hx
  have HS := Lib.hid hs
  have S1 := Lib.hid (Fld.size hF.toLen)
  have O1 := Lib.hid (Fld.one F)
  clear hs hx
  cases hv : F.valid <;>
  · have HV := Lib.hid hv
    clear hv
    go_enter Try.func98, Try.ntmps98
    go_wp2_with (first
      | ((with_reducible refine gate_dst (N := 2) rfl ?_); go_must (refine M.out.ev_new rfl (by first | (go_simp; done) | (go_simp; rfl)) ?_); intro g2 w2 m; simp only [List.cons_append, List.nil_append] at m; have M := Lib.hid m; clear m)
      | ((with_reducible refine gate_dst (N := 5) rfl ?_); go_must (refine M.out.ev_ldw 0 _ _ rfl rfl rfl Try.underlying35 rfl (by first | exact sz35 | (rw [S1.out]; exact sz35) | (rw [S2.out]; exact sz35) | (rw [S3.out]; exact sz35)) rfl ?_))
      | (go_at_call 118; go_must (refine (ValidField_any F hF _).mono ?_); rintro e w_ ⟨rfl, N_⟩; have m := M.out.join N_; clear N_; simp only [List.cons_append, List.nil_append, List.append_nil] at m; have M := Lib.hid m; clear m; rw [HV.out])
      | (go_at_call 120; go_must (refine (areFlocks_any _ F hF A n xs HX.out hl _ (M.out.blk 0 rfl) (M.out.sl HS.out)).mono ?_); rintro e w_ ⟨rfl, N_⟩; have m := M.out.join N_; clear N_; simp only [List.cons_append, List.nil_append, List.append_nil] at m; have M := Lib.hid m; clear m)
      )
    go_ret
    exact ⟨ret_bool (by simp), M.out.take 0⟩
def flIdx (F : Fld) (xs : List Flock) (i : Int) : Bool := (F.valid && flocksOk F xs) && inB i 0 (xs.length - 1)
def flCode (F : Fld) (xs : List Flock) (i : Int) (p : Bool) : Int := if (F.valid && flocksOk F xs) = true then if (inB i 0 (xs.length - 1) && p) = true then 0 else 2 else 1
theorem flCode_0 {F : Fld} {xs : List Flock} {i : Int} {p : Bool} (h : flCode F xs i p = 0) : F.valid = true ∧ flocksOk F xs = true ∧ inB i 0 (xs.length - 1) = true ∧ p = true := by
  unfold flCode at h
  split at h
  · split at h
    · rename_i h1 h2
      rw [Bool.and_eq_true] at h1 h2
      exact ⟨h1.1, h1.2, h2.1, h2.2⟩
    · cases h
  · cases h
set_option maxRecDepth 100000 in
set_option maxHeartbeats 1000000 in
theorem flockCode_any (g : Nat) {t : TypeId} (F : Fld) (hF : F.ok) (A : Option Addr) (n : Nat) (xs : List Flock) (hx : ∀ x ∈ xs, x.ok) (hl : xs.length ≤ 1048576) (i : Int) (f : FuncId) (caps : Array Value) (p : Bool) (w : World) (hb : Blk w g t F.cells) (hs : Sl w 6 A xs.length (flat Flock.vals xs))
    (HF : ∀ (vs : Array Value) (w : World), Sem.run Try.prog (callFunc f vs) w = Result.ok (Next.enter f vs) w)
    (H : flIdx F xs i = true → ∀ w1, Mem w w1 [] → Calls Try.prog f caps w1 fun e w' => e = .returned (.bool p) ∧ Mem w1 w' []) :
    Calls Try.prog 85 #[.pointer (some ⟨g, 0, none⟩), .slice A xs.length n, .int .i64 i, .func (.func f) #[] caps] w fun e w' => e = .returned (.int .i64 (flCode F xs i p)) ∧ Mem w w' [] := by
  have M := Lib.hid (Mem.start w)
  have HX := Lib.hid hx
  have HS := Lib.hid hs
  have HB := Lib.hid hb
  have HH := Lib.hid H
  have S1 := Lib.hid (Fld.size hF.toLen)
  have hc0 := hb.cellv F.cell0
  have e1 : IntKind.i64.wrap ((xs.length : Int) - 1) = (xs.length : Int) - 1 := IntWalk.i64_in _ (by omega)
  clear hs hx hb H
  cases hv : (F.valid && flocksOk F xs)
  · have HV := Lib.hid hv
    clear hv
    go_enter Try.func85, Try.ntmps85
    go_wp2_with (first
      | ((with_reducible refine gate_dst (N := 12) rfl ?_); go_must (refine M.out.ev_lda _ _ rfl rfl HB.out Try.underlying35 rfl (by rw [S1.out]; exact sz35) rfl ?_))
      | (go_at_call 98; go_must (refine (ValidFlocks_any F hF A n xs HX.out hl _ (M.out.sl HS.out)).mono ?_); rintro e w_ ⟨rfl, N_⟩; have m := M.out.join N_; clear N_; simp only [List.cons_append, List.nil_append, List.append_nil] at m; have M := Lib.hid m; clear m; rw [HV.out])
      )
    go_ret
    exact ⟨ret_int (by simp [flCode, HV.out]), M.out.take 0⟩
  · cases hi : inB i 0 (xs.length - 1) <;> cases hp : p <;>
    · have HV := Lib.hid hv
      have HI := Lib.hid hi
      have HP := Lib.hid hp
      have HIX := Lib.hid (show flIdx F xs i = inB i 0 (xs.length - 1) by rw [flIdx, hv]; rfl)
      clear hv hi hp
      go_enter Try.func85, Try.ntmps85
      go_wp2_with (first
        | ((with_reducible refine gate_dst (N := 12) rfl ?_); go_must (refine M.out.ev_lda _ _ rfl rfl HB.out Try.underlying35 rfl (by rw [S1.out]; exact sz35) rfl ?_))
        | (go_at_call 98; go_must (refine (ValidFlocks_any F hF A n xs HX.out hl _ (M.out.sl HS.out)).mono ?_); rintro e w_ ⟨rfl, N_⟩; have m := M.out.join N_; clear N_; simp only [List.cons_append, List.nil_append, List.append_nil] at m; have M := Lib.hid m; clear m; rw [HV.out])
        | (go_at_call 92; go_must (refine (within_any _ _ _ _).mono ?_); rintro e w_ ⟨rfl, rfl⟩; rw [HI.out])
        | (refine (HH.out (by rw [HIX.out, HI.out]) _ M.out).mono ?_; rintro e w_ ⟨rfl, N_⟩; have m := M.out.join N_; clear N_; simp only [List.cons_append, List.nil_append, List.append_nil] at m; have M := Lib.hid m; clear m; rw [HP.out])
        )
      go_ret
      exact ⟨ret_int (by simp [flCode, HV.out, HI.out]), M.out.take 0⟩
set_option maxRecDepth 100000 in
set_option maxHeartbeats 1000000 in
theorem l02Index_any (g : Nat) {t : TypeId} (F : Fld) (hF : F.ok) (A : Option Addr) (n : Nat) (xs : List Flock) (hx : ∀ x ∈ xs, x.ok) (hl : xs.length ≤ 1048576) (i : Int) (w : World) (hb : Blk w g t F.cells) (hs : Sl w 6 A xs.length (flat Flock.vals xs)) :
    Calls Try.prog 82 #[.pointer (some ⟨g, 0, none⟩), .slice A xs.length n, .int .i64 i] w fun e w' => e = .returned (.int .i64 (flCode F xs i true)) ∧ w = w' := by
  have HX := Lib.hid hx
  have HS := Lib.hid hs
  have HB := Lib.hid hb
  have e1 : IntKind.i64.wrap ((xs.length : Int) - 1) = (xs.length : Int) - 1 := IntWalk.i64_in _ (by omega)
  clear hs hx hb
  cases hv : (F.valid && flocksOk F xs) <;> cases hi : inB i 0 (xs.length - 1) <;>
  · have HV := Lib.hid hv
    have HI := Lib.hid hi
    clear hv hi
    go_enter Try.func82, Try.ntmps82
    go_wp2_with (first
      | (go_at_call 95; go_must (refine (l02Ok_any g F hF A n xs HX.out hl _ HB.out HS.out).mono ?_); rintro e w_ ⟨rfl, rfl⟩; rw [HV.out])
      | (go_at_call 90; go_must (refine (l00In_any _ _ _ _).mono ?_); rintro e w_ ⟨rfl, rfl⟩; rw [HI.out])
      )
    go_ret
    exact ⟨ret_int (by simp [flCode, HV.out, HI.out]), rfl⟩
def mvCode (F : Fld) (xs : List Flock) (i c : Int) : Int := if flCode F xs i (F.has c) ≠ 0 then flCode F xs i (F.has c) else if F.kind c.toNat = 3 then 0 else 4
def mvAt (xs : List Flock) (j : Nat) (c : Int) : List Flock := match xs[j]? with | some x => xs.set j { x with tree := c } | none => xs
def mvRes (F : Fld) (xs : List Flock) (i c : Int) : List Flock := if mvCode F xs i c = 0 then mvAt xs i.toNat c else []
theorem mvAt_len (xs : List Flock) (j : Nat) (c : Int) : (mvAt xs j c).length = xs.length := by
  unfold mvAt
  split <;> simp
theorem MoveFlock_small (F : Fld) (xs : List Flock) (i c : Int) (h : xs.length ≤ 1048576) : (mvRes F xs i c).length ≤ 1048576 := by
  unfold mvRes
  split
  · rw [mvAt_len]; exact h
  · simp
set_option maxRecDepth 100000 in
set_option maxHeartbeats 1000000 in
theorem mvIs_any (g h : Nat) {t t' : TypeId} (F : Fld) (hF : F.ok) (c : Int) (w : World) (hb : Blk w g t F.cells) (hc : Blk w h t' #[.int .i64 c]) :
    Calls Try.prog 86 #[.pointer (some ⟨g, 0, none⟩), .pointer (some ⟨h, 0, none⟩)] w fun e w' => e = .returned (.bool (F.has c)) ∧ Mem w w' [] := by
  have M := Lib.hid (Mem.start w)
  have HB := Lib.hid hb
  have hc0 := hc.cellv (i := 0) rfl
  clear hb hc
  go_enter Try.func86, Try.ntmps86
  go_wp2_with (first
    | (go_at_call 87; go_must (refine (has_any g F hF c _ HB.out).mono ?_); rintro e w_ ⟨rfl, rfl⟩)
    )
  go_ret
  exact ⟨rfl, M.out⟩
end Go.Proofs.Ytbjcajhbhicokaa
