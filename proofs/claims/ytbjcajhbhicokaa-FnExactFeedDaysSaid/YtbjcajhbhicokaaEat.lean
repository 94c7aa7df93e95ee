/- A flock that eats: what it eats; the walks of both. -/
import Derived.Test.YtbjcajhbhicokaaMin
import Derived.Test.YtbjcajhbhicokaaChoice2
namespace Go.Proofs.Ytbjcajhbhicokaa
set_option linter.unusedSimpArgs false
set_option linter.unusedVariables false
open Go.RowKit
attribute [local go_sem] cell?_mk frozen?_mk

def Flock.hunger (x : Flock) : Int := x.birds * x.eats
theorem hunger_small {x : Flock} (h : x.plain = true) : 0 ≤ x.hunger ∧ x.hunger ≤ 4000 := by
  obtain ⟨_, ⟨b0, b1⟩, ⟨e0, e1⟩, _⟩ := Flock.plain_iff.1 h
  refine ⟨Int.mul_nonneg b0 e0, ?_⟩
  have := Int.mul_le_mul b1 e1 e0 (by omega : (0 : Int) ≤ 200)
  unfold Flock.hunger
  omega
def Fld.eatN (F : Fld) (k : Nat) (m : Int) : Int := min m (F.seed k)
def Fld.eat (F : Fld) (k : Nat) (m : Int) : Fld := F.withSeed k (F.seed k - F.eatN k m)
theorem Fld.withSeed_ok {F : Fld} (h : F.ok) (k : Nat) (x : Int) (hx : -32768 ≤ x ∧ x ≤ 32767) : (F.withSeed k x).ok :=
  { toLen := Fld.withSeed_len h.toLen k x, w0 := h.w0, w1 := h.w1, h0 := h.h0, h1 := h.h1, k0 := h.k0,
    s0 := fun y hy => by
      rcases List.mem_or_eq_of_mem_set hy with h1 | h1
      · exact h.s0 y h1
      · rw [h1]; exact hx }
theorem Fld.eat_ok {F : Fld} (h : F.ok) (k : Nat) {m : Int} (hm : 0 ≤ m) (hs : 0 ≤ F.seed k) : (F.eat k m).ok := by
  have := h.sb k
  exact Fld.withSeed_ok h k _ (by unfold Fld.eatN; omega)
set_option maxRecDepth 100000 in
set_option maxHeartbeats 1000000 in
theorem hunger_any (p off : Nat) (x : Flock) (hp : x.plain = true) (w : World) (hx : w.rangeAt p off x.vals) :
    Calls Try.prog 104 #[.pointer (some ⟨p, off, none⟩)] w fun e w' => e = .returned (.int .i64 x.hunger) ∧ Mem w w' [] := by
  have M := Lib.hid (Mem.start w)
  have y1 : w.cell? ⟨p, off + 1, none⟩ = some (.int .i16 x.birds) := hx 1 _ rfl
  have y2 : w.cell? ⟨p, off + 2, none⟩ = some (.int .i16 x.eats) := hx 2 _ rfl
  obtain ⟨_, ⟨b0, b1⟩, ⟨e0, e1⟩, _⟩ := Flock.plain_iff.1 hp
  have w1 : IntKind.i64.wrap x.birds = x.birds := IntWalk.i64_in _ (by omega)
  have w2 : IntKind.i64.wrap x.eats = x.eats := IntWalk.i64_in _ (by omega)
  have hs := hunger_small hp
  have w3 : IntKind.i64.wrap (x.birds * x.eats) = x.birds * x.eats := IntWalk.i64_in _ (by unfold Flock.hunger at hs; omega)
  clear hx hp
  go_enter Try.func104, Try.ntmps104
  go_wp2_with fail
  go_quiet (fail)
  have M := Lib.hid (M.out.drewN nq)
  go_wp2
  go_ret
  exact ⟨ret_int rfl, M.out⟩
set_option maxRecDepth 100000 in
set_option maxHeartbeats 1000000 in
theorem l02Hunger_any (p off : Nat) (x : Flock) (hp : x.plain = true) (w : World) (hx : w.rangeAt p off x.vals) :
    Calls Try.prog 102 #[.pointer (some ⟨p, off, none⟩)] w fun e w' => e = .returned (.int .i64 x.hunger) ∧ Mem w w' [] := by
  have M := Lib.hid (Mem.start w)
  have y1 : w.cell? ⟨p, off + 1, none⟩ = some (.int .i16 x.birds) := hx 1 _ rfl
  have y2 : w.cell? ⟨p, off + 2, none⟩ = some (.int .i16 x.eats) := hx 2 _ rfl
  obtain ⟨_, ⟨b0, b1⟩, ⟨e0, e1⟩, _⟩ := Flock.plain_iff.1 hp
  have w1 : IntKind.i64.wrap x.birds = x.birds := IntWalk.i64_in _ (by omega)
  have w2 : IntKind.i64.wrap x.eats = x.eats := IntWalk.i64_in _ (by omega)
  have hs := hunger_small hp
  have w3 : IntKind.i64.wrap (x.birds * x.eats) = x.birds * x.eats := IntWalk.i64_in _ (by unfold Flock.hunger at hs; omega)
  clear hx hp
  go_enter Try.func102, Try.ntmps102
  go_wp2_with fail
  go_quiet (fail)
  have M := Lib.hid (M.out.drewN nq)
  go_wp2
  go_ret
  exact ⟨ret_int rfl, M.out⟩
set_option maxRecDepth 100000 in
set_option maxHeartbeats 2000000 in
theorem take_any {w0 w : World} {L : List Ent} (i : Nat) (M0 : Mem w0 w L) (g : Nat) {t : TypeId} (F : Fld) (hF : F.ok) (hL : L[i]? = some (.blk g t F.cells)) (k : Nat) (hk : k < 100) (m : Int) (hm : 0 ≤ m) (hs : 0 ≤ F.seed k) :
    Calls Try.prog 105 #[.pointer (some ⟨g, 0, none⟩), .int .i64 k, .int .i64 m] w fun e w' => e = .returned (.int .i64 (F.eatN k m)) ∧ Mem w0 w' (L.set i (.blk g t (F.eat k m).cells)) := by
  have M := Lib.hid M0
  have HL := Lib.hid hL
  have i0 : (0 : Int) ≤ (k : Int) := by omega
  have i1 : (k : Int) < 100 := by omega
  have hsb := hF.sb k
  have c0 := M.out.cell i HL.out (Fld.cellS hF.toLen hk)
  have e1 : IntKind.i64.wrap (F.seed k) = F.seed k := IntWalk.i64_in _ (by omega)
  have SZ := Lib.hid (show 102 + k < F.cells.size by rw [Fld.size hF.toLen]; omega)
  have ST := Lib.hid (Fld.setSeed hF.toLen k (F.seed k - F.eatN k m))
  clear M0 hL
  rcases Int.lt_trichotomy m (F.seed k) with h | h | h
  · have e2 : IntKind.i16.wrap m = m := IntWalk.i16_in _ (by omega)
    have e3 : IntKind.i16.wrap (F.seed k - m) = F.seed k - m := IntWalk.i16_in _ (by omega)
    have HN := Lib.hid (show F.eatN k m = m by unfold Fld.eatN; omega)
    go_enter Try.func105, Try.ntmps105
    go_wp2_with fail
    go_still_tail 12, (by kernel_rfl)
    have M := Lib.hid M.out.drew
    go_wp2_with (first
      | ((with_reducible refine gate_store (x := .tmp 28) rfl ?_); go_must (refine M.out.ev_put i _ _ _ rfl rfl HL.out rfl (.int .i16 (F.seed k - m)) rfl SZ.out sz24 rfl rfl ?_); intro wn mm; have M := Lib.hid mm; clear mm)
      )
    go_ret
    have st := ST.out
    rw [HN.out] at st
    have mm := M.out
    rw [st] at mm
    exact ⟨ret_int HN.out.symm, by rw [Fld.eat, HN.out]; exact mm⟩
  · have e2 : IntKind.i16.wrap (F.seed k) = F.seed k := IntWalk.i16_in _ (by omega)
    have e3 : IntKind.i16.wrap 0 = 0 := by decide
    have HN := Lib.hid (show F.eatN k m = F.seed k by unfold Fld.eatN; omega)
    subst h
    go_enter Try.func105, Try.ntmps105
    go_wp2_with fail
    go_still_tail 12, (by kernel_rfl)
    have M := Lib.hid M.out.drew
    go_wp2_with (first
      | ((with_reducible refine gate_store (x := .tmp 28) rfl ?_); go_must (refine M.out.ev_put i _ _ _ rfl rfl HL.out rfl (.int .i16 0) rfl SZ.out sz24 rfl rfl ?_); intro wn mm; have M := Lib.hid mm; clear mm)
      )
    go_ret
    have st := ST.out
    rw [HN.out, Int.sub_self] at st
    have mm := M.out
    rw [st] at mm
    exact ⟨ret_int HN.out.symm, by rw [Fld.eat, HN.out, Int.sub_self]; exact mm⟩
  · have e2 : IntKind.i16.wrap (F.seed k) = F.seed k := IntWalk.i16_in _ (by omega)
    have e3 : IntKind.i16.wrap 0 = 0 := by decide
    have HN := Lib.hid (show F.eatN k m = F.seed k by unfold Fld.eatN; omega)
    go_enter Try.func105, Try.ntmps105
    go_wp2_with fail
    go_still_tail 12, (by kernel_rfl)
    have M := Lib.hid M.out.drew
    go_wp2_with (first
      | ((with_reducible refine gate_store (x := .tmp 28) rfl ?_); go_must (refine M.out.ev_put i _ _ _ rfl rfl HL.out rfl (.int .i16 0) rfl SZ.out sz24 rfl rfl ?_); intro wn mm; have M := Lib.hid mm; clear mm)
      )
    go_ret
    have st := ST.out
    rw [HN.out, Int.sub_self] at st
    have mm := M.out
    rw [st] at mm
    exact ⟨ret_int HN.out.symm, by rw [Fld.eat, HN.out, Int.sub_self]; exact mm⟩
set_option maxRecDepth 100000 in
set_option maxHeartbeats 2000000 in
theorem l02Eat_any (F : Fld) (hF : F.ok) (k : Nat) (hk : k < 100) (m : Int) (hm : 0 ≤ m) (hs : 0 ≤ F.seed k) (w : World) :
    Calls Try.prog 103 #[.agg F.cells, .int .i64 k, .int .i64 m] w fun e w' => e = .returned (.tuple #[.agg (F.eat k m).cells, .int .i64 (F.eatN k m)]) ∧ Mem w w' [] := by
  have M := Lib.hid (Mem.start w)
  have i0 : (0 : Int) ≤ (k : Int) := by omega
  have i1 : (k : Int) < 100 := by omega
  have hsb := hF.sb k
  have e1 : IntKind.i64.wrap (F.seed k) = F.seed k := IntWalk.i64_in _ (by omega)
  have KC := Lib.hid (Fld.cellS hF.toLen hk)
  have S1 := Lib.hid (Fld.size hF.toLen)
  have SZ := Lib.hid (show 102 + k < F.cells.size by rw [Fld.size hF.toLen]; omega)
  have ST := Lib.hid (Fld.setSeed hF.toLen k (F.seed k - F.eatN k m))
  have S3 := Lib.hid (Fld.size (Fld.eat_ok hF k hm hs).toLen)
  have O1 := Lib.hid (Fld.one (F.eat k m))
  have HN := Lib.hid (show min m (F.seed k) = F.eatN k m from rfl)
  have hn : 0 ≤ F.eatN k m ∧ F.eatN k m ≤ F.seed k := by unfold Fld.eatN; omega
  obtain ⟨N, hN⟩ : ∃ N, N = F.eatN k m := ⟨_, rfl⟩
  have HEQ := Lib.hid (show F.eat k m = F.withSeed k (F.seed k - F.eatN k m) from rfl)
  rw [← hN] at HN hn ST HEQ
  rw [← hN]
  rw [HEQ.out] at S3 O1
  rw [HEQ.out]
  have e2 : IntKind.i16.wrap N = N := IntWalk.i16_in _ (by omega)
  have e3 : IntKind.i16.wrap (F.seed k - N) = F.seed k - N := IntWalk.i16_in _ (by omega)
  clear hN
  go_enter Try.func103, Try.ntmps103
  go_wp2_with (first
    | ((with_reducible refine gate_dst (N := 6) rfl ?_); go_must (refine M.out.ev_new rfl (by first | (go_simp; done) | (go_simp; rfl)) ?_); intro g6 w6 m; simp only [List.cons_append, List.nil_append] at m; have M := Lib.hid m; clear m; have c0 := M.out.cell 0 rfl KC.out)
    | (go_at_call 138; go_must (refine (l00Min_any _ _ _).mono ?_); rintro e w_ ⟨rfl, rfl⟩; rw [HN.out])
    | ((with_reducible refine gate_store (x := .tmp 24) rfl ?_); go_must (refine M.out.ev_put 0 _ _ _ rfl rfl rfl rfl (.int .i16 (F.seed k - N)) rfl SZ.out sz24 rfl rfl ?_); intro wn mm; simp only [List.set_cons_zero, ST.out] at mm; have M := Lib.hid mm; clear mm)
    | ((with_reducible refine gate_dst (N := 3) rfl ?_); go_must (refine M.out.ev_new rfl (by first | (go_simp; done) | (go_simp; rfl)) ?_); intro g3 w3 m; simp only [List.cons_append, List.nil_append] at m; have M := Lib.hid m; clear m)
    | ((with_reducible refine gate_dst (N := 6) rfl ?_); go_must (refine M.out.ev_new rfl (by first | (go_simp; done) | (go_simp; rfl)) ?_); intro g6 w6 m; simp only [List.cons_append, List.nil_append] at m; have M := Lib.hid m; clear m)
    | ((with_reducible refine gate_dst (N := 13) rfl ?_); go_must (refine M.out.ev_ld 0 _ _ rfl rfl rfl Try.underlying24 rfl rfl (by first | assumption | rfl) ?_))
    | ((with_reducible refine gate_dst (N := 19) rfl ?_); go_must (refine M.out.ev_ld 0 _ _ rfl rfl rfl Try.underlying24 rfl rfl (by first | assumption | rfl) ?_))
    | ((with_reducible refine gate_store (x := .tmp 24) rfl ?_); go_must (refine M.out.ev_put 0 _ _ _ rfl rfl rfl rfl (.int _ _) rfl (by first | assumption | exact Fld.lt0 _ | exact Fld.lt1 _ | (simp; done) | (simp only [ints_size]; omega)) sz24 rfl rfl ?_); intro wn m; simp only [List.set_cons_succ, List.set_cons_zero, List.setIfInBounds_toArray] at m; have M := Lib.hid m; clear m)
    | ((with_reducible refine gate_dst (N := 25) rfl ?_); go_must (refine M.out.ev_ldw 0 _ _ rfl rfl rfl Try.underlying35 rfl (by first | exact sz35 | (rw [S1.out]; exact sz35) | (rw [S2.out]; exact sz35) | (rw [S3.out]; exact sz35)) rfl ?_))
    | ((with_reducible refine gate_store (x := .tmp 6) rfl ?_); go_must (refine M.out.ev_stw 1 _ _ _ rfl rfl rfl rfl _ rfl (by first | rfl | (simp only [S1.out]; rfl) | (simp only [S1.out, S2.out]; rfl) | (simp only [S3.out]; rfl) | (simp only [S1.out, S2.out, S3.out]; rfl)) (by first | exact sz35 | (rw [S1.out]; exact sz35) | (rw [S2.out]; exact sz35) | (rw [S3.out]; exact sz35)) (by first | exact ints_one _ _ | exact Fld.one _ | exact O1.out | rfl | (simp [Value.oneCell']; done)) rfl ?_); intro wn m; simp only [List.set_cons_succ, List.set_cons_zero, List.setIfInBounds_toArray] at m; have M := Lib.hid m; clear m)
    )
  refine ret_ct rfl ((M.out.blk 1 rfl).var Try.underlying35 rfl (by rw [S3.out]; exact sz35)) ⟨rfl, M.out.take 0⟩
end Go.Proofs.Ytbjcajhbhicokaa
