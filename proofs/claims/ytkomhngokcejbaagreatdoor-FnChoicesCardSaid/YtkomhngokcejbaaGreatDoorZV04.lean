/- Texts of a proof, laid together: Birds, Fears. -/
import Derived.Test.YtkomhngokcejbaaGreatDoorZV01
import Derived.Test.YtkomhngokcejbaaGreatDoorZV02
namespace Go.Proofs.YtkomhngokcejbaaGreatDoor
set_option linter.unusedSimpArgs false
set_option linter.unusedVariables false
open Go.RowKit
attribute [local go_sem] cell?_mk frozen?_mk

theorem run_index1 {P : Program} (w : World) (t e : TypeId) (n : Nat) (cs : Array Value) (k : Nat) (v : Value) {d : TypeDesc} (h : P.underlying t = some (.array n e)) (hk : k < n) (hs : (P.info? e).map (·.size) = some 1)
    (hu : P.underlying e = some d) (hd : TypeDesc_row d = false) (hv : cs[k]? = some v) : (Instr.index t (.agg cs) (.int .i64 k)).run P w = .ok v w := by
  have hagg : (isAgg e).run P w = .ok false w := by
    unfold isAgg
    rw [Sem.run_bind, run_underlying hu w]
    cases d <;> simp_all [TypeDesc_row]
  have hsz : (sizeOf e).run P w = .ok 1 w := by
    cases hq : P.info? e with
    | none => simp [hq] at hs
    | some i =>
      have : i.size = 1 := by simpa [hq] using hs
      simp [sizeOf, typeInfo, hq, this]
  have hb : (0 : Int) ≤ (k : Int) ∧ (k : Int) < (n : Int) := by omega
  unfold Instr.index
  simp only [asIntOf, Sem.run_bind, Sem.run_pure, Result.andThen_ok, run_underlying h w, if_pos hb, hsz, part, hagg, Nat.mul_one, Int.toNat_natCast, hv]
  rfl
def Flock.nums (b : Flock) : List Int := [b.tree, b.birds, b.eats, b.bold, b.reach, b.taste]
def mosts : List Int := [99, 200, 20, 1000, 200, 2]
def Flock.numOk (b : Flock) (i : Nat) : Bool := inB (gi b.nums i) 0 (gi mosts i)
def Flock.plain (b : Flock) : Bool := (List.range 6).all b.numOk
theorem Flock.plain_eq (b : Flock) : b.plain = (inB b.tree 0 99 && (inB b.birds 0 200 && (inB b.eats 0 20 && (inB b.bold 0 1000 && (inB b.reach 0 200 && inB b.taste 0 2))))) := by
  simp [Flock.plain, Flock.numOk, Flock.nums, mosts, gi, List.range_succ]
theorem Flock.plain_iff {b : Flock} : b.plain = true ↔ (0 ≤ b.tree ∧ b.tree ≤ 99) ∧ (0 ≤ b.birds ∧ b.birds ≤ 200) ∧ (0 ≤ b.eats ∧ b.eats ≤ 20) ∧ (0 ≤ b.bold ∧ b.bold ≤ 1000) ∧ (0 ≤ b.reach ∧ b.reach ≤ 200) ∧ (0 ≤ b.taste ∧ b.taste ≤ 2) := by
  rw [Flock.plain_eq]
  simp [inB_iff]
theorem Flock.plain_of {b : Flock} (h : ∀ j, j < 6 → b.numOk j = true) : b.plain = true := by
  simp only [Flock.plain, List.all_eq_true, List.mem_range]
  exact h
theorem Flock.not_plain {b : Flock} {k : Nat} (hk : k < 6) (h : b.numOk k = false) : b.plain = false := by
  rw [← Bool.not_eq_true]
  intro hv
  simp only [Flock.plain, List.all_eq_true, List.mem_range] at hv
  rw [hv k hk] at h
  cases h
theorem Flock.nums_len (b : Flock) : b.nums.length = 6 := rfl
set_option maxRecDepth 100000 in
set_option maxHeartbeats 2000000 in
theorem numbersOf_any (g : Nat) {t : TypeId} (x : Flock) (hx : x.ok) (w : World) (hb : Blk w g t x.vals.toArray) :
    Calls Tryz.prog 61 #[.pointer (some ⟨g, 0, none⟩)] w fun e w' => e = .returned (.tuple #[.agg (ints .i64 x.nums), .agg (ints .i64 mosts)]) ∧ Mem w w' [] := by
  have M := Lib.hid (Mem.start w)
  have c0 := hb.cellv (i := 0) (v := .int .i16 x.tree) rfl
  have c1 := hb.cellv (i := 1) (v := .int .i16 x.birds) rfl
  have c2 := hb.cellv (i := 2) (v := .int .i16 x.eats) rfl
  have c3 := hb.cellv (i := 3) (v := .int .i16 x.bold) rfl
  have c4 := hb.cellv (i := 4) (v := .int .i16 x.reach) rfl
  have c5 := hb.cellv (i := 5) (v := .int .i8 x.taste) rfl
  have HB := Lib.hid hb
  obtain ⟨a0, a1⟩ := hx.tree
  obtain ⟨b0, b1⟩ := hx.birds
  obtain ⟨d0, d1⟩ := hx.eats
  obtain ⟨f0, f1⟩ := hx.bold
  obtain ⟨h0, h1⟩ := hx.reach
  obtain ⟨i0, i1⟩ := hx.taste
  have e0 : IntKind.i64.wrap x.tree = x.tree := IntWalk.i64_in _ (by omega)
  have e1 : IntKind.i64.wrap x.birds = x.birds := IntWalk.i64_in _ (by omega)
  have e2 : IntKind.i64.wrap x.eats = x.eats := IntWalk.i64_in _ (by omega)
  have e3 : IntKind.i64.wrap x.bold = x.bold := IntWalk.i64_in _ (by omega)
  have e4 : IntKind.i64.wrap x.reach = x.reach := IntWalk.i64_in _ (by omega)
  have e5 : IntKind.i64.wrap x.taste = x.taste := IntWalk.i64_in _ (by omega)
  clear hb hx
  go_enter Tryz.func61, Tryz.ntmps61
  go_wp2_with (first
    | ((with_reducible refine gate_dst (N := 2) rfl ?_); go_must (refine M.out.ev_new rfl (by first | (go_simp; done) | (go_simp; rfl)) ?_); intro g2 w2 m; simp only [List.cons_append, List.nil_append] at m; have M := Lib.hid m; clear m)
    | ((with_reducible refine gate_dst (N := 3) rfl ?_); go_must (refine M.out.ev_new rfl (by first | (go_simp; done) | (go_simp; rfl)) ?_); intro g3 w3 m; simp only [List.cons_append, List.nil_append] at m; have M := Lib.hid m; clear m)
    | ((with_reducible refine gate_store (x := .tmp 2) rfl ?_); go_must (refine M.out.ev_stw 0 _ _ _ rfl rfl rfl rfl _ rfl (by first | rfl | (simp only [S1.out]; rfl) | (simp only [S1.out, S2.out]; rfl) | (simp only [S3.out]; rfl) | (simp only [S1.out, S2.out, S3.out]; rfl)) (by first | exact sz94 | (rw [S1.out]; exact sz94) | (rw [S2.out]; exact sz94) | (rw [S3.out]; exact sz94)) (by first | exact ints_one _ _ | exact Fld.one _ | exact O1.out | rfl | (simp [Value.oneCell']; done)) rfl ?_); intro wn m; simp only [List.set_cons_succ, List.set_cons_zero, List.setIfInBounds_toArray] at m; have M := Lib.hid m; clear m)
    | ((with_reducible refine gate_store (x := .tmp 3) rfl ?_); go_must (refine M.out.ev_stw 1 _ _ _ rfl rfl rfl rfl _ rfl (by first | rfl | (simp only [S1.out]; rfl) | (simp only [S1.out, S2.out]; rfl) | (simp only [S3.out]; rfl) | (simp only [S1.out, S2.out, S3.out]; rfl)) (by first | exact sz94 | (rw [S1.out]; exact sz94) | (rw [S2.out]; exact sz94) | (rw [S3.out]; exact sz94)) (by first | exact ints_one _ _ | exact Fld.one _ | exact O1.out | rfl | (simp [Value.oneCell']; done)) rfl ?_); intro wn m; simp only [List.set_cons_succ, List.set_cons_zero, List.setIfInBounds_toArray] at m; have M := Lib.hid m; clear m)
    )
  refine region_anyH (fun w' => Mem w w' []) (by kernel_rfl) ?_
  have m := M.out.drew
  clear M
  have M := Lib.hid m
  clear m
  apply takeH (i := 0) 4 rfl (by kernel_rfl) (by kernel_rfl) (by kernel_rfl) (fun _ _ _ h => h) rfl (by first | exact M.out | exact M.out.take 0)
  case' hy =>
    refine Or.inl ⟨by first | rfl | (go_simp; done), ?_⟩
    intro w hS
    clear hS
    go_simp
    try with_reducible rfl
  try simp only [Act.put, List.getElem_toArray, List.getElem_cons_succ, List.getElem_cons_zero, List.setIfInBounds_toArray, List.set_cons_succ, List.set_cons_zero]
  apply takeH (i := 1) 5 rfl (by kernel_rfl) (by kernel_rfl) (by kernel_rfl) (fun _ _ _ h => h) rfl (by first | exact M.out | exact M.out.take 0)
  case' hy =>
    refine Or.inl ⟨by first | rfl | (go_simp; done), ?_⟩
    intro w hS
    clear hS
    go_simp
    try with_reducible rfl
  try simp only [Act.put, List.getElem_toArray, List.getElem_cons_succ, List.getElem_cons_zero, List.setIfInBounds_toArray, List.set_cons_succ, List.set_cons_zero]
  apply takeH (i := 2) 6 rfl (by kernel_rfl) (by kernel_rfl) (by kernel_rfl) (fun _ _ _ h => h) rfl (by first | exact M.out | exact M.out.take 0)
  case' hy =>
    refine Or.inl ⟨by first | rfl | (go_simp; done), ?_⟩
    intro w hS
    clear hS
    go_simp
    try with_reducible rfl
  try simp only [Act.put, List.getElem_toArray, List.getElem_cons_succ, List.getElem_cons_zero, List.setIfInBounds_toArray, List.set_cons_succ, List.set_cons_zero]
  apply takeH (i := 3) 7 rfl (by kernel_rfl) (by kernel_rfl) (by kernel_rfl) (fun _ _ _ h => h) rfl (by first | exact M.out | exact M.out.take 0)
  case' hy => exact ylds _ _ rfl rfl Tryz.underlying26 rfl rfl (fun w' hS => (hS.arg HB.out).cellv (i := 0) (v := .int .i16 x.tree) rfl)
  try simp only [Act.put, List.getElem_toArray, List.getElem_cons_succ, List.getElem_cons_zero, List.setIfInBounds_toArray, List.set_cons_succ, List.set_cons_zero]
  apply takeH (i := 4) 8 rfl (by kernel_rfl) (by kernel_rfl) (by kernel_rfl) (fun _ _ _ h => h) rfl (by first | exact M.out | exact M.out.take 0)
  case' hy =>
    refine Or.inl ⟨by first | rfl | (go_simp; done), ?_⟩
    intro w hS
    clear hS
    go_simp
    try with_reducible rfl
  try simp only [Act.put, List.getElem_toArray, List.getElem_cons_succ, List.getElem_cons_zero, List.setIfInBounds_toArray, List.set_cons_succ, List.set_cons_zero]
  apply takeH (i := 5) 9 rfl (by kernel_rfl) (by kernel_rfl) (by kernel_rfl) (fun _ _ _ h => h) rfl (by first | exact M.out | exact M.out.take 0)
  case' hy =>
    refine Or.inl ⟨by first | rfl | (go_simp; done), ?_⟩
    intro w hS
    clear hS
    go_simp
    try with_reducible rfl
  try simp only [Act.put, List.getElem_toArray, List.getElem_cons_succ, List.getElem_cons_zero, List.setIfInBounds_toArray, List.set_cons_succ, List.set_cons_zero]
  apply takeH (i := 6) 10 rfl (by kernel_rfl) (by kernel_rfl) (by kernel_rfl) (fun _ _ _ h => h) rfl (by first | exact M.out | exact M.out.take 0)
  case' hy =>
    refine Or.inl ⟨by first | rfl | (go_simp; done), ?_⟩
    intro w hS
    clear hS
    go_simp
    try with_reducible rfl
  try simp only [Act.put, List.getElem_toArray, List.getElem_cons_succ, List.getElem_cons_zero, List.setIfInBounds_toArray, List.set_cons_succ, List.set_cons_zero]
  apply takeH (i := 7) 11 rfl (by kernel_rfl) (by kernel_rfl) (by kernel_rfl) (fun _ _ _ h => h) rfl (by first | exact M.out | exact M.out.take 0)
  case' hy =>
    refine Or.inl ⟨by first | rfl | (go_simp; done), ?_⟩
    intro w hS
    clear hS
    go_simp
    try with_reducible rfl
  try simp only [Act.put, List.getElem_toArray, List.getElem_cons_succ, List.getElem_cons_zero, List.setIfInBounds_toArray, List.set_cons_succ, List.set_cons_zero]
  apply takeH (i := 8) 12 rfl (by kernel_rfl) (by kernel_rfl) (by kernel_rfl) (fun _ _ _ h => h) rfl (by first | exact M.out | exact M.out.take 0)
  case' hy => exact ylds _ _ rfl rfl Tryz.underlying26 rfl rfl (fun w' hS => (hS.arg HB.out).cellv (i := 1) (v := .int .i16 x.birds) rfl)
  try simp only [Act.put, List.getElem_toArray, List.getElem_cons_succ, List.getElem_cons_zero, List.setIfInBounds_toArray, List.set_cons_succ, List.set_cons_zero]
  apply takeH (i := 9) 13 rfl (by kernel_rfl) (by kernel_rfl) (by kernel_rfl) (fun _ _ _ h => h) rfl (by first | exact M.out | exact M.out.take 0)
  case' hy =>
    refine Or.inl ⟨by first | rfl | (go_simp; done), ?_⟩
    intro w hS
    clear hS
    go_simp
    try with_reducible rfl
  try simp only [Act.put, List.getElem_toArray, List.getElem_cons_succ, List.getElem_cons_zero, List.setIfInBounds_toArray, List.set_cons_succ, List.set_cons_zero]
  apply takeH (i := 10) 14 rfl (by kernel_rfl) (by kernel_rfl) (by kernel_rfl) (fun _ _ _ h => h) rfl (by first | exact M.out | exact M.out.take 0)
  case' hy =>
    refine Or.inl ⟨by first | rfl | (go_simp; done), ?_⟩
    intro w hS
    clear hS
    go_simp
    try with_reducible rfl
  try simp only [Act.put, List.getElem_toArray, List.getElem_cons_succ, List.getElem_cons_zero, List.setIfInBounds_toArray, List.set_cons_succ, List.set_cons_zero]
  apply takeH (i := 11) 15 rfl (by kernel_rfl) (by kernel_rfl) (by kernel_rfl) (fun _ _ _ h => h) rfl (by first | exact M.out | exact M.out.take 0)
  case' hy =>
    refine Or.inl ⟨by first | rfl | (go_simp; done), ?_⟩
    intro w hS
    clear hS
    go_simp
    try with_reducible rfl
  try simp only [Act.put, List.getElem_toArray, List.getElem_cons_succ, List.getElem_cons_zero, List.setIfInBounds_toArray, List.set_cons_succ, List.set_cons_zero]
  apply takeH (i := 12) 16 rfl (by kernel_rfl) (by kernel_rfl) (by kernel_rfl) (fun _ _ _ h => h) rfl (by first | exact M.out | exact M.out.take 0)
  case' hy =>
    refine Or.inl ⟨by first | rfl | (go_simp; done), ?_⟩
    intro w hS
    clear hS
    go_simp
    try with_reducible rfl
  try simp only [Act.put, List.getElem_toArray, List.getElem_cons_succ, List.getElem_cons_zero, List.setIfInBounds_toArray, List.set_cons_succ, List.set_cons_zero]
  apply takeH (i := 13) 17 rfl (by kernel_rfl) (by kernel_rfl) (by kernel_rfl) (fun _ _ _ h => h) rfl (by first | exact M.out | exact M.out.take 0)
  case' hy => exact ylds _ _ rfl rfl Tryz.underlying26 rfl rfl (fun w' hS => (hS.arg HB.out).cellv (i := 2) (v := .int .i16 x.eats) rfl)
  try simp only [Act.put, List.getElem_toArray, List.getElem_cons_succ, List.getElem_cons_zero, List.setIfInBounds_toArray, List.set_cons_succ, List.set_cons_zero]
  apply takeH (i := 14) 18 rfl (by kernel_rfl) (by kernel_rfl) (by kernel_rfl) (fun _ _ _ h => h) rfl (by first | exact M.out | exact M.out.take 0)
  case' hy =>
    refine Or.inl ⟨by first | rfl | (go_simp; done), ?_⟩
    intro w hS
    clear hS
    go_simp
    try with_reducible rfl
  try simp only [Act.put, List.getElem_toArray, List.getElem_cons_succ, List.getElem_cons_zero, List.setIfInBounds_toArray, List.set_cons_succ, List.set_cons_zero]
  apply takeH (i := 15) 19 rfl (by kernel_rfl) (by kernel_rfl) (by kernel_rfl) (fun _ _ _ h => h) rfl (by first | exact M.out | exact M.out.take 0)
  case' hy =>
    refine Or.inl ⟨by first | rfl | (go_simp; done), ?_⟩
    intro w hS
    clear hS
    go_simp
    try with_reducible rfl
  try simp only [Act.put, List.getElem_toArray, List.getElem_cons_succ, List.getElem_cons_zero, List.setIfInBounds_toArray, List.set_cons_succ, List.set_cons_zero]
  apply takeH (i := 16) 20 rfl (by kernel_rfl) (by kernel_rfl) (by kernel_rfl) (fun _ _ _ h => h) rfl (by first | exact M.out | exact M.out.take 0)
  case' hy =>
    refine Or.inl ⟨by first | rfl | (go_simp; done), ?_⟩
    intro w hS
    clear hS
    go_simp
    try with_reducible rfl
  try simp only [Act.put, List.getElem_toArray, List.getElem_cons_succ, List.getElem_cons_zero, List.setIfInBounds_toArray, List.set_cons_succ, List.set_cons_zero]
  apply takeH (i := 17) 21 rfl (by kernel_rfl) (by kernel_rfl) (by kernel_rfl) (fun _ _ _ h => h) rfl (by first | exact M.out | exact M.out.take 0)
  case' hy =>
    refine Or.inl ⟨by first | rfl | (go_simp; done), ?_⟩
    intro w hS
    clear hS
    go_simp
    try with_reducible rfl
  try simp only [Act.put, List.getElem_toArray, List.getElem_cons_succ, List.getElem_cons_zero, List.setIfInBounds_toArray, List.set_cons_succ, List.set_cons_zero]
  apply takeH (i := 18) 22 rfl (by kernel_rfl) (by kernel_rfl) (by kernel_rfl) (fun _ _ _ h => h) rfl (by first | exact M.out | exact M.out.take 0)
  case' hy => exact ylds _ _ rfl rfl Tryz.underlying26 rfl rfl (fun w' hS => (hS.arg HB.out).cellv (i := 3) (v := .int .i16 x.bold) rfl)
  try simp only [Act.put, List.getElem_toArray, List.getElem_cons_succ, List.getElem_cons_zero, List.setIfInBounds_toArray, List.set_cons_succ, List.set_cons_zero]
  apply takeH (i := 19) 23 rfl (by kernel_rfl) (by kernel_rfl) (by kernel_rfl) (fun _ _ _ h => h) rfl (by first | exact M.out | exact M.out.take 0)
  case' hy =>
    refine Or.inl ⟨by first | rfl | (go_simp; done), ?_⟩
    intro w hS
    clear hS
    go_simp
    try with_reducible rfl
  try simp only [Act.put, List.getElem_toArray, List.getElem_cons_succ, List.getElem_cons_zero, List.setIfInBounds_toArray, List.set_cons_succ, List.set_cons_zero]
  apply takeH (i := 20) 24 rfl (by kernel_rfl) (by kernel_rfl) (by kernel_rfl) (fun _ _ _ h => h) rfl (by first | exact M.out | exact M.out.take 0)
  case' hy =>
    refine Or.inl ⟨by first | rfl | (go_simp; done), ?_⟩
    intro w hS
    clear hS
    go_simp
    try with_reducible rfl
  try simp only [Act.put, List.getElem_toArray, List.getElem_cons_succ, List.getElem_cons_zero, List.setIfInBounds_toArray, List.set_cons_succ, List.set_cons_zero]
  apply takeH (i := 21) 25 rfl (by kernel_rfl) (by kernel_rfl) (by kernel_rfl) (fun _ _ _ h => h) rfl (by first | exact M.out | exact M.out.take 0)
  case' hy =>
    refine Or.inl ⟨by first | rfl | (go_simp; done), ?_⟩
    intro w hS
    clear hS
    go_simp
    try with_reducible rfl
  try simp only [Act.put, List.getElem_toArray, List.getElem_cons_succ, List.getElem_cons_zero, List.setIfInBounds_toArray, List.set_cons_succ, List.set_cons_zero]
  apply takeH (i := 22) 26 rfl (by kernel_rfl) (by kernel_rfl) (by kernel_rfl) (fun _ _ _ h => h) rfl (by first | exact M.out | exact M.out.take 0)
  case' hy =>
    refine Or.inl ⟨by first | rfl | (go_simp; done), ?_⟩
    intro w hS
    clear hS
    go_simp
    try with_reducible rfl
  try simp only [Act.put, List.getElem_toArray, List.getElem_cons_succ, List.getElem_cons_zero, List.setIfInBounds_toArray, List.set_cons_succ, List.set_cons_zero]
  apply takeH (i := 23) 27 rfl (by kernel_rfl) (by kernel_rfl) (by kernel_rfl) (fun _ _ _ h => h) rfl (by first | exact M.out | exact M.out.take 0)
  case' hy => exact ylds _ _ rfl rfl Tryz.underlying26 rfl rfl (fun w' hS => (hS.arg HB.out).cellv (i := 4) (v := .int .i16 x.reach) rfl)
  try simp only [Act.put, List.getElem_toArray, List.getElem_cons_succ, List.getElem_cons_zero, List.setIfInBounds_toArray, List.set_cons_succ, List.set_cons_zero]
  apply takeH (i := 24) 28 rfl (by kernel_rfl) (by kernel_rfl) (by kernel_rfl) (fun _ _ _ h => h) rfl (by first | exact M.out | exact M.out.take 0)
  case' hy =>
    refine Or.inl ⟨by first | rfl | (go_simp; done), ?_⟩
    intro w hS
    clear hS
    go_simp
    try with_reducible rfl
  try simp only [Act.put, List.getElem_toArray, List.getElem_cons_succ, List.getElem_cons_zero, List.setIfInBounds_toArray, List.set_cons_succ, List.set_cons_zero]
  apply takeH (i := 25) 29 rfl (by kernel_rfl) (by kernel_rfl) (by kernel_rfl) (fun _ _ _ h => h) rfl (by first | exact M.out | exact M.out.take 0)
  case' hy =>
    refine Or.inl ⟨by first | rfl | (go_simp; done), ?_⟩
    intro w hS
    clear hS
    go_simp
    try with_reducible rfl
  try simp only [Act.put, List.getElem_toArray, List.getElem_cons_succ, List.getElem_cons_zero, List.setIfInBounds_toArray, List.set_cons_succ, List.set_cons_zero]
  apply takeH (i := 26) 30 rfl (by kernel_rfl) (by kernel_rfl) (by kernel_rfl) (fun _ _ _ h => h) rfl (by first | exact M.out | exact M.out.take 0)
  case' hy =>
    refine Or.inl ⟨by first | rfl | (go_simp; done), ?_⟩
    intro w hS
    clear hS
    go_simp
    try with_reducible rfl
  try simp only [Act.put, List.getElem_toArray, List.getElem_cons_succ, List.getElem_cons_zero, List.setIfInBounds_toArray, List.set_cons_succ, List.set_cons_zero]
  apply takeH (i := 27) 31 rfl (by kernel_rfl) (by kernel_rfl) (by kernel_rfl) (fun _ _ _ h => h) rfl (by first | exact M.out | exact M.out.take 0)
  case' hy =>
    refine Or.inl ⟨by first | rfl | (go_simp; done), ?_⟩
    intro w hS
    clear hS
    go_simp
    try with_reducible rfl
  try simp only [Act.put, List.getElem_toArray, List.getElem_cons_succ, List.getElem_cons_zero, List.setIfInBounds_toArray, List.set_cons_succ, List.set_cons_zero]
  apply takeH (i := 28) 32 rfl (by kernel_rfl) (by kernel_rfl) (by kernel_rfl) (fun _ _ _ h => h) rfl (by first | exact M.out | exact M.out.take 0)
  case' hy => exact ylds _ _ rfl rfl Tryz.underlying24 rfl rfl (fun w' hS => (hS.arg HB.out).cellv (i := 5) (v := .int .i8 x.taste) rfl)
  try simp only [Act.put, List.getElem_toArray, List.getElem_cons_succ, List.getElem_cons_zero, List.setIfInBounds_toArray, List.set_cons_succ, List.set_cons_zero]
  apply takeH (i := 29) 33 rfl (by kernel_rfl) (by kernel_rfl) (by kernel_rfl) (fun _ _ _ h => h) rfl (by first | exact M.out | exact M.out.take 0)
  case' hy =>
    refine Or.inl ⟨by first | rfl | (go_simp; done), ?_⟩
    intro w hS
    clear hS
    go_simp
    try with_reducible rfl
  try simp only [Act.put, List.getElem_toArray, List.getElem_cons_succ, List.getElem_cons_zero, List.setIfInBounds_toArray, List.set_cons_succ, List.set_cons_zero]
  apply takeH (i := 30) 34 rfl (by kernel_rfl) (by kernel_rfl) (by kernel_rfl) (fun _ _ _ h => h) rfl (by first | exact M.out | exact M.out.take 0)
  case' hy =>
    refine Or.inl ⟨by first | rfl | (go_simp; done), ?_⟩
    intro w hS
    clear hS
    go_simp
    try with_reducible rfl
  try simp only [Act.put, List.getElem_toArray, List.getElem_cons_succ, List.getElem_cons_zero, List.setIfInBounds_toArray, List.set_cons_succ, List.set_cons_zero]
  apply takeH (i := 31) 35 rfl (by kernel_rfl) (by kernel_rfl) (by kernel_rfl) (fun _ _ _ h => h) rfl (by first | exact M.out | exact M.out.take 0)
  case' hy =>
    refine Or.inl ⟨by first | rfl | (go_simp; done), ?_⟩
    intro w hS
    clear hS
    go_simp
    try with_reducible rfl
  try simp only [Act.put, List.getElem_toArray, List.getElem_cons_succ, List.getElem_cons_zero, List.setIfInBounds_toArray, List.set_cons_succ, List.set_cons_zero]
  refine any1H 32 (by kernel_rfl) rfl (fun K hK => ?_)
  go_wp2_with (first | ((with_reducible refine gate_store (x := .tmp 2) rfl ?_); go_must (refine M.out.ev_stw 0 _ _ _ rfl rfl rfl rfl _ rfl (by first | rfl | (simp only [S1.out]; rfl) | (simp only [S1.out, S2.out]; rfl) | (simp only [S3.out]; rfl) | (simp only [S1.out, S2.out, S3.out]; rfl)) (by first | exact sz94 | (rw [S1.out]; exact sz94) | (rw [S2.out]; exact sz94) | (rw [S3.out]; exact sz94)) (by first | exact ints_one _ _ | exact Fld.one _ | exact O1.out | rfl | (simp [Value.oneCell']; done)) rfl ?_); intro wn m; simp only [List.set_cons_succ, List.set_cons_zero, List.setIfInBounds_toArray] at m; have M := Lib.hid m; clear m) | ((with_reducible refine gate_store (x := .tmp 3) rfl ?_); go_must (refine M.out.ev_stw 1 _ _ _ rfl rfl rfl rfl _ rfl (by first | rfl | (simp only [S1.out]; rfl) | (simp only [S1.out, S2.out]; rfl) | (simp only [S3.out]; rfl) | (simp only [S1.out, S2.out, S3.out]; rfl)) (by first | exact sz94 | (rw [S1.out]; exact sz94) | (rw [S2.out]; exact sz94) | (rw [S3.out]; exact sz94)) (by first | exact ints_one _ _ | exact Fld.one _ | exact O1.out | rfl | (simp [Value.oneCell']; done)) rfl ?_); intro wn m; simp only [List.set_cons_succ, List.set_cons_zero, List.setIfInBounds_toArray] at m; have M := Lib.hid m; clear m))
  refine onward_normal (hK _ _ ⟨(by first | exact M.out | exact M.out.take 0), ?_⟩)
  clear hK K
  try simp only [Act.put, List.getElem_toArray, List.getElem_cons_succ, List.getElem_cons_zero, List.setIfInBounds_toArray, List.set_cons_succ, List.set_cons_zero]
  refine any1H 33 (by kernel_rfl) rfl (fun K hK => ?_)
  go_wp2_with (first | ((with_reducible refine gate_store (x := .tmp 2) rfl ?_); go_must (refine M.out.ev_stw 0 _ _ _ rfl rfl rfl rfl _ rfl (by first | rfl | (simp only [S1.out]; rfl) | (simp only [S1.out, S2.out]; rfl) | (simp only [S3.out]; rfl) | (simp only [S1.out, S2.out, S3.out]; rfl)) (by first | exact sz94 | (rw [S1.out]; exact sz94) | (rw [S2.out]; exact sz94) | (rw [S3.out]; exact sz94)) (by first | exact ints_one _ _ | exact Fld.one _ | exact O1.out | rfl | (simp [Value.oneCell']; done)) rfl ?_); intro wn m; simp only [List.set_cons_succ, List.set_cons_zero, List.setIfInBounds_toArray] at m; have M := Lib.hid m; clear m) | ((with_reducible refine gate_store (x := .tmp 3) rfl ?_); go_must (refine M.out.ev_stw 1 _ _ _ rfl rfl rfl rfl _ rfl (by first | rfl | (simp only [S1.out]; rfl) | (simp only [S1.out, S2.out]; rfl) | (simp only [S3.out]; rfl) | (simp only [S1.out, S2.out, S3.out]; rfl)) (by first | exact sz94 | (rw [S1.out]; exact sz94) | (rw [S2.out]; exact sz94) | (rw [S3.out]; exact sz94)) (by first | exact ints_one _ _ | exact Fld.one _ | exact O1.out | rfl | (simp [Value.oneCell']; done)) rfl ?_); intro wn m; simp only [List.set_cons_succ, List.set_cons_zero, List.setIfInBounds_toArray] at m; have M := Lib.hid m; clear m))
  refine onward_normal (hK _ _ ⟨(by first | exact M.out | exact M.out.take 0), ?_⟩)
  clear hK K
  try simp only [Act.put, List.getElem_toArray, List.getElem_cons_succ, List.getElem_cons_zero, List.setIfInBounds_toArray, List.set_cons_succ, List.set_cons_zero]
  refine wpAnyH_done (by kernel_rfl) ?_ _
  go_wp2
  refine ret_cc rfl ((M.out.blk 0 rfl).var Tryz.underlying94 rfl sz94) ((M.out.blk 1 rfl).var Tryz.underlying94 rfl sz94) ⟨rfl, M.out.take 0⟩
set_option maxRecDepth 100000 in
set_option maxHeartbeats 2000000 in
theorem isPlainF_any (g : Nat) {t : TypeId} (x : Flock) (hx : x.ok) (w : World) (hb : Blk w g t x.vals.toArray) :
    Calls Tryz.prog 63 #[.pointer (some ⟨g, 0, none⟩)] w fun e w' => e = .returned (.bool x.plain) ∧ Mem w w' [] := by
  have M := Lib.hid (Mem.start w)
  have HB := Lib.hid hb
  have S1 := Lib.hid (show (ints .i64 x.nums).size = 6 from rfl)
  have S2 := Lib.hid (show (ints .i64 mosts).size = 6 from rfl)
  clear hb
  go_enter Tryz.func63, Tryz.ntmps63
  go_wp2_with (first
    | ((with_reducible refine gate_dst (N := 3) rfl ?_); go_must (refine M.out.ev_new rfl (by first | (go_simp; done) | (go_simp; rfl)) ?_); intro g3 w3 m; simp only [List.cons_append, List.nil_append] at m; have M := Lib.hid m; clear m)
    | ((with_reducible refine gate_dst (N := 4) rfl ?_); go_must (refine M.out.ev_new rfl (by first | (go_simp; done) | (go_simp; rfl)) ?_); intro g4 w4 m; simp only [List.cons_append, List.nil_append] at m; have M := Lib.hid m; clear m)
    | ((with_reducible refine gate_store (x := .tmp 3) rfl ?_); go_must (refine M.out.ev_stw 0 _ _ _ rfl rfl rfl rfl _ rfl (by first | rfl | (simp only [S1.out]; rfl) | (simp only [S1.out, S2.out]; rfl) | (simp only [S3.out]; rfl) | (simp only [S1.out, S2.out, S3.out]; rfl)) (by first | exact sz94 | (rw [S1.out]; exact sz94) | (rw [S2.out]; exact sz94) | (rw [S3.out]; exact sz94)) (by first | exact ints_one _ _ | exact Fld.one _ | exact O1.out | rfl | (simp [Value.oneCell']; done)) rfl ?_); intro wn m; simp only [List.set_cons_succ, List.set_cons_zero, List.setIfInBounds_toArray] at m; have M := Lib.hid m; clear m)
    | ((with_reducible refine gate_store (x := .tmp 4) rfl ?_); go_must (refine M.out.ev_stw 1 _ _ _ rfl rfl rfl rfl _ rfl (by first | rfl | (simp only [S1.out]; rfl) | (simp only [S1.out, S2.out]; rfl) | (simp only [S3.out]; rfl) | (simp only [S1.out, S2.out, S3.out]; rfl)) (by first | exact sz94 | (rw [S1.out]; exact sz94) | (rw [S2.out]; exact sz94) | (rw [S3.out]; exact sz94)) (by first | exact ints_one _ _ | exact Fld.one _ | exact O1.out | rfl | (simp [Value.oneCell']; done)) rfl ?_); intro wn m; simp only [List.set_cons_succ, List.set_cons_zero, List.setIfInBounds_toArray] at m; have M := Lib.hid m; clear m)
    | ((with_reducible refine gate_dst (N := 12) rfl ?_); go_must (refine M.out.ev_ldw 0 _ _ rfl rfl rfl Tryz.underlying94 rfl (by first | exact sz94 | (rw [S1.out]; exact sz94) | (rw [S2.out]; exact sz94) | (rw [S3.out]; exact sz94)) rfl ?_))
    | ((with_reducible refine gate_dst (N := 20) rfl ?_); go_must (refine M.out.ev_ld 1 _ _ rfl rfl rfl Tryz.underlying2 rfl rfl (by first | assumption | rfl) ?_))
    | (go_at_call 61; go_must (refine (numbersOf_any g x hx _ (M.out.arg HB.out)).mono ?_); rintro e w_ ⟨rfl, N_⟩; have m := M.out.join N_; clear N_; simp only [List.cons_append, List.nil_append, List.append_nil] at m; have M := Lib.hid m; clear m)
    )
  go_loopw [13] (fun v wr => ∃ k : Nat, k ≤ 6 ∧ v = .int .i64 k ∧ (∀ j, j < k → x.numOk j = true) ∧ Mem w wr [.blk g3 94 (ints .i64 x.nums), .blk g4 94 (ints .i64 mosts)])
    (fun v _ => 6 - (intOf v).toNat)
  case atStart => exact ⟨0, by omega, rfl, fun j hj => by omega, M.out⟩
  case round =>
    clear M
    obtain ⟨k, hk, rfl, he, m⟩ := hrel
    have M := Lib.hid m
    have HE := Lib.hid he
    clear m he
    by_cases hlt : k < 6
    · have x0 : (ints .i64 x.nums)[k]? = some (.int .i64 (gi x.nums k)) := ints_at (by rw [Flock.nums_len]; exact hlt)
      have x1 := M.out.cell (j := k) 1 rfl (ints_at (by show k < 6; exact hlt))
      have i0 : (0 : Int) ≤ (k : Int) := by omega
      have i1 : (k : Int) < 6 := by omega
      have hix : ∀ w, (Instr.index 94 (.agg (ints .i64 x.nums)) (.int .i64 k)).run Tryz.prog w = .ok (.int .i64 (gi x.nums k)) w := fun w => run_index1 w _ 2 6 _ k _ Tryz.underlying94 hlt sz2 Tryz.underlying2 rfl x0
      cases hq : x.numOk k
      · have HQ := Lib.hid hq
        have hq2 : inB (gi x.nums k) 0 (gi mosts k) = false := hq
        have HQ2 := Lib.hid hq2
        clear hq hq2
        go_wp2_with (first
          | (go_at_call 94; go_must (refine (within_any _ _ _ _).mono ?_); rintro e w_ ⟨rfl, rfl⟩; rw [HQ2.out])
          )
        go_ret
        exact ⟨ret_bool (Flock.not_plain hlt HQ.out).symm, M.out.take 0⟩
      · have HQ := Lib.hid hq
        have hq2 : inB (gi x.nums k) 0 (gi mosts k) = true := hq
        have HQ2 := Lib.hid hq2
        clear hq hq2
        go_wp2_with (first
          | (go_at_call 94; go_must (refine (within_any _ _ _ _).mono ?_); rintro e w_ ⟨rfl, rfl⟩; rw [HQ2.out])
          )
        exact ⟨⟨k + 1, by omega, by go_num, all_succ HE.out HQ.out, M.out⟩, by simp [intOf]; omega⟩
    · obtain rfl : k = 6 := by omega
      go_wp2
      go_ret
      exact ⟨ret_bool (Flock.plain_of HE.out).symm, M.out.take 0⟩
set_option maxRecDepth 100000 in
set_option maxHeartbeats 2000000 in
theorem l02Plain_any (g off : Nat) (x : Flock) (hx : x.ok) (w : World) (hb : w.rangeAt g off x.vals) :
    Calls Tryz.prog 176 #[.pointer (some ⟨g, off, none⟩)] w fun e w' => e = .returned (.bool (inB x.birds 0 200 && (inB x.eats 0 20 && (inB x.bold 0 1000 && (inB x.reach 0 200 && inB x.taste 0 2))))) ∧ w = w' := by
  have c1 : w.cell? ⟨g, off + 1, none⟩ = some (.int .i16 x.birds) := hb 1 _ rfl
  have c2 : w.cell? ⟨g, off + 2, none⟩ = some (.int .i16 x.eats) := hb 2 _ rfl
  have c3 : w.cell? ⟨g, off + 3, none⟩ = some (.int .i16 x.bold) := hb 3 _ rfl
  have c4 : w.cell? ⟨g, off + 4, none⟩ = some (.int .i16 x.reach) := hb 4 _ rfl
  have c5 : w.cell? ⟨g, off + 5, none⟩ = some (.int .i8 x.taste) := hb 5 _ rfl
  obtain ⟨b0, b1⟩ := hx.birds
  obtain ⟨d0, d1⟩ := hx.eats
  obtain ⟨f0, f1⟩ := hx.bold
  obtain ⟨h0, h1⟩ := hx.reach
  obtain ⟨i0, i1⟩ := hx.taste
  have e1 : IntKind.i64.wrap x.birds = x.birds := IntWalk.i64_in _ (by omega)
  have e2 : IntKind.i64.wrap x.eats = x.eats := IntWalk.i64_in _ (by omega)
  have e3 : IntKind.i64.wrap x.bold = x.bold := IntWalk.i64_in _ (by omega)
  have e4 : IntKind.i64.wrap x.reach = x.reach := IntWalk.i64_in _ (by omega)
  have e5 : IntKind.i64.wrap x.taste = x.taste := IntWalk.i64_in _ (by omega)
  clear hb hx
  cases q1 : inB x.birds 0 200
  · have H1 := Lib.hid q1
    clear q1
    go_enter Tryz.func176, Tryz.ntmps176
    go_wp2_with (first
      | (go_at_call 103; go_must (refine (l00In_any x.birds _ _ _).mono ?_); rintro e w_ ⟨rfl, rfl⟩; rw [H1.out])
      )
    go_ret
    exact ⟨rfl, rfl⟩
  cases q2 : inB x.eats 0 20
  · have H1 := Lib.hid q1
    have H2 := Lib.hid q2
    clear q1 q2
    go_enter Tryz.func176, Tryz.ntmps176
    go_wp2_with (first
      | (go_at_call 103; go_must (refine (l00In_any _ _ _ _).mono ?_); rintro e w_ ⟨rfl, rfl⟩; first | rw [H1.out] | rw [H2.out])
      )
    go_ret
    exact ⟨rfl, rfl⟩
  cases q3 : inB x.bold 0 1000
  · have H1 := Lib.hid q1
    have H2 := Lib.hid q2
    have H3 := Lib.hid q3
    clear q1 q2 q3
    go_enter Tryz.func176, Tryz.ntmps176
    go_wp2_with (first
      | (go_at_call 103; go_must (refine (l00In_any _ _ _ _).mono ?_); rintro e w_ ⟨rfl, rfl⟩; first | rw [H1.out] | rw [H2.out] | rw [H3.out])
      )
    go_ret
    exact ⟨rfl, rfl⟩
  cases q4 : inB x.reach 0 200
  · have H1 := Lib.hid q1
    have H2 := Lib.hid q2
    have H3 := Lib.hid q3
    have H4 := Lib.hid q4
    clear q1 q2 q3 q4
    go_enter Tryz.func176, Tryz.ntmps176
    go_wp2_with (first
      | (go_at_call 103; go_must (refine (l00In_any _ _ _ _).mono ?_); rintro e w_ ⟨rfl, rfl⟩; first | rw [H1.out] | rw [H2.out] | rw [H3.out] | rw [H4.out])
      )
    go_ret
    exact ⟨rfl, rfl⟩
  · have H1 := Lib.hid q1
    have H2 := Lib.hid q2
    have H3 := Lib.hid q3
    have H4 := Lib.hid q4
    clear q1 q2 q3 q4
    go_enter Tryz.func176, Tryz.ntmps176
    go_wp2_with (first
      | (go_at_call 103; go_must (refine (l00In_any _ _ _ _).mono ?_); rintro e w_ ⟨rfl, rfl⟩; first | rw [H1.out] | rw [H2.out] | rw [H3.out] | rw [H4.out] | skip)
      )
    go_ret
    exact ⟨ret_bool (by simp), rfl⟩
/-- Whether a cell has a tree. -/
def Fld.tree (F : Fld) (c : Int) : Bool := F.has c && (F.kind c.toNat == 3)
set_option maxRecDepth 100000 in
set_option maxHeartbeats 1000000 in
theorem l02Tree_any (g : Nat) {t : TypeId} (F : Fld) (hF : F.ok) (c : Int) (w : World) (hb : Blk w g t F.cells) :
    Calls Tryz.prog 133 #[.pointer (some ⟨g, 0, none⟩), .int .i64 c] w fun e w' => e = .returned (.bool (F.tree c)) ∧ w = w' := by
  cases h : F.has c
  · have H := Lib.hid h
    have HB := Lib.hid hb
    clear h hb
    go_enter Tryz.func133, Tryz.ntmps133
    go_wp2_with (first
      | (go_at_call 71; refine (l01Is_any g F hF c _ HB.out).mono ?_; rintro e w' ⟨rfl, rfl⟩; rw [H.out])
      )
    go_ret
    exact ⟨ret_bool (by simp [Fld.tree, H.out]), rfl⟩
  · obtain ⟨⟨c0, c1⟩, _⟩ := Fld.has_iff.1 h
    obtain ⟨k, rfl⟩ : ∃ k : Nat, c = k := ⟨c.toNat, by omega⟩
    have H := Lib.hid h
    have HB := Lib.hid hb
    have hc := hb.cellv (Fld.cellK hF.toLen (k := k) (by omega))
    have kb := hF.kb k
    clear h hb
    go_enter Tryz.func133, Tryz.ntmps133
    go_wp2_with (first
      | (go_at_call 71; refine (l01Is_any g F hF k _ HB.out).mono ?_; rintro e w' ⟨rfl, rfl⟩; rw [H.out])
      )
    go_ret
    exact ⟨ret_bool (by simp [Fld.tree, H.out]), rfl⟩
/-- Whether a flock is valid for a valid field. -/
def Flock.fine (F : Fld) (b : Flock) : Bool := b.plain && F.tree b.tree
theorem Flock.fine_eq (F : Fld) (b : Flock) : b.fine F = ((inB b.birds 0 200 && (inB b.eats 0 20 && (inB b.bold 0 1000 && (inB b.reach 0 200 && inB b.taste 0 2)))) && F.tree b.tree) := by
  rw [Flock.fine, Flock.plain_eq]
  cases h : F.tree b.tree
  · simp
  · have : inB b.tree 0 99 = true := by
      simp only [Fld.tree, Bool.and_eq_true] at h
      have := (Fld.has_iff.1 h.1).1
      exact inB_iff.2 this
    rw [this, Bool.true_and]
set_option maxRecDepth 100000 in
set_option maxHeartbeats 1000000 in
theorem l02Flock_any (g b off : Nat) {t : TypeId} (F : Fld) (hF : F.ok) (x : Flock) (hx : x.ok) (w : World) (hb : Blk w g t F.cells) (hxb : w.rangeAt b off x.vals) :
    Calls Tryz.prog 146 #[.pointer (some ⟨g, 0, none⟩), .pointer (some ⟨b, off, none⟩)] w fun e w' => e = .returned (.bool (x.fine F)) ∧ w = w' := by
  have c0 : w.cell? ⟨b, off, none⟩ = some (.int .i16 x.tree) := hxb 0 _ rfl
  obtain ⟨a0, a1⟩ := hx.tree
  have e0 : IntKind.i64.wrap x.tree = x.tree := IntWalk.i64_in _ (by omega)
  have HB := Lib.hid hb
  have HXB := Lib.hid hxb
  have HE := Lib.hid (Flock.fine_eq F x)
  clear hb hxb
  cases hp : (inB x.birds 0 200 && (inB x.eats 0 20 && (inB x.bold 0 1000 && (inB x.reach 0 200 && inB x.taste 0 2)))) <;>
  · have HP := Lib.hid hp
    clear hp
    go_enter Tryz.func146, Tryz.ntmps146
    go_wp2_with (first
      | (go_at_call 176; go_must (refine (l02Plain_any b off x hx _ HXB.out).mono ?_); rintro e w_ ⟨rfl, rfl⟩; rw [HP.out])
      | (go_at_call 133; go_must (refine (l02Tree_any g F hF _ _ HB.out).mono ?_); rintro e w_ ⟨rfl, rfl⟩)
      )
    go_ret
    exact ⟨ret_bool (by rw [HE.out, HP.out]; simp), rfl⟩
end Go.Proofs.YtkomhngokcejbaaGreatDoor
namespace Go.Proofs.YtkomhngokcejbaaGreatDoor
set_option linter.unusedSimpArgs false
set_option linter.unusedVariables false
open Go.RowKit
attribute [local go_sem] cell?_mk frozen?_mk

/-- Whether one fear is as it must be. -/
def fearAtOk (F : Fld) (fs : List Int) (k : Nat) : Bool := if F.has k = true then inB (gi fs k) 0 1000 else gi fs k == 0
def fearsOk (F : Fld) (fs : List Int) : Bool := (List.range 100).all (fearAtOk F fs)
theorem fearsOk_of {F : Fld} {fs : List Int} (h : ∀ j, j < 100 → fearAtOk F fs j = true) : fearsOk F fs = true := by
  simp only [fearsOk, List.all_eq_true, List.mem_range]
  exact h
theorem not_fearsOk {F : Fld} {fs : List Int} {k : Nat} (hk : k < 100) (h : fearAtOk F fs k = false) : fearsOk F fs = false := by
  rw [← Bool.not_eq_true]
  intro hv
  simp only [fearsOk, List.all_eq_true, List.mem_range] at hv
  rw [hv k hk] at h
  cases h
theorem gi_bound {fs : List Int} (h : ∀ x ∈ fs, -32768 ≤ x ∧ x ≤ 32767) (k : Nat) : -32768 ≤ gi fs k ∧ gi fs k ≤ 32767 := getD_bound h (by omega) k
set_option maxRecDepth 100000 in
set_option maxHeartbeats 1000000 in
theorem areFears_any (g b : Nat) {t tb : TypeId} (F : Fld) (hF : F.ok) (fs : List Int) (hl : fs.length = 100) (hf : ∀ x ∈ fs, -32768 ≤ x ∧ x ≤ 32767) (w : World) (hb : Blk w g t F.cells) (hfb : Blk w b tb (ints .i16 fs)) :
    Calls Tryz.prog 77 #[.pointer (some ⟨g, 0, none⟩), .pointer (some ⟨b, 0, none⟩)] w fun e w' => e = .returned (.bool (fearsOk F fs)) ∧ Mem w w' [] := by
  have M := Lib.hid (Mem.start w)
  have HB := Lib.hid hb
  have HFB := Lib.hid hfb
  have HL := Lib.hid hl
  clear hb hfb hl
  go_enter Tryz.func77, Tryz.ntmps77
  go_wp2
  go_loopw [8] (fun v wr => ∃ k : Nat, k ≤ 100 ∧ v = .int .i64 k ∧ (∀ j, j < k → fearAtOk F fs j = true) ∧ Mem w wr [])
    (fun v _ => 100 - (intOf v).toNat)
  case atStart => exact ⟨0, by omega, rfl, fun j hj => by omega, M.out⟩
  case round =>
    clear M
    obtain ⟨k, hk, rfl, he, m⟩ := hrel
    have M := Lib.hid m
    have HE := Lib.hid he
    clear m he
    by_cases hlt : k < 100
    · have x0 := (M.out.arg HFB.out).cellv (ints_at (k := .i16) (xs := fs) (i := k) (by rw [HL.out]; exact hlt))
      have i0 : (0 : Int) ≤ (k : Int) := by omega
      have i1 : (k : Int) < 100 := by omega
      obtain ⟨b0, b1⟩ := gi_bound hf k
      have e1 : IntKind.i64.wrap (gi fs k) = gi fs k := IntWalk.i64_in _ (by omega)
      cases hi : inB (gi fs k) 0 1000 <;> cases hh : F.has k <;> cases hz : (gi fs k == 0)
      all_goals
        have HI := Lib.hid hi
        have HH := Lib.hid hh
        have HZ := Lib.hid hz
        have hz2 : (gi fs k != 0) = !(gi fs k == 0) := rfl
        rw [hz] at hz2
        simp only [Bool.not_true, Bool.not_false] at hz2
        clear hi hh
        go_wp2_with fail
        go_quiet (fail)
        have M := Lib.hid (M.out.drewN nq)
        go_wp2_with (first
          | (go_at_call 94; go_must (refine (within_any _ _ _ _).mono ?_); rintro e w_ ⟨rfl, rfl⟩; rw [HI.out])
          | (go_at_call 86; go_must (refine (has_any g F hF _ _ (M.out.arg HB.out)).mono ?_); rintro e w_ ⟨rfl, rfl⟩; rw [HH.out])
          )
        first
          | (go_ret
             refine ⟨ret_bool (not_fearsOk hlt ?_).symm, M.out⟩
             simp [fearAtOk, HI.out, HH.out, HZ.out]
             done)
          | (refine ⟨⟨k + 1, by omega, by go_num, all_succ HE.out ?_, M.out⟩, by simp [intOf]; omega⟩
             simp [fearAtOk, HI.out, HH.out, HZ.out]
             done)
          | (exfalso
             have h0 := HI.out
             have h1 := HZ.out
             rw [inB_not] at h0
             rw [beq_iff_eq] at h1
             omega)
    · obtain rfl : k = 100 := by omega
      go_wp2
      go_ret
      exact ⟨ret_bool (fearsOk_of HE.out).symm, M.out⟩
set_option maxRecDepth 100000 in
set_option maxHeartbeats 1000000 in
theorem l02Fears_any (g b : Nat) {t tb : TypeId} (F : Fld) (hF : F.ok) (fs : List Int) (hl : fs.length = 100) (hf : ∀ x ∈ fs, -32768 ≤ x ∧ x ≤ 32767) (w : World) (hb : Blk w g t F.cells) (hfb : Blk w b tb (ints .i16 fs)) :
    Calls Tryz.prog 144 #[.pointer (some ⟨g, 0, none⟩), .pointer (some ⟨b, 0, none⟩)] w fun e w' => e = .returned (.bool (F.valid && fearsOk F fs)) ∧ w = w' := by
  have HB := Lib.hid hb
  have HFB := Lib.hid hfb
  have HL := Lib.hid hl
  clear hb hfb hl
  cases hv : F.valid
  · have HV := Lib.hid hv
    clear hv
    go_enter Tryz.func144, Tryz.ntmps144
    go_wp2_with (first
      | (go_at_call 152; go_must (refine (l01Ok_any g F hF _ HB.out).mono ?_); rintro e w_ ⟨rfl, rfl⟩; rw [HV.out])
      )
    go_ret
    exact ⟨ret_bool (by simp), rfl⟩
  · have HV := Lib.hid hv
    clear hv
    go_enter Tryz.func144, Tryz.ntmps144
    go_wp2_with (first
      | (go_at_call 152; go_must (refine (l01Ok_any g F hF _ HB.out).mono ?_); rintro e w_ ⟨rfl, rfl⟩; rw [HV.out])
      )
    go_loop [5] (fun v => ∃ k : Nat, k ≤ 100 ∧ v = .int .i64 k ∧ (∀ j, j < k → fearAtOk F fs j = true))
      (fun v => 100 - (intOf v).toNat)
    case atStart => exact ⟨0, by omega, rfl, fun j hj => by omega⟩
    case round =>
      obtain ⟨k, hk, rfl, he⟩ := hrel
      have HE := Lib.hid he
      clear he
      by_cases hlt : k < 100
      · have x0 := HFB.out.cellv (ints_at (k := .i16) (xs := fs) (i := k) (by rw [HL.out]; exact hlt))
        have i0 : (0 : Int) ≤ (k : Int) := by omega
        have i1 : (k : Int) < 100 := by omega
        obtain ⟨b0, b1⟩ := gi_bound hf k
        have e1 : IntKind.i64.wrap (gi fs k) = gi fs k := IntWalk.i64_in _ (by omega)
        cases hi : inB (gi fs k) 0 1000 <;> cases hh : F.has k <;> cases hz : (gi fs k == 0)
        all_goals
          have HI := Lib.hid hi
          have HH := Lib.hid hh
          have HZ := Lib.hid hz
          have hz2 : (gi fs k != 0) = !(gi fs k == 0) := rfl
          rw [hz] at hz2
          simp only [Bool.not_true, Bool.not_false] at hz2
          clear hi hh
          go_wp2_with (first
            | (go_at_call 103; go_must (refine (l00In_any _ _ _ _).mono ?_); rintro e w_ ⟨rfl, rfl⟩; rw [HI.out])
            | (go_at_call 71; go_must (refine (l01Is_any g F hF _ _ HB.out).mono ?_); rintro e w_ ⟨rfl, rfl⟩; rw [HH.out])
            )
          first
            | (go_ret
               refine ⟨ret_bool (not_fearsOk hlt ?_).symm, rfl⟩
               simp [fearAtOk, HI.out, HH.out, HZ.out]
               done)
            | (refine ⟨⟨k + 1, by omega, by go_num, all_succ HE.out ?_⟩, by simp [intOf]; omega⟩
               simp [fearAtOk, HI.out, HH.out, HZ.out]
               done)
            | (exfalso
               have h0 := HI.out
               have h1 := HZ.out
               rw [inB_not] at h0
               rw [beq_iff_eq] at h1
               omega)
      · obtain rfl : k = 100 := by omega
        go_wp2
        go_ret
        exact ⟨ret_bool (fearsOk_of HE.out).symm, rfl⟩
end Go.Proofs.YtkomhngokcejbaaGreatDoor
