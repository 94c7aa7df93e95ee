/- Texts of a proof, laid together: Count, Most. -/
import Derived.Test.YtdnofkngljjbmaaZP15
import Derived.Test.YtdnofkngljjbmaaZP07
import Derived.Laws.Bits128
import Derived.Test.YtdnofkngljjbmaaZP02
import Derived.Test.YtdnofkngljjbmaaZP11
namespace Go.Proofs.Ytdnofkngljjbmaa
set_option linter.unusedSimpArgs false
set_option linter.unusedVariables false
open Go.RowKit
attribute [local go_sem] cell?_mk frozen?_mk

theorem reps : rep 85 8 = 6148914691236517205 ∧ rep 51 8 = 3689348814741910323 ∧ rep 15 8 = 1085102592571150095 := by decide
theorem and_u64_lit (a m : Nat) (ha : a < 18446744073709551616) (hm : m < 18446744073709551616) : bits .and .u64 (a : Int) (m : Int) = ((a &&& m : Nat) : Int) := bits_and_u64_nat a m ha hm
set_option maxRecDepth 100000 in
set_option maxHeartbeats 1000000 in
theorem ones_any (x : Nat) (hx : x < 18446744073709551616) (w : World) :
    Calls Try.prog 141 #[.int .u64 x] w fun e w' => e = .returned (.int .i64 (popN x 64)) ∧ w = w' := by
  obtain ⟨r1, r2, r3⟩ := reps
  obtain ⟨p1, hp1⟩ : ∃ p : Nat, p = (x >>> 1) &&& 6148914691236517205 := ⟨_, rfl⟩
  obtain ⟨p2, hp2⟩ : ∃ p : Nat, p = x &&& 6148914691236517205 := ⟨_, rfl⟩
  obtain ⟨y1, hy1⟩ : ∃ p : Nat, p = p1 + p2 := ⟨_, rfl⟩
  have b1 : p1 ≤ 6148914691236517205 := by rw [hp1]; exact Nat.and_le_right
  have b2 : p2 ≤ 6148914691236517205 := by rw [hp2]; exact Nat.and_le_right
  obtain ⟨p3, hp3⟩ : ∃ p : Nat, p = (y1 >>> 2) &&& 3689348814741910323 := ⟨_, rfl⟩
  obtain ⟨p4, hp4⟩ : ∃ p : Nat, p = y1 &&& 3689348814741910323 := ⟨_, rfl⟩
  obtain ⟨y2, hy2⟩ : ∃ p : Nat, p = p3 + p4 := ⟨_, rfl⟩
  have b3 : p3 ≤ 3689348814741910323 := by rw [hp3]; exact Nat.and_le_right
  have b4 : p4 ≤ 3689348814741910323 := by rw [hp4]; exact Nat.and_le_right
  obtain ⟨z3, hz3⟩ : ∃ p : Nat, p = y2 >>> 4 + y2 := ⟨_, rfl⟩
  obtain ⟨y3, hy3⟩ : ∃ p : Nat, p = z3 &&& 1085102592571150095 := ⟨_, rfl⟩
  have b5 : y3 ≤ 1085102592571150095 := by rw [hy3]; exact Nat.and_le_right
  obtain ⟨y4, hy4⟩ : ∃ p : Nat, p = y3 + y3 >>> 8 := ⟨_, rfl⟩
  obtain ⟨y5, hy5⟩ : ∃ p : Nat, p = y4 + y4 >>> 16 := ⟨_, rfl⟩
  obtain ⟨y6, hy6⟩ : ∃ p : Nat, p = y5 + y5 >>> 32 := ⟨_, rfl⟩
  have hgo : y6 &&& 127 = popN x 64 := by
    rw [← onesGo_eq x hx]
    unfold onesGo s1 s2 s3
    rw [r1, r2, r3, ← hp1, ← hp2, ← hy1, ← hp3, ← hp4, ← hy2, ← hz3, ← hy3]
    show _ = (y3 + y3 >>> 8 + (y3 + y3 >>> 8) >>> 16 + (y3 + y3 >>> 8 + (y3 + y3 >>> 8) >>> 16) >>> 32) &&& 127
    rw [← hy4, ← hy5, ← hy6]
  have hgo2 : y6 % 128 = popN x 64 := by
    rw [← hgo, show (127 : Nat) = 2 ^ 7 - 1 by decide, Nat.and_two_pow_sub_one_eq_mod]
  have k1 : x >>> 1 = x / 2 := by rw [Nat.shiftRight_eq_div_pow]
  have k2 : y1 >>> 2 = y1 / 4 := by rw [Nat.shiftRight_eq_div_pow]
  have k3 : y2 >>> 4 = y2 / 16 := by rw [Nat.shiftRight_eq_div_pow]
  have k4 : y3 >>> 8 = y3 / 256 := by rw [Nat.shiftRight_eq_div_pow]
  have k5 : y4 >>> 16 = y4 / 65536 := by rw [Nat.shiftRight_eq_div_pow]
  have k6 : y5 >>> 32 = y5 / 4294967296 := by rw [Nat.shiftRight_eq_div_pow]
  rw [k1] at hp1
  rw [k2] at hp3
  rw [k3] at hz3
  rw [k4] at hy4
  rw [k5] at hy5
  rw [k6] at hy6
  have f1 : bits .and .u64 ((x : Int) / 2) 6148914691236517205 = (p1 : Int) := by
    rw [hp1]; exact and_u64_lit (x / 2) 6148914691236517205 (by omega) (by decide)
  have f2 : bits .and .u64 (x : Int) 6148914691236517205 = (p2 : Int) := by
    rw [hp2]; exact and_u64_lit x 6148914691236517205 hx (by decide)
  have f3 : IntKind.u64.wrap ((p1 : Int) + (p2 : Int)) = (y1 : Int) := by
    rw [IntWalk.u64_in _ (by omega)]; omega
  have f4 : bits .and .u64 ((y1 : Int) / 4) 3689348814741910323 = (p3 : Int) := by
    rw [hp3]; exact and_u64_lit (y1 / 4) 3689348814741910323 (by omega) (by decide)
  have f5 : bits .and .u64 (y1 : Int) 3689348814741910323 = (p4 : Int) := by
    rw [hp4]; exact and_u64_lit y1 3689348814741910323 (by omega) (by decide)
  have f6 : IntKind.u64.wrap ((p3 : Int) + (p4 : Int)) = (y2 : Int) := by
    rw [IntWalk.u64_in _ (by omega)]; omega
  have f7 : IntKind.u64.wrap ((y2 : Int) / 16 + (y2 : Int)) = (z3 : Int) := by
    rw [IntWalk.u64_in _ (by omega)]; omega
  have f8 : bits .and .u64 (z3 : Int) 1085102592571150095 = (y3 : Int) := by
    rw [hy3]; exact and_u64_lit z3 1085102592571150095 (by omega) (by decide)
  have f9 : IntKind.u64.wrap ((y3 : Int) + (y3 : Int) / 256) = (y4 : Int) := by
    rw [IntWalk.u64_in _ (by omega)]; omega
  have f10 : IntKind.u64.wrap ((y4 : Int) + (y4 : Int) / 65536) = (y5 : Int) := by
    rw [IntWalk.u64_in _ (by omega)]; omega
  have f11 : IntKind.u64.wrap ((y5 : Int) + (y5 : Int) / 4294967296) = (y6 : Int) := by
    rw [IntWalk.u64_in _ (by omega)]; omega
  have f12 : IntKind.i64.wrap (y6 : Int) = (y6 : Int) := IntWalk.i64_in _ (by omega)
  have f13 : bits .and .i64 (y6 : Int) 127 = (popN x 64 : Int) := by
    rw [i64_and127]; omega
  clear hp1 hp2 hp3 hp4 hy1 hy2 hz3 hy3 hy4 hy5 hy6 hgo hgo2 k1 k2 k3 k4 k5 k6 r1 r2 r3
  go_enter Try.func141, Try.ntmps141
  go_wp2
  go_ret
  exact ⟨rfl, rfl⟩
set_option maxRecDepth 100000 in
set_option maxHeartbeats 1000000 in
theorem CountCells_any (c : Cs) (hc : c.ok) (w : World) :
    Calls Try.prog 145 #[.agg c.cells] w fun e w' => e = .returned (.int .i64 c.all.length) ∧ Mem w w' [] := by
  have M := Lib.hid (Mem.start w)
  have O1 := Lib.hid (Cs.one c.cut)
  have hcut : c.cut.lo = c.lo := rfl
  have hcut2 : c.cut.hi = c.hi &&& 68719476735 := rfl
  have hl := hc.l
  have hh : c.cut.hi < 18446744073709551616 := and64 hc.h
  have q1 := pop_le c.cut.lo 64
  have q2 := pop_le c.cut.hi 64
  have e1 : IntKind.i64.wrap ((popN c.cut.lo 64 : Int) + (popN c.cut.hi 64 : Int)) = (c.all.length : Int) := by
    have hall : c.all.length = popN c.cut.lo 64 + popN c.cut.hi 64 := by rw [all_count, hcut2, popN_cut, hcut]
    rw [IntWalk.i64_in _ (by omega), hall]
    omega
  clear hcut hcut2
  go_enter Try.func145, Try.ntmps145
  go_wp2_with (first
    | ((with_reducible refine gate_dst (N := 1) rfl ?_); go_must (refine M.out.ev_new rfl (by first | (go_simp; done) | (go_simp; rfl)) ?_); intro g1 w1 m; simp only [List.cons_append, List.nil_append] at m; have M := Lib.hid m; clear m)
    | ((with_reducible refine gate_dst (N := 3) rfl ?_); go_must (refine M.out.ev_ldw 0 _ _ rfl rfl rfl Try.underlying56 rfl (by first | exact sz56 | (rw [S1.out]; exact sz56) | (rw [S2.out]; exact sz56) | (rw [S3.out]; exact sz56)) rfl ?_))
    | ((with_reducible refine gate_store (x := .tmp 1) rfl ?_); go_must (refine M.out.ev_stw 0 _ _ _ rfl rfl rfl rfl _ rfl (by first | rfl | (simp only [S1.out]; rfl) | (simp only [S1.out, S2.out]; rfl) | (simp only [S3.out]; rfl) | (simp only [S1.out, S2.out, S3.out]; rfl)) (by first | exact sz56 | (rw [S1.out]; exact sz56) | (rw [S2.out]; exact sz56) | (rw [S3.out]; exact sz56)) (by first | exact ints_one _ _ | exact Fld.one _ | exact O1.out | rfl | (simp [Value.oneCell']; done)) rfl ?_); intro wn m; simp only [List.set_cons_succ, List.set_cons_zero, List.setIfInBounds_toArray] at m; have M := Lib.hid m; clear m)
    | ((with_reducible refine gate_dst (N := 6) rfl ?_); go_must (refine M.out.ev_ld 0 _ _ rfl rfl rfl Try.underlying54 rfl rfl (by first | assumption | rfl) ?_))
    | ((with_reducible refine gate_dst (N := 9) rfl ?_); go_must (refine M.out.ev_ld 0 _ _ rfl rfl rfl Try.underlying54 rfl rfl (by first | assumption | rfl) ?_))
    | (go_at_call 110; go_must (refine (cut_any c hc _).mono ?_); rintro e w_ ⟨rfl, N_⟩; have m := M.out.join N_; clear N_; simp only [List.cons_append, List.nil_append, List.append_nil] at m; have M := Lib.hid m; clear m)
    )
  refine region_anyH (fun w' => Mem w w' [.blk g1 56 c.cut.cells]) (by kernel_rfl) ?_
  have m := M.out.drew
  clear M
  have M := Lib.hid m
  clear m
  apply takeH (i := 0) 5 rfl (by kernel_rfl) (by kernel_rfl) (by kernel_rfl) (fun _ _ _ h => h) rfl (by first | exact M.out | exact M.out.take 1)
  case' hy =>
    refine Or.inl ⟨by first | rfl | (go_simp; done), ?_⟩
    intro w hS
    clear hS
    go_simp
    try with_reducible rfl
  try simp only [Act.put, List.getElem_toArray, List.getElem_cons_succ, List.getElem_cons_zero, List.setIfInBounds_toArray, List.set_cons_succ, List.set_cons_zero]
  apply takeH (i := 1) 6 rfl (by kernel_rfl) (by kernel_rfl) (by kernel_rfl) (fun _ _ _ h => h) rfl (by first | exact M.out | exact M.out.take 1)
  case' hy => exact ylds _ _ rfl rfl Try.underlying54 rfl rfl (fun w' hS => hS.cell (j := 0) (v := .int .u64 c.cut.lo) 0 rfl rfl)
  try simp only [Act.put, List.getElem_toArray, List.getElem_cons_succ, List.getElem_cons_zero, List.setIfInBounds_toArray, List.set_cons_succ, List.set_cons_zero]
  apply takeH (i := 3) 8 rfl (by kernel_rfl) (by kernel_rfl) (by kernel_rfl) (fun _ _ _ h => h) rfl (by first | exact M.out | exact M.out.take 1)
  case' hy =>
    refine Or.inl ⟨by first | rfl | (go_simp; done), ?_⟩
    intro w hS
    clear hS
    go_simp
    try with_reducible rfl
  try simp only [Act.put, List.getElem_toArray, List.getElem_cons_succ, List.getElem_cons_zero, List.setIfInBounds_toArray, List.set_cons_succ, List.set_cons_zero]
  apply takeH (i := 4) 9 rfl (by kernel_rfl) (by kernel_rfl) (by kernel_rfl) (fun _ _ _ h => h) rfl (by first | exact M.out | exact M.out.take 1)
  case' hy => exact ylds _ _ rfl rfl Try.underlying54 rfl rfl (fun w' hS => hS.cell (j := 1) (v := .int .u64 c.cut.hi) 0 rfl rfl)
  try simp only [Act.put, List.getElem_toArray, List.getElem_cons_succ, List.getElem_cons_zero, List.setIfInBounds_toArray, List.set_cons_succ, List.set_cons_zero]
  refine any1H 2 (by kernel_rfl) rfl (fun K hK => ?_)
  go_wp2_with (first | ((with_reducible refine gate_dst (N := 6) rfl ?_); go_must (refine M.out.ev_ld 0 _ _ rfl rfl rfl Try.underlying54 rfl rfl (by first | assumption | rfl) ?_)) | ((with_reducible refine gate_dst (N := 9) rfl ?_); go_must (refine M.out.ev_ld 0 _ _ rfl rfl rfl Try.underlying54 rfl rfl (by first | assumption | rfl) ?_)) | (go_at_call 141; go_must (first | (refine Calls.mono (calls_args (by with_reducible rfl) (ones_any c.cut.lo hl _)) ?_) | (refine Calls.mono (calls_args (by with_reducible rfl) (ones_any c.cut.hi hh _)) ?_)); rintro e w_ ⟨rfl, rfl⟩))
  refine onward_normal (hK _ _ ⟨(by first | exact M.out | exact M.out.take 1), ?_⟩)
  clear hK K
  try simp only [Act.put, List.getElem_toArray, List.getElem_cons_succ, List.getElem_cons_zero, List.setIfInBounds_toArray, List.set_cons_succ, List.set_cons_zero]
  refine any1H 5 (by kernel_rfl) rfl (fun K hK => ?_)
  go_wp2_with (first | ((with_reducible refine gate_dst (N := 6) rfl ?_); go_must (refine M.out.ev_ld 0 _ _ rfl rfl rfl Try.underlying54 rfl rfl (by first | assumption | rfl) ?_)) | ((with_reducible refine gate_dst (N := 9) rfl ?_); go_must (refine M.out.ev_ld 0 _ _ rfl rfl rfl Try.underlying54 rfl rfl (by first | assumption | rfl) ?_)) | (go_at_call 141; go_must (first | (refine Calls.mono (calls_args (by with_reducible rfl) (ones_any c.cut.lo hl _)) ?_) | (refine Calls.mono (calls_args (by with_reducible rfl) (ones_any c.cut.hi hh _)) ?_)); rintro e w_ ⟨rfl, rfl⟩))
  refine onward_normal (hK _ _ ⟨(by first | exact M.out | exact M.out.take 1), ?_⟩)
  clear hK K
  try simp only [Act.put, List.getElem_toArray, List.getElem_cons_succ, List.getElem_cons_zero, List.setIfInBounds_toArray, List.set_cons_succ, List.set_cons_zero]
  apply takeH (i := 6) 11 rfl (by kernel_rfl) (by kernel_rfl) (by kernel_rfl) (fun _ _ _ h => h) rfl (by first | exact M.out | exact M.out.take 1)
  case' hy =>
    refine Or.inl ⟨by first | rfl | (go_simp; done), ?_⟩
    intro w hS
    clear hS
    go_simp
    try with_reducible rfl
  try simp only [Act.put, List.getElem_toArray, List.getElem_cons_succ, List.getElem_cons_zero, List.setIfInBounds_toArray, List.set_cons_succ, List.set_cons_zero]
  apply takeH (i := 7) 2 rfl (by kernel_rfl) (by kernel_rfl) (by kernel_rfl) (fun _ _ _ h => h) rfl (by first | exact M.out | exact M.out.take 1)
  case' hy =>
    refine Or.inl ⟨by first | rfl | (go_simp; done), ?_⟩
    intro w hS
    clear hS
    go_simp
    try with_reducible rfl
  try simp only [Act.put, List.getElem_toArray, List.getElem_cons_succ, List.getElem_cons_zero, List.setIfInBounds_toArray, List.set_cons_succ, List.set_cons_zero]
  refine wpAnyH_done (by kernel_rfl) ?_ _
  all_goals
    go_wp2
    go_ret
    exact ⟨rfl, M.out.take 0⟩
end Go.Proofs.Ytdnofkngljjbmaa
namespace Go.Proofs.Ytdnofkngljjbmaa
set_option linter.unusedSimpArgs false
set_option linter.unusedVariables false
open Go.RowKit
attribute [local go_sem] cell?_mk frozen?_mk

section
variable {P : Program} {ops : Array Oper} {rest : List Oper} {o : Oper} {a : Act} {w0 w : World} {Q : Exit → Act → World → Prop} {L : List Ent}
/-- []T{x}, as a row of one's own. -/
theorem Mem.ev_bs1r (M : Mem w0 w L) {T e : TypeId} {zv : Value} {bytes : Nat} (E : ElemOk P T e zv 1 bytes) (hgd : o.guard = none) (x : Operand) (ho : o.op = .buildSlice T 1 #[(0, x)])
    (u : Value) (hx : a.eval x = u) (hu : u.cells = #[u])
    (h : ∀ g w1, Mem w0 w1 (L ++ [.row (.slice (some ⟨g, 0, none⟩) 1 1) e 1 1 [u]]) → wpList P ops Q rest (a.put o.dst (.slice (some ⟨g, 0, none⟩) 1 1)) w1) : wpList P ops Q (o :: rest) a w := by
  obtain ⟨i, hi, h1, h2, h3⟩ := E.get
  refine wpList_buildSlice hgd T e 1 _ ho #[u] i zv E.sl hi h1 (by rw [h2]; omega) (by rw [h2]; omega) ?_ ?_
  · have hc : (a.eval x).cells.size = i.size := by rw [hx, hu, h2]; rfl
    have := Great.fill_whole (s := i.size) (by omega) [a.eval x] ((Array.range (1 * i.size)).map (zv.cells[· % zv.cells.size]!)) (by simpa using hc) (by simp)
    simpa [hx, hu] using this
  · refine h _ _ (M.push _ ((Below.refl _ _).alloc (Nat.le_refl _) _) ⟨rfl, .inr ⟨w.heap.size, 1, #[u], rfl, M.size, heap_alloc_new w _, Nat.le_refl _, by unfold maxLen; omega, rfl, rfl⟩⟩ fun k hk => ?_)
    simp only [Ent.place, Value.ownBlock, Option.some.injEq] at hk
    omega
end
theorem and6 {a b : Nat} (ha : a < 64) (hb : b < 64) : bits .and .i64 (a : Int) (b : Int) = ((a &&& b : Nat) : Int) := by
  have : ∀ a : Fin 64, ∀ b : Fin 64, bits .and .i64 ((a.val : Nat) : Int) ((b.val : Nat) : Int) = ((a.val &&& b.val : Nat) : Int) := by decide +kernel
  exact this ⟨a, ha⟩ ⟨b, hb⟩
theorem or6 {a b : Nat} (ha : a < 64) (hb : b < 64) : bits .or .i64 (a : Int) (b : Int) = ((a ||| b : Nat) : Int) := by
  have : ∀ a : Fin 64, ∀ b : Fin 64, bits .or .i64 ((a.val : Nat) : Int) ((b.val : Nat) : Int) = ((a.val ||| b.val : Nat) : Int) := by decide +kernel
  exact this ⟨a, ha⟩ ⟨b, hb⟩
theorem bit6 {a i : Nat} (ha : a < 64) (hi : i < 6) : bits .and .i64 ((a : Int) / 2 ^ i) 1 = if a.testBit i = true then 1 else 0 := by
  have : ∀ a : Fin 64, ∀ i : Fin 6, bits .and .i64 (((a.val : Nat) : Int) / 2 ^ i.val) 1 = if a.val.testBit i.val = true then 1 else 0 := by decide +kernel
  exact this ⟨a, ha⟩ ⟨i, hi⟩
theorem pop6 {m s : Nat} (hm : m ≤ 6) (hs : s < 2 ^ m) : popN s 64 = popM m s := by
  have h64 : 2 ^ m ≤ 64 := Nat.le_trans (Nat.pow_le_pow_right (by omega) hm) (by decide : 2 ^ 6 ≤ 64)
  have : ∀ m : Fin 7, ∀ s : Fin 64, s.val < 2 ^ m.val → popN s.val 64 = popM m.val s.val := by decide +kernel
  exact this ⟨m, by omega⟩ ⟨s, by omega⟩ hs
set_option maxRecDepth 100000 in
set_option maxHeartbeats 1000000 in
theorem OnesCount_any (x : Nat) (hx : x < 18446744073709551616) (w : World) :
    Calls Try.prog 117 #[.int .u64 x] w fun e w' => e = .returned (.int .i64 (popN x 64 : Nat)) ∧ w = w' := by
  go_enter Try.func117, Try.ntmps117
  go_wp2_with (first
    | (go_at_call 141; go_must (refine (ones_any x hx _).mono ?_); rintro e w_ ⟨rfl, rfl⟩)
    )
  go_ret
  exact ⟨rfl, rfl⟩
set_option maxRecDepth 100000 in
set_option maxHeartbeats 1000000 in
theorem cloneI_any (A : Option Addr) (n : Nat) (xs : List Int) (hl : xs.length ≤ 1048576) (hc : xs.length ≤ n) (hA : A = none → n = 0) (w : World) (hs : Sl w 1 A xs.length (flat oneI xs)) :
    Calls Try.prog 113 #[.slice A xs.length n] w (RetRow w 2 1 xs.length (flat oneI xs)) := by
  have M := Lib.hid (Mem.start w)
  have HS := Lib.hid hs
  clear hs
  cases A with
  | none =>
    obtain rfl := hA rfl
    obtain rfl : xs = [] := List.length_eq_zero_iff.1 (by omega)
    have he : ∀ w : World, (binOp .eql 27 (.slice none 0 0) (.slice none 0 0)).run Try.prog w = .ok (.bool true) w := fun _ => rfl
    go_enter Try.func113, Try.ntmps113
    go_wp2
    go_ret
    exact ⟨none, 0, rfl, by simp, M.out.nilrow _ _⟩
  | some a =>
    have he : ∀ w : World, (binOp .eql 27 (.slice (some a) xs.length n) (.slice none 0 0)).run Try.prog w = .ok (.bool false) w := fun _ => rfl
    go_enter Try.func113, Try.ntmps113
    go_wp2_with (first
      | ((with_reducible refine gate_dst (N := 5) rfl ?_); go_must (refine M.out.ev_bs0 elem_int64 rfl rfl ?_); intro g5 w5 m; simp only [List.nil_append] at m; have M := Lib.hid m; clear m)
      | ((with_reducible refine gate_dst (N := 7) rfl ?_); go_must (refine M.out.ev_appends 0 elem_int64 rfl _ _ rfl rfl rfl rfl (M.out.sl HS.out) (fun h => by cases h) hc (flat_one oneI_ones xs) (by omega) (by decide) ?_); intro v7 w7 m; simp only [List.set_cons_zero, List.nil_append, Nat.zero_add] at m; have M := Lib.hid m; clear m)
      )
    obtain ⟨B, c, rfl, hc1, _⟩ := M.out.row_slice 0 rfl
    go_ret
    exact ⟨B, c, rfl, hc1, M.out⟩
end Go.Proofs.Ytdnofkngljjbmaa
