/- Texts of a proof, laid together: Min, Sets2, Sets3, Flock, Birds, Fears, Birds2, Scarecrow, Scares, Those, CellsFor, Pick, RowI, CellsFor2, Choice, Choice2, Eat, EqF, Visit, EatOnce, VisitM, Feed, Day, FeedAll, EqI, FeedDays, DiaP, Apply. -/
import Derived.Test.YtaepgjjmfopiiaaGreatDoorZH01
import Derived.Test.YtaepgjjmfopiiaaGreatDoorZH08
import Derived.Test.YtaepgjjmfopiiaaGreatDoorZH02
import Derived.Test.YtaepgjjmfopiiaaGreatDoorZH06
import Derived.Test.YtaepgjjmfopiiaaGreatDoorZH05
import Derived.Test.YtaepgjjmfopiiaaGreatDoorZH10
namespace Go.Proofs.YtaepgjjmfopiiaaGreatDoor
set_option linter.unusedSimpArgs false
set_option linter.unusedVariables false
open Go.RowKit
attribute [local go_sem] cell?_mk frozen?_mk

end Go.Proofs.YtaepgjjmfopiiaaGreatDoor
namespace Go.Proofs.YtaepgjjmfopiiaaGreatDoor
set_option linter.unusedSimpArgs false
set_option linter.unusedVariables false
open Go.RowKit
attribute [local go_sem] cell?_mk frozen?_mk

def Cs.ks : List IntKind := [.u64, .u64]
theorem bounds_u64 {n : Int} (h : (Lit.int .u64 n).wf = true) : 0 ≤ n ∧ n ≤ 18446744073709551615 := by
  simpa [Lit.wf, IntKind.min, IntKind.max, IntKind.bits, IntKind.signed] using h
theorem Cs.of_conf (cs : List Value) (h : Conf Cs.ks cs) : ∃ c : Cs, c.ok ∧ c.vals = cs := by
  obtain ⟨a, r, rfl, w0, h⟩ := h.cons
  obtain ⟨b, r, rfl, w1, h⟩ := h.cons
  obtain rfl := h.nil_eq
  have h0 := bounds_u64 w0
  have h1 := bounds_u64 w1
  refine ⟨⟨a.toNat, b.toNat⟩, ⟨by show a.toNat < _; omega, by show b.toNat < _; omega⟩, ?_⟩
  show [Value.int .u64 (a.toNat : Int), Value.int .u64 (b.toNat : Int)] = _
  rw [Int.toNat_of_nonneg h0.1, Int.toNat_of_nonneg h1.1]
def Cs.cut (c : Cs) : Cs := ⟨c.lo, c.hi &&& 68719476735⟩
def Cs.both (a b : Cs) : Cs := Cs.cut ⟨a.lo &&& b.lo, a.hi &&& b.hi⟩
/-- The numbers of a set below a number. -/
def Cs.below (c : Cs) (n : Nat) : List Nat := (List.range n).filter c.has
def Cs.all (c : Cs) : List Nat := c.below 100
theorem Cs.below_succ (c : Cs) (n : Nat) : c.below (n + 1) = c.below n ++ if c.has n then [n] else [] := by
  simp only [Cs.below, List.range_succ, List.filter_append]
  congr 1
  cases h : c.has n <;> simp [h]
theorem Cs.below_len (c : Cs) (n : Nat) : (c.below n).length ≤ n := by
  have := List.length_filter_le c.has (List.range n)
  rwa [List.length_range] at this
end Go.Proofs.YtaepgjjmfopiiaaGreatDoor
namespace Go.Proofs.YtaepgjjmfopiiaaGreatDoor
set_option linter.unusedSimpArgs false
set_option linter.unusedVariables false
open Go.RowKit
attribute [local go_sem] cell?_mk frozen?_mk

def andn (a b : Nat) : Nat := (BitVec.ofNat 64 a &&& ~~~BitVec.ofNat 64 b).toNat
def Cs.without (a b : Cs) : Cs := Cs.cut ⟨andn a.lo b.lo, andn a.hi b.hi⟩
end Go.Proofs.YtaepgjjmfopiiaaGreatDoor
namespace Go.Proofs.YtaepgjjmfopiiaaGreatDoor
set_option linter.unusedSimpArgs false
set_option linter.unusedVariables false
--GONE Flock
end Go.Proofs.YtaepgjjmfopiiaaGreatDoor
namespace Go.Proofs.YtaepgjjmfopiiaaGreatDoor
set_option linter.unusedSimpArgs false
set_option linter.unusedVariables false
open Go.RowKit
attribute [local go_sem] cell?_mk frozen?_mk

theorem run_index1 {P : Program} (w : World) (t e : TypeId) (n : Nat) (cs : Array Value) (k : Nat) (v : Value) {d : TypeDesc} (h : P.underlying t = some (.array n e)) (hk : k < n) (hs : (P.info? e).map (·.size) = some 1)
    (hu : P.underlying e = some d) (hd : TypeDesc_row d = false) (hv : cs[k]? = some v) : (Instr.index t (.agg cs) (.int .i64 k)).run P w = .ok v w := by
  have hagg : (isAgg e).run P w = .ok false w := by
    unfold isAgg
    rw [Sem.run_bind, run_underlying hu w]
    cases d <;> simp_all [TypeDesc_row]
  have hsz : (sizeOf e).run P w = .ok 1 w := by
    cases hq : P.info? e with
    | none => simp [hq] at hs
    | some i =>
      have : i.size = 1 := by simpa [hq] using hs
      simp [sizeOf, typeInfo, hq, this]
  have hb : (0 : Int) ≤ (k : Int) ∧ (k : Int) < (n : Int) := by omega
  unfold Instr.index
  simp only [asIntOf, Sem.run_bind, Sem.run_pure, Result.andThen_ok, run_underlying h w, if_pos hb, hsz, part, hagg, Nat.mul_one, Int.toNat_natCast, hv]
  rfl
def mosts : List Int := [99, 200, 20, 1000, 200, 2]
/-- Whether a cell has a tree. -/
def Fld.tree (F : Fld) (c : Int) : Bool := F.has c && (F.kind c.toNat == 3)
end Go.Proofs.YtaepgjjmfopiiaaGreatDoor
namespace Go.Proofs.YtaepgjjmfopiiaaGreatDoor
set_option linter.unusedSimpArgs false
set_option linter.unusedVariables false
open Go.RowKit
attribute [local go_sem] cell?_mk frozen?_mk

/-- Whether one fear is as it must be. -/
def fearAtOk (F : Fld) (fs : List Int) (k : Nat) : Bool := if F.has k = true then inB (gi fs k) 0 1000 else gi fs k == 0
def fearsOk (F : Fld) (fs : List Int) : Bool := (List.range 100).all (fearAtOk F fs)
end Go.Proofs.YtaepgjjmfopiiaaGreatDoor
namespace Go.Proofs.YtaepgjjmfopiiaaGreatDoor
set_option linter.unusedSimpArgs false
set_option linter.unusedVariables false
open Go.RowKit
attribute [local go_sem] cell?_mk frozen?_mk

end Go.Proofs.YtaepgjjmfopiiaaGreatDoor
namespace Go.Proofs.YtaepgjjmfopiiaaGreatDoor
set_option linter.unusedSimpArgs false
set_option linter.unusedVariables false
--GONE Scarecrow
end Go.Proofs.YtaepgjjmfopiiaaGreatDoor
namespace Go.Proofs.YtaepgjjmfopiiaaGreatDoor
set_option linter.unusedSimpArgs false
set_option linter.unusedVariables false
open Go.RowKit
attribute [local go_sem] cell?_mk frozen?_mk

def Fld.place (F : Fld) (c : Int) : Bool := F.has c && (F.kind c.toNat != 3)
def sq (a b : Int) : Int := (a % 10 - b % 10) * (a % 10 - b % 10) + (a / 10 - b / 10) * (a / 10 - b / 10)
end Go.Proofs.YtaepgjjmfopiiaaGreatDoor
namespace Go.Proofs.YtaepgjjmfopiiaaGreatDoor
set_option linter.unusedSimpArgs false
set_option linter.unusedVariables false
open Go.RowKit
attribute [local go_sem] cell?_mk frozen?_mk

end Go.Proofs.YtaepgjjmfopiiaaGreatDoor
namespace Go.Proofs.YtaepgjjmfopiiaaGreatDoor
set_option linter.unusedSimpArgs false
set_option linter.unusedVariables false
open Go.RowKit
attribute [local go_sem] cell?_mk frozen?_mk

end Go.Proofs.YtaepgjjmfopiiaaGreatDoor
namespace Go.Proofs.YtaepgjjmfopiiaaGreatDoor
set_option linter.unusedSimpArgs false
set_option linter.unusedVariables false
open Go.RowKit

/-- The better one of the best so far and a new one, if that counts. -/
def pickStep (p : Nat → Bool) (lt : Nat → Nat → Bool) (b : Int) (k : Nat) : Int := if (p k && (decide (b < 0) || lt k b.toNat)) = true then (k : Int) else b
def pick (p : Nat → Bool) (lt : Nat → Nat → Bool) (ks : List Nat) : Int := ks.foldl (pickStep p lt) (-1)
/-- Whether one list of numbers comes before another. -/
def lexlt : List Int → List Int → Bool
  | a :: r, b :: q => decide (a < b) || (decide (a = b) && lexlt r q)
  | [], _ :: _ => true
  | _, [] => false
end Go.Proofs.YtaepgjjmfopiiaaGreatDoor
namespace Go.Proofs.YtaepgjjmfopiiaaGreatDoor
set_option linter.unusedSimpArgs false
set_option linter.unusedVariables false
open Go.RowKit
attribute [local go_sem] cell?_mk frozen?_mk

def cmpI (a b : Int) : Int := if a < b then -1 else if b < a then 1 else 0
def lexcmp : List Int → List Int → Int
  | a :: r, b :: q => if cmpI a b = 0 then lexcmp r q else cmpI a b
  | [], _ :: _ => -1
  | _ :: _, [] => 1
  | [], [] => 0
end Go.Proofs.YtaepgjjmfopiiaaGreatDoor
namespace Go.Proofs.YtaepgjjmfopiiaaGreatDoor
set_option linter.unusedSimpArgs false
set_option linter.unusedVariables false
open Go.RowKit
attribute [local go_sem] cell?_mk frozen?_mk

end Go.Proofs.YtaepgjjmfopiiaaGreatDoor
namespace Go.Proofs.YtaepgjjmfopiiaaGreatDoor
set_option linter.unusedSimpArgs false
set_option linter.unusedVariables false
open Go.RowKit
attribute [local go_sem] cell?_mk frozen?_mk

end Go.Proofs.YtaepgjjmfopiiaaGreatDoor
namespace Go.Proofs.YtaepgjjmfopiiaaGreatDoor
set_option linter.unusedSimpArgs false
set_option linter.unusedVariables false
open Go.RowKit
attribute [local go_sem] cell?_mk frozen?_mk

theorem three {l : List Int} (h : l.length = 3) : ∃ a b c, l = [a, b, c] := by
  match l, h with
  | [a, b, c], _ => exact ⟨a, b, c, rfl⟩
end Go.Proofs.YtaepgjjmfopiiaaGreatDoor
namespace Go.Proofs.YtaepgjjmfopiiaaGreatDoor
set_option linter.unusedSimpArgs false
set_option linter.unusedVariables false
open Go.RowKit
attribute [local go_sem] cell?_mk frozen?_mk

def Fld.eatN (F : Fld) (k : Nat) (m : Int) : Int := min m (F.seed k)
def Fld.eat (F : Fld) (k : Nat) (m : Int) : Fld := F.withSeed k (F.seed k - F.eatN k m)
end Go.Proofs.YtaepgjjmfopiiaaGreatDoor
namespace Go.Proofs.YtaepgjjmfopiiaaGreatDoor
set_option linter.unusedSimpArgs false
set_option linter.unusedVariables false
open Go.RowKit
attribute [local go_sem] cell?_mk frozen?_mk

end Go.Proofs.YtaepgjjmfopiiaaGreatDoor
namespace Go.Proofs.YtaepgjjmfopiiaaGreatDoor
set_option linter.unusedSimpArgs false
set_option linter.unusedVariables false
--GONE Visit
end Go.Proofs.YtaepgjjmfopiiaaGreatDoor
namespace Go.Proofs.YtaepgjjmfopiiaaGreatDoor
set_option linter.unusedSimpArgs false
set_option linter.unusedVariables false
open Go.RowKit
attribute [local go_sem] cell?_mk frozen?_mk

end Go.Proofs.YtaepgjjmfopiiaaGreatDoor
namespace Go.Proofs.YtaepgjjmfopiiaaGreatDoor
set_option linter.unusedSimpArgs false
set_option linter.unusedVariables false
open Go.RowKit
attribute [local go_sem] cell?_mk frozen?_mk

end Go.Proofs.YtaepgjjmfopiiaaGreatDoor
namespace Go.Proofs.YtaepgjjmfopiiaaGreatDoor
set_option linter.unusedSimpArgs false
set_option linter.unusedVariables false
open Go.RowKit
attribute [local go_sem] cell?_mk frozen?_mk

end Go.Proofs.YtaepgjjmfopiiaaGreatDoor
namespace Go.Proofs.YtaepgjjmfopiiaaGreatDoor
set_option linter.unusedSimpArgs false
set_option linter.unusedVariables false
open Go.RowKit
attribute [local go_sem] cell?_mk frozen?_mk

end Go.Proofs.YtaepgjjmfopiiaaGreatDoor
namespace Go.Proofs.YtaepgjjmfopiiaaGreatDoor
set_option linter.unusedSimpArgs false
set_option linter.unusedVariables false
open Go.RowKit
attribute [local go_sem] cell?_mk frozen?_mk

end Go.Proofs.YtaepgjjmfopiiaaGreatDoor
namespace Go.Proofs.YtaepgjjmfopiiaaGreatDoor
set_option linter.unusedSimpArgs false
set_option linter.unusedVariables false
open Go.RowKit
attribute [local go_sem] cell?_mk frozen?_mk

end Go.Proofs.YtaepgjjmfopiiaaGreatDoor
namespace Go.Proofs.YtaepgjjmfopiiaaGreatDoor
set_option linter.unusedSimpArgs false
set_option linter.unusedVariables false
open Go.RowKit
attribute [local go_sem] cell?_mk frozen?_mk

def seedSum (F : Fld) : Nat → Int
  | 0 => 0
  | k + 1 => seedSum F k + F.seed k
theorem seedSum_b {F : Fld} (hF : F.ok) : ∀ k : Nat, -32768 * (k : Int) ≤ seedSum F k ∧ seedSum F k ≤ 32767 * (k : Int)
  | 0 => ⟨by simp [seedSum], by simp [seedSum]⟩
  | k + 1 => by
    have ih := seedSum_b hF k
    have h := hF.sb k
    rw [seedSum]
    constructor <;> (push_cast; omega)
set_option maxRecDepth 100000 in
set_option maxHeartbeats 1000000 in
theorem seedsIn_any (g : Nat) {t : TypeId} (F : Fld) (hF : F.ok) (w : World) (hb : Blk w g t F.cells) :
    Calls Tryz.prog 45 #[.pointer (some ⟨g, 0, none⟩)] w fun e w' => e = .returned (.int .i64 (seedSum F 100)) ∧ w = w' := by
  have R := Lib.hid (blk_range hb 102 (F.seeds.map (Value.int .i16)) (fun j v hv => Fld.cellsS hF.toLen j v hv))
  have hc0 := hb.cellv F.cell0
  have HF := Lib.hid hF
  have SL := Lib.hid (show (F.seeds.map (Value.int .i16)).toArray.size = 100 by simp [hF.sl])
  clear hb
  go_enter Tryz.func45, Tryz.ntmps45
  go_wp2_with (first
    | ((with_reducible refine gate_dst (N := 9) rfl ?_); go_must (refine ev_ldr _ _ rfl rfl R.out Tryz.underlying27 rfl (by rw [show (F.seeds.map (Value.int .i16)).length = 100 by simp [HF.out.sl]]; exact sz27) rfl ?_))
    )
  go_loop [3, 10] (fun s v => ∃ k : Nat, k ≤ 100 ∧ v = .int .i64 k ∧ s = .int .i64 (seedSum F k))
    (fun _ v => 100 - (intOf v).toNat)
  case atStart => exact ⟨0, by omega, rfl, rfl⟩
  case round =>
    obtain ⟨k, hk, rfl, rfl⟩ := hrel
    by_cases hlt : k < 100
    · have hsb := HF.out.sb k
      have hss := seedSum_b HF.out k
      have e1 : IntKind.i64.wrap (F.seed k) = F.seed k := IntWalk.i64_in _ (by omega)
      have e2 : IntKind.i64.wrap (seedSum F k + F.seed k) = seedSum F k + F.seed k := IntWalk.i64_in _ (by omega)
      have hix : ∀ w, (Instr.index 27 (.agg (F.seeds.map (Value.int .i16)).toArray) (.int .i64 k)).run Tryz.prog w = .ok (.int .i16 (F.seed k)) w := fun w => run_index1 w _ 26 100 _ k _ Tryz.underlying27 hlt sz26 Tryz.underlying26 rfl (by
        have hsl := HF.out.sl
        simp [Fld.seed, gi, hlt, hsl])
      go_wp2
      exact ⟨⟨k + 1, by omega, by go_num, rfl⟩, by simp [intOf]; omega⟩
    · obtain rfl : k = 100 := by omega
      go_wp2
      go_ret
      exact ⟨rfl, rfl⟩
set_option maxRecDepth 100000 in
set_option maxHeartbeats 1000000 in
theorem l01Sum_any (g : Nat) {t : TypeId} (F : Fld) (hF : F.ok) (w : World) (hb : Blk w g t F.cells) :
    Calls Tryz.prog 44 #[.pointer (some ⟨g, 0, none⟩)] w fun e w' => e = .returned (.int .i64 (seedSum F 100)) ∧ w = w' := by
  have HB := Lib.hid hb
  have hc0 := hb.cellv F.cell0
  have HF := Lib.hid hF
  clear hb
  go_enter Tryz.func44, Tryz.ntmps44
  go_wp2
  go_loop [3, 4] (fun s v => ∃ k : Nat, k ≤ 100 ∧ v = .int .i64 k ∧ s = .int .i64 (seedSum F k))
    (fun _ v => 100 - (intOf v).toNat)
  case atStart => exact ⟨0, by omega, rfl, rfl⟩
  case round =>
    obtain ⟨k, hk, rfl, rfl⟩ := hrel
    by_cases hlt : k < 100
    · have hsb := HF.out.sb k
      have hss := seedSum_b HF.out k
      have i0 : (0 : Int) ≤ (k : Int) := by omega
      have i1 : (k : Int) < 100 := by omega
      have y0 := HB.out.cellv (Fld.cellS HF.out.toLen hlt)
      have e1 : IntKind.i64.wrap (F.seed k) = F.seed k := IntWalk.i64_in _ (by omega)
      have e2 : IntKind.i64.wrap (seedSum F k + F.seed k) = seedSum F k + F.seed k := IntWalk.i64_in _ (by omega)
      go_wp2
      exact ⟨⟨k + 1, by omega, by go_num, rfl⟩, by simp [intOf]; omega⟩
    · obtain rfl : k = 100 := by omega
      go_wp2
      go_ret
      exact ⟨rfl, rfl⟩
/-- A call hands back a field, whole numbers of its own and a code. -/
def RetFI (w : World) (F : Fld) (vs : List Int) (code : Int) (e : Ending) (w' : World) : Prop :=
  ∃ A c, e = .returned (.tuple #[.agg F.cells, .slice A vs.length c, .int .i64 code]) ∧ vs.length ≤ c ∧ Mem w w' [.row (.slice A vs.length c) 2 1 vs.length (flat oneI vs)]
end Go.Proofs.YtaepgjjmfopiiaaGreatDoor
namespace Go.Proofs.YtaepgjjmfopiiaaGreatDoor
set_option linter.unusedSimpArgs false
set_option linter.unusedVariables false
open Go.RowKit

theorem made_valid {F : Fld} (hF : F.ok) (hv : F.valid = true) {x : Entry} (hc : F.code x = 0) : (F.made x).ok ∧ (F.made x).valid = true ∧ Near F (F.made x) := by
  obtain ⟨hp, hh, h0, hs⟩ := Fld.code_zero hc
  obtain ⟨_, ⟨c0, c1⟩, a0, a1⟩ := Entry.plain_iff.1 hp
  have hk : x.cell.toNat < 100 := by omega
  have f := Fld.okAt_iff.1 (Fld.valid_at hv hk)
  have hb : 0 ≤ (if x.what = 0 then F.seed x.cell.toNat + x.amount else F.seed x.cell.toNat - x.amount) ∧ (if x.what = 0 then F.seed x.cell.toNat + x.amount else F.seed x.cell.toNat - x.amount) ≤ 1000 := by
    split at hs <;> rename_i hw
    · rw [if_pos hw]; omega
    · rw [if_neg hw]; omega
  have e : (x.cell.toNat : Int) = x.cell := by omega
  obtain ⟨a, b⟩ := Fld.valid_wh hv
  refine ⟨Fld.withSeed_okF hF _ _ (by omega), Fld.valid_of a b fun j hj => ?_, ⟨rfl, rfl, rfl⟩⟩
  have h2 := Fld.okAt_iff.1 (Fld.valid_at hv hj)
  refine Fld.okAt_iff.2 ?_
  unfold Fld.made
  rw [Fld.seed_ws hF.toLen hk]
  generalize (if x.what = 0 then F.seed x.cell.toNat + x.amount else F.seed x.cell.toNat - x.amount) = y at hb ⊢
  rw [show (F.withSeed x.cell.toNat y).kind j = F.kind j from rfl, show (F.withSeed x.cell.toNat y).has j = F.has j from rfl]
  by_cases hjk : j = x.cell.toNat
  · subst hjk
    rw [if_pos rfl]
    refine ⟨f.1, f.2.1, hb.1, hb.2, fun e => absurd h0 e, fun e2 => ?_⟩
    rw [e, hh] at e2
    cases e2
  · rw [if_neg hjk]
    exact h2
theorem seedSum_put {F : Fld} (hF : F.len) {k : Nat} (hk : k < 100) (x : Int) : ∀ n, seedSum (F.withSeed k x) n = if k < n then seedSum F n - F.seed k + x else seedSum F n
  | 0 => by rw [if_neg (Nat.not_lt_zero _)]; rfl
  | n + 1 => by
    rw [seedSum, seedSum, seedSum_put hF hk x n, Fld.seed_ws hF hk]
    rcases Nat.lt_trichotomy k n with h | h | h
    · rw [if_pos h, if_neg (by omega), if_pos (by omega)]
      omega
    · rw [if_neg (by omega), if_pos h.symm, if_pos (by omega), h]
      omega
    · rw [if_neg (by omega), if_neg (by omega), if_neg (by omega)]
/-- What an entry adds to a field. -/
def Entry.adds (x : Entry) : Int := if x.what = 0 then x.amount else -x.amount
theorem made_sum {F : Fld} (hF : F.ok) {x : Entry} (hc : F.code x = 0) : seedSum (F.made x) 100 = seedSum F 100 + x.adds := by
  obtain ⟨hp, _⟩ := Fld.code_zero hc
  obtain ⟨_, ⟨c0, c1⟩, _⟩ := Entry.plain_iff.1 hp
  unfold Fld.made Entry.adds
  rw [seedSum_put hF.toLen (by omega), if_pos (by omega)]
  split <;> omega
/-- What the sums of a diary add to a field. -/
def netOf (S : List Int) : Int := gi S 0 - gi S 1 - gi S 2 - gi S 3
theorem addTo_net {S : List Int} (hS : S.length = 4) {x : Entry} (hp : x.plain = true) : netOf (addTo S x) = netOf S + x.adds := by
  obtain ⟨⟨w0, w1⟩, _⟩ := Entry.plain_iff.1 hp
  unfold netOf addTo Entry.adds
  have h : x.what = 0 ∨ x.what = 1 ∨ x.what = 2 ∨ x.what = 3 := by omega
  rcases h with h | h | h | h <;> rw [h]
  · rw [show (0 : Int).toNat = 0 from rfl, gi_set_self (by omega), gi_set_ne (by omega), gi_set_ne (by omega), gi_set_ne (by omega), if_pos rfl]
    omega
  · rw [show (1 : Int).toNat = 1 from rfl, gi_set_self (by omega), gi_set_ne (by omega), gi_set_ne (by omega), gi_set_ne (by omega), if_neg (by omega)]
    omega
  · rw [show (2 : Int).toNat = 2 from rfl, gi_set_self (by omega), gi_set_ne (by omega), gi_set_ne (by omega), gi_set_ne (by omega), if_neg (by omega)]
    omega
  · rw [show (3 : Int).toNat = 3 from rfl, gi_set_self (by omega), gi_set_ne (by omega), gi_set_ne (by omega), gi_set_ne (by omega), if_neg (by omega)]
    omega
theorem firstBad_cons {F : Fld} {x : Entry} {r : List Entry} (h : firstBad F (x :: r) = none) : F.code x = 0 ∧ firstBad (F.made x) r = none := by
  rw [firstBad] at h
  split at h
  · cases h
  · rename_i hc
    refine ⟨by simpa using hc, ?_⟩
    cases hb : firstBad (F.made x) r with
    | none => rfl
    | some p => rw [hb] at h; cases h
/-- A diary that can be made: the field behind it, and its seeds. -/
theorem dia_end : ∀ (xs : List Entry) (F : Fld) (S : List Int), F.ok → F.valid = true → S.length = 4 → firstBad F xs = none →
    (F.thru xs).ok ∧ (F.thru xs).valid = true ∧ Near F (F.thru xs) ∧ seedSum (F.thru xs) 100 - netOf (xs.foldl addTo S) = seedSum F 100 - netOf S
  | [], F, S, hF, hv, _, _ => ⟨hF, hv, Near.refl F, rfl⟩
  | x :: r, F, S, hF, hv, hS, h => by
    obtain ⟨hc, hr⟩ := firstBad_cons h
    obtain ⟨m1, m2, m3⟩ := made_valid hF hv hc
    obtain ⟨i1, i2, i3, i4⟩ := dia_end r (F.made x) (addTo S x) m1 m2 (by rw [addTo_len]; exact hS) hr
    have e1 := made_sum hF hc
    have e2 := addTo_net hS (Fld.code_zero hc).1
    refine ⟨i1, i2, m3.trans i3, ?_⟩
    have e3 : F.thru (x :: r) = (F.made x).thru r := rfl
    rw [e3, List.foldl_cons, i4]
    omega
theorem dia_sums {F : Fld} {xs : List Entry} (hF : F.ok) (hv : F.valid = true) (h : firstBad F xs = none) :
    seedSum F 100 + gi (sumsOf xs) 0 = seedSum (F.thru xs) 100 + gi (sumsOf xs) 1 + gi (sumsOf xs) 2 + gi (sumsOf xs) 3 := by
  obtain ⟨_, _, _, e⟩ := dia_end xs F (zs 4) hF hv (zs_len 4) h
  have e0 : netOf (zs 4) = 0 := by decide
  rw [e0] at e
  have e1 : sumsOf xs = xs.foldl addTo (zs 4) := rfl
  rw [e1]
  unfold netOf at e
  omega
/-- Up to the first wrong entry all can be made. -/
theorem firstBad_take : ∀ (xs : List Entry) (F : Fld) (k : Nat) (c : Int), firstBad F xs = some (k, c) → k < xs.length ∧ c ≠ 0 ∧ firstBad F (xs.take k) = none
  | [], _, _, _, h => by cases h
  | x :: r, F, k, c, h => by
    rw [firstBad] at h
    split at h
    · rename_i hc
      injection h with h
      injection h with h1 h2
      subst h1
      subst h2
      exact ⟨by simp, hc, rfl⟩
    · rename_i hc
      cases hb : firstBad (F.made x) r with
      | none => rw [hb] at h; cases h
      | some p =>
        rw [hb] at h
        obtain ⟨j, d⟩ := p
        simp only [Option.map, Option.some.injEq, Prod.mk.injEq] at h
        obtain ⟨h1, h2⟩ := h
        subst h1
        subst h2
        obtain ⟨i1, i2, i3⟩ := firstBad_take r (F.made x) j d hb
        refine ⟨by rw [List.length_cons]; omega, i2, ?_⟩
        rw [List.take_succ_cons, firstBad, if_neg hc, i3]
        rfl
/-- The fields on the way. -/
theorem dia_step {F : Fld} {xs : List Entry} (h : firstBad F xs = none) : ∀ k (hk : k < xs.length), (F.thru (xs.take k)).code xs[k] = 0 ∧ F.thru (xs.take (k + 1)) = (F.thru (xs.take k)).made xs[k] := by
  intro k hk
  refine ⟨?_, by rw [List.take_succ_eq_append_getElem hk, Fld.thru_snoc]⟩
  induction xs generalizing F k with
  | nil => simp at hk
  | cons x r ih =>
    obtain ⟨hc, hr⟩ := firstBad_cons h
    cases k with
    | zero => exact hc
    | succ k => exact ih hr k (by simpa using hk)
end Go.Proofs.YtaepgjjmfopiiaaGreatDoor
namespace Go.Proofs.YtaepgjjmfopiiaaGreatDoor
set_option linter.unusedSimpArgs false
set_option linter.unusedVariables false
open Go.RowKit
attribute [local go_sem] cell?_mk frozen?_mk zeroFld
--ONES exact Entry.one _ | exact Fld.one _

set_option maxRecDepth 100000 in
set_option maxHeartbeats 2000000 in
theorem impl_ApplyEntry_any (F : Fld) (hF : F.ok) (hv : F.valid = true) (x : Entry) (hx : x.ok) (hc : F.code x = 0) (w : World) :
    Calls Tryz.prog 14 #[.agg F.cells, .agg x.vals.toArray] w fun e w' => e = .returned (.tuple #[.agg (F.made x).cells, .int .i64 0]) ∧ Mem w w' [] := by
  have M := Lib.hid (Mem.start w)
  have HG := Lib.hid (Fld.valid_good hF hv)
  have HV := Lib.hid hv
  have HX := Lib.hid hx
  have S1 := Lib.hid (Fld.size hF.toLen)
  have S2 := Lib.hid (Fld.size (made_valid hF hv hc).1.toLen)
  have O1 := Lib.hid (Fld.one (F.made x))
  have HA := Lib.hid (show F.after x = F.made x by rw [Fld.after, if_pos hc])
  have HC := Lib.hid hc
  clear hv hx hc
  go_enter Tryz.func14, Tryz.ntmps14
  go_wp2_with (first
    | ((with_reducible refine gate_dst (N := 2) rfl ?_); go_must (refine M.out.ev_new rfl (by first | (go_simp; done) | (go_simp; rfl)) ?_); intro g2 w2 m; simp only [List.cons_append, List.nil_append] at m; have M := Lib.hid m; clear m)
    | ((with_reducible refine gate_dst (N := 3) rfl ?_); go_must (refine M.out.ev_new rfl (by first | (go_simp; done) | (go_simp; rfl)) ?_); intro g3 w3 m; simp only [List.cons_append, List.nil_append] at m; have M := Lib.hid m; clear m)
    | ((with_reducible refine gate_dst (N := 4) rfl ?_); go_must (refine M.out.ev_new rfl (by first | (go_simp; done) | (go_simp; rfl)) ?_); intro g4 w4 m; simp only [List.cons_append, List.nil_append] at m; have M := Lib.hid m; clear m)
    | ((with_reducible refine gate_dst (N := 7) rfl ?_); go_must (refine M.out.ev_ldw 0 _ _ rfl rfl rfl Tryz.underlying29 rfl (by first | exact sz29 | (rw [S1.out]; exact sz29) | (rw [S2.out]; exact sz29) | (rw [S3.out]; exact sz29)) rfl ?_))
    | ((with_reducible refine gate_store (x := .tmp 4) rfl ?_); go_must (refine M.out.ev_stw 2 _ _ _ rfl rfl rfl rfl _ rfl (by first | rfl | (simp only [S1.out]; rfl) | (simp only [S1.out, S2.out]; rfl) | (simp only [S3.out]; rfl) | (simp only [S1.out, S2.out, S3.out]; rfl)) (by first | exact sz29 | (rw [S1.out]; exact sz29) | (rw [S2.out]; exact sz29) | (rw [S3.out]; exact sz29)) (by first | exact ints_one _ _ | exact Fld.one _ | exact O1.out | exact Entry.one _ | exact Fld.one _ | rfl | (simp [Value.oneCell']; done)) rfl ?_); intro wn m; simp only [List.set_cons_succ, List.set_cons_zero, List.setIfInBounds_toArray] at m; have M := Lib.hid m; clear m)
    | ((with_reducible refine gate_dst (N := 11) rfl ?_); go_must (refine M.out.ev_ldw 1 _ _ rfl rfl rfl Tryz.underlying45 rfl (by first | exact sz45 | (rw [S1.out]; exact sz45) | (rw [S2.out]; exact sz45) | (rw [S3.out]; exact sz45)) rfl ?_))
    | ((with_reducible refine gate_store (x := .tmp 4) rfl ?_); go_must (refine M.out.ev_stw 2 _ _ _ rfl rfl rfl rfl _ rfl (by first | rfl | (simp only [S1.out]; rfl) | (simp only [S1.out, S2.out]; rfl) | (simp only [S3.out]; rfl) | (simp only [S1.out, S2.out, S3.out]; rfl)) (by first | exact sz29 | (rw [S1.out]; exact sz29) | (rw [S2.out]; exact sz29) | (rw [S3.out]; exact sz29)) (by first | exact ints_one _ _ | exact Fld.one _ | exact O1.out | exact Entry.one _ | exact Fld.one _ | rfl | (simp [Value.oneCell']; done)) rfl ?_); intro wn m; simp only [List.set_cons_succ, List.set_cons_zero, List.setIfInBounds_toArray] at m; have M := Lib.hid m; clear m)
    | ((with_reducible refine gate_dst (N := 17) rfl ?_); go_must (refine M.out.ev_ldw 0 _ _ rfl rfl rfl Tryz.underlying29 rfl (by first | exact sz29 | (rw [S1.out]; exact sz29) | (rw [S2.out]; exact sz29) | (rw [S3.out]; exact sz29)) rfl ?_))
    | ((with_reducible refine gate_store (x := .tmp 4) rfl ?_); go_must (refine M.out.ev_stw 2 _ _ _ rfl rfl rfl rfl _ rfl (by first | rfl | (simp only [S1.out]; rfl) | (simp only [S1.out, S2.out]; rfl) | (simp only [S3.out]; rfl) | (simp only [S1.out, S2.out, S3.out]; rfl)) (by first | exact sz29 | (rw [S1.out]; exact sz29) | (rw [S2.out]; exact sz29) | (rw [S3.out]; exact sz29)) (by first | exact ints_one _ _ | exact Fld.one _ | exact O1.out | exact Entry.one _ | exact Fld.one _ | rfl | (simp [Value.oneCell']; done)) rfl ?_); intro wn m; simp only [List.set_cons_succ, List.set_cons_zero, List.setIfInBounds_toArray] at m; have M := Lib.hid m; clear m)
    | (go_at_call 15; go_must (refine (ValidField_any F hF _).mono ?_); rintro e w_ ⟨rfl, N_⟩; have m := M.out.join N_; clear N_; simp only [List.cons_append, List.nil_append, List.append_nil] at m; have M := Lib.hid m; clear m; rw [HV.out])
    | (go_at_call 40; go_must (refine (apply_any g2 F HG.out.ok HG.out.seeds x HX.out _ (M.out.blk 0 rfl)).mono ?_); rintro e w_ ⟨rfl, hb_, hg_⟩; rw [HA.out] at hb_; have m := M.out.grown 0 rfl hb_ hg_; clear hb_ hg_; simp only [List.set_cons_zero] at m; have M := Lib.hid m; clear m; rw [HC.out])
    | ((with_reducible refine gate_dst (N := 17) rfl ?_); go_must (refine M.out.ev_ldw 0 _ _ rfl rfl rfl Tryz.underlying29 rfl (by rw [S2.out]; exact sz29) rfl ?_))
    | ((with_reducible refine gate_store (x := .tmp 4) rfl ?_); go_must (refine M.out.ev_stw 2 _ _ _ rfl rfl rfl rfl _ rfl (by rw [S2.out]; exact szZ) (by rw [S2.out]; exact sz29) O1.out rfl ?_); intro wn m; simp only [List.set_cons_zero, List.set_cons_succ] at m; have M := Lib.hid m; clear m)
    )
  exact ret_ct rfl ((M.out.blk 2 rfl).var Tryz.underlying29 rfl (by rw [S2.out]; exact sz29)) ⟨rfl, M.out.take 0⟩
end Go.Proofs.YtaepgjjmfopiiaaGreatDoor
