/- Texts of a proof, laid together: NumP, Entry, Diary, TextP, ReadP. -/
import Derived.Lib.ItoaLen
import Derived.Lib.ItoaMem
import Derived.Lib.ParseIntBCases
import Derived.Lib.SplitLaws
import Derived.Test.YtkomhngokcejbaaGreatDoorZV00
import Derived.Test.YtkomhngokcejbaaGreatDoorZV01
import Derived.Lib.Join
import Derived.Test.YtkomhngokcejbaaGreatDoorZV03
import Derived.Test.YtkomhngokcejbaaGreatDoorZV05
namespace Go.Proofs.YtkomhngokcejbaaGreatDoor
set_option linter.unusedSimpArgs false
set_option linter.unusedVariables false
open Go.RowKit

/-- What digits spell behind 'acc'. -/
def digs (acc : Nat) : List UInt8 → Option Nat
  | [] => some acc
  | c :: r => if 48 ≤ c.toNat ∧ c.toNat ≤ 57 then digs (10 * acc + (c.toNat - 48)) r else none
/-- A number, as the reference reads one. -/
def numOf (l : List UInt8) : Option Nat :=
  if l = [] ∨ 9 < l.length ∨ (l.head? = some 48 ∧ 1 < l.length) then none else digs 0 l
/-- A number from lo to hi. -/
def numIn (lo hi : Nat) (l : List UInt8) : Option Nat := (numOf l).bind fun n => if lo ≤ n ∧ n ≤ hi then some n else none

theorem digs_append : ∀ (a : List UInt8) (acc : Nat) (b : List UInt8), digs acc (a ++ b) = (digs acc a).bind fun n => digs n b
  | [], acc, b => rfl
  | c :: r, acc, b => by
    simp only [List.cons_append, digs]
    split
    · exact digs_append r _ b
    · rfl
theorem digs_ge : ∀ (l : List UInt8) (acc n : Nat), digs acc l = some n → acc * 10 ^ l.length ≤ n
  | [], acc, n, h => by simp only [digs, Option.some.injEq] at h; simp [h]
  | c :: r, acc, n, h => by
    simp only [digs] at h
    split at h
    · have := digs_ge r _ n h
      rw [List.length_cons, Nat.pow_succ]
      calc acc * (10 ^ r.length * 10) = (10 * acc) * 10 ^ r.length := by rw [Nat.mul_comm (10 ^ r.length) 10, ← Nat.mul_assoc, Nat.mul_comm acc 10]
        _ ≤ (10 * acc + (c.toNat - 48)) * 10 ^ r.length := Nat.mul_le_mul_right _ (Nat.le_add_right _ _)
        _ ≤ n := this
    · cases h
theorem digs_lt : ∀ (l : List UInt8) (acc n : Nat), digs acc l = some n → n < (acc + 1) * 10 ^ l.length
  | [], acc, n, h => by simp only [digs, Option.some.injEq] at h; simp; omega
  | c :: r, acc, n, h => by
    simp only [digs] at h
    split at h
    · rename_i hc
      have := digs_lt r _ n h
      rw [List.length_cons, Nat.pow_succ]
      calc n < (10 * acc + (c.toNat - 48) + 1) * 10 ^ r.length := this
        _ ≤ ((acc + 1) * 10) * 10 ^ r.length := Nat.mul_le_mul_right _ (by omega)
        _ = (acc + 1) * (10 ^ r.length * 10) := by rw [Nat.mul_assoc, Nat.mul_comm 10]
    · cases h
theorem u8_of (c : UInt8) (d : Nat) (h : c.toNat = 48 + d) (hd : d < 10) : c = UInt8.ofNat (48 + d) := by
  apply UInt8.toNat_inj.1
  rw [h, UInt8.toNat_ofNat']
  omega
theorem u8_to (d : Nat) (hd : d < 10) : (UInt8.ofNat (48 + d)).toNat = 48 + d := by
  rw [UInt8.toNat_ofNat']
  omega
theorem digs_dec : ∀ n : Nat, digs 0 (Lib.decDigits n) = some n := by
  intro n
  induction n using Nat.strongRecOn with
  | _ n ih =>
    rw [Lib.decDigits]
    split
    · rename_i h
      simp only [digs, u8_to n h]
      rw [if_pos (by omega)]
      simp
    · rename_i h
      rw [digs_append, ih (n / 10) (by omega)]
      simp only [Option.bind, digs, u8_to (n % 10) (by omega)]
      rw [if_pos (by omega)]
      congr 1
      omega
theorem dec_ne (n : Nat) : Lib.decDigits n ≠ [] := by
  rw [Lib.decDigits]
  split <;> simp
theorem dec_head : ∀ n : Nat, (Lib.decDigits n).head? = some 48 → n = 0 := by
  intro n
  induction n using Nat.strongRecOn with
  | _ n ih =>
    intro h
    rw [Lib.decDigits] at h
    split at h
    · rename_i h1
      simp only [List.head?_cons, Option.some.injEq] at h
      have := congrArg UInt8.toNat h
      rw [u8_to n h1] at this
      simpa using this
    · rename_i h1
      have e : (Lib.decDigits (n / 10) ++ [UInt8.ofNat (48 + n % 10)]).head? = (Lib.decDigits (n / 10)).head? := by
        cases hd : Lib.decDigits (n / 10) with
        | nil => exact absurd hd (dec_ne _)
        | cons a r => rfl
      rw [e] at h
      have := ih (n / 10) (by omega) h
      omega
theorem dec_len9 {n : Nat} (h : n < 10 ^ 9) : (Lib.decDigits n).length ≤ 9 := by
  rw [Lib.decDigits_length]
  by_cases hn : n = 0
  · subst hn; rw [Lib.nDigits_small (by decide)]; decide
  · apply Nat.le_of_not_lt
    intro hl
    have : 10 ^ 9 ≤ n := by
      have key : ∀ (k m : Nat), k + 1 ≤ Lib.nDigits m → 0 < m → 10 ^ k ≤ m := by
        intro k
        induction k with
        | zero => intro m _ h; rw [Nat.pow_zero]; exact h
        | succ k ihk =>
          intro m hm h0
          by_cases hm10 : m < 10
          · rw [Lib.nDigits_small hm10] at hm; omega
          · rw [Lib.nDigits_big hm10] at hm
            have := ihk (m / 10) (by omega) (by omega)
            rw [Nat.pow_succ]
            omega
      exact key 9 n hl (by omega)
    omega
theorem dec_of_digs : ∀ (k : Nat) (l : List UInt8) (n : Nat), l.length = k → l ≠ [] → digs 0 l = some n → (l.head? = some 48 → l.length = 1) → l = Lib.decDigits n
  | 0, l, n, hk, hl, _, _ => absurd (List.length_eq_zero_iff.1 hk) hl
  | k + 1, l, n, hk, hl, h, hh => by
    obtain ⟨a, c, rfl⟩ : ∃ a c, l = a ++ [c] := ⟨l.dropLast, l.getLast hl, (List.dropLast_concat_getLast hl).symm⟩
    rw [digs_append] at h
    cases ha : digs 0 a with
    | none => rw [ha] at h; cases h
    | some m =>
      rw [ha] at h
      simp only [Option.bind, digs] at h
      split at h
      · rename_i hc
        injection h with h
        by_cases ha0 : a = []
        · subst ha0
          simp only [digs, Option.some.injEq] at ha
          subst ha
          rw [Lib.decDigits, dif_pos (by omega), List.nil_append]
          congr 1
          exact u8_of c n (by omega) (by omega)
        · have e : (a ++ [c]).head? = a.head? := by
            cases a with
            | nil => exact absurd rfl ha0
            | cons x r => rfl
          have hlen : a.length = k := by simpa using hk
          have h48 : a.head? ≠ some 48 := fun h' => by
            have := hh (e.trans h')
            have : a.length ≠ 0 := fun h0 => ha0 (List.length_eq_zero_iff.1 h0)
            simp only [List.length_append, List.length_cons, List.length_nil] at *
            omega
          have hm : 1 ≤ m := by
            cases a with
            | nil => exact absurd rfl ha0
            | cons x r =>
              simp only [digs] at ha
              split at ha
              · rename_i hx
                have hx48 : x.toNat ≠ 48 := fun h' => h48 (by rw [List.head?_cons, show x = 48 from UInt8.toNat_inj.1 h'])
                have := digs_ge r _ m ha
                have hp : 1 ≤ 10 ^ r.length := Nat.one_le_pow _ _ (by decide)
                have : 1 * 1 ≤ (10 * 0 + (x.toNat - 48)) * 10 ^ r.length := Nat.mul_le_mul (by omega) hp
                omega
              · cases ha
          have ih := dec_of_digs k a m hlen ha0 ha fun h' => absurd h' h48
          rw [Lib.decDigits, dif_neg (by omega), show n / 10 = m by omega, ← ih]
          congr 2
          exact u8_of c _ (by omega) (by omega)
      · cases h
theorem numOf_dec {n : Nat} (h : n < 10 ^ 9) : numOf (Lib.decDigits n) = some n := by
  unfold numOf
  rw [if_neg, digs_dec]
  rintro (h1 | h1 | ⟨h1, h2⟩)
  · exact dec_ne n h1
  · have := dec_len9 h; omega
  · have := dec_head n h1
    subst this
    rw [Lib.decDigits_length, Lib.nDigits_small (by decide)] at h2
    omega
theorem numOf_some {l : List UInt8} {n : Nat} (h : numOf l = some n) : l = Lib.decDigits n ∧ n < 10 ^ 9 := by
  unfold numOf at h
  split at h
  · cases h
  · rename_i hl
    have hl0 : l ≠ [] := fun e => hl (.inl e)
    have h9 : l.length ≤ 9 := Nat.le_of_not_lt fun e => hl (.inr (.inl e))
    refine ⟨dec_of_digs _ l n rfl hl0 h fun h' => ?_, ?_⟩
    · have : ¬ 1 < l.length := fun e => hl (.inr (.inr ⟨h', e⟩))
      have : l.length ≠ 0 := fun e => hl0 (List.length_eq_zero_iff.1 e)
      omega
    · have := digs_lt l 0 n h
      have hp : 10 ^ l.length ≤ 10 ^ 9 := Nat.pow_le_pow_right (by decide) h9
      omega
theorem parseM_of_digs : ∀ (l : List UInt8) (acc n : Nat), digs acc l = some n → n < 10 ^ 9 → Lib.parseUintM 18446744073709551615 acc l = .ok n
  | [], acc, n, h, _ => by simp only [digs, Option.some.injEq] at h; simp [Lib.parseUintM, h]
  | c :: r, acc, n, h, hn => by
    simp only [digs] at h
    split at h
    · rename_i hc
      have hg := digs_ge r _ n h
      have hp : 1 ≤ 10 ^ r.length := Nat.one_le_pow _ _ (by decide)
      have hb : (10 * acc + (c.toNat - 48)) * 1 ≤ (10 * acc + (c.toNat - 48)) * 10 ^ r.length := Nat.mul_le_mul_left _ hp
      have := parseM_of_digs r _ n h hn
      simp only [Lib.parseUintM]
      rw [if_pos hc, if_neg (by omega), if_neg (by omega), show acc * 10 + (c.toNat - 48) = 10 * acc + (c.toNat - 48) by omega]
      exact this
    · cases h
theorem parse_num {l : List UInt8} {n : Nat} (h : numOf l = some n) : Lib.parseIntB 64 l = .ok (n : Int) := by
  obtain ⟨rfl, hn⟩ := numOf_some h
  have hd : digs 0 (Lib.decDigits n) = some n := digs_dec n
  cases hl : Lib.decDigits n with
  | nil => exact absurd hl (dec_ne n)
  | cons c r =>
    rw [hl] at hd
    have hc : 48 ≤ c.toNat ∧ c.toNat ≤ 57 := by
      simp only [digs] at hd
      split at hd
      · assumption
      · cases hd
    rw [Lib.parseIntB_plain 64 c r (by omega) (by omega)]
    have : Lib.parseUintB 64 (c :: r) = .ok n := by
      unfold Lib.parseUintB
      rw [if_neg (by simp), show (2 : Nat) ^ 64 - 1 = 18446744073709551615 by decide]
      exact parseM_of_digs _ 0 n hd hn
    rw [this]
    simp only [Lib.signlessC]
    rw [if_neg (by omega)]
/-- What the program's parse says: a number that is its own numeral and lies in the range. -/
def parsed (lo hi : Int) (l : List UInt8) : Bool :=
  match Lib.parseIntB 64 l with
  | .ok v => decide (lo ≤ v) && decide (v ≤ hi) && decide (Lib.itoa v = l)
  | _ => false
theorem parsed_none {lo hi : Nat} {l : List UInt8} (hh : hi < 10 ^ 9) (h : numIn lo hi l = none) : parsed lo hi l = false := by
  unfold parsed
  cases hp : Lib.parseIntB 64 l with
  | ok v =>
    by_cases hv : (lo : Int) ≤ v ∧ v ≤ hi ∧ Lib.itoa v = l
    · exfalso
      obtain ⟨h1, h2, h3⟩ := hv
      obtain ⟨m, rfl⟩ : ∃ m : Nat, v = m := ⟨v.toNat, by omega⟩
      rw [Lib.itoa_nonneg] at h3
      have := numOf_dec (n := m) (by omega)
      rw [h3] at this
      unfold numIn at h
      rw [this] at h
      simp only [Option.bind] at h
      rw [if_pos (by omega)] at h
      cases h
    · simp only [Bool.and_eq_false_iff, decide_eq_false_iff_not]
      by_cases h1 : (lo : Int) ≤ v
      · by_cases h2 : v ≤ (hi : Int)
        · right; exact fun h3 => hv ⟨h1, h2, h3⟩
        · left; right; exact h2
      · left; left; exact h1
  | _ => rfl
theorem parsed_some {lo hi n : Nat} {l : List UInt8} (h : numIn lo hi l = some n) : parsed lo hi l = true ∧ Lib.parseIntB 64 l = .ok (n : Int) ∧ Lib.itoa n = l ∧ lo ≤ n ∧ n ≤ hi := by
  unfold numIn at h
  cases hn : numOf l with
  | none => rw [hn] at h; cases h
  | some m =>
    rw [hn] at h
    simp only [Option.bind] at h
    split at h
    · rename_i hr
      injection h with h
      subst h
      have h1 := parse_num hn
      have h2 : Lib.itoa m = l := by rw [Lib.itoa_nonneg]; exact (numOf_some hn).1.symm
      refine ⟨?_, h1, h2, hr.1, hr.2⟩
      unfold parsed
      rw [h1]
      simp [h2, hr.1, hr.2]
    · cases h

/-! ### Pieces -/
/-- A text split at each byte c. -/
def pieces (c : UInt8) : List UInt8 → List (List UInt8)
  | [] => [[]]
  | x :: r => if x = c then [] :: pieces c r else match pieces c r with | [] => [[x]] | w :: ws => (x :: w) :: ws
theorem pieces_ne (c : UInt8) : ∀ l, pieces c l ≠ []
  | [] => by simp [pieces]
  | x :: r => by
    unfold pieces
    split
    · simp
    · split <;> simp
theorem pieces_hit (c : UInt8) : ∀ (a b : List UInt8), c ∉ a → pieces c (a ++ c :: b) = a :: pieces c b
  | [], b, _ => by simp [pieces]
  | x :: r, b, h => by
    have hx : x ≠ c := fun e => h (by simp [e])
    have hr : c ∉ r := fun e => h (List.mem_cons_of_mem _ e)
    rw [List.cons_append, pieces, if_neg hx, pieces_hit c r b hr]
theorem pieces_miss (c : UInt8) : ∀ (a : List UInt8), c ∉ a → pieces c a = [a]
  | [], _ => rfl
  | x :: r, h => by
    have hx : x ≠ c := fun e => h (by simp [e])
    have hr : c ∉ r := fun e => h (List.mem_cons_of_mem _ e)
    rw [pieces, if_neg hx, pieces_miss c r hr]
theorem pieces_len (c : UInt8) : ∀ l : List UInt8, (pieces c l).length = l.count c + 1
  | [] => rfl
  | x :: r => by
    unfold pieces
    split
    · rename_i h
      subst h
      rw [List.length_cons, pieces_len x r, List.count_cons_self]
    · rename_i h
      have := pieces_len c r
      rw [List.count_cons_of_ne h]
      split
      · rename_i hn; exact absurd hn (pieces_ne c r)
      · rename_i w ws hw; rw [hw] at this; simpa using this
theorem index_hit (c : UInt8) : ∀ (a b : List UInt8), c ∉ a → Lib.index (a ++ c :: b) [c] = a.length
  | [], b, _ => by simp [Lib.index, List.isPrefixOf]
  | x :: r, b, h => by
    have hx : x ≠ c := fun e => h (by simp [e])
    have hr : c ∉ r := fun e => h (List.mem_cons_of_mem _ e)
    have hp : ([c] : List UInt8).isPrefixOf (x :: (r ++ c :: b)) = false := by simp [List.isPrefixOf, Ne.symm hx]
    rw [List.cons_append, Lib.index, hp, index_hit c r b hr]
    have : ((r.length : Int) == -1) = false := beq_eq_false_iff_ne.2 (by omega)
    rw [if_neg (by simp), this]
    simp
theorem split_at (c : UInt8) : ∀ l : List UInt8, c ∈ l → ∃ a b, l = a ++ c :: b ∧ c ∉ a
  | [], h => by cases h
  | x :: r, h => by
    by_cases hx : x = c
    · exact ⟨[], r, by simp [hx], by simp⟩
    · obtain ⟨a, b, h1, h2⟩ := split_at c r (by rcases List.mem_cons.1 h with h | h; · exact absurd h.symm hx
                                                · exact h)
      exact ⟨x :: a, b, by simp [h1], by simp [h2, Ne.symm hx]⟩
theorem splitK_pieces (c : UInt8) : ∀ (k : Nat) (l : List UInt8), l.count c = k → Lib.splitK [c] 0 k l = pieces c l
  | 0, l, h => by
    rw [pieces_miss c l (List.count_eq_zero.1 h)]
    rfl
  | k + 1, l, h => by
    obtain ⟨a, b, rfl, ha⟩ := split_at c l (List.count_pos_iff.1 (by omega))
    have hb : b.count c = k := by
      rw [List.count_append, List.count_cons_self, List.count_eq_zero.2 ha] at h
      omega
    rw [pieces_hit c a b ha, Lib.splitK, index_hit c a b ha]
    have : ((a.length : Int) == -1) = false := beq_eq_false_iff_ne.2 (by omega)
    rw [this]
    simp only [Bool.false_eq_true, if_false, Int.toNat_natCast, Nat.add_zero]
    rw [List.take_left, show (a ++ c :: b).drop (a.length + [c].length) = b by simp [List.drop_append], splitK_pieces c k b hb]
theorem splitB_pieces (c : UInt8) (s : ByteArray) : (Lib.splitB ⟨#[c]⟩ 0 (Lib.countB s ⟨#[c]⟩) s).map (·.data.toList) = pieces c s.data.toList := by
  rw [Lib.splitB_data, show (⟨#[c]⟩ : ByteArray).data.toList = [c] from rfl]
  exact splitK_pieces c _ _ (Lib.count_one c _).symm
end Go.Proofs.YtkomhngokcejbaaGreatDoor
namespace Go.Proofs.YtkomhngokcejbaaGreatDoor
set_option linter.unusedSimpArgs false
set_option linter.unusedVariables false
open Go.RowKit
structure Entry where
  what : Int
  cell : Int
  amount : Int
  deriving DecidableEq
def Entry.vals (x : Entry) : List Value := [.int .i8 x.what, .int .i16 x.cell, .int .i16 x.amount]
theorem Entry.vl (x : Entry) : x.vals.length = 3 := rfl
theorem Entry.one (x : Entry) : x.vals.toArray.all (·.oneCell') = true := by simp [Entry.vals, Value.oneCell']
def Entry.z : Entry := ⟨0, 0, 0⟩
end Go.Proofs.YtkomhngokcejbaaGreatDoor
namespace Go.Proofs.YtkomhngokcejbaaGreatDoor
set_option linter.unusedSimpArgs false
set_option linter.unusedVariables false
open Go.RowKit
attribute [local go_sem] cell?_mk frozen?_mk
def Entry.plain (x : Entry) : Bool := inB x.what 0 3 && (inB x.cell 0 99 && inB x.amount 1 1000)
/-- An entry as Go can hold it. -/
structure Entry.ok (x : Entry) : Prop where
  a : -128 ≤ x.what ∧ x.what ≤ 127
  b : -32768 ≤ x.cell ∧ x.cell ≤ 32767
  c : -32768 ≤ x.amount ∧ x.amount ≤ 32767
/-- The code of an entry that is made. -/
def Fld.code (F : Fld) (x : Entry) : Int :=
  if (x.plain && F.has x.cell) = false then 2 else if F.kind x.cell.toNat ≠ 0 then 4 else
  if x.what = 0 then (if 1000 < F.seed x.cell.toNat + x.amount then 3 else 0) else (if F.seed x.cell.toNat < x.amount then 8 else 0)
/-- The field behind an entry that has been made. -/
def Fld.made (F : Fld) (x : Entry) : Fld :=
  F.withSeed x.cell.toNat (if x.what = 0 then F.seed x.cell.toNat + x.amount else F.seed x.cell.toNat - x.amount)
def Fld.after (F : Fld) (x : Entry) : Fld := if F.code x = 0 then F.made x else F

/-- What 'apply' leaves: its code, and the field in its place. -/
def Made (F : Fld) (x : Entry) (b : Nat) (w : World) (e : Ending) (w' : World) : Prop :=
  e = .returned (.int .i64 (F.code x)) ∧ Blk w' b 29 (F.after x).cells ∧ w.grownBy w' (some b)

end Go.Proofs.YtkomhngokcejbaaGreatDoor
namespace Go.Proofs.YtkomhngokcejbaaGreatDoor
set_option linter.unusedSimpArgs false
set_option linter.unusedVariables false
open Go.RowKit

/-- A numeral. -/
def dec (n : Int) : List UInt8 := Lib.itoa n
theorem dec_nat (n : Nat) : dec n = Lib.decDigits n := Lib.itoa_nonneg n
theorem dec_b {n : Int} (h0 : -9223372036854775808 ≤ n) (h1 : n ≤ 9223372036854775807) : (dec n).length ≤ 21 := Lib.itoa_length_le n h0 h1
/-- Words with a byte between them. -/
def joinS (c : UInt8) : List (List UInt8) → List UInt8
  | [] => []
  | [w] => w
  | w :: v :: r => w ++ c :: joinS c (v :: r)
theorem joinS_lib (c : UInt8) : ∀ ws : List (List UInt8), Lib.join ws [c] = joinS c ws
  | [] => by simp [Lib.join, joinS]
  | [w] => by simp [Lib.join, joinS]
  | w :: v :: r => by
    have := joinS_lib c (v :: r)
    unfold Lib.join at this ⊢
    rw [joinS, ← this]
    simp [List.intercalate, List.intersperse]
theorem joinS_len (c : UInt8) (B : Nat) : ∀ ws : List (List UInt8), (∀ w ∈ ws, w.length ≤ B) → (joinS c ws).length ≤ (B + 1) * ws.length
  | [], _ => by simp [joinS]
  | [w], h => by
    have := h w (by simp)
    simp [joinS]; omega
  | w :: v :: r, h => by
    have h1 := h w (by simp)
    have := joinS_len c B (v :: r) fun x hx => h x (List.mem_cons_of_mem _ hx)
    rw [joinS]
    simp only [List.length_append, List.length_cons, Nat.mul_add] at this ⊢
    omega
/-! ### The four kinds of texts -/
def wordOf (k : Int) : List UInt8 := if k = 0 then [115, 111, 119] else if k = 1 then [101, 97, 116] else if k = 2 then [116, 97, 107, 101] else [102, 97, 108, 108]
def Entry.line (x : Entry) : List UInt8 := wordOf x.what ++ [32] ++ dec x.cell ++ [32] ++ dec x.amount ++ [10]
def Net.word (x : Net) : List UInt8 := dec x.x ++ [44] ++ dec x.y ++ [58] ++ dec x.wide ++ [120] ++ dec x.high
def Flock.word (x : Flock) : List UInt8 := dec x.tree ++ [47] ++ dec x.birds ++ [47] ++ dec x.eats ++ [47] ++ dec x.bold ++ [47] ++ dec x.reach ++ [47] ++ dec x.taste
theorem Net.word_len {x : Net} (h : x.ok) : x.word.length ≤ 200 := by
  have h1 := dec_b (n := x.x) (by have := h.x; omega) (by have := h.x; omega)
  have h2 := dec_b (n := x.y) (by have := h.y; omega) (by have := h.y; omega)
  have h3 := dec_b (n := x.wide) (by have := h.wide; omega) (by have := h.wide; omega)
  have h4 := dec_b (n := x.high) (by have := h.high; omega) (by have := h.high; omega)
  simp only [Net.word, List.length_append, List.length_cons, List.length_nil]
  omega
theorem Flock.word_len {x : Flock} (h : x.ok) : x.word.length ≤ 200 := by
  have h1 := dec_b (n := x.tree) (by have := h.tree; omega) (by have := h.tree; omega)
  have h2 := dec_b (n := x.birds) (by have := h.birds; omega) (by have := h.birds; omega)
  have h3 := dec_b (n := x.eats) (by have := h.eats; omega) (by have := h.eats; omega)
  have h4 := dec_b (n := x.bold) (by have := h.bold; omega) (by have := h.bold; omega)
  have h5 := dec_b (n := x.reach) (by have := h.reach; omega) (by have := h.reach; omega)
  have h6 := dec_b (n := x.taste) (by have := h.taste; omega) (by have := h.taste; omega)
  simp only [Flock.word, List.length_append, List.length_cons, List.length_nil]
  omega
/-- What is said of all is said of a beginning, and of one more. -/
theorem allT_succ {α : Type} {p : α → Prop} {xs : List α} {k : Nat} (h : k < xs.length) (h1 : ∀ x ∈ xs.take k, p x) (h2 : p xs[k]) : ∀ x ∈ xs.take (k + 1), p x := by
  intro x hx
  rw [List.take_succ_eq_append_getElem h, List.mem_append] at hx
  rcases hx with hx | hx
  · exact h1 x hx
  · simp at hx; subst hx; exact h2
theorem not_allT {α : Type} {p : α → Bool} {xs : List α} {x : α} (hx : x ∈ xs) (h : p x = false) : xs.all p = false := by
  rw [List.all_eq_false]
  exact ⟨x, hx, by simp [h]⟩
theorem allT_of {α : Type} {p : α → Bool} {xs : List α} (h : ∀ x ∈ xs.take xs.length, p x = true) : xs.all p = true := by
  rw [List.take_length] at h
  exact List.all_eq_true.2 h
/-- The text of some words, one after the other. -/
def wordsT (ws : List (List UInt8)) (k : Nat) : List UInt8 := joinS 32 (ws.take k)
theorem wordsT_all (ws : List (List UInt8)) : wordsT ws ws.length = joinS 32 ws := by unfold wordsT; rw [List.take_length]
theorem wordsT_len {ws : List (List UInt8)} (h : ∀ w ∈ ws, w.length ≤ 200) {k : Nat} (hk : k ≤ 1048576) : (wordsT ws k).length ≤ 1000000000 := by
  have := joinS_len 32 200 (ws.take k) fun w hw => h w (List.mem_of_mem_take hw)
  have h2 : (ws.take k).length ≤ k := List.length_take_le _ _
  unfold wordsT
  omega
def linesT (xs : List Entry) : List UInt8 := xs.flatMap Entry.line
theorem Mem.argT {w0 w : World} {L : List Ent} (M : Mem w0 w L) {b off : Nat} {cs : List Value} (h : w0.rangeAt b off cs) : w.rangeAt b off cs := fun j v hj => M.argcell (h j v hj)
/-- Words as Go's texts. -/
def strsOf (ws : List (List UInt8)) : List ByteArray := ws.map fun w => ⟨w.toArray⟩
theorem strsOf_len (ws : List (List UInt8)) : (strsOf ws).length = ws.length := by simp [strsOf]
theorem strsOf_succ {ws : List (List UInt8)} {k : Nat} (h : k < ws.length) : strsOf (ws.take (k + 1)) = strsOf (ws.take k) ++ [⟨ws[k].toArray⟩] := by
  unfold strsOf
  rw [List.take_succ_eq_append_getElem h, List.map_append]; rfl
theorem strsOf_join (c : UInt8) (ws : List (List UInt8)) : Lib.join ((strsOf ws).map (·.data.toList)) (⟨#[c]⟩ : ByteArray).data.toList = joinS c ws := by
  rw [← joinS_lib]
  unfold strsOf
  rw [List.map_map]
  congr 1
  conv => rhs; rw [← List.map_id ws]
  exact List.map_congr_left fun w _ => by simp
end Go.Proofs.YtkomhngokcejbaaGreatDoor
namespace Go.Proofs.YtkomhngokcejbaaGreatDoor
set_option linter.unusedSimpArgs false
set_option linter.unusedVariables false
open Go.RowKit

/-- A word of a diary: its number. -/
def kindOf (w : List UInt8) : Option Nat :=
  if w = [115, 111, 119] then some 0 else if w = [101, 97, 116] then some 1 else if w = [116, 97, 107, 101] then some 2 else if w = [102, 97, 108, 108] then some 3 else none
/-- The entry of a line. -/
def entryOf (l : List UInt8) : Option Entry :=
  match pieces 32 l with
  | [a, b, c] => (kindOf a).bind fun k => (numIn 0 99 b).bind fun m => (numIn 1 1000 c).bind fun n => some ⟨k, m, n⟩
  | _ => none
/-- The lines, as the program goes through them. -/
def readL : List (List UInt8) → List Entry → Option (List Entry)
  | [], _ => none
  | [w], out => if w = [] then some out else none
  | w :: v :: r, out => if out.length = 100 then none else (entryOf w).bind fun x => readL (v :: r) (out ++ [x])
/-- A diary's text. -/
def readD (t : List UInt8) : Option (List Entry) := readL (pieces 10 t) []
/-- The lines, as the reference goes through them. -/
def readE : List (List UInt8) → List Entry → Option (List Entry)
  | [], out => some out
  | w :: r, out => (entryOf w).bind fun x => readE r (out ++ [x])
/-- Numerals hold digits alone. -/
theorem dec_digit : ∀ (n : Nat) (c : UInt8), c ∈ Lib.decDigits n → 48 ≤ c.toNat ∧ c.toNat ≤ 57 := by
  intro n
  induction n using Nat.strongRecOn with
  | _ n ih =>
    intro c hc
    rw [Lib.decDigits] at hc
    split at hc
    · rename_i h
      rw [List.mem_singleton] at hc
      rw [hc, u8_to n h]
      omega
    · rename_i h
      rw [List.mem_append] at hc
      rcases hc with hc | hc
      · exact ih (n / 10) (by omega) c hc
      · rw [List.mem_singleton] at hc
        rw [hc, u8_to (n % 10) (by omega)]
        omega
end Go.Proofs.YtkomhngokcejbaaGreatDoor
