/- A diary's text, read: plain. No program. -/
import Derived.Test.YtaepgjjmfopiiaaDoorNumP
import Derived.Test.YtaepgjjmfopiiaaDoorTextP
namespace Go.Proofs.YtaepgjjmfopiiaaDoor
set_option linter.unusedSimpArgs false
set_option linter.unusedVariables false
open Go.RowKit

/-- A word of a diary: its number. -/
def kindOf (w : List UInt8) : Option Nat :=
  if w = [115, 111, 119] then some 0 else if w = [101, 97, 116] then some 1 else if w = [116, 97, 107, 101] then some 2 else if w = [102, 97, 108, 108] then some 3 else none
/-- The entry of a line. -/
def entryOf (l : List UInt8) : Option Entry :=
  match pieces 32 l with
  | [a, b, c] => (kindOf a).bind fun k => (numIn 0 99 b).bind fun m => (numIn 1 1000 c).bind fun n => some ⟨k, m, n⟩
  | _ => none
/-- The lines, as the program goes through them. -/
def readL : List (List UInt8) → List Entry → Option (List Entry)
  | [], _ => none
  | [w], out => if w = [] then some out else none
  | w :: v :: r, out => if out.length = 100 then none else (entryOf w).bind fun x => readL (v :: r) (out ++ [x])
/-- A diary's text. -/
def readD (t : List UInt8) : Option (List Entry) := readL (pieces 10 t) []
/-- The lines, as the reference goes through them. -/
def readE : List (List UInt8) → List Entry → Option (List Entry)
  | [], out => some out
  | w :: r, out => (entryOf w).bind fun x => readE r (out ++ [x])
theorem readL_eq : ∀ (ls : List (List UInt8)) (out : List Entry), ls ≠ [] → out.length ≤ 100 →
    readL ls out = if ls.getLast? = some [] ∧ out.length + ls.length ≤ 101 then readE ls.dropLast out else none
  | [], _, h, _ => absurd rfl h
  | [w], out, _, ho => by
    simp only [readL, List.getLast?_singleton, Option.some.injEq, List.length_cons, List.length_nil, List.dropLast_singleton, readE]
    by_cases hw : w = []
    · rw [if_pos hw, if_pos ⟨hw, by omega⟩]
    · rw [if_neg hw, if_neg (fun h => hw h.1)]
  | w :: v :: r, out, _, ho => by
    have e1 : (w :: v :: r).getLast? = (v :: r).getLast? := by simp [List.getLast?_cons_cons]
    have e2 : (w :: v :: r).dropLast = w :: (v :: r).dropLast := rfl
    rw [readL, e1, e2, readE]
    by_cases h100 : out.length = 100
    · rw [if_pos h100, if_neg (fun h => by have := h.2; simp only [List.length_cons] at this; omega)]
    · rw [if_neg h100]
      cases entryOf w with
      | none =>
        simp only [Option.bind]
        split <;> rfl
      | some x =>
        simp only [Option.bind]
        rw [readL_eq (v :: r) (out ++ [x]) (by simp) (by simp; omega)]
        simp only [List.length_append, List.length_cons, List.length_nil]
        by_cases hc : (v :: r).getLast? = some [] ∧ out.length + (0 + 1) + (r.length + 1) ≤ 101
        · rw [if_pos hc, if_pos ⟨hc.1, by omega⟩]
        · rw [if_neg hc, if_neg (fun h => hc ⟨h.1, by omega⟩)]
theorem readD_eq (t : List UInt8) : readD t = if (pieces 10 t).getLast? = some [] ∧ (pieces 10 t).length ≤ 101 then readE (pieces 10 t).dropLast [] else none := by
  rw [readD, readL_eq _ _ (pieces_ne 10 t) (by simp)]
  simp only [List.length_nil, Nat.zero_add]
/-- One step of the program's way. -/
theorem readL_nil (out : List Entry) : readL (pieces 10 []) out = some out := rfl
theorem readL_miss {t : List UInt8} (h : 10 ∉ t) (h0 : t ≠ []) (out : List Entry) : readL (pieces 10 t) out = none := by
  rw [pieces_miss 10 t h, readL, if_neg h0]
theorem readL_hit {a b : List UInt8} (h : 10 ∉ a) (out : List Entry) :
    readL (pieces 10 (a ++ 10 :: b)) out = if out.length = 100 then none else (entryOf a).bind fun x => readL (pieces 10 b) (out ++ [x]) := by
  rw [pieces_hit 10 a b h]
  cases hp : pieces 10 b with
  | nil => exact absurd hp (pieces_ne 10 b)
  | cons v r => rfl
/-- What a line holds. -/
theorem entryOf_short {l : List UInt8} (h : (pieces 32 l).length ≠ 3) : entryOf l = none := by
  unfold entryOf
  split
  · rename_i a b c he
    exact absurd (by rw [he]; rfl) h
  · rfl
theorem entryOf_three {l a b c : List UInt8} (h : pieces 32 l = [a, b, c]) :
    entryOf l = (kindOf a).bind fun k => (numIn 0 99 b).bind fun m => (numIn 1 1000 c).bind fun n => some ⟨k, m, n⟩ := by
  unfold entryOf
  rw [h]
theorem numIn_le {lo hi n : Nat} {l : List UInt8} (h : numIn lo hi l = some n) : lo ≤ n ∧ n ≤ hi := by
  unfold numIn at h
  cases hn : numOf l with
  | none => rw [hn] at h; cases h
  | some m =>
    rw [hn] at h
    simp only [Option.bind] at h
    split at h
    · injection h with h; subst h; assumption
    · cases h
theorem kindOf_le {w : List UInt8} {k : Nat} (h : kindOf w = some k) : k ≤ 3 ∧ w = wordOf k := by
  unfold kindOf at h
  split at h
  · rename_i e; injection h with h; subst h; exact ⟨by decide, e⟩
  · split at h
    · rename_i e; injection h with h; subst h; exact ⟨by decide, e⟩
    · split at h
      · rename_i e; injection h with h; subst h; exact ⟨by decide, e⟩
      · split at h
        · rename_i e; injection h with h; subst h; exact ⟨by decide, e⟩
        · cases h
theorem kindOf_word {k : Nat} (h : k ≤ 3) : kindOf (wordOf k) = some k := by
  have : k = 0 ∨ k = 1 ∨ k = 2 ∨ k = 3 := by omega
  rcases this with rfl | rfl | rfl | rfl <;> rfl
/-- Numerals hold digits alone. -/
theorem dec_digit : ∀ (n : Nat) (c : UInt8), c ∈ Lib.decDigits n → 48 ≤ c.toNat ∧ c.toNat ≤ 57 := by
  intro n
  induction n using Nat.strongRecOn with
  | _ n ih =>
    intro c hc
    rw [Lib.decDigits] at hc
    split at hc
    · rename_i h
      rw [List.mem_singleton] at hc
      rw [hc, u8_to n h]
      omega
    · rename_i h
      rw [List.mem_append] at hc
      rcases hc with hc | hc
      · exact ih (n / 10) (by omega) c hc
      · rw [List.mem_singleton] at hc
        rw [hc, u8_to (n % 10) (by omega)]
        omega
theorem dec_not {n : Nat} {c : UInt8} (h : c.toNat < 48) : c ∉ dec n := by
  rw [dec_nat]
  intro hc
  have := dec_digit n c hc
  omega
theorem wordOf_not {k : Nat} {c : UInt8} (h : c.toNat < 97) : c ∉ wordOf k := by
  have e : ∀ x ∈ wordOf (k : Int), 97 ≤ x.toNat := by
    unfold wordOf
    split
    · decide
    · split
      · decide
      · split
        · decide
        · decide
  intro hc
  have := e c hc
  omega
theorem entryOf_line (k m n : Nat) (hk : k ≤ 3) (hm : m ≤ 99) (hn : 1 ≤ n) (hn2 : n ≤ 1000) :
    entryOf (wordOf k ++ [32] ++ dec m ++ [32] ++ dec n) = some ⟨k, m, n⟩ := by
  have e : pieces 32 (wordOf k ++ [32] ++ dec m ++ [32] ++ dec n) = [wordOf k, dec m, dec n] := by
    have e1 : wordOf k ++ [32] ++ dec m ++ [32] ++ dec n = wordOf k ++ 32 :: (dec m ++ 32 :: dec n) := by simp
    rw [e1, pieces_hit 32 _ _ (wordOf_not (by decide)), pieces_hit 32 _ _ (dec_not (by decide)), pieces_miss 32 _ (dec_not (by decide))]
  rw [entryOf_three e, kindOf_word hk]
  have h1 : numIn 0 99 (dec m) = some m := by
    unfold numIn
    rw [dec_nat, numOf_dec (by omega)]
    simp [hm]
  have h2 : numIn 1 1000 (dec n) = some n := by
    unfold numIn
    rw [dec_nat, numOf_dec (by omega)]
    simp [hn, hn2]
  rw [h1, h2]
  rfl
/-- What is written is read. -/
theorem readL_lines : ∀ (xs out : List Entry), (∀ x ∈ xs, x.plain = true) → out.length + xs.length ≤ 100 → readL (pieces 10 (linesT xs)) out = some (out ++ xs)
  | [], out, _, _ => by simp [linesT, pieces, readL]
  | x :: r, out, h, hl => by
    have hx := h x (by simp)
    obtain ⟨a, b, c⟩ := x
    simp only [Entry.plain, inB, Bool.and_eq_true, decide_eq_true_eq] at hx
    obtain ⟨⟨ha1, ha2⟩, ⟨hb1, hb2⟩, hc1, hc2⟩ := hx
    obtain ⟨k, rfl⟩ : ∃ k : Nat, a = k := ⟨a.toNat, by omega⟩
    obtain ⟨m, rfl⟩ : ∃ m : Nat, b = m := ⟨b.toNat, by omega⟩
    obtain ⟨n, rfl⟩ : ∃ n : Nat, c = n := ⟨c.toNat, by omega⟩
    have e : linesT (⟨k, m, n⟩ :: r) = (wordOf k ++ [32] ++ dec m ++ [32] ++ dec n) ++ 10 :: linesT r := by
      unfold linesT
      rw [List.flatMap_cons]
      simp [Entry.line]
    have hno : 10 ∉ wordOf k ++ [32] ++ dec m ++ [32] ++ dec n := by
      have h1 : (10 : UInt8) ∉ wordOf k := wordOf_not (by decide)
      have h2 : (10 : UInt8) ∉ dec m := dec_not (by decide)
      have h3 : (10 : UInt8) ∉ dec n := dec_not (by decide)
      simp only [List.mem_append, List.mem_singleton, not_or]
      exact ⟨⟨⟨⟨h1, by decide⟩, h2⟩, by decide⟩, h3⟩
    rw [List.length_cons] at hl
    rw [e, readL_hit hno, if_neg (by omega), entryOf_line k m n (by omega) (by omega) (by omega) (by omega)]
    simp only [Option.bind]
    rw [readL_lines r (out ++ [(⟨(k : Int), (m : Int), (n : Int)⟩ : Entry)]) (fun y hy => h y (List.mem_cons_of_mem _ hy)) (by simp; omega)]
    simp
theorem readD_lines {xs : List Entry} (h : ∀ x ∈ xs, x.plain = true) (hl : xs.length ≤ 100) : readD (linesT xs) = some xs := by
  have := readL_lines xs [] h (by simpa using hl)
  rw [readD]
  simpa using this
/-- What is read is a diary. -/
theorem entryOf_plain {l : List UInt8} {x : Entry} (h : entryOf l = some x) : x.plain = true := by
  unfold entryOf at h
  split at h
  · rename_i a b c _
    cases h1 : kindOf a with
    | none => rw [h1] at h; cases h
    | some k =>
      cases h2 : numIn 0 99 b with
      | none => rw [h1, h2] at h; cases h
      | some m =>
        cases h3 : numIn 1 1000 c with
        | none => rw [h1, h2, h3] at h; cases h
        | some n =>
          rw [h1, h2, h3] at h
          simp only [Option.bind, Option.some.injEq] at h
          subst h
          have hk := (kindOf_le h1).1
          have hm := numIn_le h2
          have hn := numIn_le h3
          simp only [Entry.plain, inB, Bool.and_eq_true, decide_eq_true_eq]
          omega
  · cases h
end Go.Proofs.YtaepgjjmfopiiaaDoor
