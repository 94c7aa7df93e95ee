/- Texts as lists of bytes. No program. -/
import Derived.Lib.ItoaLen
import Derived.Lib.ItoaMem
import Derived.Lib.Join
import Derived.Test.YtaepgjjmfopiiaaDoorEntry
import Derived.Test.YtaepgjjmfopiiaaDoorDiary
import Derived.Test.YtaepgjjmfopiiaaDoorNet
import Derived.Test.YtaepgjjmfopiiaaDoorFlock
import Derived.Test.YtaepgjjmfopiiaaDoorScarecrow
namespace Go.Proofs.YtaepgjjmfopiiaaDoor
set_option linter.unusedSimpArgs false
set_option linter.unusedVariables false
open Go.RowKit

/-- A numeral. -/
def dec (n : Int) : List UInt8 := Lib.itoa n
theorem dec_nat (n : Nat) : dec n = Lib.decDigits n := Lib.itoa_nonneg n
theorem dec_b {n : Int} (h0 : -9223372036854775808 ≤ n) (h1 : n ≤ 9223372036854775807) : (dec n).length ≤ 21 := Lib.itoa_length_le n h0 h1
/-- Words with a byte between them. -/
def joinS (c : UInt8) : List (List UInt8) → List UInt8
  | [] => []
  | [w] => w
  | w :: v :: r => w ++ c :: joinS c (v :: r)
theorem joinS_lib (c : UInt8) : ∀ ws : List (List UInt8), Lib.join ws [c] = joinS c ws
  | [] => by simp [Lib.join, joinS]
  | [w] => by simp [Lib.join, joinS]
  | w :: v :: r => by
    have := joinS_lib c (v :: r)
    unfold Lib.join at this ⊢
    rw [joinS, ← this]
    simp [List.intercalate, List.intersperse]
theorem joinS_snoc (c : UInt8) : ∀ (ws : List (List UInt8)) (w : List UInt8), ws ≠ [] → joinS c (ws ++ [w]) = joinS c ws ++ [c] ++ w
  | [], _, h => absurd rfl h
  | [v], w, _ => by simp [joinS]
  | v :: u :: r, w, _ => by
    have := joinS_snoc c (u :: r) w (by simp)
    simp only [List.cons_append] at this ⊢
    rw [joinS, joinS, this]
    simp
theorem joinS_len (c : UInt8) (B : Nat) : ∀ ws : List (List UInt8), (∀ w ∈ ws, w.length ≤ B) → (joinS c ws).length ≤ (B + 1) * ws.length
  | [], _ => by simp [joinS]
  | [w], h => by
    have := h w (by simp)
    simp [joinS]; omega
  | w :: v :: r, h => by
    have h1 := h w (by simp)
    have := joinS_len c B (v :: r) fun x hx => h x (List.mem_cons_of_mem _ hx)
    rw [joinS]
    simp only [List.length_append, List.length_cons, Nat.mul_add] at this ⊢
    omega
/-! ### The four kinds of texts -/
def wordOf (k : Int) : List UInt8 := if k = 0 then [115, 111, 119] else if k = 1 then [101, 97, 116] else if k = 2 then [116, 97, 107, 101] else [102, 97, 108, 108]
theorem wordOf_len (k : Int) : (wordOf k).length ≤ 4 := by
  unfold wordOf
  split
  · simp
  · split
    · simp
    · split <;> simp
def Entry.line (x : Entry) : List UInt8 := wordOf x.what ++ [32] ++ dec x.cell ++ [32] ++ dec x.amount ++ [10]
theorem Entry.line_len {x : Entry} (h : x.ok) : x.line.length ≤ 100 := by
  have h1 := dec_b (n := x.cell) (by have := h.b; omega) (by have := h.b; omega)
  have h2 := dec_b (n := x.amount) (by have := h.c; omega) (by have := h.c; omega)
  have h3 := wordOf_len x.what
  simp only [Entry.line, List.length_append, List.length_cons, List.length_nil]
  omega
/-- What is said of all is said of a beginning, and of one more. -/
theorem allT_succ {α : Type} {p : α → Prop} {xs : List α} {k : Nat} (h : k < xs.length) (h1 : ∀ x ∈ xs.take k, p x) (h2 : p xs[k]) : ∀ x ∈ xs.take (k + 1), p x := by
  intro x hx
  rw [List.take_succ_eq_append_getElem h, List.mem_append] at hx
  rcases hx with hx | hx
  · exact h1 x hx
  · simp at hx; subst hx; exact h2
theorem not_allT {α : Type} {p : α → Bool} {xs : List α} {x : α} (hx : x ∈ xs) (h : p x = false) : xs.all p = false := by
  rw [List.all_eq_false]
  exact ⟨x, hx, by simp [h]⟩
theorem allT_of {α : Type} {p : α → Bool} {xs : List α} (h : ∀ x ∈ xs.take xs.length, p x = true) : xs.all p = true := by
  rw [List.take_length] at h
  exact List.all_eq_true.2 h
/-- The text of some words, one after the other. -/
def wordsT (ws : List (List UInt8)) (k : Nat) : List UInt8 := joinS 32 (ws.take k)
theorem wordsT_0 (ws : List (List UInt8)) : wordsT ws 0 = [] := by simp [wordsT, joinS]
theorem wordsT_1 {ws : List (List UInt8)} (h : 0 < ws.length) : wordsT ws 1 = ws[0] := by
  unfold wordsT
  rw [List.take_succ_eq_append_getElem h]; simp [joinS]
theorem wordsT_succ {ws : List (List UInt8)} {k : Nat} (h : k < ws.length) (h0 : 0 < k) : wordsT ws (k + 1) = wordsT ws k ++ [32] ++ ws[k] := by
  unfold wordsT
  rw [List.take_succ_eq_append_getElem h, joinS_snoc _ _ _ (fun e => by
    have := congrArg List.length e
    rw [List.length_take, List.length_nil] at this
    omega)]
theorem wordsT_all (ws : List (List UInt8)) : wordsT ws ws.length = joinS 32 ws := by unfold wordsT; rw [List.take_length]
theorem wordsT_len {ws : List (List UInt8)} (h : ∀ w ∈ ws, w.length ≤ 200) {k : Nat} (hk : k ≤ 1048576) : (wordsT ws k).length ≤ 1000000000 := by
  have := joinS_len 32 200 (ws.take k) fun w hw => h w (List.mem_of_mem_take hw)
  have h2 : (ws.take k).length ≤ k := List.length_take_le _ _
  unfold wordsT
  omega
def linesT (xs : List Entry) : List UInt8 := xs.flatMap Entry.line
theorem linesT_succ {xs : List Entry} {k : Nat} (h : k < xs.length) : linesT (xs.take (k + 1)) = linesT (xs.take k) ++ xs[k].line := by
  unfold linesT
  rw [List.take_succ_eq_append_getElem h, List.flatMap_append]; simp
theorem linesT_len {xs : List Entry} (h : ∀ x ∈ xs, x.ok) : (linesT xs).length ≤ 100 * xs.length := by
  induction xs with
  | nil => simp [linesT]
  | cons x xs ih =>
    have h1 := Entry.line_len (h x (by simp))
    have h2 := ih fun y hy => h y (List.mem_cons_of_mem _ hy)
    unfold linesT at h2 ⊢
    rw [List.flatMap_cons, List.length_append, List.length_cons]
    omega
theorem Mem.argT {w0 w : World} {L : List Ent} (M : Mem w0 w L) {b off : Nat} {cs : List Value} (h : w0.rangeAt b off cs) : w.rangeAt b off cs := fun j v hj => M.argcell (h j v hj)
theorem wordsT_next0 {α : Type} (f : α → List UInt8) {xs : List α} {k : Nat} (h : k < xs.length) (h0 : k = 0) : wordsT (xs.map f) (k + 1) = wordsT (xs.map f) k ++ f xs[k] := by
  subst h0
  rw [wordsT_0, wordsT_1 (by simpa using h)]
  simp
theorem wordsT_next {α : Type} (f : α → List UInt8) {xs : List α} {k : Nat} (h : k < xs.length) (h0 : ¬ k = 0) : wordsT (xs.map f) (k + 1) = wordsT (xs.map f) k ++ [32] ++ f xs[k] := by
  rw [wordsT_succ (by simpa using h) (by omega)]
  simp
/-- Words as Go's texts. -/
def strsOf (ws : List (List UInt8)) : List ByteArray := ws.map fun w => ⟨w.toArray⟩
theorem strsOf_len (ws : List (List UInt8)) : (strsOf ws).length = ws.length := by simp [strsOf]
theorem strsOf_succ {ws : List (List UInt8)} {k : Nat} (h : k < ws.length) : strsOf (ws.take (k + 1)) = strsOf (ws.take k) ++ [⟨ws[k].toArray⟩] := by
  unfold strsOf
  rw [List.take_succ_eq_append_getElem h, List.map_append]; rfl
theorem strsOf_join (c : UInt8) (ws : List (List UInt8)) : Lib.join ((strsOf ws).map (·.data.toList)) (⟨#[c]⟩ : ByteArray).data.toList = joinS c ws := by
  rw [← joinS_lib]
  unfold strsOf
  rw [List.map_map]
  congr 1
  conv => rhs; rw [← List.map_id ws]
  exact List.map_congr_left fun w _ => by simp
end Go.Proofs.YtaepgjjmfopiiaaDoor
