/- Things on rows and calls on which many walks lean. -/
import Derived.Test.YtaepgjjmfopiiaaDoorGrow
namespace Go.Proofs.YtaepgjjmfopiiaaDoor
set_option linter.unusedSimpArgs false
set_option linter.unusedVariables false
open Go.RowKit

theorem Mem.row_range {w0 w : World} {L : List Ent} (M : Mem w0 w L) (i : Nat) {g cap : Nat} {e : TypeId} {sz n : Nat} {cs : List Value} (h : L[i]? = some (.row (.slice (some ⟨g, 0, none⟩) n cap) e sz n cs)) : w.rangeAt g 0 cs :=
  fun j u hu => by rw [Nat.zero_add]; exact M.row_cell i h hu
theorem Mem.nilrow {w0 w : World} {L : List Ent} (M : Mem w0 w L) (e : TypeId) (sz : Nat) : Mem w0 w (L ++ [.row (.slice none 0 0) e sz 0 []]) :=
  M.push _ (Below.refl _ _) ⟨by simp, .inl ⟨rfl, rfl⟩⟩ (fun k hk => by simp [Ent.place, Value.ownBlock] at hk)
theorem flat_one {α : Type} {enc : α → List Value} (h : ∀ x, ∀ v ∈ enc x, v.oneCell' = true) (xs : List α) : ∀ v ∈ flat enc xs, v.oneCell' = true := by
  intro v hv
  obtain ⟨x, _, hx⟩ := List.mem_flatMap.1 hv
  exact h x v hx
/-- The first ones already turned. -/
def partly {α : Type} (f : α → α) (xs : List α) (k : Nat) : List α := (xs.take k).map f ++ xs.drop k
theorem partly_0 {α : Type} (f : α → α) (xs : List α) : partly f xs 0 = xs := by simp [partly]
theorem partly_all {α : Type} (f : α → α) (xs : List α) : partly f xs xs.length = xs.map f := by simp [partly]
theorem partly_at {α : Type} (f : α → α) {xs : List α} {k : Nat} (hk : k < xs.length) : (partly f xs k)[k]? = some xs[k] := by
  rw [partly, List.getElem?_append_right (by rw [List.length_map, List.length_take]; omega), List.length_map, List.length_take, Nat.min_eq_left (by omega), Nat.sub_self, List.getElem?_drop]
  simp [hk]
theorem partly_set {α : Type} (f : α → α) {xs : List α} {k : Nat} (hk : k < xs.length) : (partly f xs k).set k (f xs[k]) = partly f xs (k + 1) := by
  rw [partly, partly, List.set_append, if_neg (by rw [List.length_map, List.length_take]; omega), List.length_map, List.length_take, Nat.min_eq_left (by omega), Nat.sub_self, List.take_succ_eq_append_getElem hk]
  rw [List.drop_eq_getElem_cons hk]
  simp only [List.map_append, List.map_cons, List.map_nil, List.set_cons_zero, List.append_assoc, List.cons_append, List.nil_append]
theorem partly_len {α : Type} (f : α → α) (xs : List α) (k : Nat) : (partly f xs k).length = xs.length := by
  simp only [partly, List.length_append, List.length_map, List.length_take, List.length_drop]
  omega
theorem calls_args {P : Program} {f : FuncId} {args args' : Array Value} {w : World} {Q : Ending → World → Prop} (h : args = args') (H : Calls P f args w Q) : Calls P f args' w Q := h ▸ H
/-- A call hands back a row of its own, and a code. -/
def RetRowC (w : World) (T : TypeId) (sz n : Nat) (cs : List Value) (code : Int) (e : Ending) (w' : World) : Prop :=
  ∃ A c, e = .returned (.tuple #[.slice A n c, .int .i64 code]) ∧ n ≤ c ∧ Mem w w' [.row (.slice A n c) T sz n cs]
theorem Mem.row_none {w0 w : World} {L : List Ent} (M : Mem w0 w L) (i : Nat) {A : Option Addr} {m c : Nat} {e : TypeId} {sz n : Nat} {cs : List Value} (h : L[i]? = some (.row (.slice A m c) e sz n cs)) : A = none → c = 0 := by
  rintro rfl
  rcases (M.row i h).2 with ⟨h1, _⟩ | ⟨g, cap, cur, h1, _⟩
  · injection h1
  · injection h1 with h1; cases h1
theorem calls_caps {P : Program} {f : FuncId} {x : Value} {caps : List Value} {w : World} {Q : Ending → World → Prop} (h : Calls P f (x :: caps).toArray w Q) : Calls P f (#[x] ++ caps.toArray) w Q := by simpa using h
end Go.Proofs.YtaepgjjmfopiiaaDoor
