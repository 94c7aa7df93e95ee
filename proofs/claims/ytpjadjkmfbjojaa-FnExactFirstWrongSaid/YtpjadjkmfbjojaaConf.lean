/- Arguments opened: what the reading says of fields and entries. -/
import Derived.Test.YtpjadjkmfbjojaaOpen
import Derived.Test.YtpjadjkmfbjojaaDiary
namespace Go.Proofs.Ytpjadjkmfbjojaa
open Go.ChangeShapes Go.WideShapes Go.RowKit Go.Deep

theorem Conf.cons {k : IntKind} {ks : List IntKind} {cs : List Value} (h : Conf (k :: ks) cs) : ∃ n r, cs = Value.int k n :: r ∧ (Lit.int k n).wf = true ∧ Conf ks r := by
  obtain ⟨n, h1, h2⟩ := h.2 0 k rfl
  cases cs with
  | nil => cases h1
  | cons v r =>
    simp only [List.getElem?_cons_zero, Option.some.injEq] at h1
    subst h1
    refine ⟨n, r, rfl, h2, by simpa using h.1, fun i k' hk => ?_⟩
    obtain ⟨m, h3, h4⟩ := h.2 (i + 1) k' (by simpa using hk)
    exact ⟨m, by simpa using h3, h4⟩
theorem Conf.nil_eq {cs : List Value} (h : Conf [] cs) : cs = [] := List.length_eq_zero_iff.1 (by simpa using h.1)
theorem Conf.reps {k : IntKind} {n : Nat} {ks : List IntKind} {cs : List Value} (h : Conf (List.replicate n k ++ ks) cs) :
    ∃ (xs : List Int) (r : List Value), cs = xs.map (Value.int k) ++ r ∧ xs.length = n ∧ (∀ x ∈ xs, (Lit.int k x).wf = true) ∧ Conf ks r := by
  induction n generalizing cs with
  | zero => exact ⟨[], cs, rfl, rfl, by simp, by simpa using h⟩
  | succ n ih =>
    rw [List.replicate_succ, List.cons_append] at h
    obtain ⟨x, r, rfl, hw, hr⟩ := h.cons
    obtain ⟨xs, r', rfl, hl, hx, hr'⟩ := ih hr
    refine ⟨x :: xs, r', by simp, by simp [hl], fun y hy => ?_, hr'⟩
    rcases List.mem_cons.1 hy with rfl | hy
    · exact hw
    · exact hx y hy
def Fld.ks : List IntKind := .i8 :: .i8 :: (List.replicate 100 .u8 ++ List.replicate 100 .i16)
theorem Fld.of_conf {cs : List Value} (h : Conf Fld.ks cs) : ∃ F : Fld, F.ok ∧ cs = F.list := by
  obtain ⟨a, r, rfl, wa, h⟩ := h.cons
  obtain ⟨b, r, rfl, wb, h⟩ := h.cons
  obtain ⟨xs, r, rfl, lx, wx, h⟩ := h.reps
  obtain ⟨ys, r, rfl, ly, wy, h⟩ := Conf.reps (n := 100) (ks := []) (by simpa using h)
  obtain rfl := h.nil_eq
  have ha := bounds_i8 wa
  have hb := bounds_i8 wb
  exact ⟨⟨a, b, xs, ys⟩, ⟨⟨lx, ly⟩, ha.1, ha.2, hb.1, hb.2, fun x hx => bounds_u8 (wx x hx), fun x hx => bounds_i16 (wy x hx)⟩, by simp [Fld.list]⟩
def Entry.ks : List IntKind := [.i8, .i16, .i16]
theorem Entry.of_conf (cs : List Value) (h : Conf Entry.ks cs) : ∃ x : Entry, x.ok ∧ x.vals = cs := by
  obtain ⟨a, r, rfl, wa, h⟩ := h.cons
  obtain ⟨b, r, rfl, wb, h⟩ := h.cons
  obtain ⟨c, r, rfl, wc, h⟩ := h.cons
  obtain rfl := h.nil_eq
  exact ⟨⟨a, b, c⟩, ⟨bounds_i8 wa, bounds_i16 wb, bounds_i16 wc⟩, rfl⟩
end Go.Proofs.Ytpjadjkmfbjojaa
