/- Arguments opened: what the reading says of fields and entries. -/
import Derived.Test.YtaepgjjmfopiiaaDoorConf0
import Derived.Test.YtaepgjjmfopiiaaDoorDiary
namespace Go.Proofs.YtaepgjjmfopiiaaDoor
set_option linter.unusedSimpArgs false
set_option linter.unusedVariables false
open Go.ChangeShapes Go.WideShapes Go.RowKit Go.Deep

def Fld.ks : List IntKind := .i8 :: .i8 :: (List.replicate 100 .u8 ++ List.replicate 100 .i16)
theorem Fld.of_conf {cs : List Value} (h : Conf Fld.ks cs) : ∃ F : Fld, F.ok ∧ cs = F.list := by
  obtain ⟨a, r, rfl, wa, h⟩ := h.cons
  obtain ⟨b, r, rfl, wb, h⟩ := h.cons
  obtain ⟨xs, r, rfl, lx, wx, h⟩ := h.reps
  obtain ⟨ys, r, rfl, ly, wy, h⟩ := Conf.reps (n := 100) (ks := []) (by simpa using h)
  obtain rfl := h.nil_eq
  have ha := bounds_i8 wa
  have hb := bounds_i8 wb
  exact ⟨⟨a, b, xs, ys⟩, ⟨⟨lx, ly⟩, ha.1, ha.2, hb.1, hb.2, fun x hx => bounds_u8 (wx x hx), fun x hx => bounds_i16 (wy x hx)⟩, by simp [Fld.list]⟩
def Entry.ks : List IntKind := [.i8, .i16, .i16]
theorem Entry.of_conf (cs : List Value) (h : Conf Entry.ks cs) : ∃ x : Entry, x.ok ∧ x.vals = cs := by
  obtain ⟨a, r, rfl, wa, h⟩ := h.cons
  obtain ⟨b, r, rfl, wb, h⟩ := h.cons
  obtain ⟨c, r, rfl, wc, h⟩ := h.cons
  obtain rfl := h.nil_eq
  exact ⟨⟨a, b, c⟩, ⟨bounds_i8 wa, bounds_i16 wb, bounds_i16 wc⟩, rfl⟩
end Go.Proofs.YtaepgjjmfopiiaaDoor
