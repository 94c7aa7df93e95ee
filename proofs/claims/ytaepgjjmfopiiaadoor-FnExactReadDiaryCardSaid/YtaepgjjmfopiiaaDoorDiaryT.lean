/- The text of a diary: the walks of both. -/
import Derived.Test.YtaepgjjmfopiiaaDoorTextP
import Derived.Test.YtaepgjjmfopiiaaDoorDec
import Derived.Test.YtaepgjjmfopiiaaDoorDiary
namespace Go.Proofs.YtaepgjjmfopiiaaDoor
set_option linter.unusedSimpArgs false
set_option linter.unusedVariables false
open Go.RowKit
attribute [local go_sem] cell?_mk frozen?_mk
--ONES exact Entry.one _

def fourW : List Value := [.string ⟨#[115, 111, 119]⟩, .string ⟨#[101, 97, 116]⟩, .string ⟨#[116, 97, 107, 101]⟩, .string ⟨#[102, 97, 108, 108]⟩]
theorem fourW_one : ∀ v ∈ fourW, v.cells = #[v] := by
  intro v hv
  simp only [fourW, List.mem_cons, List.not_mem_nil, or_false] at hv
  rcases hv with rfl | rfl | rfl | rfl <;> rfl
theorem fourW_at {k : Nat} (h : k < 4) : fourW[k]? = some (.string ⟨(wordOf k).toArray⟩) := by
  match k, h with
  | 0, _ => rfl
  | 1, _ => rfl
  | 2, _ => rfl
  | 3, _ => rfl
set_option maxRecDepth 100000 in
set_option maxHeartbeats 2000000 in
theorem whats_any (w : World) : Calls Tryd.prog 16 #[] w fun e w' => ∃ g, e = .returned (.slice (some ⟨g, 0, none⟩) 4 4) ∧ Mem w w' [.blk g 9 fourW.toArray] := by
  have M := Lib.hid (Mem.start w)
  go_enter Tryd.func16, Tryd.ntmps16
  go_wp2_with (first
    | ((with_reducible refine gate_dst (N := 1) rfl ?_); go_must (refine M.out.ev_bsV elem_string rfl 4 _ rfl fourW fourW_one rfl (by decide) (by decide) (by simp only [fourW]; go_simp; try rfl) ?_); intro g1 w1 m; simp only [List.nil_append] at m; have M := Lib.hid m; clear m)
    )
  go_ret
  exact ⟨g1, rfl, M.out⟩
set_option maxRecDepth 100000 in
set_option maxHeartbeats 2000000 in
theorem l07Word_any (k : Nat) (hk : k < 4) (w : World) : Calls Tryd.prog 10 #[.int .i64 k] w fun e w' => e = .returned (.string ⟨(wordOf k).toArray⟩) ∧ Mem w w' [] := by
  have M := Lib.hid (Mem.start w)
  have HF := Lib.hid (fourW_at hk)
  have i0 : (0 : Int) ≤ (k : Int) := by omega
  have i1 : (k : Int) < 4 := by omega
  go_enter Tryd.func10, Tryd.ntmps10
  go_wp2_with (first
    | ((with_reducible refine gate_dst (N := 4) rfl ?_); go_must (refine M.out.ev_bsV elem_string rfl 4 _ rfl fourW fourW_one rfl (by decide) (by decide) (by simp only [fourW]; go_simp; try rfl) ?_); intro g1 w1 m; simp only [List.nil_append] at m; have M := Lib.hid m; clear m; have c0 := M.out.cell 0 rfl (j := k) (by rw [List.getElem?_toArray]; exact HF.out))
    )
  go_ret
  exact ⟨rfl, M.out.take 0⟩
/-- The text of a diary that is told; none if one of its entries is not plain, or if there are too many. -/
def diaryT (xs : List Entry) : List UInt8 := if xs.all Entry.plain = true then if xs.length ≤ 100 then linesT xs else [] else []
end Go.Proofs.YtaepgjjmfopiiaaDoor
