/- Two slices of whole numbers compared by the laws. -/
import Derived.Test.YtkodcfnofjkohaaRowI0
namespace Go.Proofs.Ytkodcfnofjkohaa
set_option linter.unusedSimpArgs false
set_option linter.unusedVariables false
open Go.RowKit
attribute [local go_sem] cell?_mk frozen?_mk

set_option maxRecDepth 100000 in
set_option maxHeartbeats 1000000 in
theorem eqI_any (A B : Option Addr) (c d : Nat) (ks : List Int) (w : World) (hl : ks.length ≤ 1048576) (hx : Sl w 1 A ks.length (flat oneI ks)) (hy : Sl w 1 B ks.length (flat oneI ks)) :
    Calls Try.prog 15 #[.slice A ks.length c, .slice B ks.length d] w fun e w' => e = .returned (.bool true) ∧ Mem w w' [] := by
  have M := Lib.hid (Mem.start w)
  have HX := Lib.hid hx
  have HY := Lib.hid hy
  clear hx hy
  go_enter Try.func15, Try.ntmps15
  go_wp2
  go_loopw [5] (fun v wr => ∃ k : Nat, k ≤ ks.length ∧ v = .int .i64 k ∧ Mem w wr [])
    (fun v _ => ks.length - (intOf v).toNat)
  case atStart => exact ⟨0, by omega, rfl, M.out⟩
  case round =>
    clear M
    obtain ⟨k, hk, rfl, m⟩ := hrel
    have M := Lib.hid m
    clear m
    by_cases hlt : k < ks.length
    · obtain ⟨b, off, rfl, hr⟩ := (M.out.sl HX.out).2 (by omega)
      obtain ⟨b2, off2, rfl, hr2⟩ := (M.out.sl HY.out).2 (by omega)
      have hxk : ks[k]? = some ks[k] := List.getElem?_eq_getElem hlt
      have x0 : wr.cell? ⟨b, off + k, none⟩ = some (.int .i64 ks[k]) := by simpa [oneI] using range_at oneI_len hr hxk 0 _ rfl
      have y0 : wr.cell? ⟨b2, off2 + k, none⟩ = some (.int .i64 ks[k]) := by simpa [oneI] using range_at oneI_len hr2 hxk 0 _ rfl
      have i0 : (0 : Int) ≤ (k : Int) := by omega
      have i1 : (k : Int) < (ks.length : Int) := by omega
      clear hr hr2 hxk
      go_wp2_with fail
      go_quiet (fail)
      have M := Lib.hid (M.out.drewN nq)
      go_wp2
      exact ⟨⟨k + 1, by omega, by go_num, M.out⟩, by simp [intOf]; omega⟩
    · obtain rfl : k = ks.length := by omega
      go_wp2
      go_ret
      exact ⟨rfl, M.out⟩
end Go.Proofs.Ytkodcfnofjkohaa
