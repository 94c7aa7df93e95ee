/- The laws' marks on slices of whole numbers; such slices compared. -/
import Derived.Test.YtkodcfnofjkohaaGen
import Derived.Test.YtkodcfnofjkohaaCells
import Derived.Test.YtkodcfnofjkohaaDrawn
namespace Go.Proofs.Ytkodcfnofjkohaa
set_option linter.unusedSimpArgs false
set_option linter.unusedVariables false
open Go.RowKit
attribute [local go_sem] cell?_mk frozen?_mk

/-- The marks 1, 2, .. -/
def marks (n : Nat) : List Nat := (List.range n).map (· + 1)
theorem marks_len (n : Nat) : (marks n).length = n := by simp [marks]
theorem marks_at {n i : Nat} (h : i < n) : (marks n)[i]? = some (i + 1) := by simp [marks, h]
theorem marks_succ (n : Nat) : marks (n + 1) = marks n ++ [n + 1] := by simp [marks, List.range_succ]
theorem one64_flat_len (ks : List Nat) : (flat one64 ks).length = ks.length := by rw [flat_len one64_len, Nat.mul_one]
set_option maxRecDepth 100000 in
set_option maxHeartbeats 1000000 in
theorem mark64_any {w0 w : World} {L : List Ent} (i : Nat) (M0 : Mem w0 w L) (A : Option Addr) (c n : Nat) (cs : List Value) (hL : L[i]? = some (.row (.slice A n c) 2 1 n cs)) (hl : n ≤ 1048576) :
    Calls Try.prog 17 #[.slice A n c, .int .i64 1] w fun e w' => e = .returned (.int .i64 (1 + n)) ∧ Mem w0 w' (L.set i (.row (.slice A n c) 2 1 n (flat one64 (marks n)))) := by
  have M := Lib.hid M0
  have HL := Lib.hid hL
  have hi : i < L.length := (List.getElem?_eq_some_iff.1 hL).1
  have hcs := M0.row_len i hL
  have HCS := Lib.hid hcs
  clear M0 hL hcs
  go_enter Try.func17, Try.ntmps17
  go_wp2
  go_loopw [1, 5] (fun u v wr => ∃ k : Nat, k ≤ n ∧ v = .int .i64 k ∧ u = .int .i64 (1 + (k : Int)) ∧ Mem w0 wr (L.set i (.row (.slice A n c) 2 1 n (flat one64 (marks k) ++ cs.drop k))))
    (fun _ v _ => n - (intOf v).toNat)
  case atStart => exact ⟨0, by omega, rfl, rfl, by rw [show flat one64 (marks 0) ++ cs.drop 0 = cs from rfl, set_same HL.out]; exact M.out⟩
  case round =>
    clear M
    obtain ⟨k, hk, rfl, rfl, m⟩ := hrel
    have M := Lib.hid m
    clear m
    by_cases hlt : k < n
    · have hLs : ∀ e : Ent, (L.set i e)[i]? = some e := fun e => by rw [List.getElem?_set_self hi]
      obtain ⟨g, cap, he, _⟩ := M.out.row_form i (hLs _) (by omega)
      obtain ⟨rfl, rfl⟩ : A = some ⟨g, 0, none⟩ ∧ c = cap := by injection he with e1 _ e2; exact ⟨e1, e2⟩
      clear he
      have HLs := Lib.hid hLs
      have e1 : IntKind.i64.wrap (1 + (k : Int) + 1) = 1 + (k : Int) + 1 := IntWalk.i64_in _ (by omega)
      have HP := Lib.hid (show (flat one64 (marks k) ++ cs.drop k).set k (.int .i64 (1 + (k : Int))) = flat one64 (marks (k + 1)) ++ cs.drop (k + 1) by
        have hc := HCS.out
        have h1 : (flat one64 (marks k)).length = k := by rw [one64_flat_len, marks_len]
        rw [List.set_append, if_neg (by omega), h1, Nat.sub_self, marks_succ, flat_append, List.drop_eq_getElem_cons (by omega : k < cs.length), List.set_cons_zero, List.append_assoc]
        congr 1
        show _ = Value.int .i64 ((k + 1 : Nat) : Int) :: cs.drop (k + 1)
        congr 2
        omega)
      have HLN := Lib.hid (show k < (flat one64 (marks k) ++ cs.drop k).length by
        have hc := HCS.out
        rw [List.length_append, one64_flat_len, marks_len, List.length_drop]
        omega)
      clear hLs
      go_wp2_with (first
        | ((with_reducible refine gate_store (x := .tmp 15) rfl ?_); go_must (refine M.out.ev_rput1 i _ _ _ rfl rfl (HLs.out _) rfl (.int .i64 (1 + (k : Int))) rfl HLN.out sz2 rfl rfl ?_); intro wn m; rw [List.set_set, HP.out] at m; have M := Lib.hid m; clear m)
        )
      exact ⟨⟨k + 1, by omega, by go_num, by first | (congr 1; done) | (congr 1; omega), M.out⟩, by simp [intOf]; omega⟩
    · obtain rfl : k = n := by omega
      go_wp2
      go_ret
      have hc := HCS.out
      exact ⟨rfl, by have m := M.out; rw [List.drop_of_length_le (by omega), List.append_nil] at m; exact m⟩
set_option maxRecDepth 100000 in
set_option maxHeartbeats 1000000 in
theorem held64_any (A : Option Addr) (c n : Nat) (hl : n ≤ 1048576) (w : World) (hs : Sl w 1 A n (flat one64 (marks n))) :
    Calls Try.prog 18 #[.slice A n c, .int .i64 1] w fun e w' => e = .returned (.int .i64 (1 + n)) ∧ w = w' := by
  have HS := Lib.hid hs
  clear hs
  go_enter Try.func18, Try.ntmps18
  go_wp2
  go_loop [1, 5] (fun u v => ∃ k : Nat, k ≤ n ∧ v = .int .i64 k ∧ u = .int .i64 (1 + (k : Int)))
    (fun _ v => n - (intOf v).toNat)
  case atStart => exact ⟨0, by omega, rfl, rfl⟩
  case round =>
    obtain ⟨k, hk, rfl, rfl⟩ := hrel
    by_cases hlt : k < n
    · obtain ⟨b, off, rfl, hr⟩ := HS.out.2 (by omega)
      have R := range_at one64_len hr (marks_at hlt)
      have x0 : w.cell? ⟨b, off + k, none⟩ = some (.int .i64 (1 + (k : Int))) := by
        have := R 0 _ rfl
        rw [Nat.mul_one, Nat.add_zero] at this
        rw [this]
        show some (Value.int .i64 ((k + 1 : Nat) : Int)) = _
        congr 2
        omega
      have e1 : IntKind.i64.wrap (1 + (k : Int) + 1) = 1 + (k : Int) + 1 := IntWalk.i64_in _ (by omega)
      clear hr R
      go_wp2
      exact ⟨⟨k + 1, by omega, by go_num, by first | (congr 1; done) | (congr 1; omega)⟩, by simp [intOf]; omega⟩
    · obtain rfl : k = n := by omega
      go_wp2
      go_ret
      exact ⟨rfl, rfl⟩
set_option maxRecDepth 100000 in
set_option maxHeartbeats 1000000 in
theorem eq64_any (A B : Option Addr) (c d : Nat) (ks : List Nat) (w : World) (hl : ks.length ≤ 1048576) (hx : Sl w 1 A ks.length (flat one64 ks)) (hy : Sl w 1 B ks.length (flat one64 ks)) :
    Calls Try.prog 15 #[.slice A ks.length c, .slice B ks.length d] w fun e w' => e = .returned (.bool true) ∧ Mem w w' [] := by
  have M := Lib.hid (Mem.start w)
  have HX := Lib.hid hx
  have HY := Lib.hid hy
  clear hx hy
  go_enter Try.func15, Try.ntmps15
  go_wp2
  go_loopw [5] (fun v wr => ∃ k : Nat, k ≤ ks.length ∧ v = .int .i64 k ∧ Mem w wr [])
    (fun v _ => ks.length - (intOf v).toNat)
  case atStart => exact ⟨0, by omega, rfl, M.out⟩
  case round =>
    clear M
    obtain ⟨k, hk, rfl, m⟩ := hrel
    have M := Lib.hid m
    clear m
    by_cases hlt : k < ks.length
    · obtain ⟨b, off, rfl, hr⟩ := (M.out.sl HX.out).2 (by omega)
      obtain ⟨b2, off2, rfl, hr2⟩ := (M.out.sl HY.out).2 (by omega)
      have hxk : ks[k]? = some ks[k] := List.getElem?_eq_getElem hlt
      have x0 : wr.cell? ⟨b, off + k, none⟩ = some (.int .i64 ks[k]) := by simpa [nat64] using range_at one64_len hr hxk 0 _ rfl
      have y0 : wr.cell? ⟨b2, off2 + k, none⟩ = some (.int .i64 ks[k]) := by simpa [nat64] using range_at one64_len hr2 hxk 0 _ rfl
      have i0 : (0 : Int) ≤ (k : Int) := by omega
      have i1 : (k : Int) < (ks.length : Int) := by omega
      clear hr hr2 hxk
      go_wp2_with fail
      go_quiet (fail)
      have M := Lib.hid (M.out.drewN nq)
      go_wp2
      exact ⟨⟨k + 1, by omega, by go_num, M.out⟩, by simp [intOf]; omega⟩
    · obtain rfl : k = ks.length := by omega
      go_wp2
      go_ret
      exact ⟨rfl, M.out⟩
end Go.Proofs.Ytkodcfnofjkohaa
