/- Slices of whole numbers as the laws' arguments: handed over, marked from any number on, and opened. -/
import Derived.Test.YtbjcajhbhicokaaEqI
import Derived.Test.YtbjcajhbhicokaaGen2
import Derived.Test.YtbjcajhbhicokaaConf0
namespace Go.Proofs.Ytbjcajhbhicokaa
set_option linter.unusedSimpArgs false
set_option linter.unusedVariables false
open Go.RowKit
attribute [local go_sem] cell?_mk frozen?_mk

def I64.vals (x : Int) : List Value := oneI x
def I64.ok (_ : Int) : Prop := True
def I64.ks : List IntKind := [.i64]
theorem I64.vl (x : Int) : (I64.vals x).length = 1 := rfl
theorem I64.of_conf (cs : List Value) (h : Conf I64.ks cs) : ∃ x : Int, I64.ok x ∧ I64.vals x = cs := by
  obtain ⟨e0, r, rfl, w0, h⟩ := h.cons
  obtain rfl := h.nil_eq
  exact ⟨e0, trivial, rfl⟩
theorem map_gi (p : List Int) : (List.range p.length).map (gi p) = p := by
  refine List.ext_getElem (by simp) fun i h1 h2 => ?_
  simp only [List.getElem_map, List.getElem_range]
  unfold gi
  rw [List.getD_eq_getElem?_getD, List.getElem?_eq_getElem h2]
  rfl
theorem take_set_at (p : List Int) {k n : Nat} (hk : k < p.length) (hn : p.length = n) : (flat oneI (p.take k ++ (List.replicate n 0).drop k)).set k (.int .i64 p[k]) = flat oneI (p.take (k + 1) ++ (List.replicate n 0).drop (k + 1)) := by
  rw [flat_oneI, flat_oneI, ← List.map_set, take_set_drop _ _ _ _ (List.getElem?_eq_getElem hk) (by simp; omega)]
set_option maxRecDepth 100000 in
set_option maxHeartbeats 1000000 in
theorem toInt64S_any (A : Option Addr) (c : Nat) (p : List Int) (w : World) (h1 : p.length ≤ 1048576) (hs : Sl w 1 A p.length (flat oneI p)) :
    Calls Try.prog 24 #[.slice A p.length c] w (RetRow w 2 1 p.length (flat oneI p)) := by
  have M := Lib.hid (Mem.start w)
  have HS := Lib.hid hs
  clear hs
  go_enter Try.func24, Try.ntmps24
  go_wp2_with (first
    | ((with_reducible refine gate_dst (N := 7) rfl ?_); go_must (refine M.out.ev_make oneI 0 elem_int64 oneI_len rfl rfl _ _ rfl p.length rfl rfl (by omega) (by unfold maxLen; omega) ?_); intro g7 w7 m; simp only [List.nil_append] at m; have M := Lib.hid m; clear m)
    )
  go_loopw [4] (fun v wr => ∃ k : Nat, k ≤ p.length ∧ v = .int .i64 k ∧ Mem w wr [.row (.slice (some ⟨g7, 0, none⟩) p.length p.length) 2 1 p.length (flat oneI (p.take k ++ (List.replicate p.length 0).drop k))])
    (fun v _ => p.length - (intOf v).toNat)
  case atStart => exact ⟨0, by omega, rfl, M.out⟩
  case round =>
    clear M
    obtain ⟨k, hk, rfl, mm⟩ := hrel
    have M := Lib.hid mm
    clear mm
    by_cases hlt : k < p.length
    · obtain ⟨b, off, rfl, hr⟩ := (M.out.sl HS.out).2 (by omega)
      have x0 : wr.cell? ⟨b, off + k, none⟩ = some (.int .i64 p[k]) := by simpa [oneI] using range_at oneI_len hr (List.getElem?_eq_getElem hlt) 0 _ rfl
      have HL := Lib.hid (show k < (flat oneI (p.take k ++ (List.replicate p.length 0).drop k)).length by rw [flat_len oneI_len]; simp; omega)
      have HP := Lib.hid (take_set_at p hlt rfl)
      have i0 : (0 : Int) ≤ (k : Int) := by omega
      have i1 : (k : Int) < (p.length : Int) := by omega
      clear hr
      go_wp2_with (first
        | ((with_reducible refine gate_store (x := .tmp 20) rfl ?_); go_must (refine M.out.ev_rput1 0 _ _ _ rfl rfl rfl rfl (.int .i64 p[k]) rfl HL.out sz2 rfl rfl ?_); intro wn m; simp only [List.set_cons_zero, HP.out] at m; have M := Lib.hid m; clear m)
        )
      exact ⟨⟨k + 1, by omega, by go_num, M.out⟩, by simp [intOf]; omega⟩
    · obtain rfl : k = p.length := by omega
      go_wp2
      go_ret
      have m := M.out
      rw [List.take_of_length_le (by omega), List.drop_of_length_le (by simp), List.append_nil] at m
      exact ⟨_, _, rfl, Nat.le_refl _, m⟩
def markVals (s : Int) (k : Nat) : List Value := (List.range k).map fun (i : Nat) => .int .i64 (s + i)
theorem markVals_len (s : Int) (k : Nat) : (markVals s k).length = k := by simp [markVals]
theorem markVals_succ (s : Int) (k : Nat) : markVals s (k + 1) = markVals s k ++ [.int .i64 (s + k)] := by simp [markVals, List.range_succ]
set_option maxRecDepth 100000 in
set_option maxHeartbeats 1000000 in
theorem mark64K_any {w0 w : World} {L : List Ent} (i : Nat) (M0 : Mem w0 w L) (A : Option Addr) (c n : Nat) (cs : List Value) (hL : L[i]? = some (.row (.slice A n c) 2 1 n cs)) (hl : n ≤ 1048576) (s : Int) (s0 : 0 ≤ s) (s1 : s ≤ 100000000) :
    Calls Try.prog 29 #[.slice A n c, .int .i64 s] w fun e w' => e = .returned (.int .i64 (s + n)) ∧ Mem w0 w' (L.set i (.row (.slice A n c) 2 1 n (markVals s n))) := by
  have M := Lib.hid M0
  have HL := Lib.hid hL
  have hi : i < L.length := (List.getElem?_eq_some_iff.1 hL).1
  have hcs := M0.row_len i hL
  have HCS := Lib.hid hcs
  clear M0 hL hcs
  go_enter Try.func29, Try.ntmps29
  go_wp2
  go_loopw [1, 5] (fun u v wr => ∃ k : Nat, k ≤ n ∧ v = .int .i64 k ∧ u = .int .i64 (s + (k : Int)) ∧ Mem w0 wr (L.set i (.row (.slice A n c) 2 1 n (markVals s k ++ cs.drop k))))
    (fun _ v _ => n - (intOf v).toNat)
  case atStart => exact ⟨0, by omega, rfl, by simp, by rw [show markVals s 0 ++ cs.drop 0 = cs from rfl, set_same HL.out]; exact M.out⟩
  case round =>
    clear M
    obtain ⟨k, hk, rfl, rfl, m⟩ := hrel
    have M := Lib.hid m
    clear m
    by_cases hlt : k < n
    · have hLs : ∀ e : Ent, (L.set i e)[i]? = some e := fun e => by rw [List.getElem?_set_self hi]
      obtain ⟨g, cap, he, _⟩ := M.out.row_form i (hLs _) (by omega)
      obtain ⟨rfl, rfl⟩ : A = some ⟨g, 0, none⟩ ∧ c = cap := by injection he with e1 _ e2; exact ⟨e1, e2⟩
      clear he
      have HLs := Lib.hid hLs
      have e1 : IntKind.i64.wrap (s + (k : Int) + 1) = s + (k : Int) + 1 := IntWalk.i64_in _ (by omega)
      have HP := Lib.hid (show (markVals s k ++ cs.drop k).set k (.int .i64 (s + (k : Int))) = markVals s (k + 1) ++ cs.drop (k + 1) by
        have hc := HCS.out
        rw [List.set_append, if_neg (by rw [markVals_len]; omega), markVals_len, Nat.sub_self, markVals_succ, List.drop_eq_getElem_cons (by omega : k < cs.length), List.set_cons_zero, List.append_assoc]
        rfl)
      have HLN := Lib.hid (show k < (markVals s k ++ cs.drop k).length by
        have hc := HCS.out
        rw [List.length_append, markVals_len, List.length_drop]
        omega)
      clear hLs
      go_wp2_with (first
        | ((with_reducible refine gate_store (x := .tmp 15) rfl ?_); go_must (refine M.out.ev_rput1 i _ _ _ rfl rfl (HLs.out _) rfl (.int .i64 (s + (k : Int))) rfl HLN.out sz2 rfl rfl ?_); intro wn m; rw [List.set_set, HP.out] at m; have M := Lib.hid m; clear m)
        )
      exact ⟨⟨k + 1, by omega, by go_num, by first | (congr 1; done) | (congr 1; omega), M.out⟩, by simp [intOf]; omega⟩
    · obtain rfl : k = n := by omega
      go_wp2
      go_ret
      have hc := HCS.out
      exact ⟨rfl, by have m := M.out; rw [List.drop_of_length_le (by omega), List.append_nil] at m; exact m⟩
end Go.Proofs.Ytbjcajhbhicokaa
