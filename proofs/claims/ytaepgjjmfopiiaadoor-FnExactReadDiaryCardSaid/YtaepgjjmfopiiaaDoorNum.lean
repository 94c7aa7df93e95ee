/- A number read: the reference's walk. No condition but the text's size. -/
import Derived.Test.YtaepgjjmfopiiaaDoorReadP
namespace Go.Proofs.YtaepgjjmfopiiaaDoor
set_option linter.unusedSimpArgs false
set_option linter.unusedVariables false
open Go.RowKit
attribute [local go_sem] cell?_mk frozen?_mk

theorem getL {l : List UInt8} {i : Nat} (h : i < l.length) : (⟨l.toArray⟩ : ByteArray)[i]'h = l[i] := rfl
set_option maxRecDepth 100000 in
set_option maxHeartbeats 1000000 in
theorem l01Number_long (l : List UInt8) (hl : 9 < l.length) (hm : l.length ≤ 4294967280) (w : World) :
    Calls Tryd.prog 11 #[.string ⟨l.toArray⟩] w fun e w' => e = .returned (.tuple #[.int .i64 0, .bool false]) ∧ w = w' := by
  have hsz : (⟨l.toArray⟩ : ByteArray).size = l.length := rfl
  have he : l ≠ [] := by
    intro e
    rw [e] at hl
    simp at hl
  have he2 : l.isEmpty = false := by
    cases l with
    | nil => exact absurd rfl he
    | cons a r => rfl
  have h9 : decide ((9 : Int) < (l.length : Int)) = true := decide_eq_true (by omega)
  have h9' : (9 : Int) < (l.length : Int) := by omega
  go_enter Tryd.func11, Tryd.ntmps11
  go_wp2
  go_ret2
  exact ⟨rfl, rfl⟩
set_option maxRecDepth 100000 in
set_option maxHeartbeats 1000000 in
theorem l01Number_nil (w : World) :
    Calls Tryd.prog 11 #[.string ⟨#[]⟩] w fun e w' => e = .returned (.tuple #[.int .i64 0, .bool false]) ∧ w = w' := by
  go_enter Tryd.func11, Tryd.ntmps11
  go_wp2
  go_ret2
  exact ⟨rfl, rfl⟩
set_option maxRecDepth 100000 in
set_option maxHeartbeats 1000000 in
theorem l01Number_zero (c : UInt8) (r : List UInt8) (hm : r.length ≤ 7) (w : World) :
    Calls Tryd.prog 11 #[.string ⟨(48 :: c :: r).toArray⟩] w fun e w' => e = .returned (.tuple #[.int .i64 0, .bool false]) ∧ w = w' := by
  generalize hl : (48 :: c :: r : List UInt8) = l
  have hlen : l.length = r.length + 2 := by rw [← hl]; rfl
  have hsz : (⟨l.toArray⟩ : ByteArray).size = l.length := rfl
  have he : l ≠ [] := by rw [← hl]; simp
  have he2 : l.isEmpty = false := by rw [← hl]; rfl
  have h9 : decide ((9 : Int) < (l.length : Int)) = false := decide_eq_false (by omega)
  have h9' : ¬ (9 : Int) < (l.length : Int) := by omega
  have h1 : decide ((1 : Int) < (l.length : Int)) = true := decide_eq_true (by omega)
  have h1' : (1 : Int) < (l.length : Int) := by omega
  have h0 : 0 < l.length := by omega
  have hix : ∀ w, (Instr.index 9 (.string ⟨l.toArray⟩) (.int .i64 0)).run Tryd.prog w = .ok (.int .u8 48) w := fun w => by
    subst hl
    rw [run_index_string w _ _ _ _ Tryd.underlying9, dif_pos ⟨by decide, by rw [hsz]; omega⟩]
    rfl
  go_enter Tryd.func11, Tryd.ntmps11
  go_wp2
  go_ret2
  exact ⟨rfl, rfl⟩
theorem digs_snoc {l : List UInt8} {k n : Nat} (hk : k < l.length) (h : digs 0 (l.take k) = some n) : digs 0 (l.take (k + 1)) = if 48 ≤ l[k].toNat ∧ l[k].toNat ≤ 57 then some (10 * n + (l[k].toNat - 48)) else none := by
  rw [List.take_succ_eq_append_getElem hk, digs_append, h]
  simp only [Option.bind, digs]
theorem digs_bad {l : List UInt8} {k : Nat} (h : digs 0 (l.take k) = none) : digs 0 l = none := by
  rw [← List.take_append_drop k l, digs_append, h]
  rfl
set_option maxRecDepth 100000 in
set_option maxHeartbeats 1000000 in
theorem l01Number_digs (l : List UInt8) (hpos : 0 < l.length) (hl : l.length ≤ 9) (hz : (l[0].toNat : Int) = 48 → l.length = 1) (w : World) :
    Calls Tryd.prog 11 #[.string ⟨l.toArray⟩] w fun e w' => e = .returned (.tuple #[.int .i64 ((digs 0 l).getD 0 : Nat), .bool (digs 0 l).isSome]) ∧ w = w' := by
  have hsz : (⟨l.toArray⟩ : ByteArray).size = l.length := rfl
  have he2 : l.isEmpty = false := by
    cases l with
    | nil => cases hpos
    | cons a r => rfl
  have he : l ≠ [] := fun e => by rw [e] at hpos; cases hpos
  have h9 : decide ((9 : Int) < (l.length : Int)) = false := decide_eq_false (by omega)
  have h9' : ¬ (9 : Int) < (l.length : Int) := by omega
  have hix : ∀ (k : Nat) (hk : k < l.length) w, (Instr.index 9 (.string ⟨l.toArray⟩) (.int .i64 k)).run Tryd.prog w = .ok (.int .u8 (l[k].toNat : Nat)) w := fun k hk w => by
    rw [run_index_string w _ _ _ _ Tryd.underlying9, dif_pos ⟨by omega, by rw [hsz]; omega⟩]
    rfl
  have HIX := Lib.hid hix
  have HZ := Lib.hid hz
  have HL := Lib.hid hl
  have hi0 : ∀ w, (Instr.index 9 (.string ⟨l.toArray⟩) (.int .i64 0)).run Tryd.prog w = .ok (.int .u8 (l[0].toNat : Nat)) w := hix 0 hpos
  generalize hb0 : l[0].toNat = b0 at hi0
  clear hix hz
  by_cases h48 : (b0 : Int) = 48
  · have h1 : decide ((1 : Int) < (l.length : Int)) = false := decide_eq_false (by have := HZ.out (by rw [hb0]; exact h48); omega)
    have h2 : ((b0 : Int) == 48) = true := by rw [h48]; rfl
    clear hb0
    go_enter Tryd.func11, Tryd.ntmps11
    go_wp2
    go_loop [4, 5] (fun s v => ∃ k n : Nat, k ≤ l.length ∧ v = .int .i64 k ∧ s = .int .i64 n ∧ digs 0 (l.take k) = some n)
      (fun _ v => l.length - (intOf v).toNat)
    case atStart => exact ⟨0, 0, by omega, rfl, rfl, by simp [digs]⟩
    case round =>
      obtain ⟨k, n, hk, rfl, rfl, hd⟩ := hrel
      by_cases hlt : k < l.length
      · have hs := digs_snoc hlt hd
        have hn := digs_lt _ _ _ hd
        have hp9 : 10 ^ (l.take k).length ≤ 10 ^ 9 := Nat.pow_le_pow_right (by decide) (by rw [List.length_take]; have := HL.out; omega)
        have hn9 : n < 1000000000 := by omega
        have i1 : (k : Int) < (l.length : Int) := by omega
        have hik := HIX.out k hlt
        have hc := l[k].toNat_lt
        generalize hbk : l[k].toNat = b at hik hs hc
        have HD := Lib.hid hd
        have HS := Lib.hid hs
        clear hd hs hn hp9 hbk
        by_cases c1 : (b : Int) < 48
        · have d1 : decide ((b : Int) < 48) = true := decide_eq_true c1
          have hres : digs 0 l = none := digs_bad (HS.out.trans (if_neg (by omega)))
          go_wp2
          go_ret2
          first | exact ⟨rfl, rfl⟩ | (rw [hres]; exact ⟨rfl, rfl⟩)
        · have d1 : decide ((b : Int) < 48) = false := decide_eq_false c1
          by_cases c2 : (57 : Int) < (b : Int)
          · have d2 : decide ((57 : Int) < (b : Int)) = true := decide_eq_true c2
            have hres : digs 0 l = none := digs_bad (HS.out.trans (if_neg (by omega)))
            go_wp2
            go_ret2
            first | exact ⟨rfl, rfl⟩ | (rw [hres]; exact ⟨rfl, rfl⟩)
          · have d2 : decide ((57 : Int) < (b : Int)) = false := decide_eq_false c2
            have e1 : IntKind.u8.wrap ((b : Int) - 48) = (b : Int) - 48 := IntWalk.u8_in _ (by omega)
            have e2 : IntKind.i64.wrap ((b : Int) - 48) = (b : Int) - 48 := IntWalk.i64_in _ (by omega)
            have e3 : IntKind.i64.wrap (10 * (n : Int)) = 10 * (n : Int) := IntWalk.i64_in _ (by omega)
            have e4 : IntKind.i64.wrap (10 * (n : Int) + ((b : Int) - 48)) = 10 * (n : Int) + ((b : Int) - 48) := IntWalk.i64_in _ (by omega)
            go_wp2
            exact ⟨⟨k + 1, 10 * n + (b - 48), by omega, by go_num, by congr 1; omega, HS.out.trans (if_pos (by omega))⟩, by simp [intOf]; omega⟩
      · obtain rfl : k = l.length := by omega
        rw [List.take_length] at hd
        go_wp2
        go_ret2
        exact ⟨rfl, rfl⟩
  · have h2 : ((b0 : Int) == 48) = false := beq_eq_false_iff_ne.2 h48
    clear hb0
    go_enter Tryd.func11, Tryd.ntmps11
    go_wp2
    go_loop [4, 5] (fun s v => ∃ k n : Nat, k ≤ l.length ∧ v = .int .i64 k ∧ s = .int .i64 n ∧ digs 0 (l.take k) = some n)
      (fun _ v => l.length - (intOf v).toNat)
    case atStart => exact ⟨0, 0, by omega, rfl, rfl, by simp [digs]⟩
    case round =>
      obtain ⟨k, n, hk, rfl, rfl, hd⟩ := hrel
      by_cases hlt : k < l.length
      · have hs := digs_snoc hlt hd
        have hn := digs_lt _ _ _ hd
        have hp9 : 10 ^ (l.take k).length ≤ 10 ^ 9 := Nat.pow_le_pow_right (by decide) (by rw [List.length_take]; have := HL.out; omega)
        have hn9 : n < 1000000000 := by omega
        have i1 : (k : Int) < (l.length : Int) := by omega
        have hik := HIX.out k hlt
        have hc := l[k].toNat_lt
        generalize hbk : l[k].toNat = b at hik hs hc
        have HD := Lib.hid hd
        have HS := Lib.hid hs
        clear hd hs hn hp9 hbk
        by_cases c1 : (b : Int) < 48
        · have d1 : decide ((b : Int) < 48) = true := decide_eq_true c1
          have hres : digs 0 l = none := digs_bad (HS.out.trans (if_neg (by omega)))
          go_wp2
          go_ret2
          first | exact ⟨rfl, rfl⟩ | (rw [hres]; exact ⟨rfl, rfl⟩)
        · have d1 : decide ((b : Int) < 48) = false := decide_eq_false c1
          by_cases c2 : (57 : Int) < (b : Int)
          · have d2 : decide ((57 : Int) < (b : Int)) = true := decide_eq_true c2
            have hres : digs 0 l = none := digs_bad (HS.out.trans (if_neg (by omega)))
            go_wp2
            go_ret2
            first | exact ⟨rfl, rfl⟩ | (rw [hres]; exact ⟨rfl, rfl⟩)
          · have d2 : decide ((57 : Int) < (b : Int)) = false := decide_eq_false c2
            have e1 : IntKind.u8.wrap ((b : Int) - 48) = (b : Int) - 48 := IntWalk.u8_in _ (by omega)
            have e2 : IntKind.i64.wrap ((b : Int) - 48) = (b : Int) - 48 := IntWalk.i64_in _ (by omega)
            have e3 : IntKind.i64.wrap (10 * (n : Int)) = 10 * (n : Int) := IntWalk.i64_in _ (by omega)
            have e4 : IntKind.i64.wrap (10 * (n : Int) + ((b : Int) - 48)) = 10 * (n : Int) + ((b : Int) - 48) := IntWalk.i64_in _ (by omega)
            go_wp2
            exact ⟨⟨k + 1, 10 * n + (b - 48), by omega, by go_num, by congr 1; omega, HS.out.trans (if_pos (by omega))⟩, by simp [intOf]; omega⟩
      · obtain rfl : k = l.length := by omega
        rw [List.take_length] at hd
        go_wp2
        go_ret2
        exact ⟨rfl, rfl⟩
/-- A number, as the reference reads it. -/
theorem l01Number_any (l : List UInt8) (hm : l.length ≤ 4294967280) (w : World) :
    Calls Tryd.prog 11 #[.string ⟨l.toArray⟩] w fun e w' => e = .returned (.tuple #[.int .i64 ((numOf l).getD 0 : Nat), .bool (numOf l).isSome]) ∧ w = w' := by
  unfold numOf
  cases l with
  | nil =>
    rw [if_pos (.inl rfl)]
    exact l01Number_nil w
  | cons a r =>
    by_cases h9 : 9 < (a :: r).length
    · rw [if_pos (.inr (.inl h9))]
      exact l01Number_long _ h9 hm w
    · by_cases h0 : (a :: r).head? = some 48 ∧ 1 < (a :: r).length
      · rw [if_pos (.inr (.inr h0))]
        obtain ⟨h1, h2⟩ := h0
        obtain rfl : a = 48 := by simpa using h1
        cases r with
        | nil => simp at h2
        | cons c r =>
          exact l01Number_zero c r (by simp only [List.length_cons] at h9; omega) w
      · rw [if_neg (fun h => h.elim (fun h => List.cons_ne_nil _ _ h) fun h => h.elim h9 h0)]
        refine l01Number_digs _ (by simp) (by omega) (fun h => ?_) w
        have ha : a = 48 := UInt8.toNat_inj.1 (by have : (a.toNat : Int) = 48 := h; exact Int.ofNat_inj.1 this)
        have : ¬ 1 < (a :: r).length := fun h2 => h0 ⟨by rw [ha]; rfl, h2⟩
        simp only [List.length_cons] at this ⊢
        omega
end Go.Proofs.YtaepgjjmfopiiaaDoor
