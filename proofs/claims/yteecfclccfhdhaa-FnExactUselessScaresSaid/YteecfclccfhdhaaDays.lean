/- How many days a cell stays safe: the walks of both, and of the law. -/
import Derived.Test.YteecfclccfhdhaaAgeLaw
namespace Go.Proofs.Yteecfclccfhdhaa
set_option linter.unusedSimpArgs false
set_option linter.unusedVariables false
open Go.RowKit
attribute [local go_sem] cell?_mk frozen?_mk

theorem wrapd (k : Nat) (h : k ≤ 100) : IntKind.i64.wrap ((k : Int) + 1) = (k : Int) + 1 := IntWalk.i64_in _ (by omega)
def agedAll (xs : List Scarecrow) (d : Nat) : List Scarecrow := xs.map (Scarecrow.older d)
def safeOn (xs : List Scarecrow) (c least : Int) (d : Nat) : Bool := decide (least ≤ fearAt (agedAll xs d) c)
/-- The first number for which something is no longer so. -/
def firstNot (p : Nat → Bool) : Nat → Nat
  | 0 => 0
  | n + 1 => if p 0 then firstNot (fun i => p (i + 1)) n + 1 else 0
theorem firstNot_eq : ∀ (n d : Nat) (p : Nat → Bool), d < n → (∀ j, j < d → p j = true) → p d = false → firstNot p n = d
  | 0, d, p, h, _, _ => by omega
  | n + 1, 0, p, _, _, hd => by simp [firstNot, hd]
  | n + 1, d + 1, p, h, hj, hd => by
    rw [firstNot, hj 0 (by omega), if_pos rfl, firstNot_eq n d (fun i => p (i + 1)) (by omega) (fun j h => hj (j + 1) (by omega)) hd]
def daysOf (xs : List Scarecrow) (c least : Int) : Nat := firstNot (safeOn xs c least) 40
theorem old_fear {x : Scarecrow} (hx : x.plain = true) (h30 : x.age = 30) (c : Int) : x.fear c = 0 := by
  obtain ⟨_, ⟨b0, b1⟩, _⟩ := Scarecrow.plain_iff.1 hx
  have : x.power / 2 ^ (x.age / 3).toNat = 0 := by
    rw [h30]
    show x.power / 1024 = 0
    omega
  rw [Scarecrow.fear, this]
  simp
theorem fearAt_zero {xs : List Scarecrow} {c : Int} (h : ∀ x ∈ xs, x.fear c = 0) : fearAt xs c = 0 := by
  have key : ∀ (xs : List Scarecrow), (∀ x ∈ xs, x.fear c = 0) → xs.foldl (fun m x => big m (x.fear c)) 0 = 0 := by
    intro xs
    induction xs with
    | nil => intro _; rfl
    | cons x r ih =>
      intro h
      rw [List.foldl_cons, h x (by simp)]
      exact ih (fun y hy => h y (by simp [hy]))
  exact key xs h
theorem safe_end {xs : List Scarecrow} (hx : ∀ x ∈ xs, x.plain = true) {c least : Int} (hl : 1 ≤ least) {d : Nat} (hd : 30 ≤ d) : safeOn xs c least d = false := by
  have : fearAt (agedAll xs d) c = 0 := fearAt_zero fun y hy => by
    obtain ⟨x, hm, rfl⟩ := List.mem_map.1 hy
    have hp := hx x hm
    obtain ⟨_, _, a0, _⟩ := Scarecrow.plain_iff.1 hp
    refine old_fear (Scarecrow.older_plain hp (by omega)) ?_ c
    show min 30 (x.age + d) = 30
    omega
  simp only [safeOn, this, decide_eq_false_iff_not]
  omega
theorem agedAll_plain {xs : List Scarecrow} (hx : ∀ x ∈ xs, x.plain = true) (d : Nat) : ∀ x ∈ agedAll xs d, x.plain = true := fun y hy => by
  obtain ⟨x, hm, rfl⟩ := List.mem_map.1 hy
  exact Scarecrow.older_plain (hx x hm) (by omega)
theorem agedAll_len (xs : List Scarecrow) (d : Nat) : (agedAll xs d).length = xs.length := by simp [agedAll]

set_option maxRecDepth 100000 in
set_option maxHeartbeats 1000000 in
theorem daysSafe_any (A : Option Addr) (n : Nat) (xs : List Scarecrow) (hx : ∀ x ∈ xs, x.plain = true) (hl : xs.length ≤ 1048576) (hc : xs.length ≤ n) (hA : A = none → n = 0) (c least : Int) (c0 : 0 ≤ c) (c1 : c ≤ 99) (l0 : 1 ≤ least) (w : World) (hs : Sl w 3 A xs.length (flat Scarecrow.vals xs)) :
    Calls Try.prog 85 #[.slice A xs.length n, .int .i64 c, .int .i64 least] w fun e w' => e = .returned (.int .i64 (daysOf xs c least)) ∧ Mem w w' [] := by
  have M := Lib.hid (Mem.start w)
  have HX := Lib.hid hx
  have HS := Lib.hid hs
  clear hs hx
  go_enter Try.func85, Try.ntmps85
  go_wp2
  go_loopw [7] (fun v wr => ∃ k : Nat, k ≤ 30 ∧ v = .int .i64 k ∧ (∀ j, j < k → safeOn xs c least j = true) ∧ Mem w wr [])
    (fun v _ => 40 - (intOf v).toNat)
  case atStart => exact ⟨0, by omega, rfl, fun j hj => by omega, M.out⟩
  case round =>
    clear M
    obtain ⟨k, hk, rfl, he, m⟩ := hrel
    have M := Lib.hid m
    have HE := Lib.hid he
    clear m he
    have PL := Lib.hid (agedAll_plain HX.out k)
    have e1 := wrapd k (by omega)
    have AG := Lib.hid (fun w hs => aged_any A n xs HX.out hl hc hA k (by omega) (by omega) w hs)
    have FO := Lib.hid (fun B m w hs => fearOf_any B m (agedAll xs k) PL.out (by rw [agedAll_len]; exact hl) c c0 c1 w hs)
    rw [agedAll_len] at FO
    cases hp : safeOn xs c least k
    · have HP := Lib.hid hp
      have hq : ¬ least ≤ fearAt (agedAll xs k) c := by simpa [safeOn] using hp
      have hd := firstNot_eq 40 k _ (by omega) HE.out hp
      clear hp
      go_wp2_with (first
        | (go_at_call 74; go_must (refine (AG.out _ (M.out.sl HS.out)).mono ?_); rintro e w_ ⟨A_, c_, rfl, hc_, N_⟩; have m := M.out.join N_; clear N_; simp only [List.cons_append, List.nil_append, List.append_nil] at m; have M := Lib.hid m; clear m)
        | (go_at_call 66; go_must (refine (FO.out _ _ _ (M.out.slof 0 rfl)).mono ?_); rintro e w_ ⟨rfl, N_⟩; have m := M.out.join N_; clear N_; simp only [List.cons_append, List.nil_append, List.append_nil] at m; have M := Lib.hid m; clear m)
        )
      go_ret
      exact ⟨ret_int (by rw [daysOf, hd]), M.out.take 0⟩
    · have HP := Lib.hid hp
      have hq : least ≤ fearAt (agedAll xs k) c := by simpa [safeOn] using hp
      have hk2 : k < 30 := by
        rcases Nat.lt_or_ge k 30 with h | h
        · exact h
        · rw [safe_end HX.out l0 h] at hp; cases hp
      clear hp
      go_wp2_with (first
        | (go_at_call 74; go_must (refine (AG.out _ (M.out.sl HS.out)).mono ?_); rintro e w_ ⟨A_, c_, rfl, hc_, N_⟩; have m := M.out.join N_; clear N_; simp only [List.cons_append, List.nil_append, List.append_nil] at m; have M := Lib.hid m; clear m)
        | (go_at_call 66; go_must (refine (FO.out _ _ _ (M.out.slof 0 rfl)).mono ?_); rintro e w_ ⟨rfl, N_⟩; have m := M.out.join N_; clear N_; simp only [List.cons_append, List.nil_append, List.append_nil] at m; have M := Lib.hid m; clear m)
        )
      exact ⟨⟨k + 1, by omega, by go_num, all_succ HE.out HP.out, M.out.take 0⟩, by simp [intOf]; omega⟩
set_option maxRecDepth 100000 in
set_option maxHeartbeats 1000000 in
theorem l03Days_any (A : Option Addr) (n : Nat) (xs : List Scarecrow) (hx : ∀ x ∈ xs, x.plain = true) (hl : xs.length ≤ 1048576) (hc : xs.length ≤ n) (hA : A = none → n = 0) (c least : Int) (c0 : 0 ≤ c) (c1 : c ≤ 99) (l0 : 1 ≤ least) (w : World) (hs : Sl w 3 A xs.length (flat Scarecrow.vals xs)) :
    Calls Try.prog 83 #[.slice A xs.length n, .int .i64 c, .int .i64 least] w fun e w' => e = .returned (.int .i64 (daysOf xs c least)) ∧ Mem w w' [] := by
  have M := Lib.hid (Mem.start w)
  have HX := Lib.hid hx
  have HS := Lib.hid hs
  clear hs hx
  go_enter Try.func83, Try.ntmps83
  go_wp2
  go_loopw [7] (fun v wr => ∃ k : Nat, k ≤ 30 ∧ v = .int .i64 k ∧ (∀ j, j < k → safeOn xs c least j = true) ∧ Mem w wr [])
    (fun v _ => 40 - (intOf v).toNat)
  case atStart => exact ⟨0, by omega, rfl, fun j hj => by omega, M.out⟩
  case round =>
    clear M
    obtain ⟨k, hk, rfl, he, m⟩ := hrel
    have M := Lib.hid m
    have HE := Lib.hid he
    clear m he
    have PL := Lib.hid (agedAll_plain HX.out k)
    have e1 := wrapd k (by omega)
    have AG := Lib.hid (fun w hs => l03Older_any A n xs HX.out hl hc hA k (by omega) (by omega) w hs)
    have FO := Lib.hid (fun B m w hs => l03Fear_any B m (agedAll xs k) PL.out (by rw [agedAll_len]; exact hl) c c0 c1 w hs)
    rw [agedAll_len] at FO
    cases hp : safeOn xs c least k
    · have HP := Lib.hid hp
      have hq : ¬ least ≤ fearAt (agedAll xs k) c := by simpa [safeOn] using hp
      have hd := firstNot_eq 40 k _ (by omega) HE.out hp
      clear hp
      go_wp2_with (first
        | (go_at_call 71; go_must (refine (AG.out _ (M.out.sl HS.out)).mono ?_); rintro e w_ ⟨A_, c_, rfl, hc_, N_⟩; have m := M.out.join N_; clear N_; simp only [List.cons_append, List.nil_append, List.append_nil] at m; have M := Lib.hid m; clear m)
        | (go_at_call 59; go_must (refine (FO.out _ _ _ (M.out.slof 0 rfl)).mono ?_); rintro e w_ ⟨rfl, N_⟩; have m := M.out.join N_; clear N_; simp only [List.cons_append, List.nil_append, List.append_nil] at m; have M := Lib.hid m; clear m)
        )
      go_ret
      exact ⟨ret_int (by rw [daysOf, hd]), M.out.take 0⟩
    · have HP := Lib.hid hp
      have hq : least ≤ fearAt (agedAll xs k) c := by simpa [safeOn] using hp
      have hk2 : k < 30 := by
        rcases Nat.lt_or_ge k 30 with h | h
        · exact h
        · rw [safe_end HX.out l0 h] at hp; cases hp
      clear hp
      go_wp2_with (first
        | (go_at_call 71; go_must (refine (AG.out _ (M.out.sl HS.out)).mono ?_); rintro e w_ ⟨A_, c_, rfl, hc_, N_⟩; have m := M.out.join N_; clear N_; simp only [List.cons_append, List.nil_append, List.append_nil] at m; have M := Lib.hid m; clear m)
        | (go_at_call 59; go_must (refine (FO.out _ _ _ (M.out.slof 0 rfl)).mono ?_); rintro e w_ ⟨rfl, N_⟩; have m := M.out.join N_; clear N_; simp only [List.cons_append, List.nil_append, List.append_nil] at m; have M := Lib.hid m; clear m)
        )
      exact ⟨⟨k + 1, by omega, by go_num, all_succ HE.out HP.out, M.out.take 0⟩, by simp [intOf]; omega⟩
set_option maxRecDepth 100000 in
set_option maxHeartbeats 1000000 in
theorem l03Power_any (n : Int) (w : World) :
    Calls Try.prog 75 #[.int .i64 n] w fun e w' => e = .returned (.bool (inB n 1 1000)) ∧ w = w' := by
  go_enter Try.func75, Try.ntmps75
  go_wp2_with (first
    | (go_at_call 70; go_must (refine (l00In_any _ _ _ _).mono ?_); rintro e w_ ⟨rfl, rfl⟩)
    )
  go_ret
  exact ⟨rfl, rfl⟩
end Go.Proofs.Yteecfclccfhdhaa
