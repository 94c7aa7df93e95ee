/- Texts of a proof, laid together: NetSets, Gen, NetM, Drawn3, Those, Kinds, Held, Held3. -/
import Derived.Test.YtjkclggdaafmaaaZC03
import Derived.Test.YtjkclggdaafmaaaZC02
import Derived.OrdersHeld
namespace Go.Proofs.Ytjkclggdaafmaaa
set_option linter.unusedSimpArgs false
set_option linter.unusedVariables false
open Go.RowKit

/-- The cells below 100 for which something holds. -/
def pset (p : Nat → Bool) : Cs := setOf ((List.range 100).filter p)
theorem pset_ok (p : Nat → Bool) : (pset p).ok := setOf_ok _ fun k hk => by
  have := List.mem_range.1 (List.mem_filter.1 hk).1
  omega
theorem pset_has (p : Nat → Bool) {k : Nat} (hk : k < 100) : (pset p).has k = p k := by
  rw [pset, setOf_has, Bool.eq_iff_iff, List.contains_iff_mem, List.mem_filter, List.mem_range]
  exact ⟨fun h => h.2, fun h => ⟨hk, h⟩⟩
theorem pset_small (p : Nat → Bool) {k : Nat} (h1 : 100 ≤ k) : (pset p).has k = false :=
  setOf_small (fun j hj => List.mem_range.1 (List.mem_filter.1 hj).1) h1
/-- A set with no cells beyond 99 is told by its cells. -/
theorem pset_of {c : Cs} (hc : c.ok) (hs : ∀ k, 100 ≤ k → k < 128 → c.has k = false) {p : Nat → Bool} (h : ∀ k, k < 100 → c.has k = p k) : c = pset p :=
  Cs.ext_has hc (pset_ok p) fun k hk => by
    rcases Nat.lt_or_ge k 100 with h1 | h1
    · rw [h k h1, pset_has p h1]
    · rw [hs k h1 hk, pset_small p h1]
theorem pset_congr {p q : Nat → Bool} (h : ∀ k, k < 100 → p k = q k) : pset p = pset q :=
  pset_of (pset_ok p) (fun k h1 _ => pset_small p h1) fun k hk => by rw [pset_has p hk, h k hk]
theorem pset_false : pset (fun _ => false) = Cs.z := by
  unfold pset
  rw [List.filter_eq_nil_iff.2 (fun _ _ => by simp)]
  rfl
theorem pset_z {p : Nat → Bool} : pset p = Cs.z ↔ ∀ k, k < 100 → p k = false := by
  constructor
  · intro h k hk
    rw [← pset_has p hk, h]
    unfold Cs.has Cs.z
    split <;> simp
  · intro h
    rw [pset_congr (q := fun _ => false) h, pset_false]
def Cs.or (a b : Cs) : Cs := ⟨a.lo ||| b.lo, a.hi ||| b.hi⟩
def Cs.and (a b : Cs) : Cs := ⟨a.lo &&& b.lo, a.hi &&& b.hi⟩
def Cs.less (a b : Cs) : Cs := ⟨andn a.lo b.lo, andn a.hi b.hi⟩
theorem Cs.and_ok {a b : Cs} (ha : a.ok) : (a.and b).ok := ⟨and64 ha.l, and64 ha.h⟩
theorem Cs.and_has (a b : Cs) (k : Nat) : (a.and b).has k = (a.has k && b.has k) := by
  unfold Cs.has Cs.and
  split <;> rw [Nat.testBit_and]
theorem pset_cut (p : Nat → Bool) : (pset p).cut = pset p :=
  pset_of (Cs.cut_ok (pset_ok p)) (fun k h1 h2 => Cs.cut_small _ h1 h2) fun k hk => by rw [Cs.cut_has _ hk, pset_has p hk]
theorem pset_and (p : Nat → Bool) (c : Cs) : (pset p).and c = pset fun k => p k && c.has k :=
  pset_of (Cs.and_ok (pset_ok p)) (fun k h1 _ => by rw [Cs.and_has, pset_small p h1]; rfl) fun k hk => by rw [Cs.and_has, pset_has p hk]
theorem pset_both (p : Nat → Bool) (c : Cs) : (pset p).both c = pset fun k => p k && c.has k := by
  show ((pset p).and c).cut = _
  rw [pset_and, pset_cut]
/-- A net as all its numbers must be. -/
def Net.plain (n : Net) : Bool := inB n.x 0 9 && (inB n.y 0 9 && (inB n.wide 1 10 && inB n.high 1 10))
theorem Net.plain_iff {n : Net} : n.plain = true ↔ (0 ≤ n.x ∧ n.x ≤ 9) ∧ (0 ≤ n.y ∧ n.y ≤ 9) ∧ (1 ≤ n.wide ∧ n.wide ≤ 10) ∧ (1 ≤ n.high ∧ n.high ≤ 10) := by
  simp only [Net.plain, Bool.and_eq_true, inB_iff]
def Net.inside (n : Net) (k : Nat) : Bool := inB ((k : Int) % 10) n.x (n.x + n.wide - 1) && inB ((k : Int) / 10) n.y (n.y + n.high - 1)
def netSet (n : Net) : Cs := pset n.inside
/-- Whether a net is within a field, and no tree under it. -/
def Net.fits (F : Fld) (n : Net) : Bool := n.plain && (decide (n.x + n.wide ≤ F.wide) && (decide (n.y + n.high ≤ F.high) && (List.range 100).all fun k => !(n.inside k && (F.kind k == 3))))
theorem Net.fits_plain {F : Fld} {n : Net} (h : n.fits F = true) : n.plain = true := by
  rw [Net.fits, Bool.and_eq_true] at h
  exact h.1
theorem Net.inside_has {F : Fld} {n : Net} (hp : n.plain = true) (h1 : n.x + n.wide ≤ F.wide) (h2 : n.y + n.high ≤ F.high) {k : Nat} (hk : k < 100) (h : n.inside k = true) : F.has k = true := by
  obtain ⟨⟨a0, a1⟩, ⟨b0, b1⟩, _, _⟩ := Net.plain_iff.1 hp
  rw [Net.inside, Bool.and_eq_true, inB_iff, inB_iff] at h
  exact Fld.has_iff.2 ⟨by omega, by omega, by omega⟩
def netsOk (F : Fld) (xs : List Net) : Bool := F.valid && xs.all (·.fits F)
/-- What nets cover, and cover twice. -/
def covP (xs : List Net) (k : Nat) : Bool := decide (1 ≤ xs.countP (·.inside k))
def twP (xs : List Net) (k : Nat) : Bool := decide (2 ≤ xs.countP (·.inside k))
end Go.Proofs.Ytjkclggdaafmaaa
namespace Go.Proofs.Ytjkclggdaafmaaa
set_option linter.unusedSimpArgs false
set_option linter.unusedVariables false
open Go.RowKit

theorem Mem.nilrow {w0 w : World} {L : List Ent} (M : Mem w0 w L) (e : TypeId) (sz : Nat) : Mem w0 w (L ++ [.row (.slice none 0 0) e sz 0 []]) :=
  M.push _ (Below.refl _ _) ⟨by simp, .inl ⟨rfl, rfl⟩⟩ (fun k hk => by simp [Ent.place, Value.ownBlock] at hk)
theorem flat_one {α : Type} {enc : α → List Value} (h : ∀ x, ∀ v ∈ enc x, v.oneCell' = true) (xs : List α) : ∀ v ∈ flat enc xs, v.oneCell' = true := by
  intro v hv
  obtain ⟨x, _, hx⟩ := List.mem_flatMap.1 hv
  exact h x v hx
/-- The first ones already turned. -/
def partly {α : Type} (f : α → α) (xs : List α) (k : Nat) : List α := (xs.take k).map f ++ xs.drop k
theorem calls_args {P : Program} {f : FuncId} {args args' : Array Value} {w : World} {Q : Ending → World → Prop} (h : args = args') (H : Calls P f args w Q) : Calls P f args' w Q := h ▸ H
/-- A call hands back a row of its own, and a code. -/
def RetRowC (w : World) (T : TypeId) (sz n : Nat) (cs : List Value) (code : Int) (e : Ending) (w' : World) : Prop :=
  ∃ A c, e = .returned (.tuple #[.slice A n c, .int .i64 code]) ∧ n ≤ c ∧ Mem w w' [.row (.slice A n c) T sz n cs]
theorem Mem.row_none {w0 w : World} {L : List Ent} (M : Mem w0 w L) (i : Nat) {A : Option Addr} {m c : Nat} {e : TypeId} {sz n : Nat} {cs : List Value} (h : L[i]? = some (.row (.slice A m c) e sz n cs)) : A = none → c = 0 := by
  rintro rfl
  rcases (M.row i h).2 with ⟨h1, _⟩ | ⟨g, cap, cur, h1, _⟩
  · injection h1
  · injection h1 with h1; cases h1
theorem calls_caps {P : Program} {f : FuncId} {x : Value} {caps : List Value} {w : World} {Q : Ending → World → Prop} (h : Calls P f (x :: caps).toArray w Q) : Calls P f (#[x] ++ caps.toArray) w Q := by simpa using h
end Go.Proofs.Ytjkclggdaafmaaa
namespace Go.Proofs.Ytjkclggdaafmaaa
set_option linter.unusedSimpArgs false
set_option linter.unusedVariables false
open Go.RowKit
attribute [local go_sem] cell?_mk frozen?_mk

theorem Net.ones (x : Net) : ∀ v ∈ x.vals, v.oneCell' = true := by
  intro v hv
  simp only [Net.vals, List.mem_cons, List.not_mem_nil, or_false] at hv
  rcases hv with rfl | rfl | rfl | rfl <;> rfl
def markNet (k : Int) (i : Nat) : Net := ⟨IntKind.i8.wrap (k + 4 * i), IntKind.i8.wrap (k + 4 * i + 1), IntKind.i8.wrap (k + 4 * i + 1 + 1), IntKind.i8.wrap (k + 4 * i + 1 + 1 + 1)⟩
def marksNet (k : Int) (n : Nat) : List Net := (List.range n).map (markNet k)
theorem marksNet_at {k : Int} {n i : Nat} (h : i < n) : (marksNet k n)[i]? = some (markNet k i) := by simp [marksNet, h]
def mixNet (k : Int) (xs : List Net) (i : Nat) : List Net := (List.range i).map (markNet k) ++ xs.drop i
theorem mixNet_len (k : Int) (xs : List Net) (i : Nat) (h : i ≤ xs.length) : (mixNet k xs i).length = xs.length := by simp [mixNet]; omega
theorem mixNet_at (k : Int) {xs : List Net} {i : Nat} (h : i < xs.length) : (mixNet k xs i)[i]? = some xs[i] := by
  rw [mixNet, List.getElem?_append_right (by simp), List.length_map, List.length_range, Nat.sub_self, List.getElem?_drop]
  simp [h]
theorem mixNet_set (k : Int) {xs : List Net} {i : Nat} (h : i < xs.length) : (mixNet k xs i).set i (markNet k i) = mixNet k xs (i + 1) := by
  rw [mixNet, mixNet, List.set_append, if_neg (by simp), List.length_map, List.length_range, Nat.sub_self, List.range_succ, List.map_append, List.drop_eq_getElem_cons h]
  simp only [List.set_cons_zero, List.map_cons, List.map_nil, List.append_assoc, List.cons_append, List.nil_append]
theorem mixNet_0 (k : Int) (xs : List Net) : mixNet k xs 0 = xs := by simp [mixNet]
theorem mixNet_all (k : Int) (xs : List Net) : mixNet k xs xs.length = marksNet k xs.length := by simp [mixNet, marksNet]
theorem flat_putNet {xs : List Net} {k : Nat} {x y : Net} (hk : xs[k]? = some x) :
    (((((flat Net.vals xs).set (k * 4) (.int .i8 y.x)).set (k * 4 + 1) (.int .i8 y.y)).set (k * 4 + 2) (.int .i8 y.wide)).set (k * 4 + 3) (.int .i8 y.high)) = flat Net.vals (xs.set k y) := by
  have hl : k < xs.length := (List.getElem?_eq_some_iff.1 hk).1
  have h0 := flat_put Net.vl (by decide : 0 < 4) (v := .int .i8 y.x) xs k x ⟨y.x, x.y, x.wide, x.high⟩ hk rfl
  have h1 := flat_put Net.vl (by decide : 1 < 4) (v := .int .i8 y.y) (xs.set k ⟨y.x, x.y, x.wide, x.high⟩) k ⟨y.x, x.y, x.wide, x.high⟩ ⟨y.x, y.y, x.wide, x.high⟩ (by rw [List.getElem?_set_self hl]) rfl
  have h2 := flat_put Net.vl (by decide : 2 < 4) (v := .int .i8 y.wide) (xs.set k ⟨y.x, y.y, x.wide, x.high⟩) k ⟨y.x, y.y, x.wide, x.high⟩ ⟨y.x, y.y, y.wide, x.high⟩ (by rw [List.getElem?_set_self hl]) rfl
  have h3 := flat_put Net.vl (by decide : 3 < 4) (v := .int .i8 y.high) (xs.set k ⟨y.x, y.y, y.wide, x.high⟩) k ⟨y.x, y.y, y.wide, x.high⟩ y (by rw [List.getElem?_set_self hl]) rfl
  rw [List.set_set] at h1 h2 h3
  rw [Nat.add_zero] at h0
  rw [h0, h1, h2, h3]
set_option maxRecDepth 100000 in
set_option maxHeartbeats 1000000 in
theorem markNet_any {w0 w : World} {L : List Ent} (i : Nat) (M0 : Mem w0 w L) (A : Option Addr) (c : Nat) (xs : List Net) (hL : L[i]? = some (.row (.slice A xs.length c) 65 4 xs.length (flat Net.vals xs))) (hl : xs.length ≤ 1048576) :
    Calls Try.prog 11 #[.slice A xs.length c, .int .i64 1] w fun e w' => e = .returned (.int .i64 (1 + 4 * xs.length)) ∧ Mem w0 w' (L.set i (.row (.slice A xs.length c) 65 4 xs.length (flat Net.vals (marksNet 1 xs.length)))) := by
  have M := Lib.hid M0
  have HL := Lib.hid hL
  have hi : i < L.length := (List.getElem?_eq_some_iff.1 hL).1
  clear M0 hL
  go_enter Try.func11, Try.ntmps11
  go_wp2
  go_loopw [1, 5] (fun u v wr => ∃ k : Nat, k ≤ xs.length ∧ v = .int .i64 k ∧ u = .int .i64 (1 + 4 * (k : Int)) ∧ Mem w0 wr (L.set i (.row (.slice A xs.length c) 65 4 xs.length (flat Net.vals (mixNet 1 xs k)))))
    (fun _ v _ => xs.length - (intOf v).toNat)
  case atStart => exact ⟨0, by omega, rfl, rfl, by rw [mixNet_0, set_same HL.out]; exact M.out⟩
  case round =>
    clear M
    obtain ⟨k, hk, rfl, rfl, m⟩ := hrel
    have M := Lib.hid m
    clear m
    by_cases hlt : k < xs.length
    · have hLs : ∀ e : Ent, (L.set i e)[i]? = some e := fun e => by rw [List.getElem?_set_self hi]
      obtain ⟨g, cap, he, _⟩ := M.out.row_form i (hLs _) (by omega)
      obtain ⟨rfl, rfl⟩ : A = some ⟨g, 0, none⟩ ∧ c = cap := by injection he with e1 _ e2; exact ⟨e1, e2⟩
      clear he
      have hk1 := mixNet_at 1 hlt
      have HK1 := Lib.hid hk1
      have HLs := Lib.hid hLs
      have e0 : IntKind.i64.wrap (1 + 4 * (k : Int) + 1) = 1 + 4 * (k : Int) + 1 := IntWalk.i64_in _ (by omega)
      have e1 : IntKind.i64.wrap (1 + 4 * (k : Int) + 1 + 1) = 1 + 4 * (k : Int) + 1 + 1 := IntWalk.i64_in _ (by omega)
      have e2 : IntKind.i64.wrap (1 + 4 * (k : Int) + 1 + 1 + 1) = 1 + 4 * (k : Int) + 1 + 1 + 1 := IntWalk.i64_in _ (by omega)
      have e3 : IntKind.i64.wrap (1 + 4 * (k : Int) + 1 + 1 + 1 + 1) = 1 + 4 * (k : Int) + 1 + 1 + 1 + 1 := IntWalk.i64_in _ (by omega)
      have hl0 : k * 4 + 3 < (flat Net.vals (mixNet 1 xs k)).length := by rw [flat_len Net.vl, mixNet_len _ _ _ hk]; omega
      have HL0 := Lib.hid hl0
      clear hk1 hLs hl0
      go_wp2_with (first
        | ((with_reducible refine gate_store (x := .tmp 17) rfl ?_); go_must (refine M.out.ev_rput1 i _ _ _ rfl rfl (HLs.out _) rfl (.int .i8 (IntKind.i8.wrap (1 + 4 * (k : Int)))) rfl (by have := HL0.out; first | omega | (simp only [List.length_set]; omega)) sz22 rfl rfl ?_); intro wn m; rw [List.set_set] at m; have M := Lib.hid m; clear m)
        | ((with_reducible refine gate_store (x := .tmp 25) rfl ?_); go_must (refine M.out.ev_rput1 i _ _ _ rfl rfl (HLs.out _) rfl (.int .i8 (IntKind.i8.wrap (1 + 4 * (k : Int) + 1))) rfl (by have := HL0.out; first | omega | (simp only [List.length_set]; omega)) sz22 rfl rfl ?_); intro wn m; rw [List.set_set] at m; have M := Lib.hid m; clear m)
        | ((with_reducible refine gate_store (x := .tmp 33) rfl ?_); go_must (refine M.out.ev_rput1 i _ _ _ rfl rfl (HLs.out _) rfl (.int .i8 (IntKind.i8.wrap (1 + 4 * (k : Int) + 1 + 1))) rfl (by have := HL0.out; first | omega | (simp only [List.length_set]; omega)) sz22 rfl rfl ?_); intro wn m; rw [List.set_set] at m; have M := Lib.hid m; clear m)
        | ((with_reducible refine gate_store (x := .tmp 41) rfl ?_); go_must (refine M.out.ev_rput1 i _ _ _ rfl rfl (HLs.out _) rfl (.int .i8 (IntKind.i8.wrap (1 + 4 * (k : Int) + 1 + 1 + 1))) rfl (by have := HL0.out; first | omega | (simp only [List.length_set]; omega)) sz22 rfl rfl ?_); intro wn m; rw [List.set_set] at m; have M := Lib.hid m; clear m)
        )
      refine ⟨⟨k + 1, by omega, by go_num, ?_, ?_⟩, by simp [intOf]; omega⟩
      · first | (congr 1; done) | (congr 1; omega)
      · have m := M.out
        have hf := flat_putNet (y := markNet 1 k) HK1.out
        rw [mixNet_set 1 hlt] at hf
        rw [← hf]
        exact m
    · obtain rfl : k = xs.length := by omega
      go_wp2
      go_ret
      exact ⟨rfl, by have m := M.out; rw [mixNet_all] at m; exact m⟩
set_option maxRecDepth 100000 in
set_option maxHeartbeats 1000000 in
theorem heldNet_any (A : Option Addr) (c n : Nat) (hl : n ≤ 1048576) (w : World) (hs : Sl w 4 A n (flat Net.vals (marksNet 1 n))) :
    Calls Try.prog 12 #[.slice A n c, .int .i64 1] w fun e w' => e = .returned (.int .i64 (1 + 4 * n)) ∧ w = w' := by
  have HS := Lib.hid hs
  clear hs
  go_enter Try.func12, Try.ntmps12
  go_wp2
  go_loop [1, 5] (fun u v => ∃ k : Nat, k ≤ n ∧ v = .int .i64 k ∧ u = .int .i64 (1 + 4 * (k : Int)))
    (fun _ v => n - (intOf v).toNat)
  case atStart => exact ⟨0, by omega, rfl, rfl⟩
  case round =>
    obtain ⟨k, hk, rfl, rfl⟩ := hrel
    by_cases hlt : k < n
    · obtain ⟨b, off, rfl, hr⟩ := HS.out.2 (by omega)
      have R := range_at Net.vl hr (marksNet_at hlt)
      have x0 : w.cell? ⟨b, off + k * 4, none⟩ = some (.int .i8 (IntKind.i8.wrap (1 + 4 * (k : Int)))) := R 0 _ rfl
      have x1 : w.cell? ⟨b, off + k * 4 + 1, none⟩ = some (.int .i8 (IntKind.i8.wrap (1 + 4 * (k : Int) + 1))) := R 1 _ rfl
      have x2 : w.cell? ⟨b, off + k * 4 + 2, none⟩ = some (.int .i8 (IntKind.i8.wrap (1 + 4 * (k : Int) + 1 + 1))) := R 2 _ rfl
      have x3 : w.cell? ⟨b, off + k * 4 + 3, none⟩ = some (.int .i8 (IntKind.i8.wrap (1 + 4 * (k : Int) + 1 + 1 + 1))) := R 3 _ rfl
      have e0 : IntKind.i64.wrap (1 + 4 * (k : Int) + 1) = 1 + 4 * (k : Int) + 1 := IntWalk.i64_in _ (by omega)
      have e1 : IntKind.i64.wrap (1 + 4 * (k : Int) + 1 + 1) = 1 + 4 * (k : Int) + 1 + 1 := IntWalk.i64_in _ (by omega)
      have e2 : IntKind.i64.wrap (1 + 4 * (k : Int) + 1 + 1 + 1) = 1 + 4 * (k : Int) + 1 + 1 + 1 := IntWalk.i64_in _ (by omega)
      have e3 : IntKind.i64.wrap (1 + 4 * (k : Int) + 1 + 1 + 1 + 1) = 1 + 4 * (k : Int) + 1 + 1 + 1 + 1 := IntWalk.i64_in _ (by omega)
      clear hr R
      go_wp2
      exact ⟨⟨k + 1, by omega, by go_num, by first | (congr 1; done) | (congr 1; omega)⟩, by simp [intOf]; omega⟩
    · obtain rfl : k = n := by omega
      go_wp2
      go_ret
      exact ⟨rfl, rfl⟩
set_option maxRecDepth 100000 in
set_option maxHeartbeats 1000000 in
theorem cloneNet_any (A : Option Addr) (n : Nat) (xs : List Net) (hl : xs.length ≤ 1048576) (hc : xs.length ≤ n) (hA : A = none → n = 0) (w : World) (hs : Sl w 4 A xs.length (flat Net.vals xs)) :
    Calls Try.prog 83 #[.slice A xs.length n] w (RetRow w 65 4 xs.length (flat Net.vals xs)) := by
  have M := Lib.hid (Mem.start w)
  have HS := Lib.hid hs
  clear hs
  cases A with
  | none =>
    obtain rfl := hA rfl
    obtain rfl : xs = [] := List.length_eq_zero_iff.1 (by omega)
    have he : ∀ w : World, (binOp .eql 32 (.slice none 0 0) (.slice none 0 0)).run Try.prog w = .ok (.bool true) w := fun _ => rfl
    go_enter Try.func83, Try.ntmps83
    go_wp2
    go_ret
    exact ⟨none, 0, rfl, by simp, M.out.nilrow _ _⟩
  | some a =>
    have he : ∀ w : World, (binOp .eql 32 (.slice (some a) xs.length n) (.slice none 0 0)).run Try.prog w = .ok (.bool false) w := fun _ => rfl
    go_enter Try.func83, Try.ntmps83
    go_wp2_with (first
      | ((with_reducible refine gate_dst (N := 5) rfl ?_); go_must (refine M.out.ev_bs0 elem_Net rfl rfl ?_); intro g5 w5 m; simp only [List.nil_append] at m; have M := Lib.hid m; clear m)
      | ((with_reducible refine gate_dst (N := 7) rfl ?_); go_must (refine M.out.ev_appends 0 elem_Net rfl _ _ rfl rfl rfl rfl (M.out.sl HS.out) (fun h => by cases h) hc (flat_one Net.ones xs) (by omega) (by decide) ?_); intro v7 w7 m; simp only [List.set_cons_zero, List.nil_append, Nat.zero_add] at m; have M := Lib.hid m; clear m)
      )
    obtain ⟨B, c, rfl, hc1, _⟩ := M.out.row_slice 0 rfl
    go_ret
    exact ⟨B, c, rfl, hc1, M.out⟩
end Go.Proofs.Ytjkclggdaafmaaa
namespace Go.Proofs.Ytjkclggdaafmaaa
set_option linter.unusedSimpArgs false
set_option linter.unusedVariables false
open Go.RowKit

end Go.Proofs.Ytjkclggdaafmaaa
namespace Go.Proofs.Ytjkclggdaafmaaa
set_option linter.unusedSimpArgs false
set_option linter.unusedVariables false
open Go.RowKit
attribute [local go_sem] cell?_mk frozen?_mk

theorem filter_lt {F : Fld} {p : Nat → Bool} {k : Nat} : ∀ j ∈ (F.all.take k).filter p, j < 128 := fun j hj => by
  have := (Fld.all_has (List.mem_of_mem_take (List.mem_filter.1 hj).1)).1
  omega
set_option maxRecDepth 100000 in
set_option maxHeartbeats 2000000 in
theorem those_any (g : Nat) {t : TypeId} (F : Fld) (hF : F.ok) (f : FuncId) (caps : Array Value) (p : Nat → Bool) (w : World) (hb : Blk w g t F.cells)
    (HF : ∀ (vs : Array Value) (w : World), Sem.run Try.prog (callFunc f vs) w = Result.ok (Next.enter f vs) w)
    (H : ∀ k : Nat, k < 100 → F.has k = true → ∀ w1, Mem w w1 [] → Calls Try.prog f (#[.int .i64 k] ++ caps) w1 fun e w' => e = .returned (.bool (p k)) ∧ Mem w1 w' []) :
    Calls Try.prog 98 #[.pointer (some ⟨g, 0, none⟩), .func (.func f) #[] caps] w fun e w' => e = .returned (.agg (setOf (F.all.filter p)).cells) ∧ Mem w w' [] := by
  have M := Lib.hid (Mem.start w)
  have HB := Lib.hid hb
  have HH := Lib.hid H
  have HFF := Lib.hid hF
  have O1 := Lib.hid (Cs.one (setOf (F.all.filter p)))
  clear hb H hF
  go_enter Try.func98, Try.ntmps98
  go_wp2_with (first
    | ((with_reducible refine gate_dst (N := 4) rfl ?_); go_must (refine M.out.ev_new rfl (by first | (go_simp; done) | (go_simp; rfl)) ?_); intro g4 w4 m; simp only [List.cons_append, List.nil_append] at m; have M := Lib.hid m; clear m)
    | ((with_reducible refine gate_dst (N := 5) rfl ?_); go_must (refine M.out.ev_new rfl (by first | (go_simp; done) | (go_simp; rfl)) ?_); intro g5 w5 m; simp only [List.cons_append, List.nil_append] at m; have M := Lib.hid m; clear m)
    | ((with_reducible refine gate_store (x := .tmp 5) rfl ?_); go_must (refine M.out.ev_stw 1 _ _ _ rfl rfl rfl rfl _ rfl (by first | rfl | (simp only [S1.out]; rfl) | (simp only [S1.out, S2.out]; rfl) | (simp only [S3.out]; rfl) | (simp only [S1.out, S2.out, S3.out]; rfl)) (by first | exact sz39 | (rw [S1.out]; exact sz39) | (rw [S2.out]; exact sz39) | (rw [S3.out]; exact sz39)) (by first | exact ints_one _ _ | exact Fld.one _ | exact O1.out | rfl | (simp [Value.oneCell']; done)) rfl ?_); intro wn m; simp only [List.set_cons_succ, List.set_cons_zero, List.setIfInBounds_toArray] at m; have M := Lib.hid m; clear m)
    | ((with_reducible refine gate_dst (N := 22) rfl ?_); go_must (refine M.out.ev_ldw 1 _ _ rfl rfl rfl Try.underlying39 rfl (by first | exact sz39 | (rw [S1.out]; exact sz39) | (rw [S2.out]; exact sz39) | (rw [S3.out]; exact sz39)) rfl ?_))
    | ((with_reducible refine gate_store (x := .tmp 4) rfl ?_); go_must (refine M.out.ev_stw 0 _ _ _ rfl rfl rfl rfl _ rfl (by first | rfl | (simp only [S1.out]; rfl) | (simp only [S1.out, S2.out]; rfl) | (simp only [S3.out]; rfl) | (simp only [S1.out, S2.out, S3.out]; rfl)) (by first | exact sz39 | (rw [S1.out]; exact sz39) | (rw [S2.out]; exact sz39) | (rw [S3.out]; exact sz39)) (by first | exact ints_one _ _ | exact Fld.one _ | exact O1.out | rfl | (simp [Value.oneCell']; done)) rfl ?_); intro wn m; simp only [List.set_cons_succ, List.set_cons_zero, List.setIfInBounds_toArray] at m; have M := Lib.hid m; clear m)
    | (go_at_call 107; go_must (refine (cells_any g F HFF.out _ (M.out.arg HB.out)).mono ?_); rintro e w_ ⟨A_, c_, rfl, hc_, N_⟩; have m := M.out.join N_; clear N_; simp only [List.cons_append, List.nil_append, List.append_nil] at m; have M := Lib.hid m; clear m)
    )
  go_loopw [12] (fun v wr => ∃ k : Nat, k ≤ F.all.length ∧ v = .int .i64 k ∧ Mem w wr [.blk g4 39 Cs.z.cells, .blk g5 39 (setOf ((F.all.take k).filter p)).cells, .row (.slice A_ F.all.length c_) 2 1 F.all.length (flat one64 F.all)])
    (fun v _ => F.all.length - (intOf v).toNat)
  case atStart => exact ⟨0, by omega, rfl, M.out⟩
  case round =>
    clear M
    obtain ⟨k, hk, rfl, m⟩ := hrel
    have M := Lib.hid m
    clear m
    have hal : F.all.length ≤ 100 := F.below_len 100
    have CO := Lib.hid (setOf_ok _ (filter_lt (F := F) (p := p) (k := k)))
    by_cases hlt : k < F.all.length
    · obtain ⟨b, off, rfl, hr⟩ := (M.out.slof 2 rfl).2 (by omega)
      have hxk : F.all[k]? = some F.all[k] := List.getElem?_eq_getElem hlt
      have hmem := Fld.all_has (List.getElem_mem hlt)
      obtain ⟨j, hj⟩ : ∃ j, j = F.all[k] := ⟨_, rfl⟩
      have R := range_at one64_len hr hxk
      have HT := Lib.hid (show F.all.take (k + 1) = F.all.take k ++ [j] by rw [List.take_succ_eq_append_getElem hlt, hj])
      rw [← hj] at R hmem
      have x0 : wr.cell? ⟨b, off + k, none⟩ = some (.int .i64 j) := by
        have := R 0 _ rfl
        simpa [nat64] using this
      obtain ⟨j0, j1⟩ := hmem
      have i0 : (0 : Int) ≤ (j : Int) := by omega
      have J1 := Lib.hid j1
      clear hr hxk R hj j1
      cases hp : p j
      · have HP := Lib.hid hp
        clear hp
        go_wp2_with (first
          | (refine (HH.out j j0 J1.out _ (M.out.take 0)).mono ?_; rintro e w_ ⟨rfl, N_⟩; have m := M.out.join N_; clear N_; simp only [List.cons_append, List.nil_append, List.append_nil] at m; have M := Lib.hid m; clear m; rw [HP.out])
          )
        refine ⟨⟨k + 1, by omega, by go_num, ?_⟩, by simp [intOf]; omega⟩
        rw [HT.out, List.filter_append]
        simpa [HP.out] using M.out
      · have HP := Lib.hid hp
        clear hp
        go_wp2_with (first
          | (refine (HH.out j j0 J1.out _ (M.out.take 0)).mono ?_; rintro e w_ ⟨rfl, N_⟩; have m := M.out.join N_; clear N_; simp only [List.cons_append, List.nil_append, List.append_nil] at m; have M := Lib.hid m; clear m; rw [HP.out])
          | (go_at_call 81; go_must (refine (put_any 1 M.out _ _ CO.out rfl j j0).mono ?_); rintro e w_ ⟨rfl, m⟩; simp only [List.set_cons_succ, List.set_cons_zero] at m; have M := Lib.hid m; clear m)
          )
        refine ⟨⟨k + 1, by omega, by go_num, ?_⟩, by simp [intOf]; omega⟩
        rw [HT.out, List.filter_append, show [j].filter p = [j] by simp [HP.out], setOf_snoc]
        exact M.out
    · obtain rfl : k = F.all.length := by omega
      rw [List.take_length] at M
      go_wp2_with (first
        | ((with_reducible refine gate_dst (N := 4) rfl ?_); go_must (refine M.out.ev_new rfl (by first | (go_simp; done) | (go_simp; rfl)) ?_); intro g4 w4 m; simp only [List.cons_append, List.nil_append] at m; have M := Lib.hid m; clear m)
        | ((with_reducible refine gate_dst (N := 5) rfl ?_); go_must (refine M.out.ev_new rfl (by first | (go_simp; done) | (go_simp; rfl)) ?_); intro g5 w5 m; simp only [List.cons_append, List.nil_append] at m; have M := Lib.hid m; clear m)
        | ((with_reducible refine gate_store (x := .tmp 5) rfl ?_); go_must (refine M.out.ev_stw 1 _ _ _ rfl rfl rfl rfl _ rfl (by first | rfl | (simp only [S1.out]; rfl) | (simp only [S1.out, S2.out]; rfl) | (simp only [S3.out]; rfl) | (simp only [S1.out, S2.out, S3.out]; rfl)) (by first | exact sz39 | (rw [S1.out]; exact sz39) | (rw [S2.out]; exact sz39) | (rw [S3.out]; exact sz39)) (by first | exact ints_one _ _ | exact Fld.one _ | exact O1.out | rfl | (simp [Value.oneCell']; done)) rfl ?_); intro wn m; simp only [List.set_cons_succ, List.set_cons_zero, List.setIfInBounds_toArray] at m; have M := Lib.hid m; clear m)
        | ((with_reducible refine gate_dst (N := 22) rfl ?_); go_must (refine M.out.ev_ldw 1 _ _ rfl rfl rfl Try.underlying39 rfl (by first | exact sz39 | (rw [S1.out]; exact sz39) | (rw [S2.out]; exact sz39) | (rw [S3.out]; exact sz39)) rfl ?_))
        | ((with_reducible refine gate_store (x := .tmp 4) rfl ?_); go_must (refine M.out.ev_stw 0 _ _ _ rfl rfl rfl rfl _ rfl (by first | rfl | (simp only [S1.out]; rfl) | (simp only [S1.out, S2.out]; rfl) | (simp only [S3.out]; rfl) | (simp only [S1.out, S2.out, S3.out]; rfl)) (by first | exact sz39 | (rw [S1.out]; exact sz39) | (rw [S2.out]; exact sz39) | (rw [S3.out]; exact sz39)) (by first | exact ints_one _ _ | exact Fld.one _ | exact O1.out | rfl | (simp [Value.oneCell']; done)) rfl ?_); intro wn m; simp only [List.set_cons_succ, List.set_cons_zero, List.setIfInBounds_toArray] at m; have M := Lib.hid m; clear m)
        )
      exact ret_cell rfl (M.out.blk 0 rfl) Try.underlying39 rfl sz39 rfl ⟨rfl, M.out.take 0⟩
end Go.Proofs.Ytjkclggdaafmaaa
namespace Go.Proofs.Ytjkclggdaafmaaa
set_option linter.unusedSimpArgs false
set_option linter.unusedVariables false
open Go.RowKit
attribute [local go_sem] cell?_mk frozen?_mk

def ofKd (F : Fld) (q : Int) : Cs := setOf (F.all.filter fun k => F.kind k == q)
theorem ofKd_ok (F : Fld) (q : Int) : (ofKd F q).ok := setOf_ok _ fun k hk => by
  have := (Fld.all_has (List.mem_filter.1 hk).1).1
  omega
theorem ofKd_has (F : Fld) (q : Int) {k : Nat} (hk : k < 100) : (ofKd F q).has k = (F.has k && (F.kind k == q)) := by
  rw [ofKd, setOf_has, Bool.eq_iff_iff, List.contains_iff_mem, List.mem_filter, Fld.all, Fld.below, List.mem_filter, List.mem_range, Bool.and_eq_true]
  exact ⟨fun h => ⟨h.1.2, h.2⟩, fun h => ⟨⟨hk, h.1⟩, h.2⟩⟩
set_option maxRecDepth 100000 in
set_option maxHeartbeats 2000000 in
theorem kindIs_any (g a b : Nat) {t ta tb : TypeId} (F : Fld) (hF : F.ok) (q : Int) (k : Nat) (hk : k < 100) (w : World) (hb : Blk w g t F.cells)
    (h1 : Blk w a ta #[.pointer (some ⟨g, 0, none⟩)]) (h2 : Blk w b tb #[.int .i64 q]) :
    Calls Try.prog 99 #[.int .i64 k, .pointer (some ⟨a, 0, none⟩), .pointer (some ⟨b, 0, none⟩)] w fun e w' => e = .returned (.bool (F.kind k == q)) ∧ Mem w w' [] := by
  have M := Lib.hid (Mem.start w)
  have y1 := h1.cellv (i := 0) rfl
  have y2 := h2.cellv (i := 0) rfl
  have y4 := hb.cellv (Fld.cellK hF.toLen (k := k) hk)
  have kb := hF.kb k
  have i0 : (0 : Int) ≤ (k : Int) := by omega
  have i1 : (k : Int) < 100 := by omega
  have e1 : IntKind.i64.wrap (F.kind k) = F.kind k := IntWalk.i64_in _ (by omega)
  clear hb h1 h2
  go_enter Try.func99, Try.ntmps99
  go_wp2_with fail
  go_quiet (fail)
  have M := Lib.hid (M.out.drewN nq)
  go_wp2
  go_ret
  exact ⟨rfl, M.out⟩
set_option maxRecDepth 100000 in
set_option maxHeartbeats 2000000 in
theorem ofKind_any (g : Nat) {t : TypeId} (F : Fld) (hF : F.ok) (q : Int) (w : World) (hb : Blk w g t F.cells) :
    Calls Try.prog 79 #[.pointer (some ⟨g, 0, none⟩), .int .i64 q] w fun e w' => e = .returned (.agg (ofKd F q).cells) ∧ Mem w w' [] := by
  have M := Lib.hid (Mem.start w)
  have HB := Lib.hid hb
  have O1 := Lib.hid (Cs.one (ofKd F q))
  clear hb
  go_enter Try.func79, Try.ntmps79
  go_wp2_with (first
    | ((with_reducible refine gate_dst (N := 2) rfl ?_); go_must (refine M.out.ev_new rfl (by first | (go_simp; done) | (go_simp; rfl)) ?_); intro g2 w2 m; simp only [List.cons_append, List.nil_append] at m; have M := Lib.hid m; clear m)
    | ((with_reducible refine gate_dst (N := 3) rfl ?_); go_must (refine M.out.ev_new rfl (by first | (go_simp; done) | (go_simp; rfl)) ?_); intro g3 w3 m; simp only [List.cons_append, List.nil_append] at m; have M := Lib.hid m; clear m)
    | ((with_reducible refine gate_dst (N := 4) rfl ?_); go_must (refine M.out.ev_new rfl (by first | (go_simp; done) | (go_simp; rfl)) ?_); intro g4 w4 m; simp only [List.cons_append, List.nil_append] at m; have M := Lib.hid m; clear m)
    | ((with_reducible refine gate_dst (N := 5) rfl ?_); go_must (refine M.out.ev_ld 0 _ _ rfl rfl rfl Try.underlying69 rfl rfl (by first | assumption | rfl) ?_))
    | ((with_reducible refine gate_store (x := .tmp 4) rfl ?_); go_must (refine M.out.ev_stw 2 _ _ _ rfl rfl rfl rfl _ rfl (by first | rfl | (simp only [S1.out]; rfl) | (simp only [S1.out, S2.out]; rfl) | (simp only [S3.out]; rfl) | (simp only [S1.out, S2.out, S3.out]; rfl)) (by first | exact sz39 | (rw [S1.out]; exact sz39) | (rw [S2.out]; exact sz39) | (rw [S3.out]; exact sz39)) (by first | exact ints_one _ _ | exact Fld.one _ | exact O1.out | rfl | (simp [Value.oneCell']; done)) rfl ?_); intro wn m; simp only [List.set_cons_succ, List.set_cons_zero, List.setIfInBounds_toArray] at m; have M := Lib.hid m; clear m)
    | (go_at_call 98; go_must (refine (those_any g F hF 99 #[.pointer (some ⟨g2, 0, none⟩), .pointer (some ⟨g3, 0, none⟩)] (fun k => F.kind k == q) _ (M.out.arg HB.out) (fun _ _ => by go_simp) (fun k hk _ w1 m1 => calls_caps (kindIs_any g _ _ F hF q k hk w1 ((M.out.join m1).arg HB.out) ((M.out.join m1).blk 0 rfl) ((M.out.join m1).blk 1 rfl)))).mono ?_); rintro e w_ ⟨rfl, N_⟩; have m := M.out.join N_; clear N_; simp only [List.cons_append, List.nil_append, List.append_nil] at m; have M := Lib.hid m; clear m)
    )
  exact ret_cell rfl (M.out.blk 2 rfl) Try.underlying39 rfl sz39 rfl ⟨rfl, M.out.take 0⟩
end Go.Proofs.Ytjkclggdaafmaaa
namespace Go.Proofs.Ytjkclggdaafmaaa
set_option linter.unusedSimpArgs false
set_option linter.unusedVariables false
open Go.RowKit

section
variable {P : Program} {md : Region.Mode} {ops : Array Oper} {Q : Exit → Act → World → Prop} {S : World → Prop} {fuel : Nat} {listed : Array Bool} {a : Act} {w : World}
theorem takeH {i : Nat} {oi : Oper} {v : Value} (d : Tmp) (hi : ops[i]? = some oi)
    (hs : Region.noSelect ops = true) (hf : Region.free md ops listed i = true) (hr : (Region.ready md ops listed).contains i = true)
    (hQ : ∀ c a w, Q (.panic c) (a.put oi.dst v) w → Q (.panic c) a w) (hd : oi.dst = some d) (hS : S w) (hy : YieldsIf P ops S oi v a)
    (h : wpAnyH P md ops Q S fuel (listed.setIfInBounds i true) (a.put (some d) v) w) : wpAnyH P md ops Q S (fuel + 1) listed a w :=
  wpAnyH_take hi hs hf hr hQ hy hS (by rw [hd]; exact h)
theorem ylds {o : Oper} (T : TypeId) (x : Operand) (ho : o.op = .load T x) (hg : o.guard = none) {p : Addr} {v : Value} {d : TypeDesc} (hu : P.underlying T = some d) (hd : TypeDesc_row d = false)
    (hx : a.eval x = .pointer (some p)) (hc : ∀ w, S w → w.cell? p = some v) : YieldsIf P ops S o v a :=
  .inl ⟨by simp [Region.wanted, hg], fun w hS => by
    unfold execOp
    simp only [ho, hx, Sem.run_bind, Result.andThen_ok, run_get T hu hd (hc w hS), Sem.run_pure]⟩
theorem yldsW {o : Oper} (T : TypeId) (x : Operand) (ho : o.op = .load T x) (hw : Region.wanted o (yielded ops a.tmps) = true) {p : Addr} {v : Value} {d : TypeDesc} (hu : P.underlying T = some d) (hd : TypeDesc_row d = false)
    (hx : a.eval x = .pointer (some p)) (hc : ∀ w, S w → w.cell? p = some v) : YieldsIf P ops S o v a :=
  .inl ⟨hw, fun w hS => by
    unfold execOp
    simp only [ho, hx, Sem.run_bind, Result.andThen_ok, run_get T hu hd (hc w hS), Sem.run_pure]⟩
theorem yldw {o : Oper} (T : TypeId) (x : Operand) (ho : o.op = .load T x) (hg : o.guard = none) {g : Nat} {t : TypeId} {cs : Array Value} {d : TypeDesc} (hu : P.underlying T = some d)
    (hd : (match d with | .struct _ | .array _ _ => true | _ => false) = true) (hi : (P.info? T).map (·.size) = some cs.size) (hx : a.eval x = .pointer (some ⟨g, 0, none⟩)) (hb : ∀ w, S w → Blk w g t cs) : YieldsIf P ops S o (.agg cs) a :=
  .inl ⟨by simp [Region.wanted, hg], fun w hS => by
    have hagg : (isAgg T).run P w = .ok true w := by
      unfold isAgg
      rw [Sem.run_bind, run_underlying hu w]
      cases d <;> simp_all
    unfold execOp
    simp only [ho, hx, Instr.loadAt, Instr.sureAddr, Sem.run_bind, Result.andThen_ok, run_loadVar_row w g t T cs (0, 0) d (hb w hS) hu hd hi, Sem.run_pure, hagg]⟩
theorem any1H (i : Nat) {o : Oper} (hr : Region.ready md ops listed = [i]) (ho : ops[i]? = some o)
    (h : ∀ K : Act → World → Prop, (∀ a w, S w ∧ wpAnyH P md ops Q S fuel (listed.setIfInBounds i true) a w → K a w) → wpList P ops (onward K) [o] a w) : wpAnyH P md ops Q S (fuel + 1) listed a w :=
  wpAnyH_all hr (by simp) fun j hj => by
    rw [List.mem_singleton.1 hj]
    exact wpOp_onward ho (h _ fun _ _ h => h)
theorem any2H (i j : Nat) {o o' : Oper} (hr : Region.ready md ops listed = [i, j]) (ho : ops[i]? = some o) (ho' : ops[j]? = some o')
    (h : ∀ K : Act → World → Prop, (∀ a w, S w ∧ wpAnyH P md ops Q S fuel (listed.setIfInBounds i true) a w → K a w) → wpList P ops (onward K) [o] a w)
    (h' : ∀ K : Act → World → Prop, (∀ a w, S w ∧ wpAnyH P md ops Q S fuel (listed.setIfInBounds j true) a w → K a w) → wpList P ops (onward K) [o'] a w) : wpAnyH P md ops Q S (fuel + 1) listed a w :=
  wpAnyH_all hr (by simp) fun k hk => by
    rcases List.mem_cons.1 hk with rfl | hk
    · exact wpOp_onward ho (h _ fun _ _ h => h)
    · rw [List.mem_singleton.1 hk]
      exact wpOp_onward ho' (h' _ fun _ _ h => h)
theorem region_anyH {id : Nat} (S : World → Prop) (hm : P.follows .mixedOrders = true)
    (h : wpAnyH P .any ops Q S ops.size (Array.replicate ops.size false) a w.drew) : (Code.region id ops true).wp P Q a w := wp_region_held hm h
end
end Go.Proofs.Ytjkclggdaafmaaa
namespace Go.Proofs.Ytjkclggdaafmaaa
set_option linter.unusedSimpArgs false
set_option linter.unusedVariables false
open Go.RowKit

theorem merge2 {α β : Type} {G : Prop} {K T : α → β → World → Prop} (hA : (∀ a b w, K a b w → T a b w) → G) (hB : ∀ a b w, K a b w → T a b w) : G := hA hB
section
variable {P : Program} {ops : Array Oper} {rest : List Oper} {o : Oper} {a : Act} {w : World} {Q : Exit → Act → World → Prop}
/-- An operation whose guard lets it run. -/
theorem gate_want (hw : Region.wanted o (yielded ops a.tmps) = true) (h : wpList P ops Q ({ o with guard := none } :: rest) a w) : wpList P ops Q (o :: rest) a w := by
  unfold wpList at h ⊢
  rw [if_pos hw]
  rw [if_pos (by simp [Region.wanted])] at h
  exact h
end
section
variable {P : Program} {md : Region.Mode} {ops : Array Oper} {Q : Exit → Act → World → Prop} {S : World → Prop} {fuel : Nat} {listed : Array Bool} {a : Act} {w : World}
theorem yldwW {o : Oper} (T : TypeId) (x : Operand) (ho : o.op = .load T x) (hw : Region.wanted o (yielded ops a.tmps) = true) {g : Nat} {t : TypeId} {cs : Array Value} {d : TypeDesc} (hu : P.underlying T = some d)
    (hd : (match d with | .struct _ | .array _ _ => true | _ => false) = true) (hi : (P.info? T).map (·.size) = some cs.size) (hx : a.eval x = .pointer (some ⟨g, 0, none⟩)) (hb : ∀ w, S w → Blk w g t cs) : YieldsIf P ops S o (.agg cs) a :=
  .inl ⟨hw, fun w hS => by
    have hagg : (isAgg T).run P w = .ok true w := by
      unfold isAgg
      rw [Sem.run_bind, run_underlying hu w]
      cases d <;> simp_all
    unfold execOp
    simp only [ho, hx, Instr.loadAt, Instr.sureAddr, Sem.run_bind, Result.andThen_ok, run_loadVar_row w g t T cs (0, 0) d (hb w hS) hu hd hi, Sem.run_pure, hagg]⟩
theorem any3H (i j k : Nat) {o o' o'' : Oper} (hr : Region.ready md ops listed = [i, j, k]) (ho : ops[i]? = some o) (ho' : ops[j]? = some o') (ho'' : ops[k]? = some o'')
    (h : ∀ K : Act → World → Prop, (∀ a w, S w ∧ wpAnyH P md ops Q S fuel (listed.setIfInBounds i true) a w → K a w) → wpList P ops (onward K) [o] a w)
    (h' : ∀ K : Act → World → Prop, (∀ a w, S w ∧ wpAnyH P md ops Q S fuel (listed.setIfInBounds j true) a w → K a w) → wpList P ops (onward K) [o'] a w)
    (h'' : ∀ K : Act → World → Prop, (∀ a w, S w ∧ wpAnyH P md ops Q S fuel (listed.setIfInBounds k true) a w → K a w) → wpList P ops (onward K) [o''] a w) : wpAnyH P md ops Q S (fuel + 1) listed a w :=
  wpAnyH_all hr (by simp) fun l hl => by
    rcases List.mem_cons.1 hl with rfl | hl
    · exact wpOp_onward ho (h _ fun _ _ h => h)
    · rcases List.mem_cons.1 hl with rfl | hl
      · exact wpOp_onward ho' (h' _ fun _ _ h => h)
      · rw [List.mem_singleton.1 hl]
        exact wpOp_onward ho'' (h'' _ fun _ _ h => h)
end
end Go.Proofs.Ytjkclggdaafmaaa
