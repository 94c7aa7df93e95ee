/- What a reader of texts asks of Go's library, and the program's own parse. Conditions: the texts' sizes; the library's tables and its two errors lie as the row's card tells. -/
import Derived.Test.YtaepgjjmfopiiaaDoorSplit
import Derived.Test.YtaepgjjmfopiiaaDoorDiaryT
import Derived.Lib.AtoiErrMem
namespace Go.Proofs.YtaepgjjmfopiiaaDoor
set_option linter.unusedSimpArgs false
set_option linter.unusedVariables false
open Go.RowKit
attribute [local go_sem] cell?_mk frozen?_mk

/-- What lies in the library's own places. -/
def Tabs (w : World) : Prop :=
  (∃ m, w.cell? ⟨0, 0, none⟩ = some (.int .i64 m)) ∧ (∃ ev, w.cell? ⟨1, 0, none⟩ = some ev ∧ (ev = .nilIface ∨ ∃ te pe, ev = .iface te pe)) ∧
    (∃ ev, w.cell? ⟨2, 0, none⟩ = some ev ∧ (ev = .nilIface ∨ ∃ te pe, ev = .iface te pe)) ∧ Tab w
theorem Mem.tabs {w0 w : World} {L : List Ent} (M : Mem w0 w L) (h : Tabs w0) : Tabs w := by
  obtain ⟨⟨m, h1⟩, ⟨e1, h2, h3⟩, ⟨e2, h4, h5⟩, h6⟩ := h
  exact ⟨⟨m, M.argcell h1⟩, ⟨e1, M.argcell h2, h3⟩, ⟨e2, M.argcell h4, h5⟩, M.tab h6⟩
theorem Cut_any (l : List UInt8) (c : UInt8) (hl : l.length ≤ 1048576) (w : World) (ht : Tabs w) :
    Calls Tryd.prog 13 #[.string ⟨l.toArray⟩, .string ⟨#[c]⟩] w fun e w' => e = .returned (.tuple #[.string ⟨(Lib.cut l [c]).1.toArray⟩, .string ⟨(Lib.cut l [c]).2.1.toArray⟩, .bool (Lib.cut l [c]).2.2]) ∧ Mem w w' [] := by
  obtain ⟨⟨m, hm⟩, _⟩ := ht
  refine (Tryd.strings_Cut ⟨l.toArray⟩ ⟨#[c]⟩ m w (by show l.length < _; omega) hm).mono ?_
  rintro e w' ⟨rfl, n, rfl⟩
  exact ⟨rfl, (Mem.start w).drewN n⟩
/-- The pieces as values. -/
def strsV (ls : List (List UInt8)) : List Value := ls.map fun s => .string ⟨s.toArray⟩
theorem strsV_at {ls : List (List UInt8)} {k : Nat} (h : k < ls.length) : (strsV ls).toArray[k]? = some (.string ⟨ls[k].toArray⟩) := by
  simp [strsV, List.getElem?_map, List.getElem?_eq_getElem h]
theorem Split_any (l : List UInt8) (c : UInt8) (hl : l.length ≤ 1048576) (w : World) (ht : Tabs w) :
    Calls Tryd.prog 14 #[.string ⟨l.toArray⟩, .string ⟨#[c]⟩] w fun e w' => ∃ g, e = .returned (.slice (some ⟨g, 0, none⟩) (pieces c l).length (pieces c l).length) ∧ Mem w w' [.blk g 9 (strsV (pieces c l)).toArray] := by
  obtain ⟨⟨m, hm⟩, _⟩ := ht
  refine (Any.strings_Split { Tryd.laysM146 with } Tryd.laysM146.i9 ⟨l.toArray⟩ ⟨#[c]⟩ m w (by show l.length < _; omega) hm (Nat.le_refl 1)).mono ?_
  rintro e w' ⟨rfl, rfl⟩
  have e0 := splitB_pieces c ⟨l.toArray⟩
  have e1 : (⟨l.toArray⟩ : ByteArray).data.toList = l := rfl
  rw [e1] at e0
  have e2 : (Lib.splitB ⟨#[c]⟩ 0 (Lib.countB ⟨l.toArray⟩ ⟨#[c]⟩) ⟨l.toArray⟩).map Value.string = strsV (pieces c l) := by
    rw [← e0, strsV, List.map_map]
    rfl
  have e3 : Lib.countB ⟨l.toArray⟩ ⟨#[c]⟩ + 1 = (pieces c l).length := by
    rw [pieces_len, ← Lib.count_one]
  rw [e2, e3]
  exact ⟨_, rfl, (Mem.start w).new (Nat.le_refl _) (Blk.new w _ _) ((Below.refl _ _).alloc (Nat.le_refl _) _)⟩
/-- A kind's number, or none. -/
def kindV (o : Option Nat) : Int := match o with | some k => (k : Int) | none => -1
theorem idx_kind (l : List UInt8) : Lib.idxOfS [⟨#[115, 111, 119]⟩, ⟨#[101, 97, 116]⟩, ⟨#[116, 97, 107, 101]⟩, ⟨#[102, 97, 108, 108]⟩] ⟨l.toArray⟩ = (kindV (kindOf l)) := by
  have key : ∀ m : List UInt8, ((⟨m.toArray⟩ : ByteArray) = ⟨l.toArray⟩) ↔ l = m := fun m => ⟨fun h => by
    have := congrArg (fun b : ByteArray => b.data.toList) h
    simpa using this.symm, fun h => by rw [h]⟩
  have k0 : ((⟨#[115, 111, 119]⟩ : ByteArray) = ⟨l.toArray⟩) ↔ l = [115, 111, 119] := key _
  have k1 : ((⟨#[101, 97, 116]⟩ : ByteArray) = ⟨l.toArray⟩) ↔ l = [101, 97, 116] := key _
  have k2 : ((⟨#[116, 97, 107, 101]⟩ : ByteArray) = ⟨l.toArray⟩) ↔ l = [116, 97, 107, 101] := key _
  have k3 : ((⟨#[102, 97, 108, 108]⟩ : ByteArray) = ⟨l.toArray⟩) ↔ l = [102, 97, 108, 108] := key _
  unfold kindV kindOf Lib.idxOfS
  simp only [Lib.idxFromS, k0, k1, k2, k3]
  by_cases h0 : l = [115, 111, 119]
  · rw [if_pos h0, if_pos h0]
  · rw [if_neg h0, if_neg h0]
    by_cases h1 : l = [101, 97, 116]
    · rw [if_pos h1, if_pos h1]
    · rw [if_neg h1, if_neg h1]
      by_cases h2 : l = [116, 97, 107, 101]
      · rw [if_pos h2, if_pos h2]
      · rw [if_neg h2, if_neg h2]
        by_cases h3 : l = [102, 97, 108, 108]
        · rw [if_pos h3, if_pos h3]
        · rw [if_neg h3, if_neg h3]
/-- The word's place among the four. -/
theorem Index_any (g : Nat) (l : List UInt8) {w0 w : World} {L : List Ent} (M : Mem w0 w L) (i : Nat) {t : TypeId} (h : L[i]? = some (.blk g t fourW.toArray)) :
    Calls Tryd.prog 15 #[.slice (some ⟨g, 0, none⟩) 4 4, .string ⟨l.toArray⟩] w fun e w' => e = .returned (.int .i64 (kindV (kindOf l))) ∧ w' = w := by
  have H := Tryd.slices_Index_string g 0 4 4 [⟨#[115, 111, 119]⟩, ⟨#[101, 97, 116]⟩, ⟨#[116, 97, 107, 101]⟩, ⟨#[102, 97, 108, 108]⟩] ⟨l.toArray⟩ w (by decide) (by decide) (fun j hj => by
    have hj : j < 4 := hj
    rw [Nat.zero_add]
    refine M.cell i h ?_
    match j, hj with
    | 0, _ => rfl
    | 1, _ => rfl
    | 2, _ => rfl
    | 3, _ => rfl)
  rw [← idx_kind l]
  exact H
set_option maxRecDepth 100000 in
theorem parsed_is {lo hi : Nat} (hh : hi < 10 ^ 9) (l : List UInt8) : (numIn lo hi l).isSome = parsed lo hi l := by
  cases h : numIn lo hi l with
  | none => rw [parsed_none hh h]; rfl
  | some n => rw [(parsed_some h).1]; rfl
theorem ParseInt_ok (l : List UInt8) (hl : l.length ≤ 1048576) (v : Int) (hp : Lib.parseIntB 64 l = .ok v) (w : World) :
    Calls Tryd.prog 21 #[.string ⟨l.toArray⟩, .int .i64 10, .int .i64 64] w fun e w2 => e = .returned (.tuple #[.int .i64 v, .nilIface]) ∧ Mem w w2 [] := by
  refine (Tryd.strconv_ParseInt_10_at64_ok ⟨l.toArray⟩ (by show l.length ≤ _; omega) v hp w).mono ?_
  rintro e w2 ⟨rfl, hw⟩
  refine ⟨rfl, ?_⟩
  rcases hw with rfl | ⟨t, rfl⟩
  · exact Mem.start _
  · exact Mem.of_below (Lib.bytesWorld_below _ _ _)
theorem ParseInt_bad (l : List UInt8) (hl : l.length ≤ 1048576) (hp : ∀ v, Lib.parseIntB 64 l ≠ .ok v) (w : World) (ht : Tabs w) :
    Calls Tryd.prog 21 #[.string ⟨l.toArray⟩, .int .i64 10, .int .i64 64] w fun e w2 => (∃ v t p, e = .returned (.tuple #[.int .i64 v, .iface t p])) ∧ Mem w w2 [] := by
  obtain ⟨_, ⟨e1, h2, h3⟩, ⟨e2, h4, h5⟩, _⟩ := ht
  cases hp2 : Lib.parseIntB 64 l with
  | ok v => exact absurd hp2 (hp v)
  | range =>
    refine (Tryd.strconv_ParseInt_10_at64_range ⟨l.toArray⟩ (by show l.length ≤ _; omega) hp2 e2 w h4 h5).mono ?_
    rintro e w2 ⟨N, rfl, _, _, hb⟩
    exact ⟨⟨_, _, _, rfl⟩, Mem.of_below hb⟩
  | _ =>
    refine (Any.strconv_ParseInt_10_at64_syntax Tryd.laysC174 ⟨l.toArray⟩ (by show l.length ≤ _; omega) hp2 e1 w h2 h3).mono ?_
    rintro e w2 ⟨N, rfl, _, _, hb⟩
    exact ⟨⟨_, _, _, rfl⟩, Mem.of_below hb⟩
set_option maxRecDepth 100000 in
set_option maxHeartbeats 2000000 in
theorem parse_any (l : List UInt8) (lo hi : Nat) (hh : hi < 10 ^ 9) (hl : l.length ≤ 1048576) (w : World) (ht : Tabs w) :
    Calls Tryd.prog 17 #[.string ⟨l.toArray⟩, .int .i64 lo, .int .i64 hi] w fun e w' => ∃ v : Int, e = .returned (.tuple #[.int .i64 v, .bool (numIn lo hi l).isSome]) ∧ (∀ n, numIn lo hi l = some n → v = n) ∧ Mem w w' [] := by
  have M := Lib.hid (Mem.start w)
  have HT := Lib.hid ht
  clear ht
  by_cases hv : ∃ v, Lib.parseIntB 64 l = .ok v
  · obtain ⟨v, hp⟩ := hv
    have PA := Lib.hid (ParseInt_ok l hl v hp)
    have PV := Lib.hid (show ∀ n, numIn lo hi l = some n → v = n from fun n h2 => by
      have := (parsed_some h2).2.1
      rw [hp] at this
      injection this)
    have PP : (numIn lo hi l).isSome = (inB v lo hi && decide (Lib.itoa v = l)) := by
      rw [parsed_is hh]
      unfold parsed
      rw [hp]
      show (decide _ && decide _ && _) = _
      congr 1
    generalize (numIn lo hi l).isSome = B at PP ⊢
    generalize numIn lo hi l = NI at PV ⊢
    clear hp
    cases hw : inB v lo hi
    · have HW := Lib.hid hw
      rw [hw, Bool.false_and] at PP
      subst PP
      clear hw
      go_enter Tryd.func17, Tryd.ntmps17
      go_wp2_with (first
        | (go_at_call 21; go_must (refine (PA.out _).mono ?_); rintro e w_ ⟨rfl, N_⟩; have m := M.out.join N_; clear N_; simp only [List.nil_append, List.append_nil] at m; have M := Lib.hid m; clear m)
        | (go_at_call 22; go_must (refine (within_any _ _ _ _).mono ?_); rintro e w' ⟨rfl, rfl⟩; rw [HW.out]))
      go_ret2
      exact ⟨v, rfl, PV.out, M.out⟩
    · have HW := Lib.hid hw
      rw [hw, Bool.true_and] at PP
      have hb := inB_iff.1 hw
      have FI := Lib.hid (fun w ht => FormatInt_any v (by omega) (by omega) w ht)
      clear hw
      by_cases he : Lib.itoa v = l
      · have e1 : (Lib.itoa v == l) = true := by rw [he]; exact beq_self_eq_true _
        rw [decide_eq_true he] at PP
        subst PP
        clear he
        generalize Lib.itoa v = T at e1 FI
        go_enter Tryd.func17, Tryd.ntmps17
        go_wp2_with (first
          | (go_at_call 21; go_must (refine (PA.out _).mono ?_); rintro e w_ ⟨rfl, N_⟩; have m := M.out.join N_; clear N_; simp only [List.nil_append, List.append_nil] at m; have M := Lib.hid m; clear m)
          | (go_at_call 22; go_must (refine (within_any _ _ _ _).mono ?_); rintro e w' ⟨rfl, rfl⟩; rw [HW.out])
          | (go_at_call 23; go_must (refine (FI.out _ (M.out.tabs HT.out).2.2.2).mono ?_); rintro e w_ ⟨rfl, N_⟩; have m := M.out.join N_; clear N_; simp only [List.nil_append, List.append_nil] at m; have M := Lib.hid m; clear m))
        go_ret2
        exact ⟨v, rfl, PV.out, M.out⟩
      · have e1 : (Lib.itoa v == l) = false := beq_eq_false_iff_ne.2 he
        rw [decide_eq_false he] at PP
        subst PP
        clear he
        generalize Lib.itoa v = T at e1 FI
        go_enter Tryd.func17, Tryd.ntmps17
        go_wp2_with (first
          | (go_at_call 21; go_must (refine (PA.out _).mono ?_); rintro e w_ ⟨rfl, N_⟩; have m := M.out.join N_; clear N_; simp only [List.nil_append, List.append_nil] at m; have M := Lib.hid m; clear m)
          | (go_at_call 22; go_must (refine (within_any _ _ _ _).mono ?_); rintro e w' ⟨rfl, rfl⟩; rw [HW.out])
          | (go_at_call 23; go_must (refine (FI.out _ (M.out.tabs HT.out).2.2.2).mono ?_); rintro e w_ ⟨rfl, N_⟩; have m := M.out.join N_; clear N_; simp only [List.nil_append, List.append_nil] at m; have M := Lib.hid m; clear m))
        go_ret2
        exact ⟨v, rfl, PV.out, M.out⟩
  · have PA := Lib.hid (ParseInt_bad l hl (fun v h => hv ⟨v, h⟩))
    have PN : numIn lo hi l = none := by
      cases hn : numIn lo hi l with
      | none => rfl
      | some n => exact absurd ⟨_, (parsed_some hn).2.1⟩ hv
    rw [PN]
    clear hv PN
    go_enter Tryd.func17, Tryd.ntmps17
    go_wp2_with (first
      | (go_at_call 21; go_must (refine (PA.out _ (M.out.tabs HT.out)).mono ?_); rintro e w_ ⟨⟨v, t_, p_, rfl⟩, N_⟩; have m := M.out.join N_; clear N_; simp only [List.nil_append, List.append_nil] at m; have M := Lib.hid m; clear m))
    go_ret2
    exact ⟨v, rfl, (fun n h => by cases h), M.out⟩
end Go.Proofs.YtaepgjjmfopiiaaDoor
