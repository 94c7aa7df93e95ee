/- Texts of a proof, laid together: ReadLib, ReadI. -/
import Derived.Test.YtaepgjjmfopiiaaGreatDoorZH13
import Derived.Test.YtaepgjjmfopiiaaGreatDoorZH14
import Derived.Lib.AtoiErrMem
namespace Go.Proofs.YtaepgjjmfopiiaaGreatDoor
set_option linter.unusedSimpArgs false
set_option linter.unusedVariables false
open Go.RowKit
attribute [local go_sem] cell?_mk frozen?_mk

/-- What lies in the library's own places. -/
def Tabs (w : World) : Prop :=
  (∃ m, w.cell? ⟨0, 0, none⟩ = some (.int .i64 m)) ∧ (∃ ev, w.cell? ⟨1, 0, none⟩ = some ev ∧ (ev = .nilIface ∨ ∃ te pe, ev = .iface te pe)) ∧
    (∃ ev, w.cell? ⟨2, 0, none⟩ = some ev ∧ (ev = .nilIface ∨ ∃ te pe, ev = .iface te pe)) ∧ Tab w
theorem Mem.tabs {w0 w : World} {L : List Ent} (M : Mem w0 w L) (h : Tabs w0) : Tabs w := by
  obtain ⟨⟨m, h1⟩, ⟨e1, h2, h3⟩, ⟨e2, h4, h5⟩, h6⟩ := h
  exact ⟨⟨m, M.argcell h1⟩, ⟨e1, M.argcell h2, h3⟩, ⟨e2, M.argcell h4, h5⟩, M.tab h6⟩
theorem Cut_any (l : List UInt8) (c : UInt8) (hl : l.length ≤ 1048576) (w : World) (ht : Tabs w) :
    Calls Tryz.prog 27 #[.string ⟨l.toArray⟩, .string ⟨#[c]⟩] w fun e w' => e = .returned (.tuple #[.string ⟨(Lib.cut l [c]).1.toArray⟩, .string ⟨(Lib.cut l [c]).2.1.toArray⟩, .bool (Lib.cut l [c]).2.2]) ∧ Mem w w' [] := by
  obtain ⟨⟨m, hm⟩, _⟩ := ht
  refine (Tryz.strings_Cut ⟨l.toArray⟩ ⟨#[c]⟩ m w (by show l.length < _; omega) hm).mono ?_
  rintro e w' ⟨rfl, n, rfl⟩
  exact ⟨rfl, (Mem.start w).drewN n⟩
/-- The pieces as values. -/
def strsV (ls : List (List UInt8)) : List Value := ls.map fun s => .string ⟨s.toArray⟩
theorem Split_any (l : List UInt8) (c : UInt8) (hl : l.length ≤ 1048576) (w : World) (ht : Tabs w) :
    Calls Tryz.prog 28 #[.string ⟨l.toArray⟩, .string ⟨#[c]⟩] w fun e w' => ∃ g, e = .returned (.slice (some ⟨g, 0, none⟩) (pieces c l).length (pieces c l).length) ∧ Mem w w' [.blk g 9 (strsV (pieces c l)).toArray] := by
  obtain ⟨⟨m, hm⟩, _⟩ := ht
  refine (Any.strings_Split { Tryz.laysM146 with } Tryz.laysM146.i9 ⟨l.toArray⟩ ⟨#[c]⟩ m w (by show l.length < _; omega) hm (Nat.le_refl 1)).mono ?_
  rintro e w' ⟨rfl, rfl⟩
  have e0 := splitB_pieces c ⟨l.toArray⟩
  have e1 : (⟨l.toArray⟩ : ByteArray).data.toList = l := rfl
  rw [e1] at e0
  have e2 : (Lib.splitB ⟨#[c]⟩ 0 (Lib.countB ⟨l.toArray⟩ ⟨#[c]⟩) ⟨l.toArray⟩).map Value.string = strsV (pieces c l) := by
    rw [← e0, strsV, List.map_map]
    rfl
  have e3 : Lib.countB ⟨l.toArray⟩ ⟨#[c]⟩ + 1 = (pieces c l).length := by
    rw [pieces_len, ← Lib.count_one]
  rw [e2, e3]
  exact ⟨_, rfl, (Mem.start w).new (Nat.le_refl _) (Blk.new w _ _) ((Below.refl _ _).alloc (Nat.le_refl _) _)⟩
/-- A kind's number, or none. -/
def kindV (o : Option Nat) : Int := match o with | some k => (k : Int) | none => -1
theorem idx_kind (l : List UInt8) : Lib.idxOfS [⟨#[115, 111, 119]⟩, ⟨#[101, 97, 116]⟩, ⟨#[116, 97, 107, 101]⟩, ⟨#[102, 97, 108, 108]⟩] ⟨l.toArray⟩ = (kindV (kindOf l)) := by
  have key : ∀ m : List UInt8, ((⟨m.toArray⟩ : ByteArray) = ⟨l.toArray⟩) ↔ l = m := fun m => ⟨fun h => by
    have := congrArg (fun b : ByteArray => b.data.toList) h
    simpa using this.symm, fun h => by rw [h]⟩
  have k0 : ((⟨#[115, 111, 119]⟩ : ByteArray) = ⟨l.toArray⟩) ↔ l = [115, 111, 119] := key _
  have k1 : ((⟨#[101, 97, 116]⟩ : ByteArray) = ⟨l.toArray⟩) ↔ l = [101, 97, 116] := key _
  have k2 : ((⟨#[116, 97, 107, 101]⟩ : ByteArray) = ⟨l.toArray⟩) ↔ l = [116, 97, 107, 101] := key _
  have k3 : ((⟨#[102, 97, 108, 108]⟩ : ByteArray) = ⟨l.toArray⟩) ↔ l = [102, 97, 108, 108] := key _
  unfold kindV kindOf Lib.idxOfS
  simp only [Lib.idxFromS, k0, k1, k2, k3]
  by_cases h0 : l = [115, 111, 119]
  · rw [if_pos h0, if_pos h0]
  · rw [if_neg h0, if_neg h0]
    by_cases h1 : l = [101, 97, 116]
    · rw [if_pos h1, if_pos h1]
    · rw [if_neg h1, if_neg h1]
      by_cases h2 : l = [116, 97, 107, 101]
      · rw [if_pos h2, if_pos h2]
      · rw [if_neg h2, if_neg h2]
        by_cases h3 : l = [102, 97, 108, 108]
        · rw [if_pos h3, if_pos h3]
        · rw [if_neg h3, if_neg h3]
/-- The word's place among the four. -/
theorem Index_any (g : Nat) (l : List UInt8) {w0 w : World} {L : List Ent} (M : Mem w0 w L) (i : Nat) {t : TypeId} (h : L[i]? = some (.blk g t fourW.toArray)) :
    Calls Tryz.prog 29 #[.slice (some ⟨g, 0, none⟩) 4 4, .string ⟨l.toArray⟩] w fun e w' => e = .returned (.int .i64 (kindV (kindOf l))) ∧ w' = w := by
  have H := Tryz.slices_Index_string g 0 4 4 [⟨#[115, 111, 119]⟩, ⟨#[101, 97, 116]⟩, ⟨#[116, 97, 107, 101]⟩, ⟨#[102, 97, 108, 108]⟩] ⟨l.toArray⟩ w (by decide) (by decide) (fun j hj => by
    have hj : j < 4 := hj
    rw [Nat.zero_add]
    refine M.cell i h ?_
    match j, hj with
    | 0, _ => rfl
    | 1, _ => rfl
    | 2, _ => rfl
    | 3, _ => rfl)
  rw [← idx_kind l]
  exact H
set_option maxRecDepth 100000 in
theorem parsed_is {lo hi : Nat} (hh : hi < 10 ^ 9) (l : List UInt8) : (numIn lo hi l).isSome = parsed lo hi l := by
  cases h : numIn lo hi l with
  | none => rw [parsed_none hh h]; rfl
  | some n => rw [(parsed_some h).1]; rfl
theorem ParseInt_ok (l : List UInt8) (hl : l.length ≤ 1048576) (v : Int) (hp : Lib.parseIntB 64 l = .ok v) (w : World) :
    Calls Tryz.prog 57 #[.string ⟨l.toArray⟩, .int .i64 10, .int .i64 64] w fun e w2 => e = .returned (.tuple #[.int .i64 v, .nilIface]) ∧ Mem w w2 [] := by
  refine (Tryz.strconv_ParseInt_10_at64_ok ⟨l.toArray⟩ (by show l.length ≤ _; omega) v hp w).mono ?_
  rintro e w2 ⟨rfl, hw⟩
  refine ⟨rfl, ?_⟩
  rcases hw with rfl | ⟨t, rfl⟩
  · exact Mem.start _
  · exact Mem.of_below (Lib.bytesWorld_below _ _ _)
theorem ParseInt_bad (l : List UInt8) (hl : l.length ≤ 1048576) (hp : ∀ v, Lib.parseIntB 64 l ≠ .ok v) (w : World) (ht : Tabs w) :
    Calls Tryz.prog 57 #[.string ⟨l.toArray⟩, .int .i64 10, .int .i64 64] w fun e w2 => (∃ v t p, e = .returned (.tuple #[.int .i64 v, .iface t p])) ∧ Mem w w2 [] := by
  obtain ⟨_, ⟨e1, h2, h3⟩, ⟨e2, h4, h5⟩, _⟩ := ht
  cases hp2 : Lib.parseIntB 64 l with
  | ok v => exact absurd hp2 (hp v)
  | range =>
    refine (Tryz.strconv_ParseInt_10_at64_range ⟨l.toArray⟩ (by show l.length ≤ _; omega) hp2 e2 w h4 h5).mono ?_
    rintro e w2 ⟨N, rfl, _, _, hb⟩
    exact ⟨⟨_, _, _, rfl⟩, Mem.of_below hb⟩
  | _ =>
    refine (Any.strconv_ParseInt_10_at64_syntax Tryz.laysC174 ⟨l.toArray⟩ (by show l.length ≤ _; omega) hp2 e1 w h2 h3).mono ?_
    rintro e w2 ⟨N, rfl, _, _, hb⟩
    exact ⟨⟨_, _, _, rfl⟩, Mem.of_below hb⟩
set_option maxRecDepth 100000 in
set_option maxHeartbeats 2000000 in
theorem parse_any (l : List UInt8) (lo hi : Nat) (hh : hi < 10 ^ 9) (hl : l.length ≤ 1048576) (w : World) (ht : Tabs w) :
    Calls Tryz.prog 31 #[.string ⟨l.toArray⟩, .int .i64 lo, .int .i64 hi] w fun e w' => ∃ v : Int, e = .returned (.tuple #[.int .i64 v, .bool (numIn lo hi l).isSome]) ∧ (∀ n, numIn lo hi l = some n → v = n) ∧ Mem w w' [] := by
  have M := Lib.hid (Mem.start w)
  have HT := Lib.hid ht
  clear ht
  by_cases hv : ∃ v, Lib.parseIntB 64 l = .ok v
  · obtain ⟨v, hp⟩ := hv
    have PA := Lib.hid (ParseInt_ok l hl v hp)
    have PV := Lib.hid (show ∀ n, numIn lo hi l = some n → v = n from fun n h2 => by
      have := (parsed_some h2).2.1
      rw [hp] at this
      injection this)
    have PP : (numIn lo hi l).isSome = (inB v lo hi && decide (Lib.itoa v = l)) := by
      rw [parsed_is hh]
      unfold parsed
      rw [hp]
      show (decide _ && decide _ && _) = _
      congr 1
    generalize (numIn lo hi l).isSome = B at PP ⊢
    generalize numIn lo hi l = NI at PV ⊢
    clear hp
    cases hw : inB v lo hi
    · have HW := Lib.hid hw
      rw [hw, Bool.false_and] at PP
      subst PP
      clear hw
      go_enter Tryz.func31, Tryz.ntmps31
      go_wp2_with (first
        | (go_at_call 57; go_must (refine (PA.out _).mono ?_); rintro e w_ ⟨rfl, N_⟩; have m := M.out.join N_; clear N_; simp only [List.nil_append, List.append_nil] at m; have M := Lib.hid m; clear m)
        | (go_at_call 41; go_must (refine (within_any _ _ _ _).mono ?_); rintro e w' ⟨rfl, rfl⟩; rw [HW.out]))
      go_ret2
      exact ⟨v, rfl, PV.out, M.out⟩
    · have HW := Lib.hid hw
      rw [hw, Bool.true_and] at PP
      have hb := inB_iff.1 hw
      have FI := Lib.hid (fun w ht => FormatInt_any v (by omega) (by omega) w ht)
      clear hw
      by_cases he : Lib.itoa v = l
      · have e1 : (Lib.itoa v == l) = true := by rw [he]; exact beq_self_eq_true _
        rw [decide_eq_true he] at PP
        subst PP
        clear he
        generalize Lib.itoa v = T at e1 FI
        go_enter Tryz.func31, Tryz.ntmps31
        go_wp2_with (first
          | (go_at_call 57; go_must (refine (PA.out _).mono ?_); rintro e w_ ⟨rfl, N_⟩; have m := M.out.join N_; clear N_; simp only [List.nil_append, List.append_nil] at m; have M := Lib.hid m; clear m)
          | (go_at_call 41; go_must (refine (within_any _ _ _ _).mono ?_); rintro e w' ⟨rfl, rfl⟩; rw [HW.out])
          | (go_at_call 58; go_must (refine (FI.out _ (M.out.tabs HT.out).2.2.2).mono ?_); rintro e w_ ⟨rfl, N_⟩; have m := M.out.join N_; clear N_; simp only [List.nil_append, List.append_nil] at m; have M := Lib.hid m; clear m))
        go_ret2
        exact ⟨v, rfl, PV.out, M.out⟩
      · have e1 : (Lib.itoa v == l) = false := beq_eq_false_iff_ne.2 he
        rw [decide_eq_false he] at PP
        subst PP
        clear he
        generalize Lib.itoa v = T at e1 FI
        go_enter Tryz.func31, Tryz.ntmps31
        go_wp2_with (first
          | (go_at_call 57; go_must (refine (PA.out _).mono ?_); rintro e w_ ⟨rfl, N_⟩; have m := M.out.join N_; clear N_; simp only [List.nil_append, List.append_nil] at m; have M := Lib.hid m; clear m)
          | (go_at_call 41; go_must (refine (within_any _ _ _ _).mono ?_); rintro e w' ⟨rfl, rfl⟩; rw [HW.out])
          | (go_at_call 58; go_must (refine (FI.out _ (M.out.tabs HT.out).2.2.2).mono ?_); rintro e w_ ⟨rfl, N_⟩; have m := M.out.join N_; clear N_; simp only [List.nil_append, List.append_nil] at m; have M := Lib.hid m; clear m))
        go_ret2
        exact ⟨v, rfl, PV.out, M.out⟩
  · have PA := Lib.hid (ParseInt_bad l hl (fun v h => hv ⟨v, h⟩))
    have PN : numIn lo hi l = none := by
      cases hn : numIn lo hi l with
      | none => rfl
      | some n => exact absurd ⟨_, (parsed_some hn).2.1⟩ hv
    rw [PN]
    clear hv PN
    go_enter Tryz.func31, Tryz.ntmps31
    go_wp2_with (first
      | (go_at_call 57; go_must (refine (PA.out _ (M.out.tabs HT.out)).mono ?_); rintro e w_ ⟨⟨v, t_, p_, rfl⟩, N_⟩; have m := M.out.join N_; clear N_; simp only [List.nil_append, List.append_nil] at m; have M := Lib.hid m; clear m))
    go_ret2
    exact ⟨v, rfl, (fun n h => by cases h), M.out⟩
end Go.Proofs.YtaepgjjmfopiiaaGreatDoor
namespace Go.Proofs.YtaepgjjmfopiiaaGreatDoor
set_option linter.unusedSimpArgs false
set_option linter.unusedVariables false
open Go.RowKit
attribute [local go_sem] cell?_mk frozen?_mk
--ONES exact Entry.one _

/-- What a reader hands back. -/
def rdList (l : List UInt8) : List Entry := (readD l).getD []
def rdCode (l : List UInt8) : Int := if (readD l).isSome = true then 0 else 5
theorem rd_none {l : List UInt8} (h : readD l = none) : rdList l = [] ∧ rdCode l = 5 := by
  unfold rdList rdCode
  rw [h]
  exact ⟨rfl, rfl⟩
theorem rd_some {l : List UInt8} {es : List Entry} (h : readD l = some es) : rdList l = es ∧ rdCode l = 0 := by
  unfold rdList rdCode
  rw [h]
  exact ⟨rfl, rfl⟩
set_option maxRecDepth 100000 in
set_option maxHeartbeats 4000000 in
theorem impl_ReadDiary_any (l : List UInt8) (hl : l.length ≤ 1048576) (w : World) (ht : Tabs w) :
    Calls Tryz.prog 7 #[.string ⟨l.toArray⟩] w (RetRowC w 45 3 (rdList l).length (flat Entry.vals (rdList l)) (rdCode l)) := by
  have M := Lib.hid (Mem.start w)
  have HT := Lib.hid ht
  have RD := Lib.hid (show readD l = readL (pieces 10 l) [] from rfl)
  generalize hq : readD l = Q at RD
  have BAD := Lib.hid (fun (h : Q = none) => rd_none (hq.trans h))
  have GOOD := Lib.hid (fun es (h : Q = some es) => rd_some (hq.trans h))
  clear hq ht
  go_enter Tryz.func7, Tryz.ntmps7
  go_wp2_with (first
    | ((with_reducible refine gate_dst (N := 14) rfl ?_); go_must (refine M.out.ev_bs0 elem_Entry rfl rfl ?_); intro g0 w0 m; simp only [List.nil_append] at m; have M := Lib.hid m; clear m)
    )
  go_loopw [0, 4] (fun t o wr => ∃ (b : List UInt8) (es : List Entry) (A : Option Addr) (cp : Nat), t = .string ⟨b.toArray⟩ ∧ b.length ≤ l.length ∧ es.length ≤ 100 ∧ Q = readL (pieces 10 b) es ∧ o = .slice A es.length cp ∧ Mem w wr [.row (.slice A es.length cp) 45 3 es.length (flat Entry.vals es)])
    (fun t _ _ => match t with | .string s => s.size | _ => 0)
  case atStart => exact ⟨l, [], some ⟨g0, 0, none⟩, 0, rfl, Nat.le_refl _, by decide, RD.out, rfl, M.out⟩
  case round =>
    clear M RD
    obtain ⟨b, es, A, cp, rfl, hb, he, hq, rfl, m⟩ := hrel
    have M := Lib.hid m
    clear m
    by_cases hbe : b = []
    · subst hbe
      have G := Lib.hid (GOOD.out es hq)
      clear hq
      have hcp := (M.out.row_le 0 rfl).1
      go_wp2
      go_ret2
      rw [G.out.1, G.out.2]
      exact ⟨A, cp, rfl, hcp, M.out⟩
    · have hne : b ≠ [] := hbe
      have hne2 : b.isEmpty = false := by
        cases b with
        | nil => exact absurd rfl hbe
        | cons x y => rfl
      have hbl : b.length ≤ 1048576 := by omega
      clear hbe
      by_cases h10 : 10 ∈ b
      · obtain ⟨a, r, rfl, ha⟩ := split_at 10 b h10
        rw [readL_hit ha] at hq
        have CU0 := fun w ht => Cut_any (a ++ 10 :: r) 10 hbl w ht
        simp only [cut_hit 10 a r ha] at CU0
        have CU := Lib.hid CU0
        clear CU0
        have hal : a.length + 1 + r.length = (a ++ 10 :: r).length := by simp; omega
        have hal2 : a.length ≤ 1048576 := by omega
        have hrl : r.length ≤ l.length := by omega
        have hms : (⟨r.toArray⟩ : ByteArray).size < (⟨(a ++ 10 :: r).toArray⟩ : ByteArray).size := by show r.length < (a ++ 10 :: r).length; omega
        have HMS := Lib.hid hms
        have SP0 := fun w ht => Split_any a 32 hal2 w ht
        have EO := Lib.hid (show entryOf a = entryOf a from rfl)
        generalize hps : pieces 32 a = ps at SP0
        have SP := Lib.hid SP0
        generalize a ++ 10 :: r = bb at *
        clear SP0 hms ha h10
        by_cases h3 : ps.length = 3
        · by_cases h100 : es.length = 100
          · rw [if_pos h100] at hq
            have B := Lib.hid (BAD.out hq)
            have f1 : ((ps.length : Int) != 3) = false := by simp [h3]
            have f2 : ((es.length : Int) == 100) = true := by simp [h100]
            have H3 := Lib.hid h3
            clear hq hps h3 h100
            go_wp2_with (first
              | (go_at_call 27; go_must (refine (CU.out _ (M.out.tabs HT.out)).mono ?_); rintro e w_ ⟨rfl, N_⟩; have m := M.out.join N_; clear N_; simp only [List.cons_append, List.nil_append, List.append_nil] at m; have M := Lib.hid m; clear m)
              | (go_at_call 28; go_must (refine (SP.out _ (M.out.tabs HT.out)).mono ?_); rintro e w_ ⟨gs, rfl, N_⟩; have m := M.out.join N_; clear N_; simp only [List.cons_append, List.nil_append, List.append_nil] at m; have M := Lib.hid m; clear m))
            go_ret2
            rw [B.out.1, B.out.2]
            have m := (M.out.take 0).nilrow 45 3
            exact ⟨none, 0, rfl, by simp, m⟩
          · rw [if_neg h100] at hq
            have f2 : ((es.length : Int) == 100) = false := by simp; omega
            have h99 : es.length < 100 := by omega
            obtain ⟨p0, p1, p2, rfl⟩ : ∃ p0 p1 p2, ps = [p0, p1, p2] := by
              match ps, h3 with
              | [p0, p1, p2], _ => exact ⟨p0, p1, p2, rfl⟩
            rw [entryOf_three hps] at hq
            have hpl : ∀ p ∈ [p0, p1, p2], p.length ≤ 1048576 := fun p hp => Nat.le_trans (pieces_le 32 a p (by rw [hps]; exact hp)) hal2
            have PA := fun w ht => parse_any p1 0 99 (by decide) (hpl p1 (by simp)) w ht
            have PB := fun w ht => parse_any p2 1 1000 (by decide) (hpl p2 (by simp)) w ht
            have IA := fun g w0 w L (M : Mem w0 w L) i t h => Index_any g p0 M i (t := t) h
            have kk := fun k => @kindOf_le p0 k
            have k1 := fun n => @numIn_le 0 99 n p1
            have k2 := fun n => @numIn_le 1 1000 n p2
            generalize kindOf p0 = KO at hq kk IA
            generalize numIn 0 99 p1 = N1 at hq k1 PA
            generalize numIn 1 1000 p2 = N2 at hq k2 PB
            obtain ⟨KV, hKV⟩ : ∃ KV : Int, KV = kindV KO := ⟨_, rfl⟩
            rw [← hKV] at IA
            have IX := Lib.hid IA
            have P1 := Lib.hid (show ∀ w, Tabs w → Calls Tryz.prog 31 #[.string ⟨p1.toArray⟩, .int .i64 0, .int .i64 99] w (fun e w' => ∃ v : Int, (∀ n, N1 = some n → v = n) ∧ e = .returned (.tuple #[.int .i64 v, .bool N1.isSome]) ∧ Mem w w' []) from fun w ht => (PA w ht).mono (fun e w' ⟨v, h1, h2, h3⟩ => ⟨v, h2, h1, h3⟩))
            have P2 := Lib.hid (show ∀ w, Tabs w → Calls Tryz.prog 31 #[.string ⟨p2.toArray⟩, .int .i64 1, .int .i64 1000] w (fun e w' => ∃ v : Int, (∀ n, N2 = some n → v = n) ∧ e = .returned (.tuple #[.int .i64 v, .bool N2.isSome]) ∧ Mem w w' []) from fun w ht => (PB w ht).mono (fun e w' ⟨v, h1, h2, h3⟩ => ⟨v, h2, h1, h3⟩))
            obtain ⟨B1, hB1⟩ : ∃ B, B = N1.isSome := ⟨_, rfl⟩
            obtain ⟨B2, hB2⟩ : ∃ B, B = N2.isSome := ⟨_, rfl⟩
            rw [← hB1] at P1
            rw [← hB2] at P2
            have HB1 := Lib.hid hB1
            have HB2 := Lib.hid hB2
            have HQ := Lib.hid hq
            have KK := Lib.hid kk
            have K1 := Lib.hid k1
            have K2 := Lib.hid k2
            have HKV := Lib.hid hKV
            clear hq hps h3 h100 hpl PA PB IA kk k1 k2 hKV hB1 hB2
            go_wp2_with (first
              | (go_at_call 27; go_must (refine (CU.out _ (M.out.tabs HT.out)).mono ?_); rintro e w_ ⟨rfl, N_⟩; have m := M.out.join N_; clear N_; simp only [List.cons_append, List.nil_append, List.append_nil] at m; have M := Lib.hid m; clear m)
              | (go_at_call 28; go_must (refine (SP.out _ (M.out.tabs HT.out)).mono ?_); rintro e w_ ⟨gs, rfl, N_⟩; have m := M.out.join N_; clear N_; simp only [List.cons_append, List.nil_append, List.append_nil] at m; have M := Lib.hid m; clear m))
            refine region_anyH (fun w' => Mem w w' [.row (.slice A es.length cp) 45 3 es.length (flat Entry.vals es), .blk gs 9 (strsV [p0, p1, p2]).toArray]) (by kernel_rfl) ?_
            have m := M.out.drew
            clear M
            have M := Lib.hid m
            clear m
            apply takeH (i := 1) 38 rfl (by kernel_rfl) (by kernel_rfl) (by kernel_rfl) (fun _ _ _ h => h) rfl (by first | exact M.out | exact M.out.take 2)
            case' hy =>
              refine Or.inl ⟨by first | rfl | (go_simp; done), ?_⟩
              intro w hS
              clear hS
              go_simp
              try with_reducible rfl
            try simp only [Act.put, List.getElem_toArray, List.getElem_cons_succ, List.getElem_cons_zero, List.setIfInBounds_toArray, List.set_cons_succ, List.set_cons_zero]
            apply takeH (i := 2) 39 rfl (by kernel_rfl) (by kernel_rfl) (by kernel_rfl) (fun _ _ _ h => h) rfl (by first | exact M.out | exact M.out.take 2)
            case' hy =>
              refine Or.inl ⟨by first | rfl | (go_simp; done), ?_⟩
              intro w hS
              clear hS
              go_simp
              try with_reducible rfl
            try simp only [Act.put, List.getElem_toArray, List.getElem_cons_succ, List.getElem_cons_zero, List.setIfInBounds_toArray, List.set_cons_succ, List.set_cons_zero]
            apply takeH (i := 3) 40 rfl (by kernel_rfl) (by kernel_rfl) (by kernel_rfl) (fun _ _ _ h => h) rfl (by first | exact M.out | exact M.out.take 2)
            case' hy => exact ylds _ _ rfl rfl Tryz.underlying9 rfl rfl (fun w' hS => hS.cell 1 rfl (j := 0) (v := .string ⟨p0.toArray⟩) rfl)
            try simp only [Act.put, List.getElem_toArray, List.getElem_cons_succ, List.getElem_cons_zero, List.setIfInBounds_toArray, List.set_cons_succ, List.set_cons_zero]
            refine any1H 0 (by kernel_rfl) rfl (fun K hK => ?_)
            go_wp2_with (first | (go_at_call 30; go_must (refine (whats_any _).mono ?_); rintro e w_ ⟨gw, rfl, N_⟩; have m := M.out.join N_; clear N_; simp only [List.cons_append, List.nil_append, List.append_nil] at m; have M := Lib.hid m; clear m) | (go_at_call 29; go_must (refine (IX.out _ _ _ _ M.out 2 _ rfl).mono ?_); rintro e w_ ⟨rfl, rfl⟩))
            refine onward_normal (hK _ _ ⟨(by first | exact M.out | exact M.out.take 2), ?_⟩)
            clear hK K
            try simp only [Act.put, List.getElem_toArray, List.getElem_cons_succ, List.getElem_cons_zero, List.setIfInBounds_toArray, List.set_cons_succ, List.set_cons_zero]
            refine any1H 4 (by kernel_rfl) rfl (fun K hK => ?_)
            go_wp2_with (first | (go_at_call 30; go_must (refine (whats_any _).mono ?_); rintro e w_ ⟨gw, rfl, N_⟩; have m := M.out.join N_; clear N_; simp only [List.cons_append, List.nil_append, List.append_nil] at m; have M := Lib.hid m; clear m) | (go_at_call 29; go_must (refine (IX.out _ _ _ _ M.out 2 _ rfl).mono ?_); rintro e w_ ⟨rfl, rfl⟩))
            refine onward_normal (hK _ _ ⟨(by first | exact M.out | exact M.out.take 2), ?_⟩)
            clear hK K
            try simp only [Act.put, List.getElem_toArray, List.getElem_cons_succ, List.getElem_cons_zero, List.setIfInBounds_toArray, List.set_cons_succ, List.set_cons_zero]
            apply takeH (i := 5) 9 rfl (by kernel_rfl) (by kernel_rfl) (by kernel_rfl) (fun _ _ _ h => h) rfl (by first | exact M.out | exact M.out.take 2)
            case' hy =>
              refine Or.inl ⟨by first | rfl | (go_simp; done), ?_⟩
              intro w hS
              clear hS
              go_simp
              try with_reducible rfl
            try simp only [Act.put, List.getElem_toArray, List.getElem_cons_succ, List.getElem_cons_zero, List.setIfInBounds_toArray, List.set_cons_succ, List.set_cons_zero]
            refine wpAnyH_done (by kernel_rfl) ?_ _
            all_goals
              cases KO with
              | none =>
                have B := Lib.hid (BAD.out (HQ.out.trans rfl))
                obtain rfl : KV = -1 := HKV.out
                clear HQ HKV KK K1 K2 BAD GOOD HB1 HB2
                go_wp2_with (first
                  | ((with_reducible refine gate_dst (N := 45) rfl ?_); go_must (refine ev_get _ _ rfl rfl (M.out.cell 1 rfl (j := 1) (v := .string ⟨p1.toArray⟩) rfl) Tryz.underlying9 rfl rfl ?_))
                  | ((with_reducible refine gate_dst (N := 52) rfl ?_); go_must (refine ev_get _ _ rfl rfl (M.out.cell 1 rfl (j := 2) (v := .string ⟨p2.toArray⟩) rfl) Tryz.underlying9 rfl rfl ?_))
                  | (go_at_call 31; go_must (first | (refine Calls.mono (calls_args (by with_reducible rfl) (P1.out _ (M.out.tabs HT.out))) ?_) | (refine Calls.mono (calls_args (by with_reducible rfl) (P2.out _ (M.out.tabs HT.out))) ?_)); rintro e w_ ⟨v, hv, rfl, N_⟩; clear hv; have m := M.out.join N_; clear N_; simp only [List.cons_append, List.nil_append, List.append_nil] at m; have M := Lib.hid m; clear m))
                go_ret2
                rw [B.out.1, B.out.2]
                have m := (M.out.take 0).nilrow 45 3
                exact ⟨none, 0, rfl, by simp, m⟩
              | some k =>
                obtain rfl : KV = (k : Int) := HKV.out
                have hk := (KK.out k rfl).1
                have f3 : decide ((k : Int) < 0) = false := decide_eq_false (by omega)
                cases N1 with
                | none =>
                  obtain rfl : B1 = false := HB1.out
                  have B := Lib.hid (BAD.out (HQ.out.trans rfl))
                  clear HQ HKV KK K1 K2 BAD GOOD HB1 HB2
                  go_wp2_with (first
                    | ((with_reducible refine gate_dst (N := 45) rfl ?_); go_must (refine ev_get _ _ rfl rfl (M.out.cell 1 rfl (j := 1) (v := .string ⟨p1.toArray⟩) rfl) Tryz.underlying9 rfl rfl ?_))
                    | ((with_reducible refine gate_dst (N := 52) rfl ?_); go_must (refine ev_get _ _ rfl rfl (M.out.cell 1 rfl (j := 2) (v := .string ⟨p2.toArray⟩) rfl) Tryz.underlying9 rfl rfl ?_))
                    | (go_at_call 31; go_must (first | (refine Calls.mono (calls_args (by with_reducible rfl) (P1.out _ (M.out.tabs HT.out))) ?_) | (refine Calls.mono (calls_args (by with_reducible rfl) (P2.out _ (M.out.tabs HT.out))) ?_)); rintro e w_ ⟨v, hv, rfl, N_⟩; clear hv; have m := M.out.join N_; clear N_; simp only [List.cons_append, List.nil_append, List.append_nil] at m; have M := Lib.hid m; clear m))
                  go_ret2
                  rw [B.out.1, B.out.2]
                  have m := (M.out.take 0).nilrow 45 3
                  exact ⟨none, 0, rfl, by simp, m⟩
                | some cm =>
                  obtain rfl : B1 = true := HB1.out
                  have hm := K1.out cm rfl
                  cases N2 with
                  | none =>
                    obtain rfl : B2 = false := HB2.out
                    have B := Lib.hid (BAD.out (HQ.out.trans rfl))
                    clear HQ HKV KK K1 K2 BAD GOOD HB1 HB2
                    go_wp2_with (first
                      | ((with_reducible refine gate_dst (N := 45) rfl ?_); go_must (refine ev_get _ _ rfl rfl (M.out.cell 1 rfl (j := 1) (v := .string ⟨p1.toArray⟩) rfl) Tryz.underlying9 rfl rfl ?_))
                      | ((with_reducible refine gate_dst (N := 52) rfl ?_); go_must (refine ev_get _ _ rfl rfl (M.out.cell 1 rfl (j := 2) (v := .string ⟨p2.toArray⟩) rfl) Tryz.underlying9 rfl rfl ?_))
                      | (go_at_call 31; go_must (first | (refine Calls.mono (calls_args (by with_reducible rfl) (P1.out _ (M.out.tabs HT.out))) ?_) | (refine Calls.mono (calls_args (by with_reducible rfl) (P2.out _ (M.out.tabs HT.out))) ?_)); rintro e w_ ⟨v, hv, rfl, N_⟩; clear hv; have m := M.out.join N_; clear N_; simp only [List.cons_append, List.nil_append, List.append_nil] at m; have M := Lib.hid m; clear m))
                    go_ret2
                    rw [B.out.1, B.out.2]
                    have m := (M.out.take 0).nilrow 45 3
                    exact ⟨none, 0, rfl, by simp, m⟩
                  | some am =>
                    obtain rfl : B2 = true := HB2.out
                    have hn := K2.out am rfl
                    have hq := HQ.out
                    simp only [Option.bind] at hq
                    have HQ2 := Lib.hid hq
                    have e1 : IntKind.i8.wrap (k : Int) = (k : Int) := IntWalk.i8_in _ (by omega)
                    have e2 : IntKind.i16.wrap (cm : Int) = (cm : Int) := IntWalk.i16_in _ (by omega)
                    have e3 : IntKind.i16.wrap (am : Int) = (am : Int) := IntWalk.i16_in _ (by omega)
                    clear hq HQ HKV KK K1 K2 BAD GOOD HB1 HB2
                    go_wp2_with (first
                      | ((with_reducible refine gate_dst (N := 45) rfl ?_); go_must (refine ev_get _ _ rfl rfl (M.out.cell 1 rfl (j := 1) (v := .string ⟨p1.toArray⟩) rfl) Tryz.underlying9 rfl rfl ?_))
                      | ((with_reducible refine gate_dst (N := 52) rfl ?_); go_must (refine ev_get _ _ rfl rfl (M.out.cell 1 rfl (j := 2) (v := .string ⟨p2.toArray⟩) rfl) Tryz.underlying9 rfl rfl ?_))
                      | (go_at_call 31; go_must (first | (refine Calls.mono (calls_args (by with_reducible rfl) (P1.out _ (M.out.tabs HT.out))) ?_) | (refine Calls.mono (calls_args (by with_reducible rfl) (P2.out _ (M.out.tabs HT.out))) ?_)); rintro e w_ ⟨v, hv, rfl, N_⟩; (first | (obtain rfl := hv cm rfl) | (obtain rfl := hv am rfl)); have m := M.out.join N_; clear N_; simp only [List.cons_append, List.nil_append, List.append_nil] at m; have M := Lib.hid m; clear m)
                      | ((with_reducible refine gate_dst (N := 74) rfl ?_); go_must (refine M.out.ev_bs1 elem_Entry rfl _ rfl (Entry.vals ⟨k, cm, am⟩).toArray rfl rfl (by decide) ?_); intro g74 w74 m; simp only [List.cons_append, List.nil_append] at m; have M := Lib.hid m; clear m)
                      | ((with_reducible refine gate_dst (N := 75) rfl ?_); go_must (refine M.out.ev_append1 0 3 elem_Entry rfl _ _ rfl rfl rfl rfl rfl rfl (Entry.one _) (by omega) (by decide) ?_); intro v75 w75 m; simp only [List.set_cons_succ, List.set_cons_zero] at m; have M := Lib.hid m; clear m)
                      )
                    obtain ⟨A2, c2, rfl, hm2, _⟩ := M.out.row_slice 0 rfl
                    refine ⟨⟨r, es ++ [⟨k, cm, am⟩], A2, c2, rfl, hrl, by simp; omega, HQ2.out, by simp, ?_⟩, HMS.out⟩
                    have mm := M.out.take 1
                    rw [show (es ++ [(⟨k, cm, am⟩ : Entry)]).length = es.length + 1 by simp, flat_snoc]
                    exact mm
        · have B := Lib.hid (BAD.out (hq.trans (by
            split
            · rfl
            · rw [entryOf_short (by rw [hps]; exact h3)]; rfl)))
          have f1 : ((ps.length : Int) != 3) = true := by simp; omega
          clear hq hps h3
          go_wp2_with (first
            | (go_at_call 27; go_must (refine (CU.out _ (M.out.tabs HT.out)).mono ?_); rintro e w_ ⟨rfl, N_⟩; have m := M.out.join N_; clear N_; simp only [List.cons_append, List.nil_append, List.append_nil] at m; have M := Lib.hid m; clear m)
            | (go_at_call 28; go_must (refine (SP.out _ (M.out.tabs HT.out)).mono ?_); rintro e w_ ⟨gs, rfl, N_⟩; have m := M.out.join N_; clear N_; simp only [List.cons_append, List.nil_append, List.append_nil] at m; have M := Lib.hid m; clear m))
          go_ret2
          rw [B.out.1, B.out.2]
          have m := (M.out.take 0).nilrow 45 3
          exact ⟨none, 0, rfl, by simp, m⟩
      · have B := Lib.hid (BAD.out (hq.trans (readL_miss h10 hne es)))
        have CU0 := fun w ht => Cut_any b 10 hbl w ht
        simp only [cut_miss 10 b h10] at CU0
        have CU := Lib.hid CU0
        clear CU0
        have SP := Lib.hid (fun w ht => Split_any b 32 hbl w ht)
        generalize pieces 32 b = ps at SP
        clear hq h10
        go_wp2_with (first
          | (go_at_call 27; go_must (refine (CU.out _ (M.out.tabs HT.out)).mono ?_); rintro e w_ ⟨rfl, N_⟩; have m := M.out.join N_; clear N_; simp only [List.cons_append, List.nil_append, List.append_nil] at m; have M := Lib.hid m; clear m)
          | (go_at_call 28; go_must (refine (SP.out _ (M.out.tabs HT.out)).mono ?_); rintro e w_ ⟨gs, rfl, N_⟩; have m := M.out.join N_; clear N_; simp only [List.cons_append, List.nil_append, List.append_nil] at m; have M := Lib.hid m; clear m))
        go_ret2
        rw [B.out.1, B.out.2]
        have m := (M.out.take 0).nilrow 45 3
        exact ⟨none, 0, rfl, by simp, m⟩
end Go.Proofs.YtaepgjjmfopiiaaGreatDoor
