/- Texts of a proof, laid together: Hands, PlansQ, Best. -/
import Derived.Test.YtdnofkngljjbmaaZP19
import Derived.Test.YtdnofkngljjbmaaZP22
import Derived.Test.YtdnofkngljjbmaaZP09
import Derived.Test.YtdnofkngljjbmaaZP13
import Derived.Test.YtdnofkngljjbmaaZP12
namespace Go.Proofs.Ytdnofkngljjbmaa
set_option linter.unusedSimpArgs false
set_option linter.unusedVariables false
open Go.RowKit
attribute [local go_sem] cell?_mk frozen?_mk

/-- A slice as the walks of plans take it. -/
def SlOk (A : Option Addr) (n : Nat) : Prop := (A = Option.none ∧ n = 0) ∨ ∃ b off, A = some ⟨b, off, Option.none⟩
theorem Mem.row_ok {w0 w : World} {L : List Ent} (M : Mem w0 w L) (i : Nat) {A : Option Addr} {m c : Nat} {e : TypeId} {sz n : Nat} {cs : List Value} (h : L[i]? = some (.row (.slice A m c) e sz n cs)) : SlOk A c := by
  rcases (M.row i h).2 with ⟨h1, _⟩ | ⟨g, cap, cur, h1, _⟩
  · injection h1 with h1 _ h3
    exact .inl ⟨h1, h3⟩
  · injection h1 with h1
    exact .inr ⟨g, 0, h1⟩
theorem most1_any (A : Option Addr) (n : Nat) (xs : List Plot) (hx : ∀ x ∈ xs, x.fine = true) (hl : xs.length ≤ 6) (hn : xs.length ≤ n) (hA : SlOk A n) (h : Int) (h0 : 0 ≤ h) (h1 : h ≤ 3) (D : Nat) (hD : D ≤ 20) (B : Option Addr) (nb : Nat) (p : List Int) (hp : p.length ≤ xs.length) (hd : ∀ d ∈ p, -1 ≤ d ∧ d ≤ 1000) (w : World) (hs : Sl w 4 A xs.length (flat Plot.vals xs)) (ht : Sl w 1 B p.length (flat oneI p)) :
    Calls Try.prog 73 #[.slice A xs.length n, .int .i64 h, .int .i64 D, .slice B p.length nb] w fun e w' => e = .returned (.int .i64 (mostOf xs h D p)) ∧ Mem w w' [] := by
  obtain ⟨m, hm⟩ : ∃ m, xs.length = p.length + m := ⟨xs.length - p.length, by omega⟩
  have := most_any A n xs hx p.length m (by omega) hm (by omega) hA h h0 h1 D hD B nb p rfl hd w hs ht
  rwa [← hm] at this
theorem try1_any (A : Option Addr) (n : Nat) (xs : List Plot) (hx : ∀ x ∈ xs, x.fine = true) (hl : xs.length ≤ 6) (hn : xs.length ≤ n) (hA : SlOk A n) (h : Int) (h0 : 0 ≤ h) (h1 : h ≤ 3) (D : Nat) (hD : D ≤ 20) (B : Option Addr) (nb : Nat) (p : List Int) (hp : p.length ≤ xs.length) (hd : ∀ d ∈ p, -1 ≤ d ∧ d ≤ 19) (hcp : ∀ e, e < D → 0 ≤ capOf h p e) (w : World) (hs : Sl w 4 A xs.length (flat Plot.vals xs)) (ht : Sl w 1 B p.length (flat oneI p)) :
    Calls Try.prog 74 #[.slice A xs.length n, .int .i64 h, .int .i64 D, .slice B p.length nb] w fun e w' => e = .returned (.int .i64 (mostOf xs h D p)) ∧ Mem w w' [] := by
  obtain ⟨m, hm⟩ : ∃ m, xs.length = p.length + m := ⟨xs.length - p.length, by omega⟩
  have := l07Try_any A n xs hx p.length m (by omega) hm (by omega) hA h h0 h1 D hD B nb p rfl hd hcp w hs ht
  rwa [← hm] at this
theorem capOf_nil (h : Int) (e : Nat) : capOf h [] e = h := by simp [capOf]
/-- Whether so many hands are enough. -/
def hfAt (xs : List Plot) (D : Nat) (w : Int) (h : Nat) : Bool := decide (w ≤ mostOf xs h D [])
def hfTo (xs : List Plot) (D : Nat) (w : Int) : Int := if hfAt xs D w 1 = true then 1 else if hfAt xs D w 2 = true then 2 else if hfAt xs D w 3 = true then 3 else 0
theorem hfTo_at {xs : List Plot} {D : Nat} {w : Int} {h : Nat} (h1 : 1 ≤ h) (h3 : h ≤ 3) (hb : ∀ j, 1 ≤ j → j < h → hfAt xs D w j = false) (hh : hfAt xs D w h = true) : hfTo xs D w = h := by
  unfold hfTo
  match h, h1, h3 with
  | 1, _, _ => rw [if_pos hh]; rfl
  | 2, _, _ => rw [hb 1 (by omega) (by omega), if_neg (by decide), if_pos hh]; rfl
  | 3, _, _ => rw [hb 1 (by omega) (by omega), hb 2 (by omega) (by omega), if_neg (by decide), if_neg (by decide), if_pos hh]; rfl
theorem hfTo_no {xs : List Plot} {D : Nat} {w : Int} (hb : ∀ j, 1 ≤ j → j < 4 → hfAt xs D w j = false) : hfTo xs D w = 0 := by
  unfold hfTo
  rw [hb 1 (by omega) (by omega), hb 2 (by omega) (by omega), hb 3 (by omega) (by omega)]
  rfl
def hfAsk (d w : Int) : Bool := inB d 1 20 && decide (0 ≤ w)
def hfRes (xs : List Plot) (d w : Int) : Int := if plCode xs (hfAsk d w) = 0 then hfTo xs d.toNat w else 0
def hfCode (xs : List Plot) (d w : Int) : Int := if plCode xs (hfAsk d w) = 0 then (if hfTo xs d.toNat w = 0 then 6 else 0) else plCode xs (hfAsk d w)
theorem plCode_0 {xs : List Plot} {b : Bool} (h : plCode xs b = 0) : plotsOk xs = true ∧ b = true := by
  unfold plCode at h
  split at h
  · rename_i h1
    split at h
    · rename_i h2
      exact ⟨h1, h2⟩
    · cases h
  · cases h
set_option maxRecDepth 100000 in
set_option maxHeartbeats 4000000 in
theorem impl_HandsFor_any (A : Option Addr) (n : Nat) (xs : List Plot) (hx : ∀ x ∈ xs, x.ok) (hl : xs.length ≤ 1048576) (hn : xs.length ≤ n) (hA : SlOk A n) (d v : Int) (w : World) (hs : Sl w 4 A xs.length (flat Plot.vals xs)) :
    Calls Try.prog 22 #[.slice A xs.length n, .int .i64 d, .int .i64 v] w fun e w' => e = .returned (.tuple #[.int .i64 (hfRes xs d v), .int .i64 (hfCode xs d v)]) ∧ Mem w w' [] := by
  have M := Lib.hid (Mem.start w)
  have HX := Lib.hid hx
  have HS := Lib.hid hs
  have PC := Lib.hid (fun b w hs => plotsCode_any A n xs hx hl b w hs)
  clear hx hs
  have HAS := Lib.hid (show hfAsk d v = (inB d 1 20 && decide (0 ≤ v)) from rfl)
  by_cases hk : plCode xs (hfAsk d v) = 0
  · obtain ⟨hok, hask⟩ := plCode_0 hk
    have HK := Lib.hid hk
    have hask2 := hask
    rw [hfAsk, Bool.and_eq_true, decide_eq_true_eq] at hask2
    have HIN := Lib.hid hask2.1
    have hv0 := hask2.2
    obtain ⟨d0, d1⟩ := inB_iff.1 hask2.1
    obtain ⟨D, rfl⟩ : ∃ D : Nat, d = D := ⟨d.toNat, by omega⟩
    have HFI := Lib.hid (plotsOk_iff.1 hok).1
    have hl6 := (plotsOk_iff.1 hok).2
    have HR := Lib.hid (show hfRes xs D v = hfTo xs D v by rw [hfRes, if_pos hk]; rfl)
    have HC := Lib.hid (show hfCode xs D v = if hfTo xs D v = 0 then 6 else 0 by rw [hfCode, if_pos hk]; rfl)
    have HASK := Lib.hid hask
    clear hk hok hask hask2
    have v1 : decide (0 ≤ v) = true := decide_eq_true hv0
    go_enter Try.func22, Try.ntmps22
    go_wp2_with (first
      | (go_at_call 55; go_must (refine (areDays_any _ _).mono ?_); rintro e w_ ⟨rfl, rfl⟩; rw [HIN.out])
      | (go_at_call 53; go_must (refine (PC.out _ _ (M.out.sl HS.out)).mono ?_); rintro e w_ ⟨rfl, N_⟩; have m := M.out.join N_; clear N_; simp only [List.cons_append, List.nil_append, List.append_nil] at m; have M := Lib.hid m; clear m; rw [show plCode xs true = 0 by have := HK.out; rwa [HASK.out] at this])
      )
    go_loopw [9] (fun u wr => ∃ h : Nat, 1 ≤ h ∧ h ≤ 4 ∧ u = .int .i64 h ∧ (∀ j, 1 ≤ j → j < h → hfAt xs D v j = false) ∧ Mem w wr [])
      (fun u _ => 4 - (intOf u).toNat)
    case atStart => exact ⟨1, by omega, by omega, rfl, fun j h1 h2 => by omega, M.out⟩
    case round =>
      clear M
      obtain ⟨h, h1, h4, rfl, hb, m⟩ := hrel
      have M := Lib.hid m
      have HB := Lib.hid hb
      clear m hb
      by_cases hle : h ≤ 3
      · have i1 : (h : Int) ≤ 3 := by omega
        have HAT := Lib.hid (show hfAt xs D v h = decide (v ≤ mostOf xs h D []) from rfl)
        have CA := Lib.hid (fun (w : World) hs => most1_any A n xs HFI.out hl6 hn hA h (by omega) (by omega) D (by omega) none 0 [] (by simp) (fun _ h => absurd h (by simp)) w hs Sl.nil_)
        obtain ⟨mv, hmv⟩ : ∃ mv, mv = mostOf xs h D [] := ⟨_, rfl⟩
        rw [← hmv] at HAT CA
        clear hmv
        by_cases hq : v ≤ mv
        · have HQ := Lib.hid (show hfAt xs D v h = true by rw [HAT.out]; exact decide_eq_true hq)
          go_wp2_with (first
            | (go_at_call 73; go_must (refine (CA.out _ (M.out.sl HS.out)).mono ?_); rintro e w_ ⟨rfl, N_⟩; have m := M.out.join N_; clear N_; simp only [List.cons_append, List.nil_append, List.append_nil] at m; have M := Lib.hid m; clear m)
            )
          go_ret2
          have hto := hfTo_at h1 hle HB.out HQ.out
          rw [HR.out, HC.out, hto, if_neg (by omega)]
          exact ⟨rfl, M.out.take 0⟩
        · have HQ := Lib.hid (show hfAt xs D v h = false by rw [HAT.out]; exact decide_eq_false hq)
          go_wp2_with (first
            | (go_at_call 73; go_must (refine (CA.out _ (M.out.sl HS.out)).mono ?_); rintro e w_ ⟨rfl, N_⟩; have m := M.out.join N_; clear N_; simp only [List.cons_append, List.nil_append, List.append_nil] at m; have M := Lib.hid m; clear m)
            )
          refine ⟨⟨h + 1, by omega, by omega, by go_num, fun j j1 j2 => ?_, M.out.take 0⟩, by simp [intOf]; try omega⟩
          rcases Nat.lt_or_ge j h with h9 | h9
          · exact HB.out j j1 h9
          · rw [show j = h by omega]
            exact HQ.out
      · obtain rfl : h = 4 := by omega
        have i1 : ¬ (((4 : Nat) : Int) ≤ 3) := by omega
        go_wp2
        go_ret2
        have hto := hfTo_no HB.out
        rw [HR.out, HC.out, hto, if_pos rfl]
        exact ⟨rfl, M.out.take 0⟩
  · obtain ⟨cd, hcd⟩ : ∃ cd, cd = plCode xs (hfAsk d v) := ⟨_, rfl⟩
    have HR := Lib.hid (show hfRes xs d v = 0 by rw [hfRes, if_neg hk])
    have HC := Lib.hid (show hfCode xs d v = cd by rw [hfCode, if_neg hk, hcd])
    have HCD := Lib.hid hcd
    rw [← hcd] at hk
    clear hcd
    rw [HAS.out] at HCD
    have hcs : (inB d 1 20 = false ∧ cd = plCode xs false) ∨ (inB d 1 20 = true ∧ decide (0 ≤ v) = true ∧ cd = plCode xs true) ∨ (inB d 1 20 = true ∧ decide (0 ≤ v) = false ∧ cd = plCode xs false) := by
      have h := HCD.out
      cases hi : inB d 1 20 <;> cases hv : decide (0 ≤ v) <;> rw [hi, hv] at h
      · exact .inl ⟨rfl, h⟩
      · exact .inl ⟨rfl, h⟩
      · exact .inr (.inr ⟨rfl, rfl, h⟩)
      · exact .inr (.inl ⟨rfl, rfl, h⟩)
    clear HCD
    rcases hcs with ⟨hi, hc⟩ | ⟨hi, v1, hc⟩ | ⟨hi, v1, hc⟩
    all_goals
      have HI := Lib.hid hi
      have HCE := Lib.hid hc.symm
      clear hi hc
      try have hv := of_decide_eq_true v1
      try have hv := of_decide_eq_false v1
      go_enter Try.func22, Try.ntmps22
      go_wp2_with (first
        | (go_at_call 55; go_must (refine (areDays_any _ _).mono ?_); rintro e w_ ⟨rfl, rfl⟩; rw [HI.out])
        | (go_at_call 53; go_must (refine (PC.out _ _ (M.out.sl HS.out)).mono ?_); rintro e w_ ⟨rfl, N_⟩; have m := M.out.join N_; clear N_; simp only [List.cons_append, List.nil_append, List.append_nil] at m; have M := Lib.hid m; clear m; rw [HCE.out])
        )
      go_ret2
      rw [HR.out, HC.out]
      exact ⟨rfl, M.out.take 0⟩
set_option maxRecDepth 100000 in
set_option maxHeartbeats 4000000 in
theorem spec_HandsFor_any (A : Option Addr) (n : Nat) (xs : List Plot) (hx : ∀ x ∈ xs, x.ok) (hl : xs.length ≤ 1048576) (hn : xs.length ≤ n) (hA : SlOk A n) (d v : Int) (w : World) (hs : Sl w 4 A xs.length (flat Plot.vals xs)) :
    Calls Try.prog 23 #[.slice A xs.length n, .int .i64 d, .int .i64 v] w fun e w' => e = .returned (.tuple #[.int .i64 (hfRes xs d v), .int .i64 (hfCode xs d v)]) ∧ Mem w w' [] := by
  have M := Lib.hid (Mem.start w)
  have HX := Lib.hid hx
  have HS := Lib.hid hs
  have PC := Lib.hid (fun b w hs => l07Asked_any A n xs hx hl b w hs)
  clear hx hs
  have HAS := Lib.hid (show hfAsk d v = (inB d 1 20 && decide (0 ≤ v)) from rfl)
  by_cases hk : plCode xs (hfAsk d v) = 0
  · obtain ⟨hok, hask⟩ := plCode_0 hk
    have HK := Lib.hid hk
    have hask2 := hask
    rw [hfAsk, Bool.and_eq_true, decide_eq_true_eq] at hask2
    have HIN := Lib.hid hask2.1
    have hv0 := hask2.2
    obtain ⟨d0, d1⟩ := inB_iff.1 hask2.1
    obtain ⟨D, rfl⟩ : ∃ D : Nat, d = D := ⟨d.toNat, by omega⟩
    have HFI := Lib.hid (plotsOk_iff.1 hok).1
    have hl6 := (plotsOk_iff.1 hok).2
    have HR := Lib.hid (show hfRes xs D v = hfTo xs D v by rw [hfRes, if_pos hk]; rfl)
    have HC := Lib.hid (show hfCode xs D v = if hfTo xs D v = 0 then 6 else 0 by rw [hfCode, if_pos hk]; rfl)
    have HASK := Lib.hid hask
    clear hk hok hask hask2
    have v1 : decide (0 ≤ v) = true := decide_eq_true hv0
    go_enter Try.func23, Try.ntmps23
    go_wp2_with (first
      | (go_at_call 71; go_must (refine (l07Days_any _ _).mono ?_); rintro e w_ ⟨rfl, rfl⟩; rw [HIN.out])
      | (go_at_call 69; go_must (refine (PC.out _ _ (M.out.sl HS.out)).mono ?_); rintro e w_ ⟨rfl, N_⟩; have m := M.out.join N_; clear N_; simp only [List.cons_append, List.nil_append, List.append_nil] at m; have M := Lib.hid m; clear m; rw [show plCode xs true = 0 by have := HK.out; rwa [HASK.out] at this])
      )
    go_loopw [9] (fun u wr => ∃ h : Nat, 1 ≤ h ∧ h ≤ 4 ∧ u = .int .i64 h ∧ (∀ j, 1 ≤ j → j < h → hfAt xs D v j = false) ∧ Mem w wr [])
      (fun u _ => 4 - (intOf u).toNat)
    case atStart => exact ⟨1, by omega, by omega, rfl, fun j h1 h2 => by omega, M.out⟩
    case round =>
      clear M
      obtain ⟨h, h1, h4, rfl, hb, m⟩ := hrel
      have M := Lib.hid m
      have HB := Lib.hid hb
      clear m hb
      by_cases hle : h ≤ 3
      · have i1 : (h : Int) ≤ 3 := by omega
        have HAT := Lib.hid (show hfAt xs D v h = decide (v ≤ mostOf xs h D []) from rfl)
        have CA := Lib.hid (fun (w : World) hs => fun B nb ht => try1_any A n xs HFI.out hl6 hn hA h (by omega) (by omega) D (by omega) B nb [] (by simp) (fun _ h => absurd h (by simp)) (fun e _ => by rw [capOf_nil]; omega) w hs ht)
        obtain ⟨mv, hmv⟩ : ∃ mv, mv = mostOf xs h D [] := ⟨_, rfl⟩
        rw [← hmv] at HAT CA
        clear hmv
        by_cases hq : v ≤ mv
        · have HQ := Lib.hid (show hfAt xs D v h = true by rw [HAT.out]; exact decide_eq_true hq)
          go_wp2_with (first
            | ((with_reducible refine gate_dst (N := 28) rfl ?_); go_must (refine M.out.ev_bs0 elem_int64 rfl rfl ?_); intro gv28 wv28 m; simp only [List.cons_append, List.nil_append] at m; have M := Lib.hid m; clear m)
            | (go_at_call 74; go_must (refine (CA.out _ (M.out.sl HS.out) _ _ (M.out.slof 0 rfl)).mono ?_); rintro e w_ ⟨rfl, N_⟩; have m := M.out.join N_; clear N_; simp only [List.cons_append, List.nil_append, List.append_nil] at m; have M := Lib.hid m; clear m)
            )
          go_ret2
          have hto := hfTo_at h1 hle HB.out HQ.out
          rw [HR.out, HC.out, hto, if_neg (by omega)]
          exact ⟨rfl, M.out.take 0⟩
        · have HQ := Lib.hid (show hfAt xs D v h = false by rw [HAT.out]; exact decide_eq_false hq)
          go_wp2_with (first
            | ((with_reducible refine gate_dst (N := 28) rfl ?_); go_must (refine M.out.ev_bs0 elem_int64 rfl rfl ?_); intro gv28 wv28 m; simp only [List.cons_append, List.nil_append] at m; have M := Lib.hid m; clear m)
            | (go_at_call 74; go_must (refine (CA.out _ (M.out.sl HS.out) _ _ (M.out.slof 0 rfl)).mono ?_); rintro e w_ ⟨rfl, N_⟩; have m := M.out.join N_; clear N_; simp only [List.cons_append, List.nil_append, List.append_nil] at m; have M := Lib.hid m; clear m)
            )
          refine ⟨⟨h + 1, by omega, by omega, by go_num, fun j j1 j2 => ?_, M.out.take 0⟩, by simp [intOf]; try omega⟩
          rcases Nat.lt_or_ge j h with h9 | h9
          · exact HB.out j j1 h9
          · rw [show j = h by omega]
            exact HQ.out
      · obtain rfl : h = 4 := by omega
        have i1 : ¬ (((4 : Nat) : Int) ≤ 3) := by omega
        go_wp2
        go_ret2
        have hto := hfTo_no HB.out
        rw [HR.out, HC.out, hto, if_pos rfl]
        exact ⟨rfl, M.out.take 0⟩
  · obtain ⟨cd, hcd⟩ : ∃ cd, cd = plCode xs (hfAsk d v) := ⟨_, rfl⟩
    have HR := Lib.hid (show hfRes xs d v = 0 by rw [hfRes, if_neg hk])
    have HC := Lib.hid (show hfCode xs d v = cd by rw [hfCode, if_neg hk, hcd])
    have HCD := Lib.hid hcd
    rw [← hcd] at hk
    clear hcd
    rw [HAS.out] at HCD
    have hcs : (inB d 1 20 = false ∧ cd = plCode xs false) ∨ (inB d 1 20 = true ∧ decide (0 ≤ v) = true ∧ cd = plCode xs true) ∨ (inB d 1 20 = true ∧ decide (0 ≤ v) = false ∧ cd = plCode xs false) := by
      have h := HCD.out
      cases hi : inB d 1 20 <;> cases hv : decide (0 ≤ v) <;> rw [hi, hv] at h
      · exact .inl ⟨rfl, h⟩
      · exact .inl ⟨rfl, h⟩
      · exact .inr (.inr ⟨rfl, rfl, h⟩)
      · exact .inr (.inl ⟨rfl, rfl, h⟩)
    clear HCD
    rcases hcs with ⟨hi, hc⟩ | ⟨hi, v1, hc⟩ | ⟨hi, v1, hc⟩
    all_goals
      have HI := Lib.hid hi
      have HCE := Lib.hid hc.symm
      clear hi hc
      try have hv := of_decide_eq_true v1
      try have hv := of_decide_eq_false v1
      go_enter Try.func23, Try.ntmps23
      go_wp2_with (first
        | (go_at_call 71; go_must (refine (l07Days_any _ _).mono ?_); rintro e w_ ⟨rfl, rfl⟩; rw [HI.out])
        | (go_at_call 69; go_must (refine (PC.out _ _ (M.out.sl HS.out)).mono ?_); rintro e w_ ⟨rfl, N_⟩; have m := M.out.join N_; clear N_; simp only [List.cons_append, List.nil_append, List.append_nil] at m; have M := Lib.hid m; clear m; rw [HCE.out])
        )
      go_ret2
      rw [HR.out, HC.out]
      exact ⟨rfl, M.out.take 0⟩
end Go.Proofs.Ytdnofkngljjbmaa
namespace Go.Proofs.Ytdnofkngljjbmaa
set_option linter.unusedSimpArgs false
set_option linter.unusedVariables false
open Go.RowKit

theorem most_nonneg {xs : List Plot} (hp : plotsOk xs = true) {h : Int} (h0 : 0 ≤ h) (D : Nat) : 0 ≤ mostOf xs h D [] := by
  obtain ⟨hx, h6⟩ := plotsOk_iff.1 hp
  have := (best0 hx h6 h0 D).most noPlan (noPlan_asg _ 0 D fun e _ _ => caps0 h0 e)
  rw [pval_noPlan] at this
  omega
theorem hf_ask {xs : List Plot} (hp : plotsOk xs = true) {D : Nat} (d0 : 1 ≤ D) (d1 : D ≤ 20) {v : Int} (hv : 0 ≤ v) : plCode xs (hfAsk D v) = 0 := by
  unfold plCode hfAsk
  rw [if_pos hp, inB_iff.2 ⟨by omega, by omega⟩, decide_eq_true hv]
  rfl
theorem hfTo_le {xs : List Plot} {D : Nat} {h : Nat} (h1 : 1 ≤ h) (h3 : h ≤ 3) {v : Int} (hv : v ≤ mostOf xs h D []) : 1 ≤ hfTo xs D v ∧ hfTo xs D v ≤ h := by
  have ha : hfAt xs D v h = true := decide_eq_true hv
  unfold hfTo
  by_cases a1 : hfAt xs D v 1 = true
  · rw [if_pos a1]; omega
  · rw [if_neg a1]
    have : h ≠ 1 := fun e => a1 (e ▸ ha)
    by_cases a2 : hfAt xs D v 2 = true
    · rw [if_pos a2]; omega
    · rw [if_neg a2]
      have : h ≠ 2 := fun e => a2 (e ▸ ha)
      have : h = 3 := by omega
      subst this
      rw [if_pos ha]
      omega
theorem hf_known {xs : List Plot} (hp : plotsOk xs = true) {h : Nat} (h1 : 1 ≤ h) (h3 : h ≤ 3) {D : Nat} (d0 : 1 ≤ D) (d1 : D ≤ 20) : hfCode xs D (mostOf xs h D []) = 0 ∧ hfRes xs D (mostOf xs h D []) ≤ h := by
  have ha := hf_ask hp d0 d1 (most_nonneg hp (by omega : (0 : Int) ≤ (h : Int)) D)
  have hb := hfTo_le (xs := xs) (D := D) h1 h3 (Int.le_refl (mostOf xs h D []))
  unfold hfCode hfRes
  rw [if_pos ha, if_pos ha, Int.toNat_natCast, if_neg (by omega)]
  exact ⟨rfl, hb.2⟩
theorem hf_none {xs : List Plot} (hp : plotsOk xs = true) {D : Nat} (d0 : 1 ≤ D) (d1 : D ≤ 20) : hfCode xs D (boundOf xs D + 1) = 6 := by
  obtain ⟨hx, h6⟩ := plotsOk_iff.1 hp
  have hb : ∀ h : Nat, mostOf xs h D [] ≤ boundOf xs D := fun h => most_bound hx h6 (by omega)
  have h0 := hb 0
  have h00 := most_nonneg hp (h := ((0 : Nat) : Int)) (by omega) D
  have ha := hf_ask hp d0 d1 (v := boundOf xs D + 1) (by omega)
  unfold hfCode
  rw [if_pos ha, Int.toNat_natCast, hfTo_no fun j _ _ => by unfold hfAt; exact decide_eq_false (by have := hb j; omega), if_pos rfl]
end Go.Proofs.Ytdnofkngljjbmaa
namespace Go.Proofs.Ytdnofkngljjbmaa
set_option linter.unusedSimpArgs false
set_option linter.unusedVariables false
open Go.RowKit
attribute [local go_sem] cell?_mk frozen?_mk

theorem bday_uniq {xs : List Plot} {h : Int} {D : Nat} {p : List Int} {j0 j : Nat} (H : mostOf xs h D (p ++ [(j0 : Int) - 1]) = mostOf xs h D []) (hb : ∀ i : Nat, i < j → mostOf xs h D (p ++ [(i : Int) - 1]) < mostOf xs h D []) : j ≤ j0 := by
  rcases Nat.lt_or_ge j0 j with h9 | h9
  · have := hb j0 h9; omega
  · exact h9
set_option maxRecDepth 100000 in
set_option maxHeartbeats 8000000 in
theorem impl_bestPlan_any (A : Option Addr) (n : Nat) (xs : List Plot) (hx : ∀ x ∈ xs, x.fine = true) (hl : xs.length ≤ 6) (hn : xs.length ≤ n) (hA : SlOk A n) (h : Int) (h0 : 0 ≤ h) (h1 : h ≤ 3) (D : Nat) (hD : D ≤ 20) (w : World) (hs : Sl w 4 A xs.length (flat Plot.vals xs)) :
    Calls Try.prog 56 #[.slice A xs.length n, .int .i64 h, .int .i64 D] w fun e w' => ∃ B c, e = .returned (.tuple #[.slice B xs.length c, .int .i64 (mostOf xs h D [])]) ∧ xs.length ≤ c ∧ Mem w w' [.row (.slice B xs.length c) 2 1 xs.length (flat oneI (bpTo xs h D xs.length))] := by
  have M := Lib.hid (Mem.start w)
  have HS := Lib.hid hs
  have BD := Lib.hid (fun k (hk : k < xs.length) => bp_day hx hl (bp_ok hx hl h0 hD k (by omega)) hD (by rw [bpTo_len]; omega))
  have BK := Lib.hid (fun k (hk : k ≤ xs.length) => bp_ok hx hl h0 hD k hk)
  have HV0 := Lib.hid (bp_shut hx hl (bp_ok hx hl h0 hD 0 (by omega)))
  have CA0 := Lib.hid (fun (w : World) hs => most1_any A n xs hx hl hn hA h h0 h1 D hD none 0 [] (by simp) (fun _ h => absurd h (by simp)) w hs Sl.nil_)
  have CAP := Lib.hid (fun k (hk : k < xs.length) (d : Int) (hd : -1 ≤ d ∧ d ≤ 20) B nb (w : World) hs (ht : Sl w 1 B (k + 1) (flat oneI (bpTo xs h D k) ++ [.int .i64 d])) => (show Calls Try.prog 73 #[.slice A xs.length n, .int .i64 h, .int .i64 D, .slice B (k + 1) nb] w fun e w' => e = .returned (.int .i64 (mostOf xs h D (bpTo xs h D k ++ [d]))) ∧ Mem w w' [] by
    have hlk : (bpTo xs h D k ++ [d]).length = k + 1 := by rw [List.length_append, bpTo_len]; rfl
    have := most1_any A n xs hx hl hn hA h h0 h1 D hD B nb (bpTo xs h D k ++ [d]) (by omega) (fun e he => by
      rcases List.mem_append.1 he with h | h
      · have := (bp_ok hx hl h0 hD k (by omega)).days e h; omega
      · rw [List.mem_singleton] at h; omega) w hs (by rw [hlk, flat_snoc]; exact ht)
    rwa [hlk] at this))
  have HBT := Lib.hid (fun k => show bpTo xs h D (k + 1) = bpTo xs h D k ++ [bday xs h D (mostOf xs h D []) (bpTo xs h D k)] from rfl)
  have HB0 := Lib.hid (show bpTo xs h D 0 = [] from rfl)
  have HBL := Lib.hid (bpTo_len xs h D)
  clear hx hs
  obtain ⟨V, hV⟩ : ∃ V, V = mostOf xs h D [] := ⟨_, rfl⟩
  have HVE := Lib.hid hV
  rw [← hV] at CA0 HBT BD
  rw [← hV]
  clear hV
  go_enter Try.func56, Try.ntmps56
  go_wp2_with (first
    | ((with_reducible refine gate_dst (N := 11) rfl ?_); go_must (refine M.out.ev_bs0 elem_int64 rfl rfl ?_); intro gv11 wv11 m; simp only [List.cons_append, List.nil_append] at m; have M := Lib.hid m; clear m)
    | (go_at_call 73; go_must (refine (CA0.out _ (M.out.sl HS.out)).mono ?_); rintro e w_ ⟨rfl, N_⟩; have m := M.out.join N_; clear N_; simp only [List.cons_append, List.nil_append, List.append_nil] at m; have M := Lib.hid m; clear m)
    )
  go_loopw [8, 18] (fun s v wr => ∃ k : Nat, k ≤ xs.length ∧ v = .int .i64 k ∧ Mem w wr [.row s 2 1 k (flat oneI (bpTo xs h D k))])
    (fun _ v _ => xs.length - (intOf v).toNat)
  case atStart => exact ⟨0, by omega, rfl, M.out⟩
  case round =>
    clear M
    obtain ⟨k, hk, rfl, m⟩ := hrel
    have M := Lib.hid m
    clear m
    by_cases hlt : k < xs.length
    · obtain ⟨B, c, rfl, hc, _⟩ := M.out.row_slice 0 rfl
      have i1 : (k : Int) < (xs.length : Int) := by omega
      obtain ⟨j0, hj0, hb0, H0, hl0⟩ := BD.out k hlt
      have HB1 := Lib.hid (HBT.out k)
      rw [hb0] at HB1
      have HL0 := Lib.hid hl0
      have CAK := Lib.hid (CAP.out k hlt)
      have HE0 := Lib.hid H0.val
      rw [← HVE.out] at HE0
      have HLK := Lib.hid (HBL.out k)
      obtain ⟨p, hp⟩ : ∃ p, p = bpTo xs h D k := ⟨_, rfl⟩
      rw [← hp] at HB1 HL0 CAK HE0 M HLK
      clear hb0 H0 hl0 hp
      go_wp2
      go_loopw [10] (fun v wr => ∃ j : Nat, j ≤ j0 ∧ v = .int .i64 ((j : Int) - 1) ∧ Mem w wr [.row (.slice B k c) 2 1 k (flat oneI p)])
        (fun v _ => j0 + 1 - (intOf v + 1).toNat)
      case atStart => exact ⟨0, by omega, rfl, M.out⟩
      case round =>
        clear M
        obtain ⟨j, hj, rfl, m⟩ := hrel
        have M := Lib.hid m
        clear m
        have CAJ := Lib.hid (CAK.out ((j : Int) - 1) (by omega))
        have CLO := Lib.hid (fun A n hc hA (w : World) hs => cloneI_any A n p (by have := HLK.out; omega) hc hA w hs)
        rw [HLK.out] at CLO
        have hq : (mostOf xs h D (p ++ [(j : Int) - 1]) < V ∧ j < j0) ∨ (¬ mostOf xs h D (p ++ [(j : Int) - 1]) < V ∧ j = j0) := by
          rcases Nat.lt_or_ge j j0 with h9 | h9
          · exact .inl ⟨HL0.out j h9, h9⟩
          · have : j = j0 := by omega
            subst this
            exact .inr ⟨by have := HE0.out; omega, rfl⟩
        obtain ⟨q, hqe⟩ : ∃ q, q = mostOf xs h D (p ++ [(j : Int) - 1]) := ⟨_, rfl⟩
        rw [← hqe] at CAJ hq
        have w1 : IntKind.i64.wrap ((j : Int) - 1 + 1) = (j : Int) - 1 + 1 := IntWalk.i64_in _ (by omega)
        clear hqe
        rcases hq with ⟨hq, hjj⟩ | ⟨hq, hjj⟩
        · have HJ := Lib.hid hjj
          clear hjj
          go_wp2_with (first
            | (go_at_call 113; go_must (refine (CLO.out _ _ hc (M.out.row_none 0 rfl) _ (M.out.slof 0 rfl)).mono ?_); rintro e w_ ⟨A26, c26, rfl, hc26, N_⟩; have m := M.out.join N_; clear N_; simp only [List.cons_append, List.nil_append, List.append_nil] at m; have M := Lib.hid m; clear m)
            | ((with_reducible refine gate_dst (N := 26) rfl ?_); go_must (refine M.out.ev_bs1 elem_int64 rfl _ rfl #[.int .i64 ((j : Int) - 1)] rfl rfl (by decide) ?_); intro g26 w26 m; simp only [List.cons_append, List.nil_append] at m; have M := Lib.hid m; clear m)
            | ((with_reducible refine gate_dst (N := 27) rfl ?_); go_must (refine M.out.ev_append1 1 2 elem_int64 rfl _ _ rfl rfl rfl rfl rfl rfl (by simp [Value.oneCell']) (by omega) (by decide) ?_); intro v27 w27 m; simp only [List.set_cons_succ, List.set_cons_zero] at m; have M := Lib.hid m; clear m; obtain ⟨B27, c27, rfl, hc27, _⟩ := M.out.row_slice 1 rfl)
            | (go_at_call 73; go_must (refine (CAJ.out _ _ _ (M.out.sl HS.out) (M.out.slof 1 rfl)).mono ?_); rintro e w_ ⟨rfl, N_⟩; have m := M.out.join N_; clear N_; simp only [List.cons_append, List.nil_append, List.append_nil] at m; have M := Lib.hid m; clear m)
            )
          have hjj := HJ.out
          exact ⟨⟨j + 1, by omega, by go_num, M.out.take 1⟩, by simp [intOf]; try omega⟩
        · have HJ := Lib.hid hjj
          clear hjj
          go_wp2_with (first
            | (go_at_call 113; go_must (refine (CLO.out _ _ hc (M.out.row_none 0 rfl) _ (M.out.slof 0 rfl)).mono ?_); rintro e w_ ⟨A26, c26, rfl, hc26, N_⟩; have m := M.out.join N_; clear N_; simp only [List.cons_append, List.nil_append, List.append_nil] at m; have M := Lib.hid m; clear m)
            | ((with_reducible refine gate_dst (N := 26) rfl ?_); go_must (refine M.out.ev_bs1 elem_int64 rfl _ rfl #[.int .i64 ((j : Int) - 1)] rfl rfl (by decide) ?_); intro g26 w26 m; simp only [List.cons_append, List.nil_append] at m; have M := Lib.hid m; clear m)
            | ((with_reducible refine gate_dst (N := 27) rfl ?_); go_must (refine M.out.ev_append1 1 2 elem_int64 rfl _ _ rfl rfl rfl rfl rfl rfl (by simp [Value.oneCell']) (by omega) (by decide) ?_); intro v27 w27 m; simp only [List.set_cons_succ, List.set_cons_zero] at m; have M := Lib.hid m; clear m; obtain ⟨B27, c27, rfl, hc27, _⟩ := M.out.row_slice 1 rfl)
            | (go_at_call 73; go_must (refine (CAJ.out _ _ _ (M.out.sl HS.out) (M.out.slof 1 rfl)).mono ?_); rintro e w_ ⟨rfl, N_⟩; have m := M.out.join N_; clear N_; simp only [List.cons_append, List.nil_append, List.append_nil] at m; have M := Lib.hid m; clear m)
            | ((with_reducible refine gate_dst (N := 35) rfl ?_); go_must (refine M.out.ev_bs1 elem_int64 rfl _ rfl #[.int .i64 ((j : Int) - 1)] rfl rfl (by decide) ?_); intro g35 w35 m; simp only [List.cons_append, List.nil_append] at m; have M := Lib.hid m; clear m)
            | ((with_reducible refine gate_dst (N := 36) rfl ?_); go_must (refine M.out.ev_append1 0 3 elem_int64 rfl _ _ rfl rfl rfl rfl rfl rfl (by simp [Value.oneCell']) (by omega) (by decide) ?_); intro v36 w36 m; simp only [List.set_cons_succ, List.set_cons_zero] at m; have M := Lib.hid m; clear m)
            )
          have hjj := HJ.out
          subst hjj
          refine ⟨⟨k + 1, by omega, by go_num, ?_⟩, by simp [intOf]; try omega⟩
          have m := M.out.take 1
          rw [HB1.out, flat_snoc]
          exact m
    · obtain rfl : k = xs.length := by omega
      obtain ⟨B, c, rfl, hc, _⟩ := M.out.row_slice 0 rfl
      have i1 : ¬ ((xs.length : Int) < (xs.length : Int)) := by omega
      go_wp2
      go_ret2
      exact ⟨_, _, rfl, hc, M.out.take 1⟩
end Go.Proofs.Ytdnofkngljjbmaa
