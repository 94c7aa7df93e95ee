/- The least number of hands: the walks of both. -/
import Derived.Test.YtkodcfnofjkohaaMostY
import Derived.Test.YtkodcfnofjkohaaTryY
import Derived.Test.YtkodcfnofjkohaaGen2
namespace Go.Proofs.Ytkodcfnofjkohaa
set_option linter.unusedSimpArgs false
set_option linter.unusedVariables false
open Go.RowKit
attribute [local go_sem] cell?_mk frozen?_mk

/-- A slice as the walks of plans take it. -/
def SlOk (A : Option Addr) (n : Nat) : Prop := (A = Option.none ∧ n = 0) ∨ ∃ b off, A = some ⟨b, off, Option.none⟩
theorem Mem.row_ok {w0 w : World} {L : List Ent} (M : Mem w0 w L) (i : Nat) {A : Option Addr} {m c : Nat} {e : TypeId} {sz n : Nat} {cs : List Value} (h : L[i]? = some (.row (.slice A m c) e sz n cs)) : SlOk A c := by
  rcases (M.row i h).2 with ⟨h1, _⟩ | ⟨g, cap, cur, h1, _⟩
  · injection h1 with h1 _ h3
    exact .inl ⟨h1, h3⟩
  · injection h1 with h1
    exact .inr ⟨g, 0, h1⟩
theorem most1_any (A : Option Addr) (n : Nat) (xs : List Plot) (hx : ∀ x ∈ xs, x.fine = true) (hl : xs.length ≤ 6) (hn : xs.length ≤ n) (hA : SlOk A n) (h : Int) (h0 : 0 ≤ h) (h1 : h ≤ 3) (D : Nat) (hD : D ≤ 20) (B : Option Addr) (nb : Nat) (p : List Int) (hp : p.length ≤ xs.length) (hd : ∀ d ∈ p, -1 ≤ d ∧ d ≤ 1000) (w : World) (hs : Sl w 4 A xs.length (flat Plot.vals xs)) (ht : Sl w 1 B p.length (flat oneI p)) :
    Calls Try.prog 38 #[.slice A xs.length n, .int .i64 h, .int .i64 D, .slice B p.length nb] w fun e w' => e = .returned (.int .i64 (mostOf xs h D p)) ∧ Mem w w' [] := by
  obtain ⟨m, hm⟩ : ∃ m, xs.length = p.length + m := ⟨xs.length - p.length, by omega⟩
  have := most_any A n xs hx p.length m (by omega) hm (by omega) hA h h0 h1 D hD B nb p rfl hd w hs ht
  rwa [← hm] at this
theorem try1_any (A : Option Addr) (n : Nat) (xs : List Plot) (hx : ∀ x ∈ xs, x.fine = true) (hl : xs.length ≤ 6) (hn : xs.length ≤ n) (hA : SlOk A n) (h : Int) (h0 : 0 ≤ h) (h1 : h ≤ 3) (D : Nat) (hD : D ≤ 20) (B : Option Addr) (nb : Nat) (p : List Int) (hp : p.length ≤ xs.length) (hd : ∀ d ∈ p, -1 ≤ d ∧ d ≤ 19) (hcp : ∀ e, e < D → 0 ≤ capOf h p e) (w : World) (hs : Sl w 4 A xs.length (flat Plot.vals xs)) (ht : Sl w 1 B p.length (flat oneI p)) :
    Calls Try.prog 34 #[.slice A xs.length n, .int .i64 h, .int .i64 D, .slice B p.length nb] w fun e w' => e = .returned (.int .i64 (mostOf xs h D p)) ∧ Mem w w' [] := by
  obtain ⟨m, hm⟩ : ∃ m, xs.length = p.length + m := ⟨xs.length - p.length, by omega⟩
  have := l07Try_any A n xs hx p.length m (by omega) hm (by omega) hA h h0 h1 D hD B nb p rfl hd hcp w hs ht
  rwa [← hm] at this
theorem capOf_nil (h : Int) (e : Nat) : capOf h [] e = h := by simp [capOf]
/-- Whether so many hands are enough. -/
def hfAt (xs : List Plot) (D : Nat) (w : Int) (h : Nat) : Bool := decide (w ≤ mostOf xs h D [])
def hfTo (xs : List Plot) (D : Nat) (w : Int) : Int := if hfAt xs D w 1 = true then 1 else if hfAt xs D w 2 = true then 2 else if hfAt xs D w 3 = true then 3 else 0
theorem hfTo_at {xs : List Plot} {D : Nat} {w : Int} {h : Nat} (h1 : 1 ≤ h) (h3 : h ≤ 3) (hb : ∀ j, 1 ≤ j → j < h → hfAt xs D w j = false) (hh : hfAt xs D w h = true) : hfTo xs D w = h := by
  unfold hfTo
  match h, h1, h3 with
  | 1, _, _ => rw [if_pos hh]; rfl
  | 2, _, _ => rw [hb 1 (by omega) (by omega), if_neg (by decide), if_pos hh]; rfl
  | 3, _, _ => rw [hb 1 (by omega) (by omega), hb 2 (by omega) (by omega), if_neg (by decide), if_neg (by decide), if_pos hh]; rfl
theorem hfTo_no {xs : List Plot} {D : Nat} {w : Int} (hb : ∀ j, 1 ≤ j → j < 4 → hfAt xs D w j = false) : hfTo xs D w = 0 := by
  unfold hfTo
  rw [hb 1 (by omega) (by omega), hb 2 (by omega) (by omega), hb 3 (by omega) (by omega)]
  rfl
def hfAsk (d w : Int) : Bool := inB d 1 20 && decide (0 ≤ w)
def hfRes (xs : List Plot) (d w : Int) : Int := if plCode xs (hfAsk d w) = 0 then hfTo xs d.toNat w else 0
def hfCode (xs : List Plot) (d w : Int) : Int := if plCode xs (hfAsk d w) = 0 then (if hfTo xs d.toNat w = 0 then 6 else 0) else plCode xs (hfAsk d w)
theorem plCode_0 {xs : List Plot} {b : Bool} (h : plCode xs b = 0) : plotsOk xs = true ∧ b = true := by
  unfold plCode at h
  split at h
  · rename_i h1
    split at h
    · rename_i h2
      exact ⟨h1, h2⟩
    · cases h
  · cases h
set_option maxRecDepth 100000 in
set_option maxHeartbeats 4000000 in
theorem impl_HandsFor_any (A : Option Addr) (n : Nat) (xs : List Plot) (hx : ∀ x ∈ xs, x.ok) (hl : xs.length ≤ 1048576) (hn : xs.length ≤ n) (hA : SlOk A n) (d v : Int) (w : World) (hs : Sl w 4 A xs.length (flat Plot.vals xs)) :
    Calls Try.prog 11 #[.slice A xs.length n, .int .i64 d, .int .i64 v] w fun e w' => e = .returned (.tuple #[.int .i64 (hfRes xs d v), .int .i64 (hfCode xs d v)]) ∧ Mem w w' [] := by
  have M := Lib.hid (Mem.start w)
  have HX := Lib.hid hx
  have HS := Lib.hid hs
  have PC := Lib.hid (fun b w hs => plotsCode_any A n xs hx hl b w hs)
  clear hx hs
  have HAS := Lib.hid (show hfAsk d v = (inB d 1 20 && decide (0 ≤ v)) from rfl)
  by_cases hk : plCode xs (hfAsk d v) = 0
  · obtain ⟨hok, hask⟩ := plCode_0 hk
    have HK := Lib.hid hk
    have hask2 := hask
    rw [hfAsk, Bool.and_eq_true, decide_eq_true_eq] at hask2
    have HIN := Lib.hid hask2.1
    have hv0 := hask2.2
    obtain ⟨d0, d1⟩ := inB_iff.1 hask2.1
    obtain ⟨D, rfl⟩ : ∃ D : Nat, d = D := ⟨d.toNat, by omega⟩
    have HFI := Lib.hid (plotsOk_iff.1 hok).1
    have hl6 := (plotsOk_iff.1 hok).2
    have HR := Lib.hid (show hfRes xs D v = hfTo xs D v by rw [hfRes, if_pos hk]; rfl)
    have HC := Lib.hid (show hfCode xs D v = if hfTo xs D v = 0 then 6 else 0 by rw [hfCode, if_pos hk]; rfl)
    have HASK := Lib.hid hask
    clear hk hok hask hask2
    have v1 : decide (0 ≤ v) = true := decide_eq_true hv0
    go_enter Try.func11, Try.ntmps11
    go_wp2_with (first
      | (go_at_call 37; go_must (refine (areDays_any _ _).mono ?_); rintro e w_ ⟨rfl, rfl⟩; rw [HIN.out])
      | (go_at_call 36; go_must (refine (PC.out _ _ (M.out.sl HS.out)).mono ?_); rintro e w_ ⟨rfl, N_⟩; have m := M.out.join N_; clear N_; simp only [List.cons_append, List.nil_append, List.append_nil] at m; have M := Lib.hid m; clear m; rw [show plCode xs true = 0 by have := HK.out; rwa [HASK.out] at this])
      )
    go_loopw [9] (fun u wr => ∃ h : Nat, 1 ≤ h ∧ h ≤ 4 ∧ u = .int .i64 h ∧ (∀ j, 1 ≤ j → j < h → hfAt xs D v j = false) ∧ Mem w wr [])
      (fun u _ => 4 - (intOf u).toNat)
    case atStart => exact ⟨1, by omega, by omega, rfl, fun j h1 h2 => by omega, M.out⟩
    case round =>
      clear M
      obtain ⟨h, h1, h4, rfl, hb, m⟩ := hrel
      have M := Lib.hid m
      have HB := Lib.hid hb
      clear m hb
      by_cases hle : h ≤ 3
      · have i1 : (h : Int) ≤ 3 := by omega
        have HAT := Lib.hid (show hfAt xs D v h = decide (v ≤ mostOf xs h D []) from rfl)
        have CA := Lib.hid (fun (w : World) hs => most1_any A n xs HFI.out hl6 hn hA h (by omega) (by omega) D (by omega) none 0 [] (by simp) (fun _ h => absurd h (by simp)) w hs Sl.nil_)
        obtain ⟨mv, hmv⟩ : ∃ mv, mv = mostOf xs h D [] := ⟨_, rfl⟩
        rw [← hmv] at HAT CA
        clear hmv
        by_cases hq : v ≤ mv
        · have HQ := Lib.hid (show hfAt xs D v h = true by rw [HAT.out]; exact decide_eq_true hq)
          go_wp2_with (first
            | (go_at_call 38; go_must (refine (CA.out _ (M.out.sl HS.out)).mono ?_); rintro e w_ ⟨rfl, N_⟩; have m := M.out.join N_; clear N_; simp only [List.cons_append, List.nil_append, List.append_nil] at m; have M := Lib.hid m; clear m)
            )
          go_ret2
          have hto := hfTo_at h1 hle HB.out HQ.out
          rw [HR.out, HC.out, hto, if_neg (by omega)]
          exact ⟨rfl, M.out.take 0⟩
        · have HQ := Lib.hid (show hfAt xs D v h = false by rw [HAT.out]; exact decide_eq_false hq)
          go_wp2_with (first
            | (go_at_call 38; go_must (refine (CA.out _ (M.out.sl HS.out)).mono ?_); rintro e w_ ⟨rfl, N_⟩; have m := M.out.join N_; clear N_; simp only [List.cons_append, List.nil_append, List.append_nil] at m; have M := Lib.hid m; clear m)
            )
          refine ⟨⟨h + 1, by omega, by omega, by go_num, fun j j1 j2 => ?_, M.out.take 0⟩, by simp [intOf]; try omega⟩
          rcases Nat.lt_or_ge j h with h9 | h9
          · exact HB.out j j1 h9
          · rw [show j = h by omega]
            exact HQ.out
      · obtain rfl : h = 4 := by omega
        have i1 : ¬ (((4 : Nat) : Int) ≤ 3) := by omega
        go_wp2
        go_ret2
        have hto := hfTo_no HB.out
        rw [HR.out, HC.out, hto, if_pos rfl]
        exact ⟨rfl, M.out.take 0⟩
  · obtain ⟨cd, hcd⟩ : ∃ cd, cd = plCode xs (hfAsk d v) := ⟨_, rfl⟩
    have HR := Lib.hid (show hfRes xs d v = 0 by rw [hfRes, if_neg hk])
    have HC := Lib.hid (show hfCode xs d v = cd by rw [hfCode, if_neg hk, hcd])
    have HCD := Lib.hid hcd
    rw [← hcd] at hk
    clear hcd
    rw [HAS.out] at HCD
    have hcs : (inB d 1 20 = false ∧ cd = plCode xs false) ∨ (inB d 1 20 = true ∧ decide (0 ≤ v) = true ∧ cd = plCode xs true) ∨ (inB d 1 20 = true ∧ decide (0 ≤ v) = false ∧ cd = plCode xs false) := by
      have h := HCD.out
      cases hi : inB d 1 20 <;> cases hv : decide (0 ≤ v) <;> rw [hi, hv] at h
      · exact .inl ⟨rfl, h⟩
      · exact .inl ⟨rfl, h⟩
      · exact .inr (.inr ⟨rfl, rfl, h⟩)
      · exact .inr (.inl ⟨rfl, rfl, h⟩)
    clear HCD
    rcases hcs with ⟨hi, hc⟩ | ⟨hi, v1, hc⟩ | ⟨hi, v1, hc⟩
    all_goals
      have HI := Lib.hid hi
      have HCE := Lib.hid hc.symm
      clear hi hc
      try have hv := of_decide_eq_true v1
      try have hv := of_decide_eq_false v1
      go_enter Try.func11, Try.ntmps11
      go_wp2_with (first
        | (go_at_call 37; go_must (refine (areDays_any _ _).mono ?_); rintro e w_ ⟨rfl, rfl⟩; rw [HI.out])
        | (go_at_call 36; go_must (refine (PC.out _ _ (M.out.sl HS.out)).mono ?_); rintro e w_ ⟨rfl, N_⟩; have m := M.out.join N_; clear N_; simp only [List.cons_append, List.nil_append, List.append_nil] at m; have M := Lib.hid m; clear m; rw [HCE.out])
        )
      go_ret2
      rw [HR.out, HC.out]
      exact ⟨rfl, M.out.take 0⟩
set_option maxRecDepth 100000 in
set_option maxHeartbeats 4000000 in
theorem spec_HandsFor_any (A : Option Addr) (n : Nat) (xs : List Plot) (hx : ∀ x ∈ xs, x.ok) (hl : xs.length ≤ 1048576) (hn : xs.length ≤ n) (hA : SlOk A n) (d v : Int) (w : World) (hs : Sl w 4 A xs.length (flat Plot.vals xs)) :
    Calls Try.prog 9 #[.slice A xs.length n, .int .i64 d, .int .i64 v] w fun e w' => e = .returned (.tuple #[.int .i64 (hfRes xs d v), .int .i64 (hfCode xs d v)]) ∧ Mem w w' [] := by
  have M := Lib.hid (Mem.start w)
  have HX := Lib.hid hx
  have HS := Lib.hid hs
  have PC := Lib.hid (fun b w hs => l07Asked_any A n xs hx hl b w hs)
  clear hx hs
  have HAS := Lib.hid (show hfAsk d v = (inB d 1 20 && decide (0 ≤ v)) from rfl)
  by_cases hk : plCode xs (hfAsk d v) = 0
  · obtain ⟨hok, hask⟩ := plCode_0 hk
    have HK := Lib.hid hk
    have hask2 := hask
    rw [hfAsk, Bool.and_eq_true, decide_eq_true_eq] at hask2
    have HIN := Lib.hid hask2.1
    have hv0 := hask2.2
    obtain ⟨d0, d1⟩ := inB_iff.1 hask2.1
    obtain ⟨D, rfl⟩ : ∃ D : Nat, d = D := ⟨d.toNat, by omega⟩
    have HFI := Lib.hid (plotsOk_iff.1 hok).1
    have hl6 := (plotsOk_iff.1 hok).2
    have HR := Lib.hid (show hfRes xs D v = hfTo xs D v by rw [hfRes, if_pos hk]; rfl)
    have HC := Lib.hid (show hfCode xs D v = if hfTo xs D v = 0 then 6 else 0 by rw [hfCode, if_pos hk]; rfl)
    have HASK := Lib.hid hask
    clear hk hok hask hask2
    have v1 : decide (0 ≤ v) = true := decide_eq_true hv0
    go_enter Try.func9, Try.ntmps9
    go_wp2_with (first
      | (go_at_call 33; go_must (refine (l07Days_any _ _).mono ?_); rintro e w_ ⟨rfl, rfl⟩; rw [HIN.out])
      | (go_at_call 32; go_must (refine (PC.out _ _ (M.out.sl HS.out)).mono ?_); rintro e w_ ⟨rfl, N_⟩; have m := M.out.join N_; clear N_; simp only [List.cons_append, List.nil_append, List.append_nil] at m; have M := Lib.hid m; clear m; rw [show plCode xs true = 0 by have := HK.out; rwa [HASK.out] at this])
      )
    go_loopw [9] (fun u wr => ∃ h : Nat, 1 ≤ h ∧ h ≤ 4 ∧ u = .int .i64 h ∧ (∀ j, 1 ≤ j → j < h → hfAt xs D v j = false) ∧ Mem w wr [])
      (fun u _ => 4 - (intOf u).toNat)
    case atStart => exact ⟨1, by omega, by omega, rfl, fun j h1 h2 => by omega, M.out⟩
    case round =>
      clear M
      obtain ⟨h, h1, h4, rfl, hb, m⟩ := hrel
      have M := Lib.hid m
      have HB := Lib.hid hb
      clear m hb
      by_cases hle : h ≤ 3
      · have i1 : (h : Int) ≤ 3 := by omega
        have HAT := Lib.hid (show hfAt xs D v h = decide (v ≤ mostOf xs h D []) from rfl)
        have CA := Lib.hid (fun (w : World) hs => fun B nb ht => try1_any A n xs HFI.out hl6 hn hA h (by omega) (by omega) D (by omega) B nb [] (by simp) (fun _ h => absurd h (by simp)) (fun e _ => by rw [capOf_nil]; omega) w hs ht)
        obtain ⟨mv, hmv⟩ : ∃ mv, mv = mostOf xs h D [] := ⟨_, rfl⟩
        rw [← hmv] at HAT CA
        clear hmv
        by_cases hq : v ≤ mv
        · have HQ := Lib.hid (show hfAt xs D v h = true by rw [HAT.out]; exact decide_eq_true hq)
          go_wp2_with (first
            | ((with_reducible refine gate_dst (N := 28) rfl ?_); go_must (refine M.out.ev_bs0 elem_int64 rfl rfl ?_); intro gv28 wv28 m; simp only [List.cons_append, List.nil_append] at m; have M := Lib.hid m; clear m)
            | (go_at_call 34; go_must (refine (CA.out _ (M.out.sl HS.out) _ _ (M.out.slof 0 rfl)).mono ?_); rintro e w_ ⟨rfl, N_⟩; have m := M.out.join N_; clear N_; simp only [List.cons_append, List.nil_append, List.append_nil] at m; have M := Lib.hid m; clear m)
            )
          go_ret2
          have hto := hfTo_at h1 hle HB.out HQ.out
          rw [HR.out, HC.out, hto, if_neg (by omega)]
          exact ⟨rfl, M.out.take 0⟩
        · have HQ := Lib.hid (show hfAt xs D v h = false by rw [HAT.out]; exact decide_eq_false hq)
          go_wp2_with (first
            | ((with_reducible refine gate_dst (N := 28) rfl ?_); go_must (refine M.out.ev_bs0 elem_int64 rfl rfl ?_); intro gv28 wv28 m; simp only [List.cons_append, List.nil_append] at m; have M := Lib.hid m; clear m)
            | (go_at_call 34; go_must (refine (CA.out _ (M.out.sl HS.out) _ _ (M.out.slof 0 rfl)).mono ?_); rintro e w_ ⟨rfl, N_⟩; have m := M.out.join N_; clear N_; simp only [List.cons_append, List.nil_append, List.append_nil] at m; have M := Lib.hid m; clear m)
            )
          refine ⟨⟨h + 1, by omega, by omega, by go_num, fun j j1 j2 => ?_, M.out.take 0⟩, by simp [intOf]; try omega⟩
          rcases Nat.lt_or_ge j h with h9 | h9
          · exact HB.out j j1 h9
          · rw [show j = h by omega]
            exact HQ.out
      · obtain rfl : h = 4 := by omega
        have i1 : ¬ (((4 : Nat) : Int) ≤ 3) := by omega
        go_wp2
        go_ret2
        have hto := hfTo_no HB.out
        rw [HR.out, HC.out, hto, if_pos rfl]
        exact ⟨rfl, M.out.take 0⟩
  · obtain ⟨cd, hcd⟩ : ∃ cd, cd = plCode xs (hfAsk d v) := ⟨_, rfl⟩
    have HR := Lib.hid (show hfRes xs d v = 0 by rw [hfRes, if_neg hk])
    have HC := Lib.hid (show hfCode xs d v = cd by rw [hfCode, if_neg hk, hcd])
    have HCD := Lib.hid hcd
    rw [← hcd] at hk
    clear hcd
    rw [HAS.out] at HCD
    have hcs : (inB d 1 20 = false ∧ cd = plCode xs false) ∨ (inB d 1 20 = true ∧ decide (0 ≤ v) = true ∧ cd = plCode xs true) ∨ (inB d 1 20 = true ∧ decide (0 ≤ v) = false ∧ cd = plCode xs false) := by
      have h := HCD.out
      cases hi : inB d 1 20 <;> cases hv : decide (0 ≤ v) <;> rw [hi, hv] at h
      · exact .inl ⟨rfl, h⟩
      · exact .inl ⟨rfl, h⟩
      · exact .inr (.inr ⟨rfl, rfl, h⟩)
      · exact .inr (.inl ⟨rfl, rfl, h⟩)
    clear HCD
    rcases hcs with ⟨hi, hc⟩ | ⟨hi, v1, hc⟩ | ⟨hi, v1, hc⟩
    all_goals
      have HI := Lib.hid hi
      have HCE := Lib.hid hc.symm
      clear hi hc
      try have hv := of_decide_eq_true v1
      try have hv := of_decide_eq_false v1
      go_enter Try.func9, Try.ntmps9
      go_wp2_with (first
        | (go_at_call 33; go_must (refine (l07Days_any _ _).mono ?_); rintro e w_ ⟨rfl, rfl⟩; rw [HI.out])
        | (go_at_call 32; go_must (refine (PC.out _ _ (M.out.sl HS.out)).mono ?_); rintro e w_ ⟨rfl, N_⟩; have m := M.out.join N_; clear N_; simp only [List.cons_append, List.nil_append, List.append_nil] at m; have M := Lib.hid m; clear m; rw [HCE.out])
        )
      go_ret2
      rw [HR.out, HC.out]
      exact ⟨rfl, M.out.take 0⟩
end Go.Proofs.Ytkodcfnofjkohaa
