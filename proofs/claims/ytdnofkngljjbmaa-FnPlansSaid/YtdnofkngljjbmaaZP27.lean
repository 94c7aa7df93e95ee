/- Texts of a proof, laid together: Worth, Src, Draws, Same, U8. -/
import Derived.Test.YtdnofkngljjbmaaZP13
import Derived.Test.YtdnofkngljjbmaaZP11
import Derived.Test.YtdnofkngljjbmaaZP04
import Derived.Test.YtdnofkngljjbmaaZP08
import Derived.Test.YtdnofkngljjbmaaZP07
import Derived.Test.YtdnofkngljjbmaaZP09
namespace Go.Proofs.Ytdnofkngljjbmaa
set_option linter.unusedSimpArgs false
set_option linter.unusedVariables false
open Go.RowKit
attribute [local go_sem] cell?_mk frozen?_mk

set_option maxRecDepth 100000 in
set_option maxHeartbeats 2000000 in
theorem WorthOf_any (A : Option Addr) (n : Nat) (xs : List Plot) (hx : ∀ x ∈ xs, x.ok) (h : Int) (B : Option Addr) (c : Nat) (p : List Int) (hok : planOk xs h p = true) (w : World) (hs : Sl w 4 A xs.length (flat Plot.vals xs)) (ht : Sl w 1 B p.length (flat oneI p)) :
    Calls Try.prog 14 #[.slice A xs.length n, .int .i64 h, .slice B p.length c] w fun e w' => e = .returned (.tuple #[.int .i64 (sumTo (wOf xs p) xs.length), .int .i64 0]) ∧ Mem w w' [] := by
  have M := Lib.hid (Mem.start w)
  obtain ⟨hf, h6, hpl, hd⟩ := planOk_iff hok
  have HS := Lib.hid hs
  have HT := Lib.hid ht
  have HOK := Lib.hid hok
  have VP := Lib.hid (fun (w : World) hs ht => ValidPlan_any A n xs hx (by omega) h B c p (by omega) w hs ht)
  have WO := Lib.hid (fun (w : World) hs ht => worths_any A n xs hf h6 B c p hpl (fun d hd' => by have := hd d hd'; omega) w hs ht)
  have TO := Lib.hid (fun A c (w : World) h1 => total_any A c (worthsOf xs p) (by rw [worthsOf_len]; exact h6) (fun i => by
    rcases Nat.lt_or_ge i xs.length with hi | hi
    · rw [worthsOf_gi hi]; exact wOf_b hf p i
    · unfold gi
      rw [List.getD_eq_getElem?_getD, List.getElem?_eq_none (by rw [worthsOf_len]; omega)]
      exact ⟨Int.le_refl _, by decide⟩) w h1)
  rw [worthsOf_len, show sumTo (gi (worthsOf xs p)) xs.length = sumTo (wOf xs p) xs.length from sumTo_congr _ fun i hi => worthsOf_gi hi] at TO
  clear hx hs ht hf hd hok hpl
  go_enter Try.func14, Try.ntmps14
  go_wp2_with (first
    | (go_at_call 17; go_must (refine (VP.out _ (M.out.sl HS.out) (M.out.sl HT.out)).mono ?_); rintro e w_ ⟨rfl, N_⟩; have m := M.out.join N_; clear N_; simp only [List.cons_append, List.nil_append, List.append_nil] at m; have M := Lib.hid m; clear m; rw [HOK.out])
    | (go_at_call 62; go_must (refine (WO.out _ (M.out.sl HS.out) (M.out.sl HT.out)).mono ?_); rintro e w_ ⟨A_, c_, rfl, hc_, N_⟩; have m := M.out.join N_; clear N_; simp only [List.cons_append, List.nil_append, List.append_nil] at m; have M := Lib.hid m; clear m)
    | (go_at_call 61; go_must (refine (TO.out _ _ _ (M.out.slof 0 rfl)).mono ?_); rintro e w_ ⟨rfl, rfl⟩)
    )
  go_ret2
  exact ⟨rfl, M.out.take 0⟩
end Go.Proofs.Ytdnofkngljjbmaa
namespace Go.Proofs.Ytdnofkngljjbmaa
set_option linter.unusedSimpArgs false
set_option linter.unusedVariables false
open Go.RowKit
attribute [local go_sem] cell?_mk frozen?_mk

def oneB (x : Int) : List Value := [.int .u8 x]
theorem oneB_len (x : Int) : (oneB x).length = 1 := rfl
/-- What a source holds behind some draws. -/
def srcCells (A : Option Addr) (n c k : Nat) (sd : Int) : Array Value := #[.slice A n c, .int .i64 k, .int .u64 sd]
structure Bytes (bs : List Int) : Prop where
  byte : ∀ b ∈ bs, 0 ≤ b ∧ b ≤ 255
  len : bs.length ≤ 4096
theorem u64_nat (x : Int) : ∃ s : Nat, s < 18446744073709551616 ∧ IntKind.u64.wrap x = (s : Int) := by
  have h : IntKind.u64.wrap x = x % 18446744073709551616 := by
    unfold IntKind.wrap
    simp [IntKind.signed, IntKind.bits]
  exact ⟨(x % 18446744073709551616).toNat, by omega, by omega⟩
theorem seed_nat {w0 w : World} {L : List Ent} {i g : Nat} {t : TypeId} {cs : Array Value} {z : Int} (M : Mem w0 w (L.set i (.blk g t (cs.setIfInBounds 2 (.int .u64 (IntKind.u64.wrap z)))))) :
    ∃ s : Nat, s < 18446744073709551616 ∧ Mem w0 w (L.set i (.blk g t (cs.setIfInBounds 2 (.int .u64 s)))) := by
  obtain ⟨s, h1, h2⟩ := u64_nat z
  rw [h2] at M
  exact ⟨s, h1, M⟩
set_option maxRecDepth 100000 in
set_option maxHeartbeats 2000000 in
theorem next_any {w0 w : World} {L : List Ent} (i : Nat) (M0 : Mem w0 w L) (g : Nat) (A : Option Addr) (c : Nat) (bs : List Int) (hb : Bytes bs) (k : Nat) (hk : k ≤ 1099511627776) (sd : Int) (hL : L[i]? = some (.blk g 152 (srcCells A bs.length c k sd))) (hs : Sl w 1 A bs.length (flat oneB bs)) :
    Calls Try.prog 112 #[.pointer (some ⟨g, 0, none⟩)] w fun e w' => ∃ r sd', e = .returned (.int .i64 r) ∧ 0 ≤ r ∧ r ≤ 255 ∧ Mem w0 w' (L.set i (.blk g 152 (srcCells A bs.length c (k + 1) sd'))) := by
  have M := Lib.hid M0
  have HL := Lib.hid hL
  have HS := Lib.hid hs
  have HB := Lib.hid hb
  have hbl := hb.len
  have HSET := Lib.hid (fun (e : Ent) => show (L.set i e)[i]? = some e from List.getElem?_set_self (List.getElem?_eq_some_iff.1 hL).1)
  clear M0 hL hs hb
  have c0 := M.out.cell i HL.out (j := 0) (v := .slice A bs.length c) rfl
  have c1 := M.out.cell i HL.out (j := 1) (v := .int .i64 k) rfl
  have w1 : IntKind.i64.wrap ((k : Int) + 1) = (k : Int) + 1 := IntWalk.i64_in _ (by omega)
  by_cases hlt : k < bs.length
  · obtain ⟨b, off, rfl, hr⟩ := HS.out.2 (by omega)
    have hxk : bs[k]? = some bs[k] := List.getElem?_eq_getElem hlt
    have x0 : w.cell? ⟨b, off + k, none⟩ = some (.int .u8 bs[k]) := by simpa [oneB] using range_at oneB_len hr hxk 0 _ rfl
    have hbb := HB.out.byte _ (List.getElem_mem hlt)
    obtain ⟨y, hy⟩ : ∃ y, y = bs[k] := ⟨_, rfl⟩
    rw [← hy] at x0 hbb
    have i0 : (0 : Int) ≤ (k : Int) := by omega
    have i1 : (k : Int) < (bs.length : Int) := by omega
    clear hr hxk hy
    go_enter Try.func112, Try.ntmps112
    go_wp2_with fail
    go_quiet (fail)
    have M := Lib.hid (M.out.drewN nq)
    obtain ⟨wz, hwz⟩ : ∃ wz, wz = w.drewN nq := ⟨_, rfl⟩
    rw [← hwz] at M ⊢
    have x1 : wz.cell? ⟨b, off + k, none⟩ = some (.int .u8 y) := by rw [hwz]; exact x0
    clear hwz
    go_wp2
    have c2 := M.out.cell i HL.out (j := 0) (v := .slice (some ⟨b, off, none⟩) bs.length c) rfl
    have c3 := M.out.cell i HL.out (j := 1) (v := .int .i64 k) rfl
    go_quiet (fail)
    have M := Lib.hid (M.out.drewN nq)
    go_wp2_with (first
      | ((with_reducible refine gate_store (x := .tmp 31) rfl ?_); go_must (refine M.out.ev_put i _ _ _ rfl rfl HL.out rfl (.int .i64 ((k : Int) + 1)) rfl (show 1 < 3 by decide) sz3 rfl rfl ?_); intro w31 m; have M := Lib.hid m; clear m; have c5 := M.out.cell i (HSET.out _) (j := 2) (v := .int .u64 sd) rfl)
      | ((with_reducible refine gate_store (x := .tmp 43) rfl ?_); go_must (refine M.out.ev_put i _ _ _ rfl rfl (HSET.out _) rfl _ rfl (show 2 < 3 by decide) sz54 rfl rfl ?_); intro w43 m; rw [List.set_set] at m; have M := Lib.hid m; clear m; have c6 := M.out.cell i (HSET.out _) (j := 0) (v := .slice (some ⟨b, off, none⟩) bs.length c) rfl; have c7 := M.out.cell i (HSET.out _) (j := 1) (v := .int .i64 ((k : Int) + 1)) rfl)
      )
    go_quiet (fail)
    have M := Lib.hid (M.out.drewN nq)
    go_wp2
    go_ret
    exact ⟨_, _, rfl, hbb.1, hbb.2, M.out⟩
  · have i1 : ¬ ((k : Int) < (bs.length : Int)) := by omega
    have i2 : ¬ ((k : Int) + 1 ≤ (bs.length : Int)) := by omega
    go_enter Try.func112, Try.ntmps112
    go_wp2_with fail
    go_quiet (fail)
    have M := Lib.hid (M.out.drewN nq)
    obtain ⟨wz, hwz⟩ : ∃ wz, wz = w.drewN nq := ⟨_, rfl⟩
    rw [← hwz] at M ⊢
    clear hwz
    have c3 := M.out.cell i HL.out (j := 1) (v := .int .i64 k) rfl
    go_wp2_with (first
      | ((with_reducible refine gate_store (x := .tmp 31) rfl ?_); go_must (refine M.out.ev_put i _ _ _ rfl rfl HL.out rfl (.int .i64 ((k : Int) + 1)) rfl (show 1 < 3 by decide) sz3 rfl rfl ?_); intro w31 m; have M := Lib.hid m; clear m; have c5 := M.out.cell i (HSET.out _) (j := 2) (v := .int .u64 sd) rfl)
      | ((with_reducible refine gate_store (x := .tmp 43) rfl ?_); go_must (refine M.out.ev_put i _ _ _ rfl rfl (HSET.out _) rfl (.int .u64 _) rfl (show 2 < 3 by decide) sz54 rfl rfl ?_); intro w43 m; rw [List.set_set] at m; obtain ⟨s, hsl, m⟩ := seed_nat m; have M := Lib.hid m; clear m; have c6 := M.out.cell i (HSET.out _) (j := 0) (v := .slice A bs.length c) rfl; have c7 := M.out.cell i (HSET.out _) (j := 1) (v := .int .i64 ((k : Int) + 1)) rfl)
      )
    go_quiet (fail)
    have M := Lib.hid (M.out.drewN nq)
    obtain ⟨wy, hwy⟩ : ∃ wy, wy = w43.drewN nq := ⟨_, rfl⟩
    rw [← hwy] at M ⊢
    clear hwy
    have c8 := M.out.cell i (HSET.out _) (j := 2) (v := .int .u64 s) rfl
    obtain ⟨q, hq⟩ : ∃ q, q = s / 1099511627776 := ⟨_, rfl⟩
    have hqs : q < 18446744073709551616 := by omega
    have s2 : (s : Int).fdiv (2 ^ min (Int.toNat 40) IntKind.u64.bits) = (q : Int) := by
      rw [show min (Int.toNat 40) IntKind.u64.bits = 40 from rfl, show (2 : Int) ^ 40 = 1099511627776 from rfl, Int.fdiv_eq_ediv_of_nonneg _ (by omega)]
      omega
    have b1 : bits .and .u64 ((s : Int) / 1099511627776) 255 = ((q &&& 255 : Nat) : Int) := by
      rw [show (s : Int) / 1099511627776 = (q : Int) by omega]
      exact bits_and_u64_nat q 255 hqs (by decide)
    obtain ⟨r, hr⟩ : ∃ r, r = q &&& 255 := ⟨_, rfl⟩
    have hr2 : r ≤ 255 := by rw [hr]; exact Nat.and_le_right
    rw [← hr] at b1
    have w3 : IntKind.u64.wrap (q : Int) = (q : Int) := IntWalk.u64_in _ (by omega)
    have w4 : IntKind.u64.wrap (r : Int) = (r : Int) := IntWalk.u64_in _ (by omega)
    have B1 := Lib.hid b1
    clear hr hq
    go_wp2
    go_ret
    refine ⟨_, _, rfl, ?_, ?_, M.out⟩
    all_goals
      try rw [B1.out]
      try unfold wrap64
      omega
/-- What a draw leaves: the source, some draws on. -/
def Drew (w0 w' : World) (L : List Ent) (i g : Nat) (A : Option Addr) (n c k : Nat) : Prop := ∃ k' sd', k' ≤ k + 2 ∧ Mem w0 w' (L.set i (.blk g 152 (srcCells A n c k' sd')))
theorem set_id {α : Type} {L : List α} {i : Nat} {x : α} (h : L[i]? = some x) : L.set i x = L := by
  obtain ⟨h1, rfl⟩ := List.getElem?_eq_some_iff.1 h
  exact List.set_getElem_self h1
set_option maxRecDepth 100000 in
set_option maxHeartbeats 2000000 in
theorem pick_any {w0 w : World} {L : List Ent} (i : Nat) (M0 : Mem w0 w L) (g : Nat) (A : Option Addr) (c : Nat) (bs : List Int) (hb : Bytes bs) (k : Nat) (hk : k ≤ 1099511600000) (sd : Int) (hL : L[i]? = some (.blk g 152 (srcCells A bs.length c k sd))) (hs : Sl w 1 A bs.length (flat oneB bs)) (n : Int) (hn : n ≤ 200) :
    Calls Try.prog 52 #[.pointer (some ⟨g, 0, none⟩), .int .i64 n] w fun e w' => ∃ r, e = .returned (.int .i64 r) ∧ 0 ≤ r ∧ r < max 1 n ∧ Drew w0 w' L i g A bs.length c k := by
  have M := Lib.hid M0
  have HL := Lib.hid hL
  have NX := Lib.hid (next_any i M0 g A c bs hb k (by omega) sd hL hs)
  clear M0 hL hs
  by_cases hn1 : n ≤ 1
  · go_enter Try.func52, Try.ntmps52
    go_wp2
    go_ret
    exact ⟨0, rfl, by omega, by omega, k, sd, by omega, by rw [set_id HL.out]; exact M.out⟩
  · have hn2 : ¬ (200 < n) := by omega
    have hn0 : ¬ (n = 0) := by omega
    have q0 : (n == 0) = false := by rw [beq_eq_false_iff_ne]; exact hn0
    go_enter Try.func52, Try.ntmps52
    go_wp2_with (first
      | (go_at_call 112; go_must (refine NX.out.mono ?_); rintro e w_ ⟨r, sd1, rfl, hr0, hr1, m⟩; have M := Lib.hid m; clear m; have ht : r.tmod n = r % n := Int.tmod_eq_emod_of_nonneg hr0)
      )
    go_ret
    refine ⟨_, rfl, ?_, ?_, k + 1, sd1, by omega, M.out⟩
    · first
        | exact Int.emod_nonneg _ hn0
        | (rw [ht]; exact Int.emod_nonneg _ hn0)
    · have := Int.emod_lt_of_pos r (by omega : 0 < n)
      first
        | omega
        | (rw [ht]; omega)
set_option maxRecDepth 100000 in
set_option maxHeartbeats 2000000 in
theorem l00From_any (A : Option Addr) (n c : Nat) (w : World) :
    Calls Try.prog 51 #[.slice A n c] w fun e w' => ∃ g, e = .returned (.pointer (some ⟨g, 0, none⟩)) ∧ Mem w w' [.blk g 152 (srcCells A n c 0 0)] := by
  have M := Lib.hid (Mem.start w)
  go_enter Try.func51, Try.ntmps51
  go_wp2_with (first
    | ((with_reducible refine gate_dst (N := 5) rfl ?_); go_must (refine M.out.ev_new rfl (by first | (go_simp; done) | (go_simp; rfl)) ?_); intro g5 w5 m; simp only [List.cons_append, List.nil_append] at m; have M := Lib.hid m; clear m)
    )
  go_ret
  exact ⟨_, rfl, M.out⟩
set_option maxRecDepth 100000 in
set_option maxHeartbeats 2000000 in
theorem P6Pick_any (A : Option Addr) (c : Nat) (bs : List Int) (hb : Bytes bs) (n : Int) (hn : n ≤ 200) (w : World) (hs : Sl w 1 A bs.length (flat oneB bs)) :
    Calls Try.prog 8 #[.slice A bs.length c, .int .i64 n] w fun e w' => ∃ r, e = .returned (.int .i64 r) ∧ 0 ≤ r ∧ r < max 1 n ∧ Mem w w' [] := by
  have M := Lib.hid (Mem.start w)
  have HS := Lib.hid hs
  clear hs
  go_enter Try.func8, Try.ntmps8
  go_wp2_with (first
    | (go_at_call 51; go_must (refine (l00From_any A bs.length c _).mono ?_); rintro e w_ ⟨g, rfl, N_⟩; have m := M.out.join N_; clear N_; simp only [List.cons_append, List.nil_append, List.append_nil] at m; have M := Lib.hid m; clear m)
    | (go_at_call 52; go_must (refine (pick_any 0 M.out g A c bs hb 0 (by omega) 0 rfl (M.out.sl HS.out) n hn).mono ?_); rintro e w_ ⟨r, rfl, hr0, hr1, k1, sd1, hk1, m⟩; have M := Lib.hid m; clear m)
    )
  go_ret
  exact ⟨_, rfl, hr0, hr1, M.out.take 0⟩
end Go.Proofs.Ytdnofkngljjbmaa
namespace Go.Proofs.Ytdnofkngljjbmaa
set_option linter.unusedSimpArgs false
set_option linter.unusedVariables false
open Go.RowKit
attribute [local go_sem] cell?_mk frozen?_mk
--ONES exact Plot.one _

def numOf : Value → Int | .int _ x => x | _ => 0
set_option maxRecDepth 100000 in
set_option maxHeartbeats 8000000 in
theorem l07Drawn_any {w0 w : World} (g : Nat) (A : Option Addr) (c : Nat) (bs : List Int) (hb : Bytes bs) (k : Nat) (hk : k ≤ 1000000) (sd : Int) (M0 : Mem w0 w [.blk g 152 (srcCells A bs.length c k sd)]) (hs : Sl w0 1 A bs.length (flat oneB bs)) :
    Calls Try.prog 50 #[.pointer (some ⟨g, 0, none⟩)] w fun e w' => ∃ (xs : List Plot) (B : Option Addr) (cp k' : Nat) (sd' : Int), e = .returned (.slice B xs.length cp) ∧ (∀ x ∈ xs, x.fine = true) ∧ xs.length ≤ 4 ∧ xs.length ≤ cp ∧ k' ≤ k + 100 ∧ Mem w0 w' [.blk g 152 (srcCells A bs.length c k' sd'), .row (.slice B xs.length cp) 40 4 xs.length (flat Plot.vals xs)] := by
  have M := Lib.hid M0
  have HS := Lib.hid hs
  clear M0 hs
  go_enter Try.func50, Try.ntmps50
  go_wp2_with (first
    | ((with_reducible refine gate_dst (N := 6) rfl ?_); go_must (refine M.out.ev_bs0 elem_Plot rfl rfl ?_); intro gv6 wv6 m; simp only [List.cons_append, List.nil_append] at m; have M := Lib.hid m; clear m)
    | (go_at_call 52; go_must (refine (pick_any 0 M.out g A c bs hb _ (by omega) _ rfl (M.out.sl HS.out) _ (by decide)).mono ?_); rintro e w_ ⟨r, rfl, hr0, hr1, k1, sd1, hk1, m⟩; simp only [List.set_cons_zero] at m; have M := Lib.hid m; clear m; have hr2 : IntKind.i16.wrap r = r := IntWalk.i16_in _ (by omega))
    )
  go_loopw [3, 4] (fun s v wr => ∃ (xs : List Plot) (r k' : Nat) (sd' : Int), v = .int .i64 r ∧ xs.length + r ≤ 4 ∧ (∀ x ∈ xs, x.fine = true) ∧ k' ≤ k + 2 + 8 * xs.length ∧ Mem w0 wr [.blk g 152 (srcCells A bs.length c k' sd'), .row s 40 4 xs.length (flat Plot.vals xs)])
    (fun _ v _ => (intOf v).toNat)
  case atStart => exact ⟨[], r.toNat, k1, sd1, by rw [Int.toNat_of_nonneg hr0], by simp; omega, fun x h => absurd h (by simp), by simp; omega, M.out⟩
  case round =>
    clear M
    obtain ⟨xs, r0, k', sd', rfl, hx4, hf, hk', m⟩ := hrel
    have M := Lib.hid m
    have HF := Lib.hid hf
    clear m hf
    by_cases h0 : 0 < r0
    · have i0 : (0 : Int) < (r0 : Int) := by omega
      go_wp2_with (first
        | (go_at_call 52; go_must (first | (refine Calls.mono (calls_args (by with_reducible rfl) (pick_any 0 M.out g A c bs hb _ (by omega) _ rfl (M.out.sl HS.out) 30 (by decide))) ?_; rintro e w_ ⟨ra, rfl, h0ra, h1ra, k1, sd1, hk1, m⟩; simp only [List.set_cons_zero] at m; have M := Lib.hid m; clear m; have h2ra : IntKind.i16.wrap ra = ra := IntWalk.i16_in _ (by omega)) | (refine Calls.mono (calls_args (by with_reducible rfl) (pick_any 0 M.out g A c bs hb _ (by omega) _ rfl (M.out.sl HS.out) 5 (by decide))) ?_; rintro e w_ ⟨rb, rfl, h0rb, h1rb, k1, sd1, hk1, m⟩; simp only [List.set_cons_zero] at m; have M := Lib.hid m; clear m; have h2rb : IntKind.i16.wrap rb = rb := IntWalk.i16_in _ (by omega)) | (refine Calls.mono (calls_args (by with_reducible rfl) (pick_any 0 M.out g A c bs hb _ (by omega) _ rfl (M.out.sl HS.out) 6 (by decide))) ?_; rintro e w_ ⟨rc, rfl, h0rc, h1rc, k1, sd1, hk1, m⟩; simp only [List.set_cons_zero] at m; have M := Lib.hid m; clear m; have h2rc : IntKind.i16.wrap rc = rc := IntWalk.i16_in _ (by omega)) | (refine Calls.mono (calls_args (by with_reducible rfl) (pick_any 0 M.out g A c bs hb _ (by omega) _ rfl (M.out.sl HS.out) 8 (by decide))) ?_; rintro e w_ ⟨rd, rfl, h0rd, h1rd, k1, sd1, hk1, m⟩; simp only [List.set_cons_zero] at m; have M := Lib.hid m; clear m; have h2rd : IntKind.i16.wrap rd = rd := IntWalk.i16_in _ (by omega))))
        | ((with_reducible refine gate_dst (N := 5) rfl ?_); go_must (refine M.out.ev_new rfl (by first | (go_simp; done) | (go_simp; rfl)) ?_); intro g5 w5 m; simp only [List.cons_append, List.nil_append] at m; have M := Lib.hid m; clear m)
        | ((with_reducible refine gate_store (x := .tmp 5) rfl ?_); go_must (refine M.out.ev_stw 2 _ _ _ rfl rfl rfl rfl _ rfl (by first | rfl | (simp only [S1.out]; rfl) | (simp only [S1.out, S2.out]; rfl) | (simp only [S3.out]; rfl) | (simp only [S1.out, S2.out, S3.out]; rfl)) (by first | exact sz40 | (rw [S1.out]; exact sz40) | (rw [S2.out]; exact sz40) | (rw [S3.out]; exact sz40)) (by first | exact ints_one _ _ | exact Fld.one _ | exact O1.out | exact Plot.one _ | rfl | (simp [Value.oneCell']; done)) rfl ?_); intro wn m; simp only [List.set_cons_succ, List.set_cons_zero, List.setIfInBounds_toArray] at m; have M := Lib.hid m; clear m)
        | ((with_reducible refine gate_store (x := .tmp 23) rfl ?_); go_must (refine M.out.ev_put 2 _ _ _ rfl rfl rfl rfl (.int _ _) rfl (by first | assumption | exact Fld.lt0 _ | exact Fld.lt1 _ | (simp; done) | (simp only [ints_size]; omega)) sz38 rfl rfl ?_); intro wn m; simp only [List.set_cons_succ, List.set_cons_zero, List.setIfInBounds_toArray] at m; have M := Lib.hid m; clear m)
        | ((with_reducible refine gate_store (x := .tmp 27) rfl ?_); go_must (refine M.out.ev_put 2 _ _ _ rfl rfl rfl rfl (.int _ _) rfl (by first | assumption | exact Fld.lt0 _ | exact Fld.lt1 _ | (simp; done) | (simp only [ints_size]; omega)) sz38 rfl rfl ?_); intro wn m; simp only [List.set_cons_succ, List.set_cons_zero, List.setIfInBounds_toArray] at m; have M := Lib.hid m; clear m)
        | ((with_reducible refine gate_dst (N := 29) rfl ?_); go_must (refine M.out.ev_ldw 2 _ _ rfl rfl rfl Try.underlying40 rfl (by first | exact sz40 | (rw [S1.out]; exact sz40) | (rw [S2.out]; exact sz40) | (rw [S3.out]; exact sz40)) rfl ?_))
        | ((with_reducible refine gate_dst (N := 30) rfl ?_); go_must (refine M.out.ev_bs1 elem_Plot rfl _ rfl (Plot.vals ⟨ra, rb, rc, rd⟩).toArray rfl rfl (by decide) ?_); intro g30 w30 m; simp only [List.cons_append, List.nil_append] at m; have M := Lib.hid m; clear m)
        | ((with_reducible refine gate_dst (N := 31) rfl ?_); go_must (refine M.out.ev_append1 1 3 elem_Plot rfl _ _ rfl rfl rfl rfl rfl rfl (by simp [Plot.vals, Value.oneCell']) (by omega) (by decide) ?_); intro v31 w31 m; simp only [List.set_cons_succ, List.set_cons_zero] at m; have M := Lib.hid m; clear m)
        )
      refine ⟨⟨xs ++ [⟨ra, rb, rc, rd⟩], r0 - 1, k1, sd1, by go_num, by simp; omega, fun x hx => ?_, by simp; omega, ?_⟩, by simp [intOf]; try omega⟩
      · rcases List.mem_append.1 hx with h | h
        · exact HF.out x h
        · rw [List.mem_singleton] at h
          subst h
          exact Plot.fine_iff.2 ⟨⟨by assumption, by show ra ≤ 1000; omega⟩, ⟨by assumption, by show rb ≤ 20; omega⟩, ⟨by assumption, by show rc ≤ 20; omega⟩, ⟨by assumption, by show rd ≤ 1000; omega⟩⟩
      · have m := M.out.take 2
        rw [flat_snoc, List.length_append]
        exact m
    · obtain rfl : r0 = 0 := by omega
      obtain ⟨B, cp, rfl, hc, _⟩ := M.out.row_slice 1 rfl
      go_wp2
      go_ret
      exact ⟨xs, B, cp, k', sd', rfl, HF.out, by omega, hc, by omega, M.out⟩
set_option maxRecDepth 100000 in
set_option maxHeartbeats 2000000 in
theorem P6Plots_any (A : Option Addr) (c : Nat) (bs : List Int) (hb : Bytes bs) (w : World) (hs : Sl w 1 A bs.length (flat oneB bs)) :
    Calls Try.prog 7 #[.slice A bs.length c] w fun e w' => ∃ (xs : List Plot) (B : Option Addr) (cp : Nat), e = .returned (.slice B xs.length cp) ∧ (∀ x ∈ xs, x.fine = true) ∧ xs.length ≤ 4 ∧ xs.length ≤ cp ∧ Mem w w' [.row (.slice B xs.length cp) 40 4 xs.length (flat Plot.vals xs)] := by
  have M := Lib.hid (Mem.start w)
  have HS := Lib.hid hs
  clear hs
  go_enter Try.func7, Try.ntmps7
  go_wp2_with (first
    | (go_at_call 51; go_must (refine (l00From_any A bs.length c _).mono ?_); rintro e w_ ⟨g, rfl, N_⟩; have m := M.out.join N_; clear N_; simp only [List.cons_append, List.nil_append, List.append_nil] at m; have M := Lib.hid m; clear m)
    | (go_at_call 50; go_must (refine (l07Drawn_any g A c bs hb 0 (by omega) 0 M.out HS.out).mono ?_); rintro e w_ ⟨xs, B, cp, k1, sd1, rfl, hf, h4, hcp, hk1, m⟩; have M := Lib.hid m; have HF := Lib.hid hf; clear m hf)
    )
  go_ret
  exact ⟨xs, B, cp, rfl, HF.out, h4, hcp, M.out.only [1] rfl (by decide)⟩
end Go.Proofs.Ytdnofkngljjbmaa
namespace Go.Proofs.Ytdnofkngljjbmaa
set_option linter.unusedSimpArgs false
set_option linter.unusedVariables false
open Go.RowKit
attribute [local go_sem] cell?_mk frozen?_mk

set_option maxRecDepth 100000 in
set_option maxHeartbeats 1000000 in
theorem l00Same_any (A B : Option Addr) (c d : Nat) (ks : List Int) (w : World) (hl : ks.length ≤ 1048576) (hx : Sl w 1 A ks.length (flat oneI ks)) (hy : Sl w 1 B ks.length (flat oneI ks)) :
    Calls Try.prog 65 #[.slice A ks.length c, .slice B ks.length d] w fun e w' => e = .returned (.bool true) ∧ Mem w w' [] := by
  have M := Lib.hid (Mem.start w)
  have HX := Lib.hid hx
  have HY := Lib.hid hy
  clear hx hy
  go_enter Try.func65, Try.ntmps65
  go_wp2
  go_loopw [5] (fun v wr => ∃ k : Nat, k ≤ ks.length ∧ v = .int .i64 k ∧ Mem w wr [])
    (fun v _ => ks.length - (intOf v).toNat)
  case atStart => exact ⟨0, by omega, rfl, M.out⟩
  case round =>
    clear M
    obtain ⟨k, hk, rfl, m⟩ := hrel
    have M := Lib.hid m
    clear m
    by_cases hlt : k < ks.length
    · obtain ⟨b, off, rfl, hr⟩ := (M.out.sl HX.out).2 (by omega)
      obtain ⟨b2, off2, rfl, hr2⟩ := (M.out.sl HY.out).2 (by omega)
      have hxk : ks[k]? = some ks[k] := List.getElem?_eq_getElem hlt
      have x0 : wr.cell? ⟨b, off + k, none⟩ = some (.int .i64 ks[k]) := by simpa [oneI] using range_at oneI_len hr hxk 0 _ rfl
      have y0 : wr.cell? ⟨b2, off2 + k, none⟩ = some (.int .i64 ks[k]) := by simpa [oneI] using range_at oneI_len hr2 hxk 0 _ rfl
      have i0 : (0 : Int) ≤ (k : Int) := by omega
      have i1 : (k : Int) < (ks.length : Int) := by omega
      clear hr hr2 hxk
      go_wp2_with fail
      go_quiet (fail)
      have M := Lib.hid (M.out.drewN nq)
      go_wp2
      exact ⟨⟨k + 1, by omega, by go_num, M.out⟩, by simp [intOf]; omega⟩
    · obtain rfl : k = ks.length := by omega
      go_wp2
      go_ret
      exact ⟨rfl, M.out⟩
set_option maxRecDepth 100000 in
set_option maxHeartbeats 1000000 in
theorem SameNumbers_any (A B : Option Addr) (c d : Nat) (ks : List Int) (w : World) (hl : ks.length ≤ 1048576) (hx : Sl w 1 A ks.length (flat oneI ks)) (hy : Sl w 1 B ks.length (flat oneI ks)) :
    Calls Try.prog 16 #[.slice A ks.length c, .slice B ks.length d] w fun e w' => e = .returned (.bool true) ∧ Mem w w' [] := by
  have M := Lib.hid (Mem.start w)
  have HX := Lib.hid hx
  have HY := Lib.hid hy
  clear hx hy
  go_enter Try.func16, Try.ntmps16
  go_wp2_with (first
    | (go_at_call 65; go_must (refine (l00Same_any A B c d ks _ hl (M.out.sl HX.out) (M.out.sl HY.out)).mono ?_); rintro e w_ ⟨rfl, N_⟩; have m := M.out.join N_; clear N_; simp only [List.cons_append, List.nil_append, List.append_nil] at m; have M := Lib.hid m; clear m)
    )
  go_ret
  exact ⟨rfl, M.out⟩
set_option maxRecDepth 100000 in
theorem f6big_any (A : Option Addr) (n c : Nat) (w : World) :
    Calls Try.prog 6 #[.slice A n c] w fun e w' => e = .returned (.bool (decide (4096 < n))) ∧ w = w' := by
  by_cases h : 4096 < n
  all_goals
    have h1 := h
    go_enter Try.func6, Try.ntmps6
    go_wp2
    go_ret
    refine ⟨?_, rfl⟩
    simp [h1]
    try omega
end Go.Proofs.Ytdnofkngljjbmaa
namespace Go.Proofs.Ytdnofkngljjbmaa
set_option linter.unusedSimpArgs false
set_option linter.unusedVariables false
open Go.RowKit

def U8.vals (x : Int) : List Value := oneB x
def U8.ok (x : Int) : Prop := 0 ≤ x ∧ x ≤ 255
def U8.ks : List IntKind := [.u8]
theorem U8.vl (x : Int) : (U8.vals x).length = 1 := rfl
theorem U8.of_conf (cs : List Value) (h : Conf U8.ks cs) : ∃ x : Int, U8.ok x ∧ U8.vals x = cs := by
  obtain ⟨e0, r, rfl, w0, h⟩ := h.cons
  obtain rfl := h.nil_eq
  exact ⟨e0, bounds_u8 w0, rfl⟩
theorem U8.bytes {bs : List Int} (h : ∀ x ∈ bs, U8.ok x) (hl : bs.length ≤ 4096) : Bytes bs := ⟨h, hl⟩
end Go.Proofs.Ytdnofkngljjbmaa
