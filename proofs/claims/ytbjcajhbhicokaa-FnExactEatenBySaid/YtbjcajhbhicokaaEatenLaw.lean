/- The law of what visits make for each flock: its walk. -/
import Derived.Test.YtbjcajhbhicokaaEaten
namespace Go.Proofs.Ytbjcajhbhicokaa
set_option linter.unusedSimpArgs false
set_option linter.unusedVariables false
open Go.RowKit
attribute [local go_sem] cell?_mk frozen?_mk

set_option maxRecDepth 100000 in
set_option maxHeartbeats 1000000 in
theorem markVisitK_any {w0 w : World} {L : List Ent} (i : Nat) (M0 : Mem w0 w L) (A : Option Addr) (c : Nat) (xs : List Visit) (hL : L[i]? = some (.row (.slice A xs.length c) 79 3 xs.length (flat Visit.vals xs))) (hl : xs.length ≤ 1048576) (s : Int) (s0 : 0 ≤ s) (s1 : s ≤ 100000000) :
    Calls Try.prog 49 #[.slice A xs.length c, .int .i64 s] w fun e w' => e = .returned (.int .i64 (s + 3 * xs.length)) ∧ Mem w0 w' (L.set i (.row (.slice A xs.length c) 79 3 xs.length (flat Visit.vals (marksVisit s xs.length)))) := by
  have M := Lib.hid M0
  have HL := Lib.hid hL
  have hi : i < L.length := (List.getElem?_eq_some_iff.1 hL).1
  clear M0 hL
  go_enter Try.func49, Try.ntmps49
  go_wp2
  go_loopw [1, 5] (fun u v wr => ∃ k : Nat, k ≤ xs.length ∧ v = .int .i64 k ∧ u = .int .i64 (s + 3 * (k : Int)) ∧ Mem w0 wr (L.set i (.row (.slice A xs.length c) 79 3 xs.length (flat Visit.vals (mixVisit s xs k)))))
    (fun _ v _ => xs.length - (intOf v).toNat)
  case atStart => exact ⟨0, by omega, rfl, by simp, by rw [mixVisit_0, set_same HL.out]; exact M.out⟩
  case round =>
    clear M
    obtain ⟨k, hk, rfl, rfl, m⟩ := hrel
    have M := Lib.hid m
    clear m
    by_cases hlt : k < xs.length
    · have hLs : ∀ e : Ent, (L.set i e)[i]? = some e := fun e => by rw [List.getElem?_set_self hi]
      obtain ⟨g, cap, he, _⟩ := M.out.row_form i (hLs _) (by omega)
      obtain ⟨rfl, rfl⟩ : A = some ⟨g, 0, none⟩ ∧ c = cap := by injection he with e1 _ e2; exact ⟨e1, e2⟩
      clear he
      have hk1 := mixVisit_at s hlt
      have HK1 := Lib.hid hk1
      have HLs := Lib.hid hLs
      have e0 : IntKind.i64.wrap (s + 3 * (k : Int) + 1) = s + 3 * (k : Int) + 1 := IntWalk.i64_in _ (by omega)
      have e1 : IntKind.i64.wrap (s + 3 * (k : Int) + 1 + 1) = s + 3 * (k : Int) + 1 + 1 := IntWalk.i64_in _ (by omega)
      have e2 : IntKind.i64.wrap (s + 3 * (k : Int) + 1 + 1 + 1) = s + 3 * (k : Int) + 1 + 1 + 1 := IntWalk.i64_in _ (by omega)
      have hl0 : k * 3 + 2 < (flat Visit.vals (mixVisit s xs k)).length := by rw [flat_len Visit.vl, mixVisit_len _ _ _ hk]; omega
      have HL0 := Lib.hid hl0
      clear hk1 hLs hl0
      go_wp2_with (first
        | ((with_reducible refine gate_store (x := .tmp 17) rfl ?_); go_must (refine M.out.ev_rput1 i _ _ _ rfl rfl (HLs.out _) rfl (.int .i8 (IntKind.i8.wrap (s + 3 * (k : Int)))) rfl (by have := HL0.out; first | omega | (simp only [List.length_set]; omega)) sz22 rfl rfl ?_); intro wn m; rw [List.set_set] at m; have M := Lib.hid m; clear m)
        | ((with_reducible refine gate_store (x := .tmp 25) rfl ?_); go_must (refine M.out.ev_rput1 i _ _ _ rfl rfl (HLs.out _) rfl (.int .i16 (IntKind.i16.wrap (s + 3 * (k : Int) + 1))) rfl (by have := HL0.out; first | omega | (simp only [List.length_set]; omega)) sz24 rfl rfl ?_); intro wn m; rw [List.set_set] at m; have M := Lib.hid m; clear m)
        | ((with_reducible refine gate_store (x := .tmp 33) rfl ?_); go_must (refine M.out.ev_rput1 i _ _ _ rfl rfl (HLs.out _) rfl (.int .i16 (IntKind.i16.wrap (s + 3 * (k : Int) + 1 + 1))) rfl (by have := HL0.out; first | omega | (simp only [List.length_set]; omega)) sz24 rfl rfl ?_); intro wn m; rw [List.set_set] at m; have M := Lib.hid m; clear m)
        )
      refine ⟨⟨k + 1, by omega, by go_num, ?_, ?_⟩, by simp [intOf]; omega⟩
      · first | (congr 1; done) | (congr 1; omega)
      · have m := M.out
        have hf := flat_putVisit (y := markVisit s k) HK1.out
        rw [mixVisit_set s hlt] at hf
        rw [← hf]
        exact m
    · obtain rfl : k = xs.length := by omega
      go_wp2
      go_ret
      exact ⟨rfl, by have m := M.out; rw [mixVisit_all] at m; exact m⟩
set_option maxRecDepth 100000 in
set_option maxHeartbeats 8000000 in
theorem lawEatenBy_any (F : Fld) (hF : F.ok) (A : Option Addr) (n : Nat) (xs : List Flock) (hx : ∀ x ∈ xs, x.ok) (hm : xs.length ≤ 9223372036854775807) (B : Option Addr) (c : Nat) (vs : List Visit) (hv : ∀ v ∈ vs, v.ok) (hm2 : vs.length ≤ 9223372036854775807) (w : World) (hs : Sl w 6 A xs.length (flat Flock.vals xs)) (ht : Sl w 3 B vs.length (flat Visit.vals vs)) :
    Calls Try.prog 9 #[.agg F.cells, .slice A xs.length n, .slice B vs.length c] w fun e w' => e = .returned (.bool true) ∧ Mem w w' [] := by
  have M := Lib.hid (Mem.start w)
  have HX := Lib.hid hx
  have HV := Lib.hid hv
  have HS := Lib.hid hs
  have HT := Lib.hid ht
  have S1 := Lib.hid (Fld.size hF.toLen)
  clear hx hs hv ht
  by_cases hl : xs.length ≤ 1048576
  · have hz : ¬ ((1048576 : Int) < xs.length) := by omega
    have hz0 : ¬ ((1048576 : Int) - xs.length < 0) := by omega
    by_cases hl2 : vs.length ≤ 1048576 - xs.length
    · have hlv : vs.length ≤ 1048576 := by omega
      have hy : ¬ ((1048576 : Int) - xs.length < vs.length) := by omega
      have HY := Lib.hid hy
      have hy0 : ¬ ((1048576 : Int) - xs.length - vs.length < 0) := by omega
      have hr := ebRes_len F xs vs hl
      have hk1 : ¬ (1 + 6 * (xs.length : Int) < 0) := by omega
      have IM := Lib.hid (fun A n B c w hs ht => impl_EatenBy_any F hF A n xs HX.out hl B c vs HV.out hlv w hs ht)
      have SP := Lib.hid (fun A n B c w hs ht => spec_EatenBy_any F hF A n xs HX.out hl B c vs HV.out hlv w hs ht)
      obtain ⟨R, hR⟩ : ∃ R, R = ebRes F xs vs := ⟨_, rfl⟩
      obtain ⟨C, hC⟩ : ∃ C, C = ebCode F xs vs := ⟨_, rfl⟩
      rw [← hR, ← hC] at IM SP
      rw [← hR] at hr
      have hk2 : ¬ (1 + (R.length : Int) < 0) := by omega
      have hk3 : ¬ (1 + 6 * (xs.length : Int) + 3 * (vs.length : Int) < 0) := by omega
      clear hR hC
      go_enter Try.func9, Try.ntmps9
      go_wp2_with (first
        | ((with_reducible refine gate_dst (N := 3) rfl ?_); go_must (refine M.out.ev_new rfl (by first | (go_simp; done) | (go_simp; rfl)) ?_); intro g3 w3 m; simp only [List.cons_append, List.nil_append] at m; have M := Lib.hid m; clear m)
        | ((with_reducible refine gate_dst (N := 30) rfl ?_); go_must (refine M.out.ev_ldw 0 _ _ rfl rfl rfl Try.underlying27 rfl (by first | exact sz27 | (rw [S1.out]; exact sz27) | (rw [S2.out]; exact sz27) | (rw [S3.out]; exact sz27)) rfl ?_))
        | ((with_reducible refine gate_dst (N := 44) rfl ?_); go_must (refine M.out.ev_ldw 0 _ _ rfl rfl rfl Try.underlying27 rfl (by first | exact sz27 | (rw [S1.out]; exact sz27) | (rw [S2.out]; exact sz27) | (rw [S3.out]; exact sz27)) rfl ?_))
        | ((with_reducible refine gate_dst (N := 101) rfl ?_); go_must (refine M.out.ev_ldw 0 _ _ rfl rfl rfl Try.underlying27 rfl (by first | exact sz27 | (rw [S1.out]; exact sz27) | (rw [S2.out]; exact sz27) | (rw [S3.out]; exact sz27)) rfl ?_))
        | (go_at_call 33; go_must (refine (szFlockS_any A xs.length n 1048576 _ (by omega) (by omega) hm).mono ?_); rintro e w_ ⟨rfl, rfl⟩; rw [if_neg hz])
        | (go_at_call 44; go_must (refine (szVisitS_any B vs.length c (1048576 - xs.length) _ (by omega) (by omega) hm2).mono ?_); rintro e w_ ⟨rfl, rfl⟩; rw [if_neg (by have := HY.out; omega)])
        | (go_at_call 16; go_must (refine (toField_any F hF.toLen _).mono ?_); rintro e w_ ⟨rfl, hB_⟩; have M := Lib.hid (M.out.kept hB_); clear hB_)
        | (go_at_call 35; go_must (refine (toFlockS_any A n xs _ hl (M.out.sl HS.out)).mono ?_); rintro e w_ ⟨A_, c_, rfl, hc_, N_⟩; have m := M.out.join N_; clear N_; simp only [List.cons_append, List.nil_append, List.append_nil] at m; have M := Lib.hid m; clear m)
        | (go_at_call 46; go_must (refine (toVisitS_any B c vs _ hlv (M.out.sl HT.out)).mono ?_); rintro e w_ ⟨A_, c_, rfl, hc_, N_⟩; have m := M.out.join N_; clear N_; simp only [List.cons_append, List.nil_append, List.append_nil] at m; have M := Lib.hid m; clear m)
        | (go_at_call 45; go_must (refine (SP.out _ _ _ _ _ (M.out.slof 1 rfl) (M.out.slof 2 rfl)).mono ?_); rintro e w_ ⟨A_, c_, rfl, hc_, N_⟩; have m := M.out.join N_; clear N_; simp only [List.cons_append, List.nil_append, List.append_nil] at m; have M := Lib.hid m; clear m)
        | (go_at_call 47; go_must (first | (refine Calls.mono (calls_args (by with_reducible rfl) (IM.out _ _ _ _ _ (M.out.slof 4 rfl) (M.out.slof 5 rfl))) ?_) | (refine Calls.mono (calls_args (by with_reducible rfl) (IM.out _ _ _ _ _ (M.out.slof 9 rfl) (M.out.slof 10 rfl))) ?_)); rintro e w_ ⟨A_, c_, rfl, hc_, N_⟩; have m := M.out.join N_; clear N_; simp only [List.cons_append, List.nil_append, List.append_nil] at m; have M := Lib.hid m; clear m)
        | (go_at_call 37; go_must (refine (eqFlockS_any _ _ _ _ xs xs _ hl (M.out.slof 4 rfl) (M.out.slof 7 rfl)).mono ?_); rintro e w_ ⟨rfl, N_⟩; have m := M.out.join N_; clear N_; simp only [List.cons_append, List.nil_append, List.append_nil] at m; have M := Lib.hid m; clear m; rw [decide_eq_true rfl])
        | (go_at_call 48; go_must (refine (eqVisitS_any _ _ _ _ vs vs _ hlv (M.out.slof 5 rfl) (M.out.slof 8 rfl)).mono ?_); rintro e w_ ⟨rfl, N_⟩; have m := M.out.join N_; clear N_; simp only [List.cons_append, List.nil_append, List.append_nil] at m; have M := Lib.hid m; clear m; rw [decide_eq_true rfl])
        | (go_at_call 26; go_must (first | (refine Calls.mono (calls_args (by with_reducible rfl) (eqI_any _ _ _ _ R _ hr (M.out.slof 6 rfl) (M.out.slof 3 rfl))) ?_) | (refine Calls.mono (calls_args (by with_reducible rfl) (eqI_any _ _ _ _ R _ hr (M.out.slof 11 rfl) (M.out.slof 3 rfl))) ?_)); rintro e w_ ⟨rfl, N_⟩; have m := M.out.join N_; clear N_; simp only [List.cons_append, List.nil_append, List.append_nil] at m; have M := Lib.hid m; clear m)
        | (go_at_call 38; go_must (refine (markFlock_any 4 M.out _ _ xs rfl hl).mono ?_); rintro e w_ ⟨rfl, m⟩; simp only [List.set_cons_succ, List.set_cons_zero] at m; have M := Lib.hid m; clear m)
        | (go_at_call 49; go_must (refine (markVisitK_any 5 M.out _ _ vs rfl hlv _ (by omega) (by omega)).mono ?_); rintro e w_ ⟨rfl, m⟩; simp only [List.set_cons_succ, List.set_cons_zero] at m; have M := Lib.hid m; clear m)
        | (go_at_call 29; go_must (refine (mark64_any 6 M.out _ _ _ _ rfl hr).mono ?_); rintro e w_ ⟨rfl, m⟩; simp only [List.set_cons_succ, List.set_cons_zero] at m; have M := Lib.hid m; clear m)
        | (go_at_call 30; go_must (refine (held64_any _ _ R.length hr _ (M.out.slof 6 rfl)).mono ?_); rintro e w_ ⟨rfl, rfl⟩))
      go_ret
      exact ⟨ret_bool rfl, M.out.take 0⟩
    · have hy : ((1048576 : Int) - xs.length < vs.length) := by omega
      have HY := Lib.hid hy
      go_enter Try.func9, Try.ntmps9
      go_wp2_with (first
        | ((with_reducible refine gate_dst (N := 3) rfl ?_); go_must (refine M.out.ev_new rfl (by first | (go_simp; done) | (go_simp; rfl)) ?_); intro g3 w3 m; simp only [List.cons_append, List.nil_append] at m; have M := Lib.hid m; clear m)
        | ((with_reducible refine gate_dst (N := 30) rfl ?_); go_must (refine M.out.ev_ldw 0 _ _ rfl rfl rfl Try.underlying27 rfl (by first | exact sz27 | (rw [S1.out]; exact sz27) | (rw [S2.out]; exact sz27) | (rw [S3.out]; exact sz27)) rfl ?_))
        | ((with_reducible refine gate_dst (N := 44) rfl ?_); go_must (refine M.out.ev_ldw 0 _ _ rfl rfl rfl Try.underlying27 rfl (by first | exact sz27 | (rw [S1.out]; exact sz27) | (rw [S2.out]; exact sz27) | (rw [S3.out]; exact sz27)) rfl ?_))
        | ((with_reducible refine gate_dst (N := 101) rfl ?_); go_must (refine M.out.ev_ldw 0 _ _ rfl rfl rfl Try.underlying27 rfl (by first | exact sz27 | (rw [S1.out]; exact sz27) | (rw [S2.out]; exact sz27) | (rw [S3.out]; exact sz27)) rfl ?_))
        | (go_at_call 33; go_must (refine (szFlockS_any A xs.length n 1048576 _ (by omega) (by omega) hm).mono ?_); rintro e w_ ⟨rfl, rfl⟩; rw [if_neg hz])
        | (go_at_call 44; go_must (refine (szVisitS_any B vs.length c (1048576 - xs.length) _ (by omega) (by omega) hm2).mono ?_); rintro e w_ ⟨rfl, rfl⟩; rw [if_pos HY.out]))
      go_ret
      exact ⟨ret_bool rfl, M.out.take 0⟩
  · have hz : (1048576 : Int) < xs.length := by omega
    go_enter Try.func9, Try.ntmps9
    go_wp2_with (first
      | ((with_reducible refine gate_dst (N := 3) rfl ?_); go_must (refine M.out.ev_new rfl (by first | (go_simp; done) | (go_simp; rfl)) ?_); intro g3 w3 m; simp only [List.cons_append, List.nil_append] at m; have M := Lib.hid m; clear m)
      | ((with_reducible refine gate_dst (N := 30) rfl ?_); go_must (refine M.out.ev_ldw 0 _ _ rfl rfl rfl Try.underlying27 rfl (by first | exact sz27 | (rw [S1.out]; exact sz27) | (rw [S2.out]; exact sz27) | (rw [S3.out]; exact sz27)) rfl ?_))
      | ((with_reducible refine gate_dst (N := 44) rfl ?_); go_must (refine M.out.ev_ldw 0 _ _ rfl rfl rfl Try.underlying27 rfl (by first | exact sz27 | (rw [S1.out]; exact sz27) | (rw [S2.out]; exact sz27) | (rw [S3.out]; exact sz27)) rfl ?_))
      | ((with_reducible refine gate_dst (N := 101) rfl ?_); go_must (refine M.out.ev_ldw 0 _ _ rfl rfl rfl Try.underlying27 rfl (by first | exact sz27 | (rw [S1.out]; exact sz27) | (rw [S2.out]; exact sz27) | (rw [S3.out]; exact sz27)) rfl ?_))
      | (go_at_call 33; go_must (refine (szFlockS_any A xs.length n 1048576 _ (by omega) (by omega) hm).mono ?_); rintro e w_ ⟨rfl, rfl⟩; rw [if_pos hz]))
    go_ret
    exact ⟨ret_bool rfl, M.out.take 0⟩
end Go.Proofs.Ytbjcajhbhicokaa
