/- A diary's text read by the reference: its walk. Condition: the text's size. -/
import Derived.Test.YtaepgjjmfopiiaaDoorReadI
import Derived.Test.YtaepgjjmfopiiaaDoorNum
namespace Go.Proofs.YtaepgjjmfopiiaaDoor
set_option linter.unusedSimpArgs false
set_option linter.unusedVariables false
open Go.RowKit
attribute [local go_sem] cell?_mk frozen?_mk
--ONES exact Entry.one _

theorem l01Split_row (l : List UInt8) (c : UInt8) (hl : l.length ≤ 1048576) (w : World) :
    Calls Tryd.prog 9 #[.string ⟨l.toArray⟩, .int .u8 (c.toNat : Nat)] w fun e w' => ∃ g cp, e = .returned (.slice (some ⟨g, 0, none⟩) (pieces c l).length cp) ∧ Mem w w' [.row (.slice (some ⟨g, 0, none⟩) (pieces c l).length cp) 9 1 (pieces c l).length (flat oneT (pieces c l))] := by
  refine (l01Split_any l c hl w).mono ?_
  rintro e w' ⟨A, cp, rfl, hc, M⟩
  obtain ⟨g, cap, he, _⟩ := M.row_form 0 rfl (List.length_pos_iff.2 (pieces_ne c l))
  injection he with h1 _ h3
  subst h1
  exact ⟨g, cp, rfl, M⟩
theorem kind_miss {p : List UInt8} (h : ∀ i : Nat, i < 4 → p ≠ wordOf i) : kindOf p = none := by
  cases hk : kindOf p with
  | none => rfl
  | some k =>
    obtain ⟨h1, h2⟩ := kindOf_le hk
    exact absurd h2 (h k (by omega))
theorem readE_step {P : List (List UInt8)} {q k : Nat} (hP : P.length = q + 1) (hk : k < q) (hk2 : k < P.length) (es : List Entry) :
    readE (P.dropLast.drop k) es = (entryOf P[k]).bind fun x => readE (P.dropLast.drop (k + 1)) (es ++ [x]) := by
  have hd : k < P.dropLast.length := by rw [List.length_dropLast]; omega
  rw [List.drop_eq_getElem_cons hd, readE, List.getElem_dropLast]
theorem readE_end {P : List (List UInt8)} {q : Nat} (hP : P.length = q + 1) (es : List Entry) : readE (P.dropLast.drop q) es = some es := by
  rw [List.drop_eq_nil_of_le (by rw [List.length_dropLast]; omega), readE]
set_option maxRecDepth 100000 in
set_option maxHeartbeats 4000000 in
theorem spec_ReadDiary_any (l : List UInt8) (hl : l.length ≤ 1048576) (w : World) :
    Calls Tryd.prog 4 #[.string ⟨l.toArray⟩] w (RetRowC w 37 3 (rdList l).length (flat Entry.vals (rdList l)) (rdCode l)) := by
  have M := Lib.hid (Mem.start w)
  have hq := readD_eq l
  have hple := pieces_le 10 l
  have hpn := pieces_len 10 l
  have hpc : l.count 10 ≤ l.length := List.count_le_length
  have SL0 := fun w => l01Split_row l 10 hl w
  generalize hQ : readD l = Q at hq
  have BAD := Lib.hid (fun (h : Q = none) => rd_none (hQ.trans h))
  have GOOD := Lib.hid (fun es (h : Q = some es) => rd_some (hQ.trans h))
  generalize pieces 10 l = P at hq hple hpn SL0
  obtain ⟨q, hPq⟩ : ∃ q, P.length = q + 1 := ⟨_, hpn⟩
  have hq20 : q ≤ 1048576 := by omega
  have hqP : q < P.length := by omega
  have hlast : P.getLast? = some P[q] := by
    rw [List.getLast?_eq_getElem?, hPq, Nat.add_sub_cancel, List.getElem?_eq_getElem hqP]
  rw [hlast] at hq
  have hPQ : (P.length : Int) = (q : Int) + 1 := by omega
  have e0 : IntKind.i64.wrap ((P.length : Int) - 1) = (q : Int) := by rw [hPQ]; exact (IntWalk.i64_in _ (by omega)).trans (by omega)
  have i0 : (0 : Int) ≤ (q : Int) := by omega
  have i1 : (q : Int) < (P.length : Int) := by omega
  have SL := Lib.hid SL0
  have HPLE := Lib.hid hple
  have HPQ := Lib.hid hPq
  have HLA := Lib.hid (oneT_at hqP)
  obtain ⟨Z, hZ⟩ : ∃ Z, Z = P[q] := ⟨_, rfl⟩
  rw [← hZ] at hq HLA
  clear hQ hpn hpc SL0 hple hlast hZ hPQ
  by_cases hz : Z = []
  · by_cases h100 : q ≤ 100
    · subst hz
      rw [if_pos ⟨rfl, by omega⟩] at hq
      have HQ := Lib.hid hq
      have f1 : decide ((100 : Int) < (q : Int)) = false := decide_eq_false (by omega)
      clear hq
      go_enter Tryd.func4, Tryd.ntmps4
      go_wp2_with (first
        | (go_at_call 9; go_must (refine (SL.out _).mono ?_); rintro e w_ ⟨gl, cl, rfl, N_⟩; have m := M.out.join N_; clear N_; simp only [List.cons_append, List.nil_append, List.append_nil] at m; have M := Lib.hid m; clear m)
        | ((with_reducible refine gate_dst (N := 22) rfl ?_); go_must (refine ev_get _ _ rfl rfl (M.out.row_cell 0 rfl HLA.out) Tryd.underlying9 rfl rfl ?_))
        | ((with_reducible refine gate_dst (N := 29) rfl ?_); go_must (refine M.out.ev_bs0 elem_Entry rfl rfl ?_); intro g0 w0 m; simp only [List.cons_append, List.nil_append] at m; have M := Lib.hid m; clear m)
        )
      go_loopw [6, 7] (fun o i wr => ∃ (k : Nat) (es : List Entry) (A : Option Addr) (cp : Nat), k ≤ q ∧ es.length ≤ k ∧ i = .int .i64 k ∧ Q = readE (P.dropLast.drop k) es ∧ o = .slice A es.length cp ∧ Mem w wr [.row (.slice (some ⟨gl, 0, none⟩) P.length cl) 9 1 P.length (flat oneT P), .row (.slice A es.length cp) 37 3 es.length (flat Entry.vals es)])
        (fun _ v _ => q - (intOf v).toNat)
      case atStart => exact ⟨0, [], some ⟨g0, 0, none⟩, 0, by omega, by simp, rfl, HQ.out, rfl, M.out⟩
      case round =>
        clear M HQ
        obtain ⟨k, es, A, cp, hk, he, rfl, hq, rfl, m⟩ := hrel
        have M := Lib.hid m
        clear m
        by_cases hlt : k < q
        · have hkP : k < P.length := by omega
          rw [readE_step HPQ.out hlt hkP] at hq
          have hpl := HPLE.out P[k] (List.getElem_mem hkP)
          have HLK := Lib.hid (oneT_at hkP)
          obtain ⟨p, hp⟩ : ∃ p, p = P[k] := ⟨_, rfl⟩
          rw [← hp] at hq hpl HLK
          have WS0 := fun w => l01Split_row p 32 (by omega) w
          have hpn := pieces_ne 32 p
          have hpe := pieces_le 32 p
          generalize hps : pieces 32 p = ps at WS0 hpn hpe
          have hps0 : 0 < ps.length := List.length_pos_iff.2 hpn
          have HP0 := Lib.hid (oneT_at hps0)
          obtain ⟨p0, hp0⟩ : ∃ x, x = ps[0] := ⟨_, rfl⟩
          rw [← hp0] at HP0
          have WS := Lib.hid WS0
          have HQ := Lib.hid hq
          have HP0V := Lib.hid hp0
          have HPE := Lib.hid hpe
          have HPS := Lib.hid hps
          have j0 : (0 : Int) ≤ (k : Int) := by omega
          have j1 : (k : Int) < (P.length : Int) := by omega
          have j2 : (k : Int) < (q : Int) := by omega
          have j3 : (0 : Int) < (ps.length : Int) := by omega
          clear hp WS0 hpn hpe hps hp0 hq
          go_wp2_with (first
            | (go_at_call 9; go_must (refine (WS.out _).mono ?_); rintro e w_ ⟨gw, cw, rfl, N_⟩; have m := M.out.join N_; clear N_; simp only [List.cons_append, List.nil_append, List.append_nil] at m; have M := Lib.hid m; clear m)
            | ((with_reducible refine gate_dst (N := 38) rfl ?_); go_must (refine ev_get _ _ rfl rfl (M.out.row_cell 0 rfl HLK.out) Tryd.underlying9 rfl rfl ?_))
            )
          go_loopw [9] (fun v wr => ∃ j : Nat, j ≤ 4 ∧ v = .int .i64 j ∧ (∀ i : Nat, i < j → p0 ≠ wordOf i) ∧ Mem w wr [.row (.slice (some ⟨gl, 0, none⟩) P.length cl) 9 1 P.length (flat oneT P), .row (.slice A es.length cp) 37 3 es.length (flat Entry.vals es), .row (.slice (some ⟨gw, 0, none⟩) ps.length cw) 9 1 ps.length (flat oneT ps)])
            (fun v _ => 4 - (intOf v).toNat)
          case atStart => exact ⟨0, by omega, rfl, fun i hi => absurd hi (Nat.not_lt_zero i), M.out⟩
          case round =>
            clear M
            obtain ⟨j, hj, rfl, hne, m⟩ := hrel
            have M := Lib.hid m
            clear m
            by_cases hj4 : j < 4
            · have WA0 := fun w => l07Word_any j hj4 w
              have jl : decide ((j : Int) ≤ 3) = true := decide_eq_true (by omega)
              by_cases hw : p0 = wordOf j
              · have HK := Lib.hid (show kindOf p0 = some j by rw [hw]; exact kindOf_word (by omega))
                have w1 : (p0 == wordOf j) = true := by rw [hw]; exact beq_self_eq_true _
                have w2 : (p0 != wordOf j) = false := by rw [bne, w1]; rfl
                obtain ⟨W, hW⟩ : ∃ W, W = wordOf j := ⟨_, rfl⟩
                rw [← hW] at WA0 w1 w2
                have WA := Lib.hid WA0
                clear hW WA0 hw hne
                go_wp2
                refine region_anyH (fun w' => Mem w w' [.row (.slice (some ⟨gl, 0, none⟩) P.length cl) 9 1 P.length (flat oneT P), .row (.slice A es.length cp) 37 3 es.length (flat Entry.vals es), .row (.slice (some ⟨gw, 0, none⟩) ps.length cw) 9 1 ps.length (flat oneT ps)]) (by kernel_rfl) ?_
                have m := M.out.drew
                clear M
                have M := Lib.hid m
                clear m
                apply takeH (i := 0) 40 rfl (by kernel_rfl) (by kernel_rfl) (by kernel_rfl) (fun _ _ _ h => h) rfl (by first | exact M.out | exact M.out.take 3)
                case' hy =>
                  refine Or.inl ⟨by first | rfl | (go_simp; done), ?_⟩
                  intro w hS
                  clear hS
                  go_simp
                  try with_reducible rfl
                try simp only [Act.put, List.getElem_toArray, List.getElem_cons_succ, List.getElem_cons_zero, List.setIfInBounds_toArray, List.set_cons_succ, List.set_cons_zero]
                apply takeH (i := 1) 41 rfl (by kernel_rfl) (by kernel_rfl) (by kernel_rfl) (fun _ _ _ h => h) rfl (by first | exact M.out | exact M.out.take 3)
                case' hy =>
                  refine Or.inl ⟨by first | rfl | (go_simp; done), ?_⟩
                  intro w hS
                  clear hS
                  go_simp
                  try with_reducible rfl
                try simp only [Act.put, List.getElem_toArray, List.getElem_cons_succ, List.getElem_cons_zero, List.setIfInBounds_toArray, List.set_cons_succ, List.set_cons_zero]
                apply takeH (i := 2) 42 rfl (by kernel_rfl) (by kernel_rfl) (by kernel_rfl) (fun _ _ _ h => h) rfl (by first | exact M.out | exact M.out.take 3)
                case' hy =>
                  refine Or.inl ⟨by first | rfl | (go_simp; done), ?_⟩
                  intro w hS
                  clear hS
                  go_simp
                  try with_reducible rfl
                try simp only [Act.put, List.getElem_toArray, List.getElem_cons_succ, List.getElem_cons_zero, List.setIfInBounds_toArray, List.set_cons_succ, List.set_cons_zero]
                apply takeH (i := 3) 43 rfl (by kernel_rfl) (by kernel_rfl) (by kernel_rfl) (fun _ _ _ h => h) rfl (by first | exact M.out | exact M.out.take 3)
                case' hy =>
                  refine Or.inl ⟨by first | rfl | (go_simp; done), ?_⟩
                  intro w hS
                  clear hS
                  go_simp
                  try with_reducible rfl
                try simp only [Act.put, List.getElem_toArray, List.getElem_cons_succ, List.getElem_cons_zero, List.setIfInBounds_toArray, List.set_cons_succ, List.set_cons_zero]
                apply takeH (i := 4) 44 rfl (by kernel_rfl) (by kernel_rfl) (by kernel_rfl) (fun _ _ _ h => h) rfl (by first | exact M.out | exact M.out.take 3)
                case' hy =>
                  refine Or.inl ⟨by first | rfl | (go_simp; done), ?_⟩
                  intro w hS
                  clear hS
                  go_simp
                  try with_reducible rfl
                try simp only [Act.put, List.getElem_toArray, List.getElem_cons_succ, List.getElem_cons_zero, List.setIfInBounds_toArray, List.set_cons_succ, List.set_cons_zero]
                apply takeH (i := 5) 45 rfl (by kernel_rfl) (by kernel_rfl) (by kernel_rfl) (fun _ _ _ h => h) rfl (by first | exact M.out | exact M.out.take 3)
                case' hy => exact yldsW _ _ rfl (by first | rfl | (go_simp; done)) Tryd.underlying9 rfl rfl (fun w' hS => hS.row_cell 2 rfl HP0.out)
                try simp only [Act.put, List.getElem_toArray, List.getElem_cons_succ, List.getElem_cons_zero, List.setIfInBounds_toArray, List.set_cons_succ, List.set_cons_zero]
                apply takeH (i := 6) 46 rfl (by kernel_rfl) (by kernel_rfl) (by kernel_rfl) (fun _ _ _ h => h) rfl (by first | exact M.out | exact M.out.take 3)
                case' hy =>
                  refine Or.inl ⟨by first | rfl | (go_simp; done), ?_⟩
                  intro w hS
                  clear hS
                  go_simp
                  try with_reducible rfl
                try simp only [Act.put, List.getElem_toArray, List.getElem_cons_succ, List.getElem_cons_zero, List.setIfInBounds_toArray, List.set_cons_succ, List.set_cons_zero]
                refine any1H 7 (by kernel_rfl) rfl (fun K hK => ?_)
                go_wp2_with (first | (go_at_call 10; go_must (refine (WA.out _).mono ?_); rintro e w_ ⟨rfl, N_⟩; have m := M.out.join N_; clear N_; simp only [List.cons_append, List.nil_append, List.append_nil] at m; have M := Lib.hid m; clear m))
                refine onward_normal (hK _ _ ⟨(by first | exact M.out | exact M.out.take 3), ?_⟩)
                clear hK K
                try simp only [Act.put, List.getElem_toArray, List.getElem_cons_succ, List.getElem_cons_zero, List.setIfInBounds_toArray, List.set_cons_succ, List.set_cons_zero]
                apply takeH (i := 8) 48 rfl (by kernel_rfl) (by kernel_rfl) (by kernel_rfl) (fun _ _ _ h => h) rfl (by first | exact M.out | exact M.out.take 3)
                case' hy =>
                  refine Or.inl ⟨by first | rfl | (go_simp; done), ?_⟩
                  intro w hS
                  clear hS
                  go_simp
                  try with_reducible rfl
                try simp only [Act.put, List.getElem_toArray, List.getElem_cons_succ, List.getElem_cons_zero, List.setIfInBounds_toArray, List.set_cons_succ, List.set_cons_zero]
                apply takeH (i := 9) 49 rfl (by kernel_rfl) (by kernel_rfl) (by kernel_rfl) (fun _ _ _ h => h) rfl (by first | exact M.out | exact M.out.take 3)
                case' hy =>
                  refine Or.inl ⟨by first | rfl | (go_simp; done), ?_⟩
                  intro w hS
                  clear hS
                  go_simp
                  try with_reducible rfl
                try simp only [Act.put, List.getElem_toArray, List.getElem_cons_succ, List.getElem_cons_zero, List.setIfInBounds_toArray, List.set_cons_succ, List.set_cons_zero]
                refine wpAnyH_done (by kernel_rfl) ?_ _
                all_goals
                  by_cases h3 : ps.length = 3
                  · obtain ⟨a0, p1, p2, rfl⟩ : ∃ p0 p1 p2, ps = [p0, p1, p2] := by
                      match ps, h3 with
                      | [p0, p1, p2], _ => exact ⟨p0, p1, p2, rfl⟩
                    obtain rfl : p0 = a0 := HP0V.out
                    have hq := HQ.out
                    rw [entryOf_three HPS.out, HK.out] at hq
                    simp only [Option.bind, numIn] at hq
                    have l1 := HPE.out p1 (by simp)
                    have l2 := HPE.out p2 (by simp)
                    have NA := fun w => l01Number_any p1 (by omega) w
                    have NB := fun w => l01Number_any p2 (by omega) w
                    have b1 := fun n (h : numOf p1 = some n) => (numOf_some h).2
                    have b2 := fun n (h : numOf p2 = some n) => (numOf_some h).2
                    generalize numOf p1 = O1 at hq NA b1
                    generalize numOf p2 = O2 at hq NB b2
                    have jg : decide ((3 : Int) < (j : Int)) = false := decide_eq_false (by omega)
                    clear HK HP0V HPS HPE h3 HQ
                    cases O1 with
                    | none =>
                      have B := Lib.hid (BAD.out hq)
                      have N1 := Lib.hid (show ∀ w, Calls Tryd.prog 11 #[.string ⟨p1.toArray⟩] w (fun e w' => e = .returned (.tuple #[.int .i64 0, .bool false]) ∧ w = w') from NA)
                      obtain ⟨V2, hV2⟩ : ∃ V : Nat, V = O2.getD 0 := ⟨_, rfl⟩
                      obtain ⟨T2, hT2⟩ : ∃ T, T = O2.isSome := ⟨_, rfl⟩
                      rw [← hV2, ← hT2] at NB
                      have N2 := Lib.hid NB
                      clear hq NA NB hV2 hT2 b1 b2
                      go_wp2_with (first
                        | ((with_reducible refine gate_dst (N := 63) rfl ?_); go_must (refine ev_get _ _ rfl rfl (M.out.row_cell 2 rfl (j := 1) (u := .string ⟨p1.toArray⟩) rfl) Tryd.underlying9 rfl rfl ?_))
                        | ((with_reducible refine gate_dst (N := 70) rfl ?_); go_must (refine ev_get _ _ rfl rfl (M.out.row_cell 2 rfl (j := 2) (u := .string ⟨p2.toArray⟩) rfl) Tryd.underlying9 rfl rfl ?_))
                        | (go_at_call 11; go_must (first | (refine Calls.mono (calls_args (by with_reducible rfl) (N1.out _)) ?_) | (refine Calls.mono (calls_args (by with_reducible rfl) (N2.out _)) ?_)); rintro e w_ ⟨rfl, rfl⟩)
                        | ((with_reducible refine gate_dst (N := 89) rfl ?_); go_must (refine M.out.ev_bs0 elem_Entry rfl rfl ?_); intro g0 w0 m; simp only [List.cons_append, List.nil_append] at m; have M := Lib.hid m; clear m)
                        )
                      go_ret2
                      rw [B.out.1, B.out.2]
                      exact ⟨_, _, rfl, Nat.le_refl _, M.out.only [3] (K := [_]) rfl (by decide)⟩
                    | some cm =>
                      have N1 := Lib.hid (show ∀ w, Calls Tryd.prog 11 #[.string ⟨p1.toArray⟩] w (fun e w' => e = .returned (.tuple #[.int .i64 (cm : Nat), .bool true]) ∧ w = w') from NA)
                      have bc := b1 cm rfl
                      clear NA b1
                      cases O2 with
                      | none =>
                        have B := Lib.hid (BAD.out (hq.trans (by by_cases hc : cm ≤ 99 <;> simp [hc])))
                        have N2 := Lib.hid (show ∀ w, Calls Tryd.prog 11 #[.string ⟨p2.toArray⟩] w (fun e w' => e = .returned (.tuple #[.int .i64 0, .bool false]) ∧ w = w') from NB)
                        clear hq NB b2
                        go_wp2_with (first
                          | ((with_reducible refine gate_dst (N := 63) rfl ?_); go_must (refine ev_get _ _ rfl rfl (M.out.row_cell 2 rfl (j := 1) (u := .string ⟨p1.toArray⟩) rfl) Tryd.underlying9 rfl rfl ?_))
                          | ((with_reducible refine gate_dst (N := 70) rfl ?_); go_must (refine ev_get _ _ rfl rfl (M.out.row_cell 2 rfl (j := 2) (u := .string ⟨p2.toArray⟩) rfl) Tryd.underlying9 rfl rfl ?_))
                          | (go_at_call 11; go_must (first | (refine Calls.mono (calls_args (by with_reducible rfl) (N1.out _)) ?_) | (refine Calls.mono (calls_args (by with_reducible rfl) (N2.out _)) ?_)); rintro e w_ ⟨rfl, rfl⟩)
                          | ((with_reducible refine gate_dst (N := 89) rfl ?_); go_must (refine M.out.ev_bs0 elem_Entry rfl rfl ?_); intro g0 w0 m; simp only [List.cons_append, List.nil_append] at m; have M := Lib.hid m; clear m)
                          )
                        go_ret2
                        rw [B.out.1, B.out.2]
                        exact ⟨_, _, rfl, Nat.le_refl _, M.out.only [3] (K := [_]) rfl (by decide)⟩
                      | some am =>
                        have N2 := Lib.hid (show ∀ w, Calls Tryd.prog 11 #[.string ⟨p2.toArray⟩] w (fun e w' => e = .returned (.tuple #[.int .i64 (am : Nat), .bool true]) ∧ w = w') from NB)
                        have ba := b2 am rfl
                        clear NB b2
                        by_cases hc : cm ≤ 99
                        · have c9 : decide ((99 : Int) < (cm : Int)) = false := decide_eq_false (by omega)
                          by_cases ha : 1 ≤ am ∧ am ≤ 1000
                          · have HI := Lib.hid (show inB (am : Int) 1 1000 = true from inB_iff.2 ⟨by omega, by omega⟩)
                            simp only [ha, hc, Nat.zero_le, and_self, if_true] at hq
                            have HQ2 := Lib.hid hq
                            have e1 : IntKind.i8.wrap (j : Int) = (j : Int) := IntWalk.i8_in _ (by omega)
                            have e2 : IntKind.i16.wrap (cm : Int) = (cm : Int) := IntWalk.i16_in _ (by omega)
                            have e3 : IntKind.i16.wrap (am : Int) = (am : Int) := IntWalk.i16_in _ (by omega)
                            clear hq
                            go_wp2_with (first
                              | ((with_reducible refine gate_dst (N := 63) rfl ?_); go_must (refine ev_get _ _ rfl rfl (M.out.row_cell 2 rfl (j := 1) (u := .string ⟨p1.toArray⟩) rfl) Tryd.underlying9 rfl rfl ?_))
                              | ((with_reducible refine gate_dst (N := 70) rfl ?_); go_must (refine ev_get _ _ rfl rfl (M.out.row_cell 2 rfl (j := 2) (u := .string ⟨p2.toArray⟩) rfl) Tryd.underlying9 rfl rfl ?_))
                              | (go_at_call 11; go_must (first | (refine Calls.mono (calls_args (by with_reducible rfl) (N1.out _)) ?_) | (refine Calls.mono (calls_args (by with_reducible rfl) (N2.out _)) ?_)); rintro e w_ ⟨rfl, rfl⟩)
                              | (go_at_call 12; go_must (refine (l00In_any _ _ _ _).mono ?_); rintro e w_ ⟨rfl, rfl⟩; rw [HI.out])
                              | ((with_reducible refine gate_dst (N := 98) rfl ?_); go_must (refine M.out.ev_bs1 elem_Entry rfl _ rfl (Entry.vals ⟨j, cm, am⟩).toArray rfl rfl (by decide) ?_); intro g74 w74 m; simp only [List.cons_append, List.nil_append] at m; have M := Lib.hid m; clear m)
                              | ((with_reducible refine gate_dst (N := 99) rfl ?_); go_must (refine M.out.ev_append1 1 3 elem_Entry rfl _ _ rfl rfl rfl rfl rfl rfl (Entry.one _) (by omega) (by decide) ?_); intro v75 w75 m; simp only [List.set_cons_succ, List.set_cons_zero] at m; have M := Lib.hid m; clear m)
                              )
                            obtain ⟨A2, c2, rfl, hm2, _⟩ := M.out.row_slice 1 rfl
                            refine ⟨⟨k + 1, es ++ [⟨j, cm, am⟩], A2, c2, by omega, by simp; omega, by go_num, HQ2.out, by simp, ?_⟩, by simp [intOf]; omega⟩
                            have mm := M.out.take 2
                            rw [show (es ++ [(⟨j, cm, am⟩ : Entry)]).length = es.length + 1 by simp, flat_snoc]
                            exact mm
                          · have HI := Lib.hid (show inB (am : Int) 1 1000 = false from by
                              cases hb : inB (am : Int) 1 1000
                              · rfl
                              · have := inB_iff.1 hb
                                exact absurd ⟨by omega, by omega⟩ ha)
                            have B := Lib.hid (BAD.out (hq.trans (by simp only [ha, hc, Nat.zero_le, and_self, if_true, if_false])))
                            clear hq ha
                            go_wp2_with (first
                              | ((with_reducible refine gate_dst (N := 63) rfl ?_); go_must (refine ev_get _ _ rfl rfl (M.out.row_cell 2 rfl (j := 1) (u := .string ⟨p1.toArray⟩) rfl) Tryd.underlying9 rfl rfl ?_))
                              | ((with_reducible refine gate_dst (N := 70) rfl ?_); go_must (refine ev_get _ _ rfl rfl (M.out.row_cell 2 rfl (j := 2) (u := .string ⟨p2.toArray⟩) rfl) Tryd.underlying9 rfl rfl ?_))
                              | (go_at_call 11; go_must (first | (refine Calls.mono (calls_args (by with_reducible rfl) (N1.out _)) ?_) | (refine Calls.mono (calls_args (by with_reducible rfl) (N2.out _)) ?_)); rintro e w_ ⟨rfl, rfl⟩)
                              | (go_at_call 12; go_must (refine (l00In_any _ _ _ _).mono ?_); rintro e w_ ⟨rfl, rfl⟩; rw [HI.out])
                              | ((with_reducible refine gate_dst (N := 89) rfl ?_); go_must (refine M.out.ev_bs0 elem_Entry rfl rfl ?_); intro g0 w0 m; simp only [List.cons_append, List.nil_append] at m; have M := Lib.hid m; clear m)
                              )
                            go_ret2
                            rw [B.out.1, B.out.2]
                            exact ⟨_, _, rfl, Nat.le_refl _, M.out.only [3] (K := [_]) rfl (by decide)⟩
                        · have c9 : decide ((99 : Int) < (cm : Int)) = true := decide_eq_true (by omega)
                          have B := Lib.hid (BAD.out (hq.trans (by simp only [hc, and_false, if_false])))
                          clear hq
                          go_wp2_with (first
                            | ((with_reducible refine gate_dst (N := 63) rfl ?_); go_must (refine ev_get _ _ rfl rfl (M.out.row_cell 2 rfl (j := 1) (u := .string ⟨p1.toArray⟩) rfl) Tryd.underlying9 rfl rfl ?_))
                            | ((with_reducible refine gate_dst (N := 70) rfl ?_); go_must (refine ev_get _ _ rfl rfl (M.out.row_cell 2 rfl (j := 2) (u := .string ⟨p2.toArray⟩) rfl) Tryd.underlying9 rfl rfl ?_))
                            | (go_at_call 11; go_must (first | (refine Calls.mono (calls_args (by with_reducible rfl) (N1.out _)) ?_) | (refine Calls.mono (calls_args (by with_reducible rfl) (N2.out _)) ?_)); rintro e w_ ⟨rfl, rfl⟩)
                            | ((with_reducible refine gate_dst (N := 89) rfl ?_); go_must (refine M.out.ev_bs0 elem_Entry rfl rfl ?_); intro g0 w0 m; simp only [List.cons_append, List.nil_append] at m; have M := Lib.hid m; clear m)
                            )
                          go_ret2
                          rw [B.out.1, B.out.2]
                          exact ⟨_, _, rfl, Nat.le_refl _, M.out.only [3] (K := [_]) rfl (by decide)⟩
                  · have B := Lib.hid (BAD.out (HQ.out.trans (by rw [entryOf_short (by rw [HPS.out]; exact h3)]; rfl)))
                    have f3 : ((ps.length : Int) != 3) = true := by simp; omega
                    clear h3 HQ HP0V HPE HPS
                    go_wp2_with (first
                      | ((with_reducible refine gate_dst (N := 59) rfl ?_); go_must (refine M.out.ev_bs0 elem_Entry rfl rfl ?_); intro g0 w0 m; simp only [List.cons_append, List.nil_append] at m; have M := Lib.hid m; clear m)
                      )
                    go_ret2
                    rw [B.out.1, B.out.2]
                    exact ⟨_, _, rfl, Nat.le_refl _, M.out.only [3] (K := [_]) rfl (by decide)⟩
              · have w1 : (p0 == wordOf j) = false := beq_eq_false_iff_ne.2 hw
                have w2 : (p0 != wordOf j) = true := by rw [bne, w1]; rfl
                have HNE := Lib.hid (show ∀ i : Nat, i < j + 1 → p0 ≠ wordOf i from fun i hi => by
                  rcases Nat.lt_succ_iff_lt_or_eq.1 hi with h | h
                  · exact hne i h
                  · rw [h]; exact hw)
                obtain ⟨W, hW⟩ : ∃ W, W = wordOf j := ⟨_, rfl⟩
                rw [← hW] at WA0 w1 w2
                have WA := Lib.hid WA0
                clear hW WA0 hw hne
                go_wp2
                refine region_anyH (fun w' => Mem w w' [.row (.slice (some ⟨gl, 0, none⟩) P.length cl) 9 1 P.length (flat oneT P), .row (.slice A es.length cp) 37 3 es.length (flat Entry.vals es), .row (.slice (some ⟨gw, 0, none⟩) ps.length cw) 9 1 ps.length (flat oneT ps)]) (by kernel_rfl) ?_
                have m := M.out.drew
                clear M
                have M := Lib.hid m
                clear m
                apply takeH (i := 0) 40 rfl (by kernel_rfl) (by kernel_rfl) (by kernel_rfl) (fun _ _ _ h => h) rfl (by first | exact M.out | exact M.out.take 3)
                case' hy =>
                  refine Or.inl ⟨by first | rfl | (go_simp; done), ?_⟩
                  intro w hS
                  clear hS
                  go_simp
                  try with_reducible rfl
                try simp only [Act.put, List.getElem_toArray, List.getElem_cons_succ, List.getElem_cons_zero, List.setIfInBounds_toArray, List.set_cons_succ, List.set_cons_zero]
                apply takeH (i := 1) 41 rfl (by kernel_rfl) (by kernel_rfl) (by kernel_rfl) (fun _ _ _ h => h) rfl (by first | exact M.out | exact M.out.take 3)
                case' hy =>
                  refine Or.inl ⟨by first | rfl | (go_simp; done), ?_⟩
                  intro w hS
                  clear hS
                  go_simp
                  try with_reducible rfl
                try simp only [Act.put, List.getElem_toArray, List.getElem_cons_succ, List.getElem_cons_zero, List.setIfInBounds_toArray, List.set_cons_succ, List.set_cons_zero]
                apply takeH (i := 2) 42 rfl (by kernel_rfl) (by kernel_rfl) (by kernel_rfl) (fun _ _ _ h => h) rfl (by first | exact M.out | exact M.out.take 3)
                case' hy =>
                  refine Or.inl ⟨by first | rfl | (go_simp; done), ?_⟩
                  intro w hS
                  clear hS
                  go_simp
                  try with_reducible rfl
                try simp only [Act.put, List.getElem_toArray, List.getElem_cons_succ, List.getElem_cons_zero, List.setIfInBounds_toArray, List.set_cons_succ, List.set_cons_zero]
                apply takeH (i := 3) 43 rfl (by kernel_rfl) (by kernel_rfl) (by kernel_rfl) (fun _ _ _ h => h) rfl (by first | exact M.out | exact M.out.take 3)
                case' hy =>
                  refine Or.inl ⟨by first | rfl | (go_simp; done), ?_⟩
                  intro w hS
                  clear hS
                  go_simp
                  try with_reducible rfl
                try simp only [Act.put, List.getElem_toArray, List.getElem_cons_succ, List.getElem_cons_zero, List.setIfInBounds_toArray, List.set_cons_succ, List.set_cons_zero]
                apply takeH (i := 4) 44 rfl (by kernel_rfl) (by kernel_rfl) (by kernel_rfl) (fun _ _ _ h => h) rfl (by first | exact M.out | exact M.out.take 3)
                case' hy =>
                  refine Or.inl ⟨by first | rfl | (go_simp; done), ?_⟩
                  intro w hS
                  clear hS
                  go_simp
                  try with_reducible rfl
                try simp only [Act.put, List.getElem_toArray, List.getElem_cons_succ, List.getElem_cons_zero, List.setIfInBounds_toArray, List.set_cons_succ, List.set_cons_zero]
                apply takeH (i := 5) 45 rfl (by kernel_rfl) (by kernel_rfl) (by kernel_rfl) (fun _ _ _ h => h) rfl (by first | exact M.out | exact M.out.take 3)
                case' hy => exact yldsW _ _ rfl (by first | rfl | (go_simp; done)) Tryd.underlying9 rfl rfl (fun w' hS => hS.row_cell 2 rfl HP0.out)
                try simp only [Act.put, List.getElem_toArray, List.getElem_cons_succ, List.getElem_cons_zero, List.setIfInBounds_toArray, List.set_cons_succ, List.set_cons_zero]
                apply takeH (i := 6) 46 rfl (by kernel_rfl) (by kernel_rfl) (by kernel_rfl) (fun _ _ _ h => h) rfl (by first | exact M.out | exact M.out.take 3)
                case' hy =>
                  refine Or.inl ⟨by first | rfl | (go_simp; done), ?_⟩
                  intro w hS
                  clear hS
                  go_simp
                  try with_reducible rfl
                try simp only [Act.put, List.getElem_toArray, List.getElem_cons_succ, List.getElem_cons_zero, List.setIfInBounds_toArray, List.set_cons_succ, List.set_cons_zero]
                refine any1H 7 (by kernel_rfl) rfl (fun K hK => ?_)
                go_wp2_with (first | (go_at_call 10; go_must (refine (WA.out _).mono ?_); rintro e w_ ⟨rfl, N_⟩; have m := M.out.join N_; clear N_; simp only [List.cons_append, List.nil_append, List.append_nil] at m; have M := Lib.hid m; clear m))
                refine onward_normal (hK _ _ ⟨(by first | exact M.out | exact M.out.take 3), ?_⟩)
                clear hK K
                try simp only [Act.put, List.getElem_toArray, List.getElem_cons_succ, List.getElem_cons_zero, List.setIfInBounds_toArray, List.set_cons_succ, List.set_cons_zero]
                apply takeH (i := 8) 48 rfl (by kernel_rfl) (by kernel_rfl) (by kernel_rfl) (fun _ _ _ h => h) rfl (by first | exact M.out | exact M.out.take 3)
                case' hy =>
                  refine Or.inl ⟨by first | rfl | (go_simp; done), ?_⟩
                  intro w hS
                  clear hS
                  go_simp
                  try with_reducible rfl
                try simp only [Act.put, List.getElem_toArray, List.getElem_cons_succ, List.getElem_cons_zero, List.setIfInBounds_toArray, List.set_cons_succ, List.set_cons_zero]
                apply takeH (i := 9) 49 rfl (by kernel_rfl) (by kernel_rfl) (by kernel_rfl) (fun _ _ _ h => h) rfl (by first | exact M.out | exact M.out.take 3)
                case' hy =>
                  refine Or.inl ⟨by first | rfl | (go_simp; done), ?_⟩
                  intro w hS
                  clear hS
                  go_simp
                  try with_reducible rfl
                try simp only [Act.put, List.getElem_toArray, List.getElem_cons_succ, List.getElem_cons_zero, List.setIfInBounds_toArray, List.set_cons_succ, List.set_cons_zero]
                refine wpAnyH_done (by kernel_rfl) ?_ _
                all_goals
                  go_wp2
                  exact ⟨⟨j + 1, by omega, by go_num, HNE.out, M.out⟩, by simp [intOf]; omega⟩
            · obtain rfl : j = 4 := by omega
              have HK := kind_miss hne
              have B := Lib.hid (BAD.out (HQ.out.trans (by
                by_cases h3 : ps.length = 3
                · obtain ⟨a0, p1, p2, rfl⟩ : ∃ p0 p1 p2, ps = [p0, p1, p2] := by
                    match ps, h3 with
                    | [p0, p1, p2], _ => exact ⟨p0, p1, p2, rfl⟩
                  obtain rfl : p0 = a0 := HP0V.out
                  rw [entryOf_three HPS.out, HK]
                  rfl
                · rw [entryOf_short (by rw [HPS.out]; exact h3)]
                  rfl)))
              clear HQ HP0V HPE HPS HK hne
              obtain ⟨B3, hB3⟩ : ∃ B, B = ((ps.length : Int) != 3) := ⟨_, rfl⟩
              go_wp2
              refine region_anyH (fun w' => Mem w w' [.row (.slice (some ⟨gl, 0, none⟩) P.length cl) 9 1 P.length (flat oneT P), .row (.slice A es.length cp) 37 3 es.length (flat Entry.vals es), .row (.slice (some ⟨gw, 0, none⟩) ps.length cw) 9 1 ps.length (flat oneT ps)]) (by kernel_rfl) ?_
              have m := M.out.drew
              clear M
              have M := Lib.hid m
              clear m
              apply takeH (i := 0) 40 rfl (by kernel_rfl) (by kernel_rfl) (by kernel_rfl) (fun _ _ _ h => h) rfl (by first | exact M.out | exact M.out.take 3)
              case' hy =>
                refine Or.inl ⟨by first | rfl | (go_simp; done), ?_⟩
                intro w hS
                clear hS
                go_simp
                try with_reducible rfl
              try simp only [Act.put, List.getElem_toArray, List.getElem_cons_succ, List.getElem_cons_zero, List.setIfInBounds_toArray, List.set_cons_succ, List.set_cons_zero]
              apply takeH (i := 1) 41 rfl (by kernel_rfl) (by kernel_rfl) (by kernel_rfl) (fun _ _ _ h => h) rfl (by first | exact M.out | exact M.out.take 3)
              case' hy =>
                refine Or.inl ⟨by first | rfl | (go_simp; done), ?_⟩
                intro w hS
                clear hS
                go_simp
                try with_reducible rfl
              try simp only [Act.put, List.getElem_toArray, List.getElem_cons_succ, List.getElem_cons_zero, List.setIfInBounds_toArray, List.set_cons_succ, List.set_cons_zero]
              apply takeH (i := 2) 42 rfl (by kernel_rfl) (by kernel_rfl) (by kernel_rfl) (fun _ _ _ h => h) rfl (by first | exact M.out | exact M.out.take 3)
              case' hy =>
                refine Or.inl ⟨by first | rfl | (go_simp; done), ?_⟩
                intro w hS
                clear hS
                go_simp
                try with_reducible rfl
              try simp only [Act.put, List.getElem_toArray, List.getElem_cons_succ, List.getElem_cons_zero, List.setIfInBounds_toArray, List.set_cons_succ, List.set_cons_zero]
              refine wpAnyH_take (i := 3) (v := undef) rfl (by kernel_rfl) (by kernel_rfl) (by kernel_rfl) (fun _ _ _ h => h) (Or.inr ⟨by kernel_rfl, rfl⟩) (by first | exact M.out | exact M.out.take 3) ?_
              try simp only [Act.put, List.getElem_toArray, List.getElem_cons_succ, List.getElem_cons_zero, List.setIfInBounds_toArray, List.set_cons_succ, List.set_cons_zero]
              refine wpAnyH_take (i := 4) (v := undef) rfl (by kernel_rfl) (by kernel_rfl) (by kernel_rfl) (fun _ _ _ h => h) (Or.inr ⟨by kernel_rfl, rfl⟩) (by first | exact M.out | exact M.out.take 3) ?_
              try simp only [Act.put, List.getElem_toArray, List.getElem_cons_succ, List.getElem_cons_zero, List.setIfInBounds_toArray, List.set_cons_succ, List.set_cons_zero]
              refine wpAnyH_take (i := 5) (v := undef) rfl (by kernel_rfl) (by kernel_rfl) (by kernel_rfl) (fun _ _ _ h => h) (Or.inr ⟨by kernel_rfl, rfl⟩) (by first | exact M.out | exact M.out.take 3) ?_
              try simp only [Act.put, List.getElem_toArray, List.getElem_cons_succ, List.getElem_cons_zero, List.setIfInBounds_toArray, List.set_cons_succ, List.set_cons_zero]
              refine wpAnyH_take (i := 6) (v := undef) rfl (by kernel_rfl) (by kernel_rfl) (by kernel_rfl) (fun _ _ _ h => h) (Or.inr ⟨by kernel_rfl, rfl⟩) (by first | exact M.out | exact M.out.take 3) ?_
              try simp only [Act.put, List.getElem_toArray, List.getElem_cons_succ, List.getElem_cons_zero, List.setIfInBounds_toArray, List.set_cons_succ, List.set_cons_zero]
              refine wpAnyH_take (i := 7) (v := undef) rfl (by kernel_rfl) (by kernel_rfl) (by kernel_rfl) (fun _ _ _ h => h) (Or.inr ⟨by kernel_rfl, rfl⟩) (by first | exact M.out | exact M.out.take 3) ?_
              try simp only [Act.put, List.getElem_toArray, List.getElem_cons_succ, List.getElem_cons_zero, List.setIfInBounds_toArray, List.set_cons_succ, List.set_cons_zero]
              refine wpAnyH_take (i := 8) (v := undef) rfl (by kernel_rfl) (by kernel_rfl) (by kernel_rfl) (fun _ _ _ h => h) (Or.inr ⟨by kernel_rfl, rfl⟩) (by first | exact M.out | exact M.out.take 3) ?_
              try simp only [Act.put, List.getElem_toArray, List.getElem_cons_succ, List.getElem_cons_zero, List.setIfInBounds_toArray, List.set_cons_succ, List.set_cons_zero]
              apply takeH (i := 9) 49 rfl (by kernel_rfl) (by kernel_rfl) (by kernel_rfl) (fun _ _ _ h => h) rfl (by first | exact M.out | exact M.out.take 3)
              case' hy =>
                refine Or.inl ⟨by first | rfl | (go_simp; done), ?_⟩
                intro w hS
                clear hS
                go_simp
                try with_reducible rfl
              try simp only [Act.put, List.getElem_toArray, List.getElem_cons_succ, List.getElem_cons_zero, List.setIfInBounds_toArray, List.set_cons_succ, List.set_cons_zero]
              refine wpAnyH_done (by kernel_rfl) ?_ _
              all_goals
                cases h3 : ((ps.length : Int) != 3) <;>
                · go_wp2_with (first
                    | ((with_reducible refine gate_dst (N := 59) rfl ?_); go_must (refine M.out.ev_bs0 elem_Entry rfl rfl ?_); intro g0 w0 m; simp only [List.cons_append, List.nil_append] at m; have M := Lib.hid m; clear m)
                    )
                  go_ret2
                  rw [B.out.1, B.out.2]
                  exact ⟨_, _, rfl, Nat.le_refl _, M.out.only [3] (K := [_]) rfl (by decide)⟩
        · obtain rfl : k = q := by omega
          rw [readE_end HPQ.out] at hq
          have G := Lib.hid (GOOD.out es hq)
          clear hq
          have hcp := (M.out.row_le 1 rfl).1
          go_wp2
          go_ret2
          rw [G.out.1, G.out.2]
          exact ⟨A, cp, rfl, hcp, M.out.only [1] (K := [_]) rfl (by decide)⟩
    · rw [if_neg (fun h => h100 (by have := h.2; omega))] at hq
      have B := Lib.hid (BAD.out hq)
      subst hz
      have f1 : decide ((100 : Int) < (q : Int)) = true := decide_eq_true (by omega)
      clear hq
      go_enter Tryd.func4, Tryd.ntmps4
      go_wp2_with (first
        | (go_at_call 9; go_must (refine (SL.out _).mono ?_); rintro e w_ ⟨gl, cl, rfl, N_⟩; have m := M.out.join N_; clear N_; simp only [List.cons_append, List.nil_append, List.append_nil] at m; have M := Lib.hid m; clear m)
        | ((with_reducible refine gate_dst (N := 22) rfl ?_); go_must (refine ev_get _ _ rfl rfl (M.out.row_cell 0 rfl HLA.out) Tryd.underlying9 rfl rfl ?_))
        | ((with_reducible refine gate_dst (N := 28) rfl ?_); go_must (refine M.out.ev_bs0 elem_Entry rfl rfl ?_); intro g0 w0 m; simp only [List.cons_append, List.nil_append] at m; have M := Lib.hid m; clear m)
        )
      go_ret2
      rw [B.out.1, B.out.2]
      exact ⟨_, _, rfl, Nat.le_refl _, M.out.only [1] (K := [_]) rfl (by decide)⟩
  · rw [if_neg (fun h => hz (Option.some.inj h.1))] at hq
    have B := Lib.hid (BAD.out hq)
    have hz2 : Z.isEmpty = false := by
      cases Z with
      | nil => exact absurd rfl hz
      | cons x y => rfl
    clear hq
    go_enter Tryd.func4, Tryd.ntmps4
    go_wp2_with (first
      | (go_at_call 9; go_must (refine (SL.out _).mono ?_); rintro e w_ ⟨gl, cl, rfl, N_⟩; have m := M.out.join N_; clear N_; simp only [List.cons_append, List.nil_append, List.append_nil] at m; have M := Lib.hid m; clear m)
      | ((with_reducible refine gate_dst (N := 22) rfl ?_); go_must (refine ev_get _ _ rfl rfl (M.out.row_cell 0 rfl HLA.out) Tryd.underlying9 rfl rfl ?_))
      | ((with_reducible refine gate_dst (N := 28) rfl ?_); go_must (refine M.out.ev_bs0 elem_Entry rfl rfl ?_); intro g0 w0 m; simp only [List.cons_append, List.nil_append] at m; have M := Lib.hid m; clear m)
      )
    go_ret2
    rw [B.out.1, B.out.2]
    exact ⟨_, _, rfl, Nat.le_refl _, M.out.only [1] (K := [_]) rfl (by decide)⟩
end Go.Proofs.YtaepgjjmfopiiaaDoor
