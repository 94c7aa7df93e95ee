/- The targets of nets: the walks of the lists and of the specification's code. -/
import Derived.Test.YtnddoiapilookaaUnder
import Derived.Test.YtnddoiapilookaaEqC
namespace Go.Proofs.Ytnddoiapilookaa
set_option linter.unusedSimpArgs false
set_option linter.unusedVariables false
open Go.RowKit
attribute [local go_sem] cell?_mk frozen?_mk

set_option maxRecDepth 100000 in
set_option maxHeartbeats 1000000 in
theorem l01List_any (g : Nat) {t : TypeId} (c : Cs) (hc : c.ok) (w : World) (hb : Blk w g t c.cells) :
    Calls Try.prog 86 #[.pointer (some ⟨g, 0, none⟩)] w (RetRow w 2 1 c.all.length (flat one64 c.all)) := by
  have M := Lib.hid (Mem.start w)
  have HB := Lib.hid hb
  clear hb
  go_enter Try.func86, Try.ntmps86
  go_wp2_with (first
    | ((with_reducible refine gate_dst (N := 5) rfl ?_); go_must (refine M.out.ev_bs0 elem_int64 rfl rfl ?_); intro g5 w5 m; simp only [List.cons_append, List.nil_append] at m; have M := Lib.hid m; clear m)
    )
  go_loopw [3, 4] (fun s v wr => ∃ k : Nat, k ≤ 100 ∧ v = .int .i64 k ∧ Mem w wr [.row s 2 1 (c.below k).length (flat one64 (c.below k))])
    (fun _ v _ => 100 - (intOf v).toNat)
  case atStart => exact ⟨0, by omega, rfl, M.out⟩
  case round =>
    clear M
    obtain ⟨k, hk, rfl, m⟩ := hrel
    have M := Lib.hid m
    clear m
    by_cases hlt : k < 100
    · have hkl := c.below_len k
      cases hq : c.has k
      · have HQ := Lib.hid hq
        clear hq
        go_wp2_with (first
          | (go_at_call 111; go_must (refine (l01Has_any g c hc k hlt _ (M.out.arg HB.out)).mono ?_); rintro e w_ ⟨rfl, rfl⟩; rw [HQ.out])
          )
        refine ⟨⟨k + 1, by omega, by go_num, ?_⟩, by simp [intOf]; omega⟩
        rw [c.below_succ, HQ.out]
        simpa using M.out
      · have HQ := Lib.hid hq
        clear hq
        go_wp2_with (first
          | (go_at_call 111; go_must (refine (l01Has_any g c hc k hlt _ (M.out.arg HB.out)).mono ?_); rintro e w_ ⟨rfl, rfl⟩; rw [HQ.out])
          | ((with_reducible refine gate_dst (N := 15) rfl ?_); go_must (refine M.out.ev_bs1 elem_int64 rfl _ rfl #[.int .i64 k] rfl rfl (by decide) ?_); intro g14 w14 m; simp only [List.cons_append, List.nil_append] at m; have M := Lib.hid m; clear m)
          | ((with_reducible refine gate_dst (N := 16) rfl ?_); go_must (refine M.out.ev_append1 0 1 elem_int64 rfl _ _ rfl rfl rfl rfl rfl rfl (by simp [Value.oneCell']) (by omega) (by decide) ?_); intro v15 w15 m; simp only [List.set_cons_succ, List.set_cons_zero] at m; have M := Lib.hid m; clear m)
          )
        refine ⟨⟨k + 1, by omega, by go_num, ?_⟩, by simp [intOf]; omega⟩
        have m := M.out.take 1
        rw [c.below_succ, HQ.out]
        simpa [flat_append, flat, one64, nat64] using m
    · obtain rfl : k = 100 := by omega
      go_wp2
      obtain ⟨A, cc, rfl, hcc, _⟩ := M.out.row_slice 0 rfl
      go_ret
      exact ⟨A, cc, rfl, hcc, M.out⟩
theorem ntCode_bad {F : Fld} {xs : List Net} (c : Cs) (h : netsOk F xs = false) : ntCode F xs c = 1 := by
  rw [ntCode, h]
  rfl
theorem ntCode_many {F : Fld} {xs : List Net} (c : Cs) (h : netsOk F xs = true) (hl : 20 < xs.length) : ntCode F xs c = 3 := by
  rw [ntCode, h, if_pos rfl, decide_eq_true hl]
  rfl
theorem ntCode_big {F : Fld} {xs : List Net} {c : Cs} (h : netsOk F xs = true) (hl : 12 < c.all.length) : ntCode F xs c = 3 := by
  rw [ntCode, h, if_pos rfl, decide_eq_true hl, Bool.or_true]
  rfl
theorem ntCode_rest {F : Fld} {xs : List Net} {c : Cs} (h : netsOk F xs = true) (h1 : ¬ 20 < xs.length) (h2 : ¬ 12 < c.all.length) : ntCode F xs c = if (c.all.any fun k => !F.has k) = true then 2 else 0 := by
  rw [ntCode, h, if_pos rfl, decide_eq_false h1, decide_eq_false h2]
  rfl
set_option maxRecDepth 100000 in
set_option maxHeartbeats 4000000 in
theorem l04Targets_any (g h : Nat) {t t' : TypeId} (F : Fld) (hF : F.ok) (A : Option Addr) (n : Nat) (xs : List Net) (hx : ∀ x ∈ xs, x.ok) (hl : xs.length ≤ 1048576) (c : Cs) (hc : c.ok) (w : World) (hb : Blk w g t F.cells) (hs : Sl w 4 A xs.length (flat Net.vals xs)) (hcb : Blk w h t' c.cells) :
    Calls Try.prog 76 #[.pointer (some ⟨g, 0, none⟩), .slice A xs.length n, .pointer (some ⟨h, 0, none⟩)] w fun e w' => e = .returned (.int .i64 (ntCode F xs c)) ∧ Mem w w' [] := by
  have M := Lib.hid (Mem.start w)
  have HX := Lib.hid hx
  have HS := Lib.hid hs
  have HB := Lib.hid hb
  have HCB := Lib.hid hcb
  have hcl : c.all.length ≤ 100 := c.below_len 100
  clear hx hs hb hcb
  cases hk : netsOk F xs
  · have HZ := Lib.hid (ntCode_bad (xs := xs) Cs.z hk)
    have HR := Lib.hid (ntCode_bad (xs := xs) c hk)
    clear hk
    go_enter Try.func76, Try.ntmps76
    go_wp2_with (first
      | (go_at_call 64; go_must (refine (l04Nets_any g F hF A n xs HX.out hl _ HB.out HS.out).mono ?_); rintro e w_ ⟨rfl, N_⟩; have m := M.out.join N_; clear N_; simp only [List.cons_append, List.nil_append, List.append_nil] at m; have M := Lib.hid m; clear m; rw [HZ.out])
      )
    go_ret
    exact ⟨ret_int HR.out.symm, M.out⟩
  · have loop : ∀ z r : Int, ntCode F xs Cs.z = z → ntCode F xs c = r → (z = 3 ∧ r = 3) ∨ (z = 0 ∧ 12 < c.all.length ∧ r = 3) ∨ (z = 0 ∧ ¬ 12 < c.all.length ∧ r = if (c.all.any fun k => !F.has k) = true then 2 else 0) := by
      intro z r hz hr
      rw [ntCode_z, hk, if_pos rfl] at hz
      by_cases h20 : 20 < xs.length
      · rw [if_pos h20] at hz
        rw [ntCode_many c hk h20] at hr
        exact .inl ⟨hz.symm, hr.symm⟩
      · rw [if_neg h20] at hz
        by_cases h12 : 12 < c.all.length
        · rw [ntCode_big hk h12] at hr
          exact .inr (.inl ⟨hz.symm, h12, hr.symm⟩)
        · rw [ntCode_rest hk h20 h12] at hr
          exact .inr (.inr ⟨hz.symm, h12, hr.symm⟩)
    obtain ⟨z, hz⟩ : ∃ z, ntCode F xs Cs.z = z := ⟨_, rfl⟩
    obtain ⟨r, hr⟩ : ∃ r, ntCode F xs c = r := ⟨_, rfl⟩
    have hlp := loop z r hz hr
    rw [hr]
    have HZ := Lib.hid hz
    clear loop hz hr hk
    cases h12 : decide ((12 : Int) < (c.all.length : Int))
    all_goals
      rcases hlp with ⟨rfl, hr⟩ | ⟨rfl, h3, hr⟩ | ⟨rfl, h3, hr⟩
    all_goals first
      | (exfalso; have := of_decide_eq_false h12; omega)
      | (exfalso; have := of_decide_eq_true h12; omega)
      | skip
    all_goals
      have HR := Lib.hid hr
      clear hr
      go_enter Try.func76, Try.ntmps76
      go_wp2_with (first
        | (go_at_call 64; go_must (refine (l04Nets_any g F hF A n xs HX.out hl _ HB.out HS.out).mono ?_); rintro e w_ ⟨rfl, N_⟩; have m := M.out.join N_; clear N_; simp only [List.cons_append, List.nil_append, List.append_nil] at m; have M := Lib.hid m; clear m; rw [HZ.out])
        | (go_at_call 86; go_must (refine (l01List_any h c hc _ (M.out.arg HCB.out)).mono ?_); rintro e w_ ⟨A_, c_, rfl, hc_, N_⟩; have m := M.out.join N_; clear N_; simp only [List.cons_append, List.nil_append, List.append_nil] at m; have M := Lib.hid m; clear m)
        )
      go_loopw [7, 9] (fun u v wr => ∃ (k : Nat) (cd : Int), k ≤ c.all.length ∧ v = .int .i64 k ∧ u = .int .i64 cd ∧ ((cd = r ∧ r ≠ 0) ∨ (cd = 0 ∧ ((c.all.take k).any fun k => !F.has k) = false ∧ r = if (c.all.any fun k => !F.has k) = true then 2 else 0)) ∧ Mem w wr [.row (.slice A_ c.all.length c_) 2 1 c.all.length (flat one64 c.all)])
        (fun _ v _ => c.all.length - (intOf v).toNat)
      case atStart =>
        first
          | exact ⟨0, 3, by omega, rfl, rfl, .inl ⟨HR.out.symm, by rw [HR.out]; decide⟩, M.out⟩
          | exact ⟨0, 0, by omega, rfl, rfl, .inr ⟨rfl, rfl, HR.out⟩, M.out⟩
      case round =>
        clear M HR
        obtain ⟨k, cd, hk, rfl, rfl, hd, m⟩ := hrel
        have M := Lib.hid m
        clear m
        rcases hd with ⟨rfl, hr0⟩ | ⟨rfl, hany, hrr⟩
        · cases hL : decide ((k : Int) < (c.all.length : Int))
          all_goals
            go_wp2
          all_goals first
            | (exfalso; have := of_decide_eq_false hL; omega)
            | (exfalso; have := of_decide_eq_true hL; omega)
            | (go_ret
               exact ⟨rfl, M.out.take 0⟩)
        · have HA := Lib.hid hany
          have HRR := Lib.hid hrr
          clear hany hrr
          cases hL : decide ((k : Int) < (c.all.length : Int))
          · have hk2 : k = c.all.length := by have := of_decide_eq_false hL; omega
            have he := HA.out
            rw [hk2, List.take_length] at he
            have HR0 := Lib.hid (show r = 0 by rw [HRR.out, he]; rfl)
            clear he hk2
            go_wp2
            all_goals first
              | (exfalso; have := of_decide_eq_false hL; omega)
              | (go_ret
                 exact ⟨ret_int HR0.out.symm, M.out.take 0⟩)
          · have hlt : k < c.all.length := by have := of_decide_eq_true hL; omega
            obtain ⟨b, off, rfl, hr⟩ := (M.out.slof 0 rfl).2 (by omega)
            have hxk : c.all[k]? = some c.all[k] := List.getElem?_eq_getElem hlt
            have R := range_at one64_len hr hxk
            have HTK := Lib.hid (List.take_succ_eq_append_getElem hlt)
            have HME := Lib.hid (List.getElem_mem hlt)
            obtain ⟨j, hj⟩ : ∃ j, j = c.all[k] := ⟨_, rfl⟩
            rw [← hj] at R HTK HME
            have x0 : wr.cell? ⟨b, off + k, none⟩ = some (.int .i64 j) := by simpa [nat64] using R 0 _ rfl
            have i0 : (0 : Int) ≤ (k : Int) := by omega
            have i1 : (k : Int) < (c.all.length : Int) := by omega
            clear hr hxk R hj
            cases hq : F.has j
            · have HQ := Lib.hid hq
              clear hq
              go_wp2_with (first
                | (go_at_call 95; go_must (refine (l01Is_any g F hF _ _ (M.out.arg HB.out)).mono ?_); rintro e w_ ⟨rfl, rfl⟩; rw [HQ.out])
                )
              all_goals try (exfalso; omega)
              have hr2 : r = 2 := by
                rw [HRR.out, if_pos]
                rw [List.any_eq_true]
                exact ⟨j, HME.out, by rw [HQ.out]; rfl⟩
              exact ⟨⟨k + 1, 2, by omega, by go_num, rfl, .inl ⟨hr2.symm, by rw [hr2]; decide⟩, M.out⟩, by simp [intOf]; omega⟩
            · have HQ := Lib.hid hq
              clear hq
              go_wp2_with (first
                | (go_at_call 95; go_must (refine (l01Is_any g F hF _ _ (M.out.arg HB.out)).mono ?_); rintro e w_ ⟨rfl, rfl⟩; rw [HQ.out])
                )
              all_goals try (exfalso; omega)
              refine ⟨⟨k + 1, 0, by omega, by go_num, rfl, .inr ⟨rfl, ?_, HRR.out⟩, M.out⟩, by simp [intOf]; omega⟩
              rw [HTK.out, List.any_append, HA.out]
              simp [HQ.out]
end Go.Proofs.Ytnddoiapilookaa
