/- One net taken out of a slice of one's own: the walk of slices.Delete; parts of slices. -/
import Derived.Test.YtnddoiapilookaaNetM
import Derived.Test.YtnddoiapilookaaDel0
namespace Go.Proofs.Ytnddoiapilookaa
set_option linter.unusedSimpArgs false
set_option linter.unusedVariables false
open Go.RowKit
attribute [local go_sem] cell?_mk frozen?_mk

theorem Sl.dropM {α : Type} {en : α → List Value} {w : World} {sz b off : Nat} {xs : List α} (hen : ∀ x, (en x).length = sz) (h : Sl w sz (some ⟨b, off, none⟩) xs.length (flat en xs)) (k : Nat) (hk : k ≤ xs.length) : Sl w sz (some ⟨b, off + k * sz, none⟩) (xs.length - k) (flat en (xs.drop k)) := by
  refine ⟨by rw [flat_len hen, List.length_drop], fun hn => ⟨b, off + k * sz, rfl, fun j v hv => ?_⟩⟩
  obtain ⟨b', off', he, hr⟩ := h.2 (by omega)
  injection he with he
  injection he with h1 h2
  subst h1 h2
  have h3 : flat en xs = flat en (xs.take k) ++ flat en (xs.drop k) := by rw [← flat_append, List.take_append_drop]
  have h4 : (flat en (xs.take k)).length = k * sz := by rw [flat_len hen, List.length_take, Nat.min_eq_left hk]
  have := hr (k * sz + j) v (by rw [h3, List.getElem?_append_right (by omega), h4, Nat.add_sub_cancel_left]; exact hv)
  rwa [← Nat.add_assoc] at this
theorem Sl.takeM {α : Type} {en : α → List Value} {w : World} {sz : Nat} {A : Option Addr} {xs : List α} (hen : ∀ x, (en x).length = sz) (h : Sl w sz A xs.length (flat en xs)) (k : Nat) (hk : k ≤ xs.length) : Sl w sz A k (flat en (xs.take k)) := by
  refine ⟨by rw [flat_len hen, List.length_take, Nat.min_eq_left hk], fun hn => ?_⟩
  obtain ⟨b, off, he, hr⟩ := h.2 (by omega)
  refine ⟨b, off, he, fun j v hv => hr j v ?_⟩
  have h3 : flat en xs = flat en (xs.take k) ++ flat en (xs.drop k) := by rw [← flat_append, List.take_append_drop]
  rw [h3, List.getElem?_append_left (List.getElem?_eq_some_iff.1 hv).1]
  exact hv
set_option maxRecDepth 100000 in
set_option maxHeartbeats 2000000 in
theorem deleteN_any {w0 w : World} {L : List Ent} (i : Nat) (M0 : Mem w0 w L) (A : Option Addr) (c : Nat) (xs : List Net) (hL : L[i]? = some (.row (.slice A xs.length c) 44 4 xs.length (flat Net.vals xs))) (hl : xs.length ≤ 1048576) (hc : xs.length ≤ c) (hcm : c ≤ 9223372036854775807) (k : Nat) (hk : k < xs.length) :
    Calls Try.prog 82 #[.slice A xs.length c, .int .i64 k, .int .i64 ((k : Int) + 1)] w fun e w' => e = .returned (.slice A (xs.length - 1) c) ∧ Mem w0 w' (L.set i (.row (.slice A (xs.length - 1) c) 44 4 (xs.length - 1) (flat Net.vals (xs.eraseIdx k)))) := by
  obtain ⟨g, cap, he, _⟩ := M0.row_form i hL (by omega)
  obtain ⟨rfl, rfl⟩ : A = some ⟨g, 0, none⟩ ∧ c = cap := by injection he with e1 _ e2; exact ⟨e1, e2⟩
  clear he
  have M := Lib.hid M0
  have HL := Lib.hid hL
  have hil : i < L.length := (List.getElem?_eq_some_iff.1 hL).1
  have HIL := Lib.hid hil
  obtain ⟨n, hn⟩ : ∃ n, xs.length = n + 1 := ⟨xs.length - 1, by omega⟩
  have HN := Lib.hid hn
  have HER := Lib.hid (show flat Net.vals (xs.take k) ++ flat Net.vals (xs.drop (k + 1)) = flat Net.vals (xs.eraseIdx k) by rw [← flat_append, List.eraseIdx_eq_take_drop_succ])
  have HNW := Lib.hid (fun (w2 : World) (m2 : Mem w0 w2 L) (j : Nat) (u : Value) (hu : (flat Net.vals (xs.drop (k + 1)))[j]? = some u) => show w2.cell? ((⟨g, (k + 1) * 4, none⟩ : Addr).add j) = some u by
    rw [Addr.add_mid]
    refine m2.row_cell i hL ?_
    have h1 : flat Net.vals xs = flat Net.vals (xs.take (k + 1)) ++ flat Net.vals (xs.drop (k + 1)) := by rw [← flat_append, List.take_append_drop]
    have h2 : (flat Net.vals (xs.take (k + 1))).length = (k + 1) * 4 := by rw [flat_len Net.vl, List.length_take, Nat.min_eq_left (by omega)]
    rw [h1, List.getElem?_append_right (by omega), h2, Nat.add_sub_cancel_left]
    exact hu)
  have i0 : (0 : Int) ≤ (k : Int) := by omega
  have i1 : (k : Int) < (xs.length : Int) := by omega
  have i2 : (k : Int) + 1 ≤ (xs.length : Int) := by omega
  have i3 : (xs.length : Int) ≤ (c : Int) := by omega
  have i4 : ((k : Int) + 1).toNat = k + 1 := by omega
  have i5 : ((k : Int) == (k : Int) + 1) = false := by simp; omega
  clear M0 hL hil hn
  go_enter Try.func82, Try.ntmps82
  have HK2 := Lib.hid (show k + (xs.length - (k + 1)) = xs.length - 1 by omega)
  have HLN := Lib.hid (show (flat Net.vals (xs.drop (k + 1))).length = (xs.length - (k + 1)) * 4 by rw [flat_len Net.vl, List.length_drop])
  have hc0 : ¬ (c = 0) := by omega
  have hkc : k ≤ c := by omega
  have hl1 : xs.length - (xs.length - 1) = 1 := by omega
  have hcn : ¬ (c = xs.length - 1) := by omega
  by_cases hce : c = k + 1
  · subst hce
    have hnl : xs.drop (k + 1) = [] := List.drop_of_length_le (by omega)
    have HNV := Lib.hid (fun (w2 : World) (j : Nat) (u : Value) (hu : (flat Net.vals (xs.drop (k + 1)))[j]? = some u) => show w2.cell? ((⟨g, 0, none⟩ : Addr).add j) = some u by rw [hnl] at hu; simp [flat] at hu)
    have HLZ := Lib.hid (show (flat Net.vals (xs.drop (k + 1))).length = 0 * 4 by rw [hnl]; rfl)
    have HKZ := Lib.hid (show k + 0 = xs.length - 1 by omega)
    clear hnl
    have hq1 : k ≤ k + 1 := by omega
    have hq2 : (k : Int) ≤ (k : Int) + 1 := by omega
    have hq3 : ¬ (k + 1 = 0) := by omega
    go_wp2
    refine region_any (by kernel_rfl) ?_
    have m := M.out.drew
    clear M
    have M := Lib.hid m
    clear m
    refine takeD (i := 0) (v := ?v0) 20 rfl (by kernel_rfl) (by kernel_rfl) (by kernel_rfl) (fun _ _ _ h => h) rfl (Or.inl ⟨by first | rfl | (go_simp; done), ?y0⟩) ?r0
    case' y0 =>
      intro w
      go_simp
      try with_reducible rfl
    case' r0 =>
      try simp only [Act.put, List.setIfInBounds_toArray, List.set_cons_succ, List.set_cons_zero]
      refine takeD (i := 1) (v := ?v1) 21 rfl (by kernel_rfl) (by kernel_rfl) (by kernel_rfl) (fun _ _ _ h => h) rfl (Or.inl ⟨by first | rfl | (go_simp; done), ?y1⟩) ?r1
      case' y1 =>
        intro w
        go_simp
        try with_reducible rfl
      case' r1 =>
        try simp only [Act.put, List.setIfInBounds_toArray, List.set_cons_succ, List.set_cons_zero]
        refine takeD (i := 2) (v := ?v2) 22 rfl (by kernel_rfl) (by kernel_rfl) (by kernel_rfl) (fun _ _ _ h => h) rfl (Or.inl ⟨by first | rfl | (go_simp; done), ?y2⟩) ?r2
        case' y2 =>
          intro w
          go_simp
          try with_reducible rfl
        case' r2 =>
          try simp only [Act.put, List.setIfInBounds_toArray, List.set_cons_succ, List.set_cons_zero]
          refine takeD (i := 3) (v := ?v3) 23 rfl (by kernel_rfl) (by kernel_rfl) (by kernel_rfl) (fun _ _ _ h => h) rfl (Or.inl ⟨by first | rfl | (go_simp; done), ?y3⟩) ?r3
          case' y3 =>
            intro w
            go_simp
            try with_reducible rfl
          case' r3 =>
            try simp only [Act.put, List.setIfInBounds_toArray, List.set_cons_succ, List.set_cons_zero]
            refine any1k 4 (by kernel_rfl) rfl (fun K hK => ?_)
            go_wp2
            refine onward_normal (hK _ _ ?_)
            clear hK K
            try simp only [Act.put, List.getElem_toArray, List.getElem_cons_succ, List.getElem_cons_zero, List.setIfInBounds_toArray, List.set_cons_succ, List.set_cons_zero]
            refine any1k 5 (by kernel_rfl) rfl (fun K hK => ?_)
            go_wp2
            refine onward_normal (hK _ _ ?_)
            clear hK K
            try simp only [Act.put, List.getElem_toArray, List.getElem_cons_succ, List.getElem_cons_zero, List.setIfInBounds_toArray, List.set_cons_succ, List.set_cons_zero]
            refine any1k 6 (by kernel_rfl) rfl (fun K hK => ?_)
            go_wp2_with (first | ((with_reducible refine gate_dst (N := 26) rfl ?_); go_must (refine (M.out.row_less i HL.out k (by omega)).ev_appendFit i elem_Net rfl _ _ rfl (List.getElem?_set_self HIL.out) rfl rfl HLZ.out (HNV.out _) (flat_one Net.ones _) (by omega) ?_); intro w26 m; rw [List.set_set, flat_take Net.vl xs k (by omega), HER.out, HKZ.out] at m; rw [HKZ.out]; have M := Lib.hid m; clear m))
            refine onward_normal (hK _ _ ?_)
            clear hK K
            try simp only [Act.put, List.getElem_toArray, List.getElem_cons_succ, List.getElem_cons_zero, List.setIfInBounds_toArray, List.set_cons_succ, List.set_cons_zero]
            refine any1k 7 (by kernel_rfl) rfl (fun K hK => ?_)
            go_wp2
            refine onward_normal (hK _ _ ?_)
            clear hK K
            try simp only [Act.put, List.getElem_toArray, List.getElem_cons_succ, List.getElem_cons_zero, List.setIfInBounds_toArray, List.set_cons_succ, List.set_cons_zero]
            refine wpAny_done (by kernel_rfl) ?_ _
    all_goals
      go_wp2_with (first
        | (refine M.out.ev_clear1 i elem_Net rfl rfl _ rfl (List.getElem?_set_self HIL.out) (by omega) rfl (by simp [Net.z, Net.vals, Value.cells, Value.oneCell']) ?_; intro wn m; have M := Lib.hid m; clear m)
        )
      go_ret
      exact ⟨rfl, M.out⟩
  · skip
    go_wp2
    refine region_any (by kernel_rfl) ?_
    have m := M.out.drew
    clear M
    have M := Lib.hid m
    clear m
    refine takeD (i := 0) (v := ?v4) 20 rfl (by kernel_rfl) (by kernel_rfl) (by kernel_rfl) (fun _ _ _ h => h) rfl (Or.inl ⟨by first | rfl | (go_simp; done), ?y4⟩) ?r4
    case' y4 =>
      intro w
      go_simp
      try with_reducible rfl
    case' r4 =>
      try simp only [Act.put, List.setIfInBounds_toArray, List.set_cons_succ, List.set_cons_zero]
      refine takeD (i := 1) (v := ?v5) 21 rfl (by kernel_rfl) (by kernel_rfl) (by kernel_rfl) (fun _ _ _ h => h) rfl (Or.inl ⟨by first | rfl | (go_simp; done), ?y5⟩) ?r5
      case' y5 =>
        intro w
        go_simp
        try with_reducible rfl
      case' r5 =>
        try simp only [Act.put, List.setIfInBounds_toArray, List.set_cons_succ, List.set_cons_zero]
        refine takeD (i := 2) (v := ?v6) 22 rfl (by kernel_rfl) (by kernel_rfl) (by kernel_rfl) (fun _ _ _ h => h) rfl (Or.inl ⟨by first | rfl | (go_simp; done), ?y6⟩) ?r6
        case' y6 =>
          intro w
          go_simp
          try with_reducible rfl
        case' r6 =>
          try simp only [Act.put, List.setIfInBounds_toArray, List.set_cons_succ, List.set_cons_zero]
          refine takeD (i := 3) (v := ?v7) 23 rfl (by kernel_rfl) (by kernel_rfl) (by kernel_rfl) (fun _ _ _ h => h) rfl (Or.inl ⟨by first | rfl | (go_simp; done), ?y7⟩) ?r7
          case' y7 =>
            intro w
            go_simp
            try with_reducible rfl
          case' r7 =>
            try simp only [Act.put, List.setIfInBounds_toArray, List.set_cons_succ, List.set_cons_zero]
            refine any1k 4 (by kernel_rfl) rfl (fun K hK => ?_)
            go_wp2
            refine onward_normal (hK _ _ ?_)
            clear hK K
            try simp only [Act.put, List.getElem_toArray, List.getElem_cons_succ, List.getElem_cons_zero, List.setIfInBounds_toArray, List.set_cons_succ, List.set_cons_zero]
            refine any1k 5 (by kernel_rfl) rfl (fun K hK => ?_)
            go_wp2
            refine onward_normal (hK _ _ ?_)
            clear hK K
            try simp only [Act.put, List.getElem_toArray, List.getElem_cons_succ, List.getElem_cons_zero, List.setIfInBounds_toArray, List.set_cons_succ, List.set_cons_zero]
            refine any1k 6 (by kernel_rfl) rfl (fun K hK => ?_)
            go_wp2_with (first | ((with_reducible refine gate_dst (N := 26) rfl ?_); go_must (refine (M.out.row_less i HL.out k (by omega)).ev_appendFit i elem_Net rfl _ _ rfl (List.getElem?_set_self HIL.out) rfl rfl HLN.out (HNW.out _ M.out) (flat_one Net.ones _) (by omega) ?_); intro w26 m; rw [List.set_set, flat_take Net.vl xs k (by omega), HER.out, HK2.out] at m; rw [HK2.out]; have M := Lib.hid m; clear m))
            refine onward_normal (hK _ _ ?_)
            clear hK K
            try simp only [Act.put, List.getElem_toArray, List.getElem_cons_succ, List.getElem_cons_zero, List.setIfInBounds_toArray, List.set_cons_succ, List.set_cons_zero]
            refine any1k 7 (by kernel_rfl) rfl (fun K hK => ?_)
            go_wp2
            refine onward_normal (hK _ _ ?_)
            clear hK K
            try simp only [Act.put, List.getElem_toArray, List.getElem_cons_succ, List.getElem_cons_zero, List.setIfInBounds_toArray, List.set_cons_succ, List.set_cons_zero]
            refine wpAny_done (by kernel_rfl) ?_ _
    all_goals
      go_wp2_with (first
        | (refine M.out.ev_clear1 i elem_Net rfl rfl _ rfl (List.getElem?_set_self HIL.out) (by omega) rfl (by simp [Net.z, Net.vals, Value.cells, Value.oneCell']) ?_; intro wn m; have M := Lib.hid m; clear m)
        )
      go_ret
      exact ⟨rfl, M.out⟩
end Go.Proofs.Ytnddoiapilookaa
