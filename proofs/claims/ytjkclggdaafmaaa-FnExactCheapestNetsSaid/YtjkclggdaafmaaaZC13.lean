/- Texts of a proof, laid together: Tree, GreedyP, SeekP, Gen2, GreedyN, Oth. -/
import Derived.Test.YtjkclggdaafmaaaZC09
import Derived.Test.YtjkclggdaafmaaaZC12
import Derived.Test.YtjkclggdaafmaaaZC04
import Derived.Test.YtjkclggdaafmaaaZC01
import Derived.Maps.OwnOps
import Derived.Maps.Views
namespace Go.Proofs.Ytjkclggdaafmaaa
set_option linter.unusedSimpArgs false
set_option linter.unusedVariables false
open Go.RowKit
attribute [local go_sem] cell?_mk frozen?_mk
--ONES exact Cs.one _
theorem Sl.range {w : World} {sz b off n : Nat} {cs : List Value} (h : Sl w sz (some ⟨b, off, none⟩) n cs) (hn : 0 < n) : w.rangeAt b off cs := by
  obtain ⟨b', off', he, hr⟩ := h.2 hn
  injection he with he
  injection he with h1 h2
  subst h1 h2
  exact hr
theorem mem_all {c : Cs} {k : Nat} : k ∈ c.all ↔ k < 100 ∧ c.has k = true := by
  rw [Cs.all, Cs.below, List.mem_filter, List.mem_range]
theorem all_congr' {a b : Cs} (h : ∀ k, k < 100 → a.has k = b.has k) : a.all = b.all := by
  unfold Cs.all Cs.below
  refine List.filter_congr fun k hk => h k (List.mem_range.1 hk)
/-- Whether a target has a tree. -/
def wood (F : Fld) (c : Cs) : Bool := c.all.any fun k => F.kind k == 3
theorem wood_set {F : Fld} {c : Cs} (hc : c.ok) (h : ∀ k ∈ c.all, F.has k = true) : (c.both (ofKd F 3)).same Cs.z = !wood F c := by
  rw [Bool.eq_iff_iff, Cs.same_iff, Bool.not_eq_true', wood, List.any_eq_false]
  constructor
  · intro h0 k hk
    obtain ⟨k1, k2⟩ := mem_all.1 hk
    have := Cs.both_has c (ofKd F 3) k1
    rw [h0, k2, ofKd_has F 3 k1, h k hk] at this
    intro hq
    rw [hq] at this
    simp [Cs.has, Cs.z] at this
  · intro h0
    refine Cs.ext_has (Cs.both_ok hc) Cs.z_ok fun k hk => ?_
    rw [show Cs.z.has k = false by unfold Cs.has Cs.z; split <;> simp]
    by_cases h1 : k < 100
    · rw [Cs.both_has c _ h1, ofKd_has F 3 h1]
      cases hk2 : c.has k
      · rfl
      · have := h0 k (mem_all.2 ⟨h1, hk2⟩)
        rw [Bool.not_eq_true] at this
        rw [this]
        simp
    · unfold Cs.both
      exact Cs.cut_small _ (by omega) hk
set_option maxRecDepth 100000 in
set_option maxHeartbeats 2000000 in
theorem haveTree_any (g : Nat) {t : TypeId} (F : Fld) (hF : F.ok) (c : Cs) (hc : c.ok) (hin : ∀ k ∈ c.all, F.has k = true) (w : World) (hb : Blk w g t F.cells) :
    Calls Try.prog 43 #[.pointer (some ⟨g, 0, none⟩), .agg c.cells] w fun e w' => e = .returned (.bool (wood F c)) ∧ Mem w w' [] := by
  have M := Lib.hid (Mem.start w)
  have HB := Lib.hid hb
  have heq := neqCs (c.both (ofKd F 3)) Cs.z
  rw [wood_set hc hin, Bool.not_not] at heq
  change ∀ w, (binOp .neq 39 (.agg (c.both (ofKd F 3)).cells) (.agg #[.int .u64 0, .int .u64 0])).run Try.prog w = _ at heq
  clear hb
  go_enter Try.func43, Try.ntmps43
  go_wp2_with (first
    | ((with_reducible refine gate_dst (N := 3) rfl ?_); go_must (refine M.out.ev_new rfl (by first | (go_simp; done) | (go_simp; rfl)) ?_); intro g3 w3 m; simp only [List.cons_append, List.nil_append] at m; have M := Lib.hid m; clear m)
    | ((with_reducible refine gate_dst (N := 5) rfl ?_); go_must (refine M.out.ev_ldw 0 _ _ rfl rfl rfl Try.underlying39 rfl (by first | exact sz39 | (rw [S1.out]; exact sz39) | (rw [S2.out]; exact sz39) | (rw [S3.out]; exact sz39)) rfl ?_))
    )
  refine region_anyH (fun w' => Mem w w' [.blk g3 39 c.cells]) (by kernel_rfl) ?_
  have m := M.out.drew
  clear M
  have M := Lib.hid m
  clear m
  apply takeH (i := 0) 5 rfl (by kernel_rfl) (by kernel_rfl) (by kernel_rfl) (fun _ _ _ h => h) rfl (by first | exact M.out | exact M.out.take 1)
  case' hy => exact yldw _ _ rfl rfl Try.underlying39 rfl (by first | exact sz39 | (rw [S1.out]; exact sz39) | (rw [S2.out]; exact sz39) | (rw [S3.out]; exact sz39)) rfl (fun w' hS => hS.blk 0 rfl)
  try simp only [Act.put, List.getElem_toArray, List.getElem_cons_succ, List.getElem_cons_zero, List.setIfInBounds_toArray, List.set_cons_succ, List.set_cons_zero]
  apply takeH (i := 1) 6 rfl (by kernel_rfl) (by kernel_rfl) (by kernel_rfl) (fun _ _ _ h => h) rfl (by first | exact M.out | exact M.out.take 1)
  case' hy =>
    refine Or.inl ⟨by first | rfl | (go_simp; done), ?_⟩
    intro w hS
    clear hS
    go_simp
    try with_reducible rfl
  try simp only [Act.put, List.getElem_toArray, List.getElem_cons_succ, List.getElem_cons_zero, List.setIfInBounds_toArray, List.set_cons_succ, List.set_cons_zero]
  apply takeH (i := 4) 9 rfl (by kernel_rfl) (by kernel_rfl) (by kernel_rfl) (fun _ _ _ h => h) rfl (by first | exact M.out | exact M.out.take 1)
  case' hy =>
    refine Or.inl ⟨by first | rfl | (go_simp; done), ?_⟩
    intro w hS
    clear hS
    go_simp
    try with_reducible rfl
  try simp only [Act.put, List.getElem_toArray, List.getElem_cons_succ, List.getElem_cons_zero, List.setIfInBounds_toArray, List.set_cons_succ, List.set_cons_zero]
  refine any1H 2 (by kernel_rfl) rfl (fun K hK => ?_)
  go_wp2_with (first | ((with_reducible refine gate_dst (N := 5) rfl ?_); go_must (refine M.out.ev_ldw 0 _ _ rfl rfl rfl Try.underlying39 rfl (by first | exact sz39 | (rw [S1.out]; exact sz39) | (rw [S2.out]; exact sz39) | (rw [S3.out]; exact sz39)) rfl ?_)) | (go_at_call 79; go_must (refine (ofKind_any g F hF 3 _ (M.out.arg HB.out)).mono ?_); rintro e w_ ⟨rfl, N_⟩; have m := M.out.join N_; clear N_; simp only [List.cons_append, List.nil_append, List.append_nil] at m; have M := Lib.hid m; clear m) | (go_at_call 78; go_must (refine (BothOf_any _ _ hc (ofKd_ok F 3) _).mono ?_); rintro e w_ ⟨rfl, N_⟩; have m := M.out.join N_; clear N_; simp only [List.cons_append, List.nil_append, List.append_nil] at m; have M := Lib.hid m; clear m))
  refine onward_normal (hK _ _ ⟨(by first | exact M.out | exact M.out.take 1), ?_⟩)
  clear hK K
  try simp only [Act.put, List.getElem_toArray, List.getElem_cons_succ, List.getElem_cons_zero, List.setIfInBounds_toArray, List.set_cons_succ, List.set_cons_zero]
  refine any1H 3 (by kernel_rfl) rfl (fun K hK => ?_)
  go_wp2_with (first | ((with_reducible refine gate_dst (N := 5) rfl ?_); go_must (refine M.out.ev_ldw 0 _ _ rfl rfl rfl Try.underlying39 rfl (by first | exact sz39 | (rw [S1.out]; exact sz39) | (rw [S2.out]; exact sz39) | (rw [S3.out]; exact sz39)) rfl ?_)) | (go_at_call 79; go_must (refine (ofKind_any g F hF 3 _ (M.out.arg HB.out)).mono ?_); rintro e w_ ⟨rfl, N_⟩; have m := M.out.join N_; clear N_; simp only [List.cons_append, List.nil_append, List.append_nil] at m; have M := Lib.hid m; clear m) | (go_at_call 78; go_must (refine (BothOf_any _ _ hc (ofKd_ok F 3) _).mono ?_); rintro e w_ ⟨rfl, N_⟩; have m := M.out.join N_; clear N_; simp only [List.cons_append, List.nil_append, List.append_nil] at m; have M := Lib.hid m; clear m))
  refine onward_normal (hK _ _ ⟨(by first | exact M.out | exact M.out.take 1), ?_⟩)
  clear hK K
  try simp only [Act.put, List.getElem_toArray, List.getElem_cons_succ, List.getElem_cons_zero, List.setIfInBounds_toArray, List.set_cons_succ, List.set_cons_zero]
  apply takeH (i := 5) 10 rfl (by kernel_rfl) (by kernel_rfl) (by kernel_rfl) (fun _ _ _ h => h) rfl (by first | exact M.out | exact M.out.take 1)
  case' hy =>
    refine Or.inl ⟨by first | rfl | (go_simp; done), ?_⟩
    intro w hS
    clear hS
    go_simp
    try with_reducible rfl
  try simp only [Act.put, List.getElem_toArray, List.getElem_cons_succ, List.getElem_cons_zero, List.setIfInBounds_toArray, List.set_cons_succ, List.set_cons_zero]
  apply takeH (i := 6) 4 rfl (by kernel_rfl) (by kernel_rfl) (by kernel_rfl) (fun _ _ _ h => h) rfl (by first | exact M.out | exact M.out.take 1)
  case' hy =>
    refine Or.inl ⟨by first | rfl | (go_simp; done), ?_⟩
    intro w hS
    clear hS
    go_simp
    try with_reducible rfl
  try simp only [Act.put, List.getElem_toArray, List.getElem_cons_succ, List.getElem_cons_zero, List.setIfInBounds_toArray, List.set_cons_succ, List.set_cons_zero]
  refine wpAnyH_done (by kernel_rfl) ?_ _
  all_goals
    go_wp2
    go_ret
    exact ⟨rfl, M.out.take 0⟩
set_option maxRecDepth 100000 in
set_option maxHeartbeats 2000000 in
theorem l04Wood_any (g h : Nat) {t t' : TypeId} (F : Fld) (hF : F.ok) (c : Cs) (hc : c.ok) (w : World) (hb : Blk w g t F.cells) (hcb : Blk w h t' c.cells) :
    Calls Try.prog 33 #[.pointer (some ⟨g, 0, none⟩), .pointer (some ⟨h, 0, none⟩)] w fun e w' => e = .returned (.bool (wood F c)) ∧ Mem w w' [] := by
  have M := Lib.hid (Mem.start w)
  have HB := Lib.hid hb
  have HCB := Lib.hid hcb
  have hcl : c.all.length ≤ 100 := c.below_len 100
  clear hb hcb
  go_enter Try.func33, Try.ntmps33
  go_wp2_with (first
    | (go_at_call 34; go_must (refine (l01List_any h c hc _ (M.out.arg HCB.out)).mono ?_); rintro e w_ ⟨A_, c_, rfl, hc_, N_⟩; have m := M.out.join N_; clear N_; simp only [List.cons_append, List.nil_append, List.append_nil] at m; have M := Lib.hid m; clear m)
    )
  go_loopw [6] (fun v wr => ∃ k : Nat, k ≤ c.all.length ∧ v = .int .i64 k ∧ ((c.all.take k).any fun k => F.kind k == 3) = false ∧ Mem w wr [.row (.slice A_ c.all.length c_) 2 1 c.all.length (flat one64 c.all)])
    (fun v _ => c.all.length - (intOf v).toNat)
  case atStart => exact ⟨0, by omega, rfl, rfl, M.out⟩
  case round =>
    clear M
    obtain ⟨k, hk, rfl, hany, m⟩ := hrel
    have M := Lib.hid m
    have HA := Lib.hid hany
    clear m hany
    by_cases hlt : k < c.all.length
    · obtain ⟨b, off, rfl, hr⟩ := (M.out.slof 0 rfl).2 (by omega)
      have hxk : c.all[k]? = some c.all[k] := List.getElem?_eq_getElem hlt
      have R := range_at one64_len hr hxk
      have HTK := Lib.hid (List.take_succ_eq_append_getElem hlt)
      have HME := Lib.hid (List.getElem_mem hlt)
      have hj2 := (mem_all.1 (List.getElem_mem hlt)).1
      obtain ⟨j, hj⟩ : ∃ j, j = c.all[k] := ⟨_, rfl⟩
      rw [← hj] at R HTK HME hj2
      have x0 : wr.cell? ⟨b, off + k, none⟩ = some (.int .i64 j) := by simpa [nat64] using R 0 _ rfl
      have i0 : (0 : Int) ≤ (k : Int) := by omega
      have i1 : (k : Int) < (c.all.length : Int) := by omega
      have j0 : (0 : Int) ≤ (j : Int) := by omega
      have j1 : (j : Int) < 100 := by omega
      have y4 := (M.out.arg HB.out).cellv (Fld.cellK hF.toLen (k := j) hj2)
      clear hr hxk R hj
      cases hq : (F.kind j == 3)
      all_goals
        have HQ := Lib.hid hq
        go_wp2
        go_quiet (fail)
        have M := Lib.hid (M.out.drewN nq)
        go_wp2
      · refine ⟨⟨k + 1, by omega, by go_num, ?_, M.out⟩, by simp [intOf]; omega⟩
        rw [HTK.out, List.any_append, HA.out]
        simp [HQ.out]
      · go_ret
        refine ⟨ret_bool ?_, M.out.take 0⟩
        symm
        rw [wood, List.any_eq_true]
        exact ⟨j, HME.out, HQ.out⟩
    · obtain rfl : k = c.all.length := by omega
      go_wp2
      go_ret
      refine ⟨ret_bool ?_, M.out.take 0⟩
      have := HA.out
      rw [List.take_length] at this
      rw [wood, this]
set_option maxRecDepth 100000 in
set_option maxHeartbeats 2000000 in
theorem l04Priced_any (g h : Nat) {t t' : TypeId} (F : Fld) (hF : F.ok) (p : Prices) (hp : p.ok) (c : Cs) (hc : c.ok) (w : World) (hb : Blk w g t F.cells) (hcb : Blk w h t' c.cells) :
    Calls Try.prog 31 #[.pointer (some ⟨g, 0, none⟩), .agg p.vals.toArray, .pointer (some ⟨h, 0, none⟩)] w fun e w' => e = .returned (.int .i64 (prCode F p [] c)) ∧ Mem w w' [] := by
  have M := Lib.hid (Mem.start w)
  have HB := Lib.hid hb
  have HCB := Lib.hid hcb
  clear hb hcb
  cases hq : p.good
  all_goals
    have HQ := Lib.hid hq
    have HR := Lib.hid (show prCode F p [] c = if p.good = true then ntCode F [] c else 1 from rfl)
    clear hq
    go_enter Try.func31, Try.ntmps31
    go_wp2_with (first
      | ((with_reducible refine gate_dst (N := 4) rfl ?_); go_must (refine M.out.ev_new rfl (by first | (go_simp; done) | (go_simp; rfl)) ?_); intro g4 w4 m; simp only [List.cons_append, List.nil_append] at m; have M := Lib.hid m; clear m)
      | ((with_reducible refine gate_dst (N := 7) rfl ?_); go_must (refine M.out.ev_ldw 0 _ _ rfl rfl rfl Try.underlying37 rfl (by first | exact sz37 | (rw [S1.out]; exact sz37) | (rw [S2.out]; exact sz37) | (rw [S3.out]; exact sz37)) rfl ?_))
      | (go_at_call 72; go_must (refine (l04Prices_any p hp _).mono ?_); rintro e w_ ⟨rfl, N_⟩; have m := M.out.join N_; clear N_; simp only [List.cons_append, List.nil_append, List.append_nil] at m; have M := Lib.hid m; clear m; rw [HQ.out])
      | (go_at_call 73; go_must (refine (l04Targets_any g h F hF none 0 [] (fun _ h => absurd h (by simp)) (by simp) c hc _ (M.out.arg HB.out) Sl.nil_ (M.out.arg HCB.out)).mono ?_); rintro e w_ ⟨rfl, N_⟩; have m := M.out.join N_; clear N_; simp only [List.cons_append, List.nil_append, List.append_nil] at m; have M := Lib.hid m; clear m)
      )
    go_ret
    exact ⟨ret_int (by rw [HR.out, HQ.out]; rfl), M.out.take 0⟩
set_option maxRecDepth 100000 in
set_option maxHeartbeats 2000000 in
theorem pricesNil_any (g : Nat) {t : TypeId} (F : Fld) (hF : F.ok) (p : Prices) (hp : p.ok) (c : Cs) (hc : c.ok) (w : World) (hb : Blk w g t F.cells) :
    Calls Try.prog 41 #[.pointer (some ⟨g, 0, none⟩), .agg p.vals.toArray, .slice none 0 0, .agg c.cells] w fun e w' => e = .returned (.int .i64 (prCode F p [] c)) ∧ Mem w w' [] :=
  pricesCode_any g F hF p hp none 0 [] (fun _ h => absurd h (by simp)) (by simp) c hc w hb Sl.nil_
theorem prCode_0 {F : Fld} {p : Prices} {xs : List Net} {c : Cs} (h : prCode F p xs c = 0) : p.good = true ∧ ntCode F xs c = 0 := by
  unfold prCode at h
  split at h
  · rename_i hg
    exact ⟨hg, h⟩
  · cases h
theorem cut_all (c : Cs) : c.cut.all = c.all := all_congr' fun k hk => Cs.cut_has c hk
end Go.Proofs.Ytjkclggdaafmaaa
namespace Go.Proofs.Ytjkclggdaafmaaa
set_option linter.unusedSimpArgs false
set_option linter.unusedVariables false
open Go.RowKit

theorem nets1_mem {F : Fld} {x y h w0 i : Nat} {n : Net} : n ∈ nets1 F x y h w0 i ↔ n.fits F = true ∧ ∃ a, a < i ∧ n = ⟨(x : Nat), (y : Nat), (w0 + a : Nat), (h : Nat)⟩ := by
  simp only [nets1, List.mem_filter, List.mem_map, List.mem_range]
  constructor
  · rintro ⟨⟨a, ha, rfl⟩, hf⟩
    exact ⟨hf, a, ha, rfl⟩
  · rintro ⟨hf, a, ha, rfl⟩
    exact ⟨⟨a, ha, rfl⟩, hf⟩
theorem nets4_mem {F : Fld} {r d W H y : Nat} {n : Net} : n ∈ nets4 F r d W H y ↔ n.fits F = true ∧ ∃ b a j i, b < y ∧ a < r + 1 ∧ j < H ∧ i < W ∧ n = ⟨(a : Nat), (b : Nat), (r + 1 - a + i : Nat), (d + 1 - b + j : Nat)⟩ := by
  simp only [nets4, nets3, nets2, List.mem_flatMap, List.mem_range, nets1_mem]
  constructor
  · rintro ⟨b, hb, a, ha, j, hj, hf, i, hi, rfl⟩
    exact ⟨hf, b, a, j, i, hb, ha, hj, hi, rfl⟩
  · rintro ⟨hf, b, a, j, i, hb, ha, hj, hi, rfl⟩
    exact ⟨b, hb, a, ha, j, hj, hf, i, hi, rfl⟩
theorem netsAt_fits {F : Fld} {k : Nat} {n : Net} (h : n ∈ netsAt F k) : n.fits F = true := (nets4_mem.1 h).1
theorem netsAt_inside {F : Fld} {k : Nat} {n : Net} (h : n ∈ netsAt F k) : n.inside k = true := by
  obtain ⟨_, b, a, j, i, hb, ha, hj, hi, rfl⟩ := nets4_mem.1 h
  simp only [Net.inside, Bool.and_eq_true, inB_iff]
  omega
theorem netsAt_ne {F : Fld} (hv : F.valid = true) {k : Nat} (hk : k < 100) (hh : F.has k = true) (ht : (F.kind k == 3) = false) : netsAt F k ≠ [] := by
  obtain ⟨⟨wl, wu⟩, ⟨hl, hu⟩⟩ := Fld.valid_size hv
  obtain ⟨h1, h2⟩ := has_size hk hh
  refine List.ne_nil_of_mem (a := (⟨(k % 10 : Nat), (k / 10 : Nat), (k % 10 + 1 - k % 10 + 0 : Nat), (k / 10 + 1 - k / 10 + 0 : Nat)⟩ : Net)) (nets4_mem.2 ⟨?_, k / 10, k % 10, 0, 0, by omega, by omega, by omega, by omega, rfl⟩)
  refine Net.fits_yes (Net.plain_iff.2 ?_) ?_ ?_ fun j hj => ?_
  · dsimp only; omega
  · dsimp only; omega
  · dsimp only; omega
  · rcases Nat.decEq j k with hjk | hjk
    · rw [Bool.and_eq_false_iff]
      left
      rw [← Bool.not_eq_true]
      simp only [Net.inside, Bool.and_eq_true, inB_iff]
      omega
    · rw [hjk, ht, Bool.and_false]
def lenOf : Value → Nat | .slice _ n _ => n | _ => 0
theorem costs_1 (p : Prices) (n : Net) : costs p [n] = netCost p n := by simp [costs]
def costN (p : Prices) (n : Net) : Int := costs p [n]
/-- How many targets a net covers. -/
def cnt (left : Cs) (n : Net) : Nat := ((netSet n).both left).all.length
/-- The best net so far: itself, its cost, how many targets it covers (0 if there is none yet). -/
def gStep (p : Prices) (left : Cs) (s : Net × Int × Nat) (n : Net) : Net × Int × Nat :=
  if (decide (s.2.2 = 0) || decide (netCost p n * (s.2.2 : Int) < s.2.1 * (cnt left n : Int))) = true then (n, netCost p n, cnt left n) else s
def g0 : Net × Int × Nat := (⟨0, 0, 0, 0⟩, 0, 0)
def gTo (p : Prices) (left : Cs) (ns : List Net) (i : Nat) : Net × Int × Nat := (ns.take i).foldl (gStep p left) g0
def gBest (p : Prices) (left : Cs) (ns : List Net) : Net := (gTo p left ns ns.length).1
/-- Nets taken one after the other, for the least target that is left. -/
def greedyFrom (F : Fld) (p : Prices) : Nat → Cs → List Net → List Net
  | 0, _, out => out
  | m + 1, left, out => match left.all with
    | [] => out
    | k :: _ => greedyFrom F p m (left.without (netSet (gBest p left (netsAt F k)))) (out ++ [gBest p left (netsAt F k)])
theorem without_all (left s : Cs) : (left.without s).all = left.all.filter fun k => !s.has k := by
  unfold Cs.all Cs.below
  rw [List.filter_filter]
  refine List.filter_congr fun k hk => ?_
  rw [Cs.without_has _ _ (List.mem_range.1 hk), Bool.and_comm]
theorem without_lt {left s : Cs} {k : Nat} (hk : k ∈ left.all) (hs : s.has k = true) : (left.without s).all.length < left.all.length := by
  rw [without_all]
  exact List.length_filter_lt_length_iff_exists.2 ⟨k, hk, by rw [hs]; simp⟩
theorem without_cut (left s : Cs) : ∀ k, 100 ≤ k → k < 128 → (left.without s).has k = false := fun k h1 h2 => by
  unfold Cs.without
  exact Cs.cut_small _ h1 h2
/-- What the greedy walk keeps. -/
structure GOk (F : Fld) (p : Prices) (R : List Net) (left : Cs) (out : List Net) : Prop where
  ok : left.ok
  cut : ∀ k, 100 ≤ k → k < 128 → left.has k = false
  has : ∀ k ∈ left.all, F.has k = true
  bare : ∀ k ∈ left.all, (F.kind k == 3) = false
  fits : ∀ n ∈ out, n.fits F = true
  len : out.length + left.all.length ≤ 12
  res : ∃ m, left.all.length ≤ m ∧ greedyFrom F p m left out = R
theorem z_all : Cs.z.all = [] := by decide
theorem all_nil {left : Cs} (ho : left.ok) (h : ∀ k, 100 ≤ k → k < 128 → left.has k = false) (h0 : left.all = []) : left = Cs.z := by
  refine Cs.ext_has ho Cs.z_ok fun k hk => ?_
  rw [show Cs.z.has k = false by unfold Cs.has Cs.z; split <;> simp]
  by_cases h1 : k < 100
  · rw [← Bool.not_eq_true]
    intro hh
    have : k ∈ left.all := mem_all.2 ⟨h1, hh⟩
    rw [h0] at this
    cases this
  · exact h k (by omega) hk
def gRes (F : Fld) (p : Prices) (c : Cs) : List Net := if prCode F p [] c = 0 then (if wood F c = true then [] else greedyFrom F p 12 c.cut []) else []
def gCode (F : Fld) (p : Prices) (c : Cs) : Int := if prCode F p [] c = 0 then (if wood F c = true then 4 else 0) else prCode F p [] c
theorem GOk.start {F : Fld} {p : Prices} {c : Cs} (hc : c.ok) (h0 : ntCode F [] c = 0) (hw : wood F c = false) : GOk F p (greedyFrom F p 12 c.cut []) c.cut [] := by
  obtain ⟨_, _, h12, hin⟩ := ntCode_0 h0
  refine ⟨Cs.cut_ok hc, fun k h1 h2 => Cs.cut_small _ h1 h2, ?_, ?_, fun n hn => (by simp at hn), ?_, 12, ?_, rfl⟩
  · rw [cut_all]
    exact hin
  · rw [cut_all]
    intro k hk
    rw [wood, List.any_eq_false] at hw
    rw [← Bool.not_eq_true]
    exact hw k hk
  · rw [cut_all, List.length_nil]
    omega
  · rw [cut_all]
    exact h12
end Go.Proofs.Ytjkclggdaafmaaa
namespace Go.Proofs.Ytjkclggdaafmaaa
set_option linter.unusedSimpArgs false
set_option linter.unusedVariables false
open Go.RowKit

/-- What a search has: how many tries, the least cost (-1: none yet), the nets of it. -/
structure Sk where
  tries : Nat
  least : Int
  best : List Net
/-- Over the nets for one target. -/
def skIn (p : Prices) (B : Nat) (rec : Cs → List Net → Int → Sk → Bool × Sk) (left : Cs) (ns : List Net) (c : Int) : List Net → Sk → Bool × Sk
  | [], s => (true, s)
  | x :: r, s =>
    if 0 ≤ s.least ∧ s.least ≤ c + netCost p x then skIn p B rec left ns c r s
    else if s.tries = B then (false, s)
    else if (rec (left.without (netSet x)) (ns ++ [x]) (c + netCost p x) ⟨s.tries + 1, s.least, s.best⟩).1 = true then
      skIn p B rec left ns c r (rec (left.without (netSet x)) (ns ++ [x]) (c + netCost p x) ⟨s.tries + 1, s.least, s.best⟩).2
    else rec (left.without (netSet x)) (ns ++ [x]) (c + netCost p x) ⟨s.tries + 1, s.least, s.best⟩
def firstOf (left : Cs) : Nat := left.all.getD 0 0
def seek (F : Fld) (p : Prices) (B : Nat) : Nat → Cs → List Net → Int → Sk → Bool × Sk
  | 0, _, _, _, s => (true, s)
  | m + 1, left, ns, c, s => if left.all = [] then (true, ⟨s.tries, c, ns⟩) else skIn p B (seek F p B m) left ns c (netsAt F (firstOf left)) s
section
variable {F : Fld} {p : Prices} {B : Nat}
/-- Nets cover a set. -/
def covers (xs : List Net) (left : Cs) : Prop := ∀ k ∈ left.all, ∃ x ∈ xs, x.inside k = true
/-- What is true of a search that is under way from a part of the targets. -/
structure SkOk (F : Fld) (p : Prices) (T : Cs) (s : Sk) : Prop where
  cov : 0 ≤ s.least → covers s.best T
  fit : 0 ≤ s.least → ∀ x ∈ s.best, x.fits F = true
  sum : 0 ≤ s.least → s.least = costs p s.best
theorem costs_nonneg (hg : p.good = true) {xs : List Net} (h : ∀ x ∈ xs, x.fits F = true) : 0 ≤ costs p xs := (costs_b hg xs fun x hx => Net.fits_plain (h x hx)).1
/-- What is known of a part of the way: the nets so far cover what is not left. -/
structure SkAt (F : Fld) (p : Prices) (T left : Cs) (ns : List Net) (c : Int) : Prop where
  sub : ∀ k ∈ left.all, k ∈ T.all
  cov : ∀ k ∈ T.all, k ∉ left.all → ∃ x ∈ ns, x.inside k = true
  fit : ∀ x ∈ ns, x.fits F = true
  sum : c = costs p ns
theorem SkAt.next {T left : Cs} {ns : List Net} {c : Int} (h : SkAt F p T left ns c) {x : Net} (hx : x.fits F = true) : SkAt F p T (left.without (netSet x)) (ns ++ [x]) (c + netCost p x) where
  sub := fun k hk => h.sub k (by rw [without_all] at hk; exact (List.mem_filter.1 hk).1)
  cov := fun k hk hl => by
    by_cases h1 : k ∈ left.all
    · refine ⟨x, by simp, ?_⟩
      rw [without_all, List.mem_filter] at hl
      have : ¬ ((!(netSet x).has k) = true) := fun e => hl ⟨h1, e⟩
      rw [netSet, pset_has _ (mem_all.1 hk).1] at this
      simpa using this
    · obtain ⟨y, hy, hi⟩ := h.cov k hk h1
      exact ⟨y, List.mem_append_left _ hy, hi⟩
  fit := fun y hy => by
    rcases List.mem_append.1 hy with hy | hy
    · exact h.fit y hy
    · simp at hy; subst hy; exact hx
  sum := by rw [costs_snoc, h.sum]
/-- Where a search ends well, it has what it had, or something that costs no more; no cover of what is left costs less with what was spent. -/
def SkEnd (F : Fld) (p : Prices) (T left : Cs) (c : Int) (s : Sk) (q : Bool × Sk) : Prop :=
  SkOk F p T q.2 ∧ (0 ≤ s.least → 0 ≤ q.2.least ∧ q.2.least ≤ s.least) ∧
    (q.1 = true → ∀ xs : List Net, (∀ x ∈ xs, x.fits F = true) → covers xs left → 0 ≤ q.2.least ∧ q.2.least ≤ c + costs p xs)
theorem costs_split (p : Prices) {xs : List Net} {x : Net} (h : x ∈ xs) : ∃ ys, (∀ y ∈ ys, y ∈ xs) ∧ (∀ y ∈ xs, y = x ∨ y ∈ ys) ∧ costs p xs = netCost p x + costs p ys := by
  obtain ⟨a, b, rfl⟩ := List.append_of_mem h
  refine ⟨a ++ b, fun y hy => ?_, fun y hy => ?_, ?_⟩
  · rcases List.mem_append.1 hy with h | h
    · exact List.mem_append_left _ h
    · exact List.mem_append_right _ (List.mem_cons_of_mem _ h)
  · rcases List.mem_append.1 hy with h | h
    · exact .inr (List.mem_append_left _ h)
    · rcases List.mem_cons.1 h with h | h
      · exact .inl h
      · exact .inr (List.mem_append_right _ h)
  · simp only [costs, List.map_append, List.map_cons, List.sum_append, List.sum_cons]
    omega
theorem netsAt_full {k : Nat} (hk : k < 100) {n : Net} (hf : n.fits F = true) (hi : n.inside k = true) : n ∈ netsAt F k := by
  have hp := Net.plain_iff.1 (Net.fits_plain hf)
  have hf' := hf
  rw [Net.fits, Bool.and_eq_true, Bool.and_eq_true, Bool.and_eq_true] at hf'
  have h1 := of_decide_eq_true hf'.2.1
  have h2 := of_decide_eq_true hf'.2.2.1
  rw [Net.inside, Bool.and_eq_true, inB_iff, inB_iff] at hi
  unfold netsAt
  refine nets4_mem.2 ⟨hf, n.y.toNat, n.x.toNat, (n.y + n.high - 1 - (k / 10 : Nat)).toNat, (n.x + n.wide - 1 - (k % 10 : Nat)).toNat, by omega, by omega, by omega, by omega, ?_⟩
  obtain ⟨a, b, c, d⟩ := n
  simp only [Net.mk.injEq] at *
  refine ⟨by omega, by omega, by omega, by omega⟩
theorem skIn_end (hg : p.good = true) {T left : Cs} {ns : List Net} {c : Int} (h0 : 0 ≤ c) (A : SkAt F p T left ns c) (rec : Cs → List Net → Int → Sk → Bool × Sk)
    (hr : ∀ x, x.fits F = true → x ∈ netsAt F (firstOf left) → ∀ s, SkOk F p T s → (0 ≤ s.least → c + netCost p x ≤ s.least) → SkEnd F p T (left.without (netSet x)) (c + netCost p x) s (rec (left.without (netSet x)) (ns ++ [x]) (c + netCost p x) s)) :
    ∀ (r : List Net) (s : Sk), (∀ x ∈ r, x ∈ netsAt F (firstOf left)) → SkOk F p T s →
      SkOk F p T (skIn p B rec left ns c r s).2 ∧ (0 ≤ s.least → 0 ≤ (skIn p B rec left ns c r s).2.least ∧ (skIn p B rec left ns c r s).2.least ≤ s.least) ∧
        ((skIn p B rec left ns c r s).1 = true → ∀ xs : List Net, (∀ x ∈ xs, x.fits F = true) → covers xs left → (∃ x ∈ r, x ∈ xs) → 0 ≤ (skIn p B rec left ns c r s).2.least ∧ (skIn p B rec left ns c r s).2.least ≤ c + costs p xs)
  | [], s, _, hs => ⟨hs, fun h => ⟨h, Int.le_refl _⟩, fun _ xs _ _ ⟨x, hx, _⟩ => absurd hx (by simp)⟩
  | x :: r, s, hm, hs => by
    have hx := hm x (by simp)
    have hxf := netsAt_fits hx
    have hm' : ∀ y ∈ r, y ∈ netsAt F (firstOf left) := fun y hy => hm y (List.mem_cons_of_mem _ hy)
    -- what the nets that hold x cost
    have tail : ∀ xs : List Net, (∀ y ∈ xs, y.fits F = true) → covers xs left → x ∈ xs → ∃ ys, (∀ y ∈ ys, y.fits F = true) ∧ covers ys (left.without (netSet x)) ∧ costs p xs = netCost p x + costs p ys := by
      intro xs hxs hc hx'
      obtain ⟨ys, h1, h2, h3⟩ := costs_split p hx'
      refine ⟨ys, fun y hy => hxs y (h1 y hy), fun k hk => ?_, h3⟩
      rw [without_all, List.mem_filter] at hk
      obtain ⟨y, hy, hyi⟩ := hc k hk.1
      rcases h2 y hy with rfl | h
      · have := hk.2
        rw [netSet, pset_has _ (mem_all.1 hk.1).1, hyi] at this
        cases this
      · exact ⟨y, h, hyi⟩
    rw [skIn]
    split
    · rename_i hc
      obtain ⟨i1, i2, i3⟩ := skIn_end hg h0 A rec hr r s hm' hs
      refine ⟨i1, i2, fun hq xs hxs hcov ⟨y, hy, hyx⟩ => ?_⟩
      rcases List.mem_cons.1 hy with rfl | hy
      · obtain ⟨ys, hys, _, he⟩ := tail xs hxs hcov hyx
        have := costs_nonneg hg hys
        have := i2 hc.1
        omega
      · exact i3 hq xs hxs hcov ⟨y, hy, hyx⟩
    · split
      · exact ⟨hs, fun h => ⟨h, Int.le_refl _⟩, fun h => by cases h⟩
      · rename_i hnc _
        have hs2 : SkOk F p T ⟨s.tries + 1, s.least, s.best⟩ := ⟨hs.cov, hs.fit, hs.sum⟩
        obtain ⟨j1, j2, j3⟩ := hr x hxf hx ⟨s.tries + 1, s.least, s.best⟩ hs2 (fun h => by
          have h : 0 ≤ s.least := h
          show _ ≤ s.least
          rcases Int.lt_or_le (c + netCost p x) s.least with h9 | h9
          · omega
          · exact absurd ⟨h, h9⟩ hnc)
        split
        · rename_i hq1
          obtain ⟨i1, i2, i3⟩ := skIn_end hg h0 A rec hr r _ hm' j1
          refine ⟨i1, fun h => ?_, fun hq xs hxs hcov ⟨y, hy, hyx⟩ => ?_⟩
          · have a := j2 h
            have b := i2 a.1
            exact ⟨b.1, Int.le_trans b.2 a.2⟩
          · rcases List.mem_cons.1 hy with rfl | hy
            · obtain ⟨ys, hys, hcy, he⟩ := tail xs hxs hcov hyx
              have a := j3 hq1 ys hys hcy
              have b := i2 a.1
              omega
            · exact i3 hq xs hxs hcov ⟨y, hy, hyx⟩
        · rename_i hq1
          exact ⟨j1, j2, fun h => absurd h hq1⟩
theorem firstOf_mem {left : Cs} (h : left.all ≠ []) : firstOf left ∈ left.all := by
  unfold firstOf
  cases ha : left.all with
  | nil => exact absurd ha h
  | cons k r => simp
theorem seek_end (hg : p.good = true) {T : Cs} : ∀ (m : Nat) (left : Cs) (ns : List Net) (c : Int) (s : Sk), left.all.length < m → SkAt F p T left ns c → SkOk F p T s → (0 ≤ s.least → c ≤ s.least) → SkEnd F p T left c s (seek F p B m left ns c s)
  | 0, _, _, _, _, h, _, _, _ => absurd h (Nat.not_lt_zero _)
  | m + 1, left, ns, c, s, hm, A, hs, hcs => by
    have h0 : 0 ≤ c := by rw [A.sum]; exact costs_nonneg hg A.fit
    rw [seek]
    split
    · rename_i hz
      refine ⟨⟨fun _ k hk => A.cov k hk (by rw [hz]; simp), fun _ => A.fit, fun _ => A.sum⟩, fun h => ⟨h0, hcs h⟩, fun _ xs hxs _ => ⟨h0, ?_⟩⟩
      · have := costs_nonneg hg hxs
        show c ≤ _
        omega
    · rename_i hz
      have hk := firstOf_mem hz
      have hk1 := (mem_all.1 hk).1
      obtain ⟨i1, i2, i3⟩ := skIn_end (B := B) hg h0 A (seek F p B m) (fun x hxf hx s' hs' hc' => seek_end hg m _ _ _ s' (by
        have := without_lt hk (s := netSet x) (by rw [netSet, pset_has _ hk1]; exact netsAt_inside hx)
        omega) (A.next hxf) hs' hc') (netsAt F (firstOf left)) s (fun _ h => h) hs
      refine ⟨i1, i2, fun hq xs hxs hcov => ?_⟩
      obtain ⟨x, hx, hxi⟩ := hcov _ hk
      exact i3 hq xs hxs hcov ⟨x, netsAt_full hk1 (hxs x hx) hxi, hx⟩
/-! ### The cheapest nets -/
def sk0 : Sk := ⟨0, -1, []⟩
def seekAll (F : Fld) (p : Prices) (c : Cs) (B : Nat) : Bool × Sk := seek F p B 13 c.cut [] 0 sk0
/-- A search that ends well has a cover, and none costs less. -/
theorem seekAll_end (hg : p.good = true) {c : Cs} (h12 : c.all.length ≤ 12) (hne : ∀ k ∈ c.all, netsAt F k ≠ []) (hq : (seekAll F p c B).1 = true) :
    (∀ x ∈ (seekAll F p c B).2.best, x.fits F = true) ∧ covers (seekAll F p c B).2.best c ∧ (seekAll F p c B).2.least = costs p (seekAll F p c B).2.best ∧ 0 ≤ (seekAll F p c B).2.least ∧
      ∀ xs : List Net, (∀ x ∈ xs, x.fits F = true) → covers xs c → (seekAll F p c B).2.least ≤ costs p xs := by
  have A : SkAt F p c c.cut [] 0 := ⟨fun k hk => by rwa [cut_all] at hk, fun k hk hl => absurd (by rwa [cut_all]) hl, fun x hx => by simp at hx, rfl⟩
  have hs : SkOk F p c sk0 := ⟨fun h => absurd h (by decide), fun h => absurd h (by decide), fun h => absurd h (by decide)⟩
  obtain ⟨i1, _, i3⟩ := seek_end (B := B) hg 13 c.cut [] 0 sk0 (by rw [cut_all]; omega) A hs (fun h => absurd h (by decide))
  have i4 : ∀ xs : List Net, (∀ x ∈ xs, x.fits F = true) → covers xs c → 0 ≤ (seekAll F p c B).2.least ∧ (seekAll F p c B).2.least ≤ costs p xs := fun xs hxs hcov => by
    have := i3 hq xs hxs (fun k hk => hcov k (by rwa [cut_all] at hk))
    rw [Int.zero_add] at this
    exact this
  have h0 := (i4 (c.all.flatMap (netsAt F)) (fun x hx => by
    obtain ⟨k, _, hk⟩ := List.mem_flatMap.1 hx
    exact netsAt_fits hk) (fun k hk => by
    cases hn : netsAt F k with
    | nil => exact absurd hn (hne k hk)
    | cons x r =>
      have hx : x ∈ netsAt F k := by rw [hn]; simp
      exact ⟨x, List.mem_flatMap.2 ⟨k, hk, hx⟩, netsAt_inside hx⟩)).1
  exact ⟨i1.fit h0, i1.cov h0, i1.sum h0, h0, fun xs hxs hcov => (i4 xs hxs hcov).2⟩
end
end Go.Proofs.Ytjkclggdaafmaaa
namespace Go.Proofs.Ytjkclggdaafmaaa
set_option linter.unusedSimpArgs false
set_option linter.unusedVariables false
open Go.RowKit

end Go.Proofs.Ytjkclggdaafmaaa
namespace Go.Proofs.Ytjkclggdaafmaaa
set_option linter.unusedSimpArgs false
set_option linter.unusedVariables false
open Go.RowKit
attribute [local go_sem] cell?_mk frozen?_mk
--ONES exact Cs.one _ | exact Net.one _ | exact Prices.one _
def RetNI (w : World) (ns : List Net) (s code : Int) (e : Ending) (w' : World) : Prop :=
  ∃ A c, e = .returned (.tuple #[.slice A ns.length c, .int .i64 s, .int .i64 code]) ∧ ns.length ≤ c ∧ Mem w w' [.row (.slice A ns.length c) 65 4 ns.length (flat Net.vals ns)]
end Go.Proofs.Ytjkclggdaafmaaa
namespace Go.Proofs.Ytjkclggdaafmaaa
set_option linter.unusedSimpArgs false
set_option linter.unusedVariables false
open Go.RowKit

/-- All blocks but g are as they were; new ones may have come. -/
structure Oth (g : Nat) (w w1 : World) : Prop where
  os : w1.os = w.os
  tape : w1.tape = w.tape
  output : w1.output = w.output
  size : w.heap.size ≤ w1.heap.size
  block : ∀ k, k < w.heap.size → k ≠ g → w1.heap[k]? = w.heap[k]?
section
variable {w0 w w1 w2 : World} {g : Nat} {L : List Ent}
theorem Oth.refl (g : Nat) (w : World) : Oth g w w := ⟨rfl, rfl, rfl, Nat.le_refl _, fun _ _ _ => rfl⟩
theorem Oth.trans (h : Oth g w w1) (k : Oth g w1 w2) : Oth g w w2 :=
  ⟨k.os.trans h.os, k.tape.trans h.tape, k.output.trans h.output, Nat.le_trans h.size k.size, fun i hi hg => (k.block i (Nat.lt_of_lt_of_le hi h.size) hg).trans (h.block i hi hg)⟩
theorem Oth.of_below (h : Below w.heap.size w w1) : Oth g w w1 := ⟨h.os, h.tape, h.output, h.size, fun k hk _ => h.block k hk⟩
theorem Oth.of_upd (h : Upd w w1 g) : Oth g w w1 := ⟨h.os, h.tape, h.output, by rw [h.size]; exact Nat.le_refl _, fun k _ hk => h.block k hk⟩
theorem Oth.of_grown (h : w.grownBy w1 (some g)) : Oth g w w1 := ⟨h.os, h.tape, h.output, h.size, fun k hk hne => h.block k hk (fun e => hne (by injection e))⟩
theorem Oth.below {B : Nat} (h : Oth g w w1) (hB : B ≤ g) (hw : B ≤ w.heap.size) : Below B w w1 := ⟨h.os, h.tape, h.output, h.size, fun k hk => h.block k (by omega) (by omega)⟩
theorem Mem.oth (M : Mem w0 w L) (g : Nat) : Oth g w0 w := Oth.of_below M.below
theorem Oth.blk {k : Nat} {t : TypeId} {cs : Array Value} (h : Oth g w w1) (hb : Blk w k t cs) (hk : k ≠ g) : Blk w1 k t cs := (h.block k hb.lt hk).trans hb
theorem Oth.row {base : Nat} {e : TypeId} {sz n : Nat} {v : Value} {cs : List Value} (h : Oth g w w1) (hr : w.ownsRow base e sz v n cs) (hv : v.ownBlock ≠ some g) : w1.ownsRow base e sz v n cs := by
  refine ⟨hr.1, ?_⟩
  rcases hr.2 with hn | ⟨b, cap, cur, rfl, hb, hg, rest⟩
  · exact .inl hn
  · exact .inr ⟨b, cap, cur, rfl, hb, (h.block b (Array.getElem?_eq_some_iff.1 hg).1 (fun e => hv (by rw [e]; rfl))).trans hg, rest⟩
theorem row_sl {base : Nat} {e : TypeId} {sz n c : Nat} {A : Option Addr} {cs : List Value} (hr : w.ownsRow base e sz (.slice A n c) n cs) : Sl w sz A n cs := by
  refine ⟨hr.1, fun hn => ?_⟩
  rcases hr.2 with ⟨_, h0⟩ | ⟨b, cap, cur, e1, _⟩
  · omega
  · injection e1 with e1 _ _
    subst e1
    refine ⟨b, 0, rfl, fun j u hu => ?_⟩
    have hj := (List.getElem?_eq_some_iff.1 hu).1
    have := hr.1
    rw [Nat.zero_add, World.ownsRow.cellAt (cap := c) (by simpa using hr) j (by omega), hu]
theorem Oth.row_sl {base : Nat} {e : TypeId} {sz n c : Nat} {A : Option Addr} {cs : List Value} (h : Oth g w w1) (hr : w.ownsRow base e sz (.slice A n c) n cs) (hg : g < base) : Sl w1 sz A n cs := by
  refine Go.Proofs.Ytjkclggdaafmaaa.row_sl (h.row hr fun e => ?_)
  rcases hr.2 with ⟨_, h0⟩ | ⟨b, cap, cur, e1, hb, _⟩
  · rename_i q
    cases q
    cases e
  · injection e1 with e1 _ _
    subst e1
    simp only [Value.ownBlock, Option.some.injEq] at e
    omega
/-- A base in which block g is as it is now. -/
theorem Mem.rebase (M : Mem w0 w L) (hg : g < w0.heap.size) (h : Oth g w w1) :
    ∃ v1, Mem v1 w1 L ∧ Oth g w0 v1 ∧ v1.heap.size = w0.heap.size ∧ v1.heap[g]? = w1.heap[g]? := by
  have hgw : g < w.heap.size := Nat.lt_of_lt_of_le hg M.size
  have hg1 : g < w1.heap.size := Nat.lt_of_lt_of_le hgw h.size
  refine ⟨{ w0 with heap := w0.heap.set g w1.heap[g] hg }, ⟨⟨h.os.trans M.below.os, h.tape.trans M.below.tape, h.output.trans M.below.output, ?_, ?_⟩, ?_, M.sep⟩, ⟨rfl, rfl, rfl, ?_, ?_⟩, ?_, ?_⟩
  · simp only [Array.size_set]
    exact Nat.le_trans M.size h.size
  · intro k hk
    simp only [Array.size_set] at hk ⊢
    by_cases e : k = g
    · subst e
      simp [Array.getElem?_eq_getElem hg1]
    · rw [Array.getElem?_set_ne _ (Ne.symm e), h.block k (Nat.lt_of_lt_of_le hk M.size) e]
      exact M.below.block k hk
  · intro i x hx
    have hh := M.all i x hx
    simp only [Array.size_set]
    exact hh.keep fun k hk => h.block k (hh.lt hk).2 (by have := (hh.lt hk).1; omega)
  · simp
  · intro k hk e
    simp only
    rw [Array.getElem?_set_ne _ (Ne.symm e)]
  · simp
  · simp [Array.getElem?_eq_getElem hg1]
end

section
variable {P : Program} {ops : Array Oper} {rest : List Oper} {o : Oper} {a : Act} {w0 w : World} {Q : Exit → Act → World → Prop} {L : List Ent}
/-- A store of one cell into a block that was there before; the base is taken anew. -/
theorem Mem.ev_poke (M : Mem w0 w L) (T : TypeId) (x y : Operand) (ho : o.op = .store T x y) (hgd : o.guard = none) {g j : Nat} {t : TypeId} {cs : Array Value} (hb : Blk w0 g t cs)
    (hx : a.eval x = .pointer (some ⟨g, j, none⟩)) (v : Value) (hy : a.eval y = v)
    (hj : j < cs.size) (hi : (P.info? T).map (·.size) = some 1) (h1 : v.oneCell' = true) (hdst : o.dst = none)
    (h : ∀ v1 w1, Mem v1 w1 L → Oth g w0 v1 → Blk v1 g t (cs.setIfInBounds j v) → wpList P ops Q rest a w1) : wpList P ops Q (o :: rest) a w :=
  Go.Proofs.Ytjkclggdaafmaaa.ev_put T x y ho hgd (M.arg hb) hx v hy hj hi h1 hdst fun w1 hb1 hU => by
    obtain ⟨v1, m, ho, _, he⟩ := M.rebase hb.lt (Oth.of_upd hU)
    exact h v1 w1 m ho (he.trans hb1)
theorem ev_look {key v : Value} {b : Nat} {t : TypeId} (hrun : (Instr.lookup t (.map (some b)) key false).run P w = .ok v w) (hgd : o.guard = none) (m x : Operand) (ho : o.op = .lookup t m x false)
    (hm : a.eval m = .map (some b)) (hx : a.eval x = key) (h : wpList P ops Q rest (a.put o.dst v) w) : wpList P ops Q (o :: rest) a w := by
  refine wpList_plain hgd fun K hK => ?_
  unfold Oper.wp
  simp [execOp, ho, hm, hx, hrun, Result.andThen]
  exact hK _ _ h
end

/-- A value as it stands, told as a datum. -/
def heldE (v : Value) : Option (DataW Value × List MemPlace) := some (.held v, [])
/-- A map of the call's own; what each key has (a nil slice, where nothing was stored). -/
def MapAt (P : Program) (k : TypeId) (w : World) (b n : Nat) (f : Int → Value) : Prop :=
  ∃ D, w.ownsMap P k heldE b n D ∧ ∀ x : Int, (Lit.int .i64 x).wf = true → D.atKey (.int .i64 x) (.held (.slice none 0 0)) = .held (f x)
section
variable {P : Program} {k t e : TypeId} {w w1 : World} {b n : Nat} {f : Int → Value}
theorem MapAt.made (w : World) (P : Program) (k : TypeId) : MapAt P k (w.alloc (.map #[] 0)) w.heap.size 0 (fun _ => .slice none 0 0) :=
  ⟨_, World.ownsMap_made w P k heldE, fun _ _ => rfl⟩
theorem MapAt.kept (h : MapAt P k w b n f) (he : w1.heap[b]? = w.heap[b]?) : MapAt P k w1 b n f := by
  obtain ⟨D, ⟨es, clock, hb, r⟩, hf⟩ := h
  exact ⟨D, ⟨es, clock, he.trans hb, r⟩, hf⟩
theorem MapAt.lt (h : MapAt P k w b n f) : b < w.heap.size := by
  obtain ⟨D, ho, _⟩ := h
  exact ho.lt
theorem MapAt.look (h : MapAt P k w b n f) (hk : P.underlying k = some (.int .i64)) (ht : P.underlying t = some (.map k e)) (hz : (zeroValue e).run P w = .ok (.slice none 0 0) w) (x : Int) (hx : (Lit.int .i64 x).wf = true) :
    (Instr.lookup t (.map (some b)) (.int .i64 x) false).run P w = .ok (f x) w := by
  obtain ⟨D, ho, hf⟩ := h
  obtain ⟨v, ps, hr, hv⟩ := ho.lookup (Go.Maps.int_keyed hk) ht hz (zd := .held (.slice none 0 0)) (zp := []) rfl (Go.Maps.keyOf_int_mk hk hx)
  rw [hf x hx] at hv
  simp only [heldE, Option.some.injEq, Prod.mk.injEq, DataW.held.injEq] at hv
  rw [hr, hv.1]
theorem MapAt.put (h : MapAt P k w b n f) (hk : P.underlying k = some (.int .i64)) (ht : P.underlying t = some (.map k e)) (hn : n < maxLen) (x : Int) (hx : (Lit.int .i64 x).wf = true) (v : Value) :
    ∃ w1, (Instr.mapUpdate t (.map (some b)) (.int .i64 x) v).run P w = .ok () w1 ∧ MapAt P k w1 b (n + 1) (fun y => if y = x then v else f y) ∧ w.grownBy w1 (some b) := by
  obtain ⟨D, ho, hf⟩ := h
  obtain ⟨w1, hr, ho1, hg⟩ := ho.update (Go.Maps.int_keyed hk) ht hn (key := .int .i64 x) (val := v) (d := .held v) (ps := []) (Go.Maps.keyOf_int_mk hk hx) rfl
  have hm : Go.Maps.IsMap D := by
    obtain ⟨_, _, _, _, _, e⟩ := ho
    exact ⟨_, e⟩
  refine ⟨w1, hr, ⟨_, ho1, fun y hy => ?_⟩, hg⟩
  show _ = DataW.held (if y = x then v else f y)
  by_cases e : y = x
  · subst e
    rw [if_pos rfl, Go.Maps.atKey_put_same hm ((Go.Maps.int_keyed hk).key (Go.Maps.keyOf_int_mk hk hx))]
  · rw [if_neg e, Go.Maps.atKey_put_other (fun q => e (by injection q))]
    exact hf y hy
theorem Mem.ev_mput {ops : Array Oper} {rest : List Oper} {o : Oper} {a : Act} {w0 : World} {Q : Exit → Act → World → Prop} {L : List Ent} (M : Mem w0 w L) (h : MapAt P k w0 b n f)
    (hk : P.underlying k = some (.int .i64)) (ht : P.underlying t = some (.map k e)) (hn : n < maxLen) (x : Int) (hx : (Lit.int .i64 x).wf = true) (v : Value)
    (hgd : o.guard = none) (m y z : Operand) (ho : o.op = .mapUpdate t m y z) (hm : a.eval m = .map (some b)) (hy : a.eval y = .int .i64 x) (hz : a.eval z = v)
    (hK : ∀ v1 w1, Mem v1 w1 L → Oth b w0 v1 → MapAt P k v1 b (n + 1) (fun y => if y = x then v else f y) → wpList P ops Q rest (a.put o.dst undef) w1) : wpList P ops Q (o :: rest) a w := by
  refine wpList_plain hgd fun K' hK' => ?_
  obtain ⟨w1, hr, h1, hg⟩ := (h.kept (M.below.block _ h.lt)).put hk ht hn x hx v
  obtain ⟨v1, m1, ho1, _, he⟩ := M.rebase h.lt (Oth.of_grown hg)
  unfold Oper.wp
  simp [execOp, ho, hm, hy, hz, hr, Result.andThen]
  exact hK' _ _ (hK v1 w1 m1 ho1 (h1.kept he))
end
end Go.Proofs.Ytjkclggdaafmaaa
