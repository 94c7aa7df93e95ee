/- Texts of a proof, laid together: Held, Lost. -/
import Derived.Test.YtdnofkngljjbmaaZP09
import Derived.OrdersHeld
namespace Go.Proofs.Ytdnofkngljjbmaa
set_option linter.unusedSimpArgs false
set_option linter.unusedVariables false
open Go.RowKit

section
variable {P : Program} {md : Region.Mode} {ops : Array Oper} {Q : Exit → Act → World → Prop} {S : World → Prop} {fuel : Nat} {listed : Array Bool} {a : Act} {w : World}
theorem takeH {i : Nat} {oi : Oper} {v : Value} (d : Tmp) (hi : ops[i]? = some oi)
    (hs : Region.noSelect ops = true) (hf : Region.free md ops listed i = true) (hr : (Region.ready md ops listed).contains i = true)
    (hQ : ∀ c a w, Q (.panic c) (a.put oi.dst v) w → Q (.panic c) a w) (hd : oi.dst = some d) (hS : S w) (hy : YieldsIf P ops S oi v a)
    (h : wpAnyH P md ops Q S fuel (listed.setIfInBounds i true) (a.put (some d) v) w) : wpAnyH P md ops Q S (fuel + 1) listed a w :=
  wpAnyH_take hi hs hf hr hQ hy hS (by rw [hd]; exact h)
theorem ylds {o : Oper} (T : TypeId) (x : Operand) (ho : o.op = .load T x) (hg : o.guard = none) {p : Addr} {v : Value} {d : TypeDesc} (hu : P.underlying T = some d) (hd : TypeDesc_row d = false)
    (hx : a.eval x = .pointer (some p)) (hc : ∀ w, S w → w.cell? p = some v) : YieldsIf P ops S o v a :=
  .inl ⟨by simp [Region.wanted, hg], fun w hS => by
    unfold execOp
    simp only [ho, hx, Sem.run_bind, Result.andThen_ok, run_get T hu hd (hc w hS), Sem.run_pure]⟩
theorem yldsW {o : Oper} (T : TypeId) (x : Operand) (ho : o.op = .load T x) (hw : Region.wanted o (yielded ops a.tmps) = true) {p : Addr} {v : Value} {d : TypeDesc} (hu : P.underlying T = some d) (hd : TypeDesc_row d = false)
    (hx : a.eval x = .pointer (some p)) (hc : ∀ w, S w → w.cell? p = some v) : YieldsIf P ops S o v a :=
  .inl ⟨hw, fun w hS => by
    unfold execOp
    simp only [ho, hx, Sem.run_bind, Result.andThen_ok, run_get T hu hd (hc w hS), Sem.run_pure]⟩
theorem yldw {o : Oper} (T : TypeId) (x : Operand) (ho : o.op = .load T x) (hg : o.guard = none) {g : Nat} {t : TypeId} {cs : Array Value} {d : TypeDesc} (hu : P.underlying T = some d)
    (hd : (match d with | .struct _ | .array _ _ => true | _ => false) = true) (hi : (P.info? T).map (·.size) = some cs.size) (hx : a.eval x = .pointer (some ⟨g, 0, none⟩)) (hb : ∀ w, S w → Blk w g t cs) : YieldsIf P ops S o (.agg cs) a :=
  .inl ⟨by simp [Region.wanted, hg], fun w hS => by
    have hagg : (isAgg T).run P w = .ok true w := by
      unfold isAgg
      rw [Sem.run_bind, run_underlying hu w]
      cases d <;> simp_all
    unfold execOp
    simp only [ho, hx, Instr.loadAt, Instr.sureAddr, Sem.run_bind, Result.andThen_ok, run_loadVar_row w g t T cs (0, 0) d (hb w hS) hu hd hi, Sem.run_pure, hagg]⟩
theorem any1H (i : Nat) {o : Oper} (hr : Region.ready md ops listed = [i]) (ho : ops[i]? = some o)
    (h : ∀ K : Act → World → Prop, (∀ a w, S w ∧ wpAnyH P md ops Q S fuel (listed.setIfInBounds i true) a w → K a w) → wpList P ops (onward K) [o] a w) : wpAnyH P md ops Q S (fuel + 1) listed a w :=
  wpAnyH_all hr (by simp) fun j hj => by
    rw [List.mem_singleton.1 hj]
    exact wpOp_onward ho (h _ fun _ _ h => h)
theorem any2H (i j : Nat) {o o' : Oper} (hr : Region.ready md ops listed = [i, j]) (ho : ops[i]? = some o) (ho' : ops[j]? = some o')
    (h : ∀ K : Act → World → Prop, (∀ a w, S w ∧ wpAnyH P md ops Q S fuel (listed.setIfInBounds i true) a w → K a w) → wpList P ops (onward K) [o] a w)
    (h' : ∀ K : Act → World → Prop, (∀ a w, S w ∧ wpAnyH P md ops Q S fuel (listed.setIfInBounds j true) a w → K a w) → wpList P ops (onward K) [o'] a w) : wpAnyH P md ops Q S (fuel + 1) listed a w :=
  wpAnyH_all hr (by simp) fun k hk => by
    rcases List.mem_cons.1 hk with rfl | hk
    · exact wpOp_onward ho (h _ fun _ _ h => h)
    · rw [List.mem_singleton.1 hk]
      exact wpOp_onward ho' (h' _ fun _ _ h => h)
theorem region_anyH {id : Nat} (S : World → Prop) (hm : P.follows .mixedOrders = true)
    (h : wpAnyH P .any ops Q S ops.size (Array.replicate ops.size false) a w.drew) : (Code.region id ops true).wp P Q a w := wp_region_held hm h
end
end Go.Proofs.Ytdnofkngljjbmaa
namespace Go.Proofs.Ytdnofkngljjbmaa
set_option linter.unusedSimpArgs false
set_option linter.unusedVariables false
open Go.RowKit
attribute [local go_sem] cell?_mk frozen?_mk

/-- The first ones new, the others as they were. -/
def updTo (f g : Nat → Int) (n k : Nat) : List Int := (List.range n).map fun i => if i < k then f i else g i
theorem updTo_len (f g : Nat → Int) (n k : Nat) : (updTo f g n k).length = n := by simp [updTo]
theorem updTo_0 (f g : Nat → Int) (n : Nat) : updTo f g n 0 = (List.range n).map g := List.map_congr_left fun i _ => by simp
theorem updTo_all (f g : Nat → Int) (n : Nat) : updTo f g n n = (List.range n).map f := List.map_congr_left fun i hi => by rw [if_pos (List.mem_range.1 hi)]
theorem updTo_gi (f g : Nat → Int) {n k i : Nat} (h : i < n) : gi (updTo f g n k) i = if i < k then f i else g i := by
  unfold gi
  rw [List.getD_eq_getElem?_getD]
  simp [updTo, h]
theorem updTo_succ (f g : Nat → Int) {n k : Nat} (h : k < n) : updTo f g n (k + 1) = (updTo f g n k).set k (f k) := by
  refine List.ext_getElem (by simp [updTo]) fun i h1 h2 => ?_
  rw [List.getElem_set]
  simp only [updTo, List.getElem_map, List.getElem_range]
  by_cases hi : k = i
  · subst hi; simp
  · rw [if_neg hi]
    by_cases h3 : i < k
    · rw [if_pos h3, if_pos (by omega)]
    · rw [if_neg h3, if_neg (by omega)]
theorem updTo_put (f g : Nat → Int) {n k : Nat} (h : k < n) : (flat oneI (updTo f g n k)).set k (.int .i64 (f k)) = flat oneI (updTo f g n (k + 1)) := by
  rw [flat_oneI, flat_oneI, updTo_succ f g h, List.map_set]
theorem updTo_at (f g : Nat → Int) {n k : Nat} (h : k < n) : (flat oneI (updTo f g n k))[k]? = some (.int .i64 (g k)) := by
  rw [flat_oneI, List.getElem?_map, getElem?_gi (by rw [updTo_len]; exact h), updTo_gi f g h, if_neg (by omega)]
  rfl
def wOf (xs : List Plot) (p : List Int) (i : Nat) : Int := match xs[i]?, p[i]? with | some x, some d => if 0 ≤ d then x.worth d else 0 | _, _ => 0
def sdOf (xs : List Plot) (i : Nat) : Int := match xs[i]? with | some x => x.seeds | none => 0
def worthsOf (xs : List Plot) (p : List Int) : List Int := (List.range xs.length).map (wOf xs p)
def lostOf (xs : List Plot) (p : List Int) : List Int := (List.range xs.length).map fun i => sdOf xs i - wOf xs p i
theorem wOf_pos {xs : List Plot} {p : List Int} {i : Nat} (h : i < xs.length) {d : Int} (hd : p[i]? = some d) (h0 : 0 ≤ d) : wOf xs p i = xs[i].worth d := by
  have h1 : xs[i]? = some xs[i] := List.getElem?_eq_getElem h
  simp [wOf, h1, hd, h0]
theorem wOf_neg {xs : List Plot} {p : List Int} {i : Nat} {d : Int} (hd : p[i]? = some d) (h0 : ¬ (0 ≤ d)) : wOf xs p i = 0 := by
  unfold wOf
  rw [hd]
  cases xs[i]? <;> simp [h0]
theorem wOf_b {xs : List Plot} (hx : ∀ x ∈ xs, x.fine = true) (p : List Int) (i : Nat) : 0 ≤ wOf xs p i ∧ wOf xs p i ≤ 1000 := by
  unfold wOf
  split
  · rename_i x d h1 h2
    have := Plot.worth_b (hx x (List.mem_of_getElem? h1)) d
    split <;> omega
  · omega
theorem sdOf_at {xs : List Plot} {i : Nat} (h : i < xs.length) : sdOf xs i = xs[i].seeds := by
  have h1 : xs[i]? = some xs[i] := List.getElem?_eq_getElem h
  simp [sdOf, h1]
theorem planOk_iff {xs : List Plot} {h : Int} {p : List Int} (H : planOk xs h p = true) : (∀ x ∈ xs, x.fine = true) ∧ xs.length ≤ 6 ∧ p.length = xs.length ∧ ∀ d ∈ p, -1 ≤ d ∧ d ≤ 19 := by
  simp only [planOk, Bool.and_eq_true, decide_eq_true_eq, planIn, List.all_eq_true, inB_iff] at H
  exact ⟨(plotsOk_iff.1 H.1).1, (plotsOk_iff.1 H.1).2, H.2.2.1, fun d hd => H.2.2.2.1 d hd⟩
theorem Mem.argR {w0 w : World} {L : List Ent} (M : Mem w0 w L) {b off : Nat} {cs : List Value} (h : w0.rangeAt b off cs) : w.rangeAt b off cs := fun j v hj => M.argcell (h j v hj)
set_option maxRecDepth 100000 in
set_option maxHeartbeats 2000000 in
theorem worths_any (A : Option Addr) (n : Nat) (xs : List Plot) (hx : ∀ x ∈ xs, x.fine = true) (hl : xs.length ≤ 6) (B : Option Addr) (c : Nat) (p : List Int) (hp : p.length = xs.length) (hd : ∀ d ∈ p, -1 ≤ d ∧ d ≤ 1000) (w : World) (hs : Sl w 4 A xs.length (flat Plot.vals xs)) (ht : Sl w 1 B p.length (flat oneI p)) :
    Calls Try.prog 62 #[.slice A xs.length n, .slice B p.length c] w (RetRow w 2 1 xs.length (flat oneI (worthsOf xs p))) := by
  have M := Lib.hid (Mem.start w)
  have HX := Lib.hid hx
  have HS := Lib.hid hs
  have HT := Lib.hid ht
  have HD := Lib.hid hd
  have HPL := Lib.hid hp
  clear hx hs ht hd
  go_enter Try.func62, Try.ntmps62
  go_wp2_with (first
    | ((with_reducible refine gate_dst (N := 10) rfl ?_); go_must (refine M.out.ev_make oneI 0 elem_int64 oneI_len rfl rfl _ _ rfl xs.length rfl rfl (by omega) (by unfold maxLen; omega) ?_); intro g10 w10 m; simp only [List.nil_append] at m; have M := Lib.hid m; clear m)
    )
  go_loopw [13] (fun v wr => ∃ k : Nat, k ≤ p.length ∧ v = .int .i64 k ∧ Mem w wr [.row (.slice (some ⟨g10, 0, none⟩) xs.length xs.length) 2 1 xs.length (flat oneI (updTo (wOf xs p) (fun _ => 0) xs.length k))])
    (fun v _ => p.length - (intOf v).toNat)
  case atStart =>
    refine ⟨0, by omega, rfl, ?_⟩
    rw [updTo_0, List.map_const', List.length_range]
    exact M.out
  case round =>
    clear M
    obtain ⟨k, hk, rfl, mm⟩ := hrel
    have M := Lib.hid mm
    clear mm
    have hpl := HPL.out
    by_cases hlt : k < p.length
    · obtain ⟨b, off, rfl, hr⟩ := (M.out.sl HT.out).2 (by omega)
      obtain ⟨b2, off2, rfl, hr2⟩ := (M.out.sl HS.out).2 (by omega)
      have hkx : k < xs.length := by omega
      have x0 : wr.cell? ⟨b, off + k, none⟩ = some (.int .i64 p[k]) := by simpa [oneI] using range_at oneI_len hr (List.getElem?_eq_getElem hlt) 0 _ rfl
      have R := Lib.hid (range_at Plot.vl hr2 (List.getElem?_eq_getElem hkx))
      have HPK := Lib.hid (List.getElem?_eq_getElem hlt)
      have hdd := HD.out p[k] (List.getElem_mem hlt)
      have HF := Lib.hid (HX.out xs[k] (List.getElem_mem hkx))
      have i0 : (0 : Int) ≤ (k : Int) := by omega
      have i1 : (k : Int) < (p.length : Int) := by omega
      have i2 : (k : Int) < (xs.length : Int) := by omega
      obtain ⟨y, hy⟩ : ∃ y, y = p[k] := ⟨_, rfl⟩
      rw [← hy] at x0 HPK hdd
      have HPU := Lib.hid (updTo_put (wOf xs p) (fun _ => 0) hkx)
      have HSU := Lib.hid (updTo_succ (wOf xs p) (fun _ => 0) hkx)
      have HL := Lib.hid (show k < (flat oneI (updTo (wOf xs p) (fun _ => 0) xs.length k)).length by rw [flat_len oneI_len, updTo_len]; omega)
      have HGI := Lib.hid (updTo_gi (wOf xs p) (fun _ => 0) hkx (k := k))
      clear hr hr2 hy
      by_cases hn : 0 ≤ y
      · have HW := Lib.hid (wOf_pos hkx HPK.out hn)
        go_wp2_with (first
          | ((with_reducible refine gate_dst (N := 25) rfl ?_); go_must (refine ev_ldr _ _ rfl rfl (R.out) Try.underlying40 rfl (by first | exact sz40 | (rw [S1.out]; exact sz40)) rfl ?_))
          | (go_at_call 60; go_must (refine (worth_any _ HF.out _ (by omega) (by omega) _).mono ?_); rintro e w_ ⟨rfl, N_⟩; have m := M.out.join N_; clear N_; simp only [List.cons_append, List.nil_append, List.append_nil] at m; have M := Lib.hid m; clear m; rw [← HW.out])
          | ((with_reducible refine gate_store (x := .tmp 28) rfl ?_); go_must (refine M.out.ev_rput1 0 _ _ _ rfl rfl rfl rfl (.int .i64 (wOf xs p k)) rfl HL.out sz2 rfl rfl ?_); intro wn m; simp only [List.set_cons_zero, HPU.out] at m; have M := Lib.hid m; clear m)
          )
        exact ⟨⟨k + 1, by omega, by go_num, M.out⟩, by simp [intOf]; omega⟩
      · have HN := Lib.hid hn
        go_wp2
        refine ⟨⟨k + 1, by omega, by go_num, ?_⟩, by simp [intOf]; omega⟩
        have hz : updTo (wOf xs p) (fun _ => 0) xs.length (k + 1) = updTo (wOf xs p) (fun _ => 0) xs.length k := by
          rw [HSU.out, wOf_neg HPK.out (by have := HN.out; omega)]
          refine List.ext_getElem (by simp) fun i h1 h2 => ?_
          rw [List.getElem_set]
          split
          · rename_i hh
            subst hh
            simp [updTo]
          · rfl
        rw [hz]
        exact M.out
    · obtain rfl : k = p.length := by omega
      go_wp2
      go_ret
      refine ⟨_, _, rfl, Nat.le_refl _, ?_⟩
      have mm := M.out
      rw [hpl, updTo_all] at mm
      exact mm
def loCode (xs : List Plot) (h : Int) (p : List Int) : Int := if planOk xs h p = true then 0 else 1
def loRes (xs : List Plot) (h : Int) (p : List Int) : List Int := if planOk xs h p = true then lostOf xs p else []
theorem loRes_len (xs : List Plot) (h : Int) (p : List Int) : (loRes xs h p).length ≤ 1048576 := by
  unfold loRes
  split
  · rename_i H
    have := (planOk_iff H).2.1
    simp [lostOf]
    omega
  · simp
set_option maxRecDepth 100000 in
set_option maxHeartbeats 2000000 in
theorem impl_LostBy_any (A : Option Addr) (n : Nat) (xs : List Plot) (hx : ∀ x ∈ xs, x.ok) (hl : xs.length ≤ 1048576) (h : Int) (B : Option Addr) (c : Nat) (p : List Int) (hm : p.length ≤ 1048576) (w : World) (hs : Sl w 4 A xs.length (flat Plot.vals xs)) (ht : Sl w 1 B p.length (flat oneI p)) :
    Calls Try.prog 15 #[.slice A xs.length n, .int .i64 h, .slice B p.length c] w (RetRowC w 2 1 (loRes xs h p).length (flat oneI (loRes xs h p)) (loCode xs h p)) := by
  have M := Lib.hid (Mem.start w)
  have HX := Lib.hid hx
  have HS := Lib.hid hs
  have HT := Lib.hid ht
  clear hx hs ht
  cases hp : planOk xs h p
  · have HP := Lib.hid hp
    have HR := Lib.hid (show loRes xs h p = [] by rw [loRes, hp]; rfl)
    have HC := Lib.hid (show loCode xs h p = 1 by rw [loCode, hp]; rfl)
    clear hp
    go_enter Try.func15, Try.ntmps15
    go_wp2_with (first
      | (go_at_call 17; go_must (refine (ValidPlan_any A n xs HX.out hl h B c p hm _ (M.out.sl HS.out) (M.out.sl HT.out)).mono ?_); rintro e w_ ⟨rfl, N_⟩; have m := M.out.join N_; clear N_; simp only [List.cons_append, List.nil_append, List.append_nil] at m; have M := Lib.hid m; clear m; rw [HP.out])
      )
    go_ret2
    rw [HR.out, HC.out]
    exact ⟨none, 0, rfl, Nat.le_refl _, (M.out.take 0).nilrow 2 1⟩
  · have HP := Lib.hid hp
    have HR := Lib.hid (show loRes xs h p = lostOf xs p by rw [loRes, hp, if_pos rfl])
    have HC := Lib.hid (show loCode xs h p = 0 by rw [loCode, hp]; rfl)
    obtain ⟨hf, h6, hpl, hpd⟩ := planOk_iff hp
    have HF := Lib.hid hf
    have HPL := Lib.hid hpl
    have HPD := Lib.hid hpd
    clear hp hpd hpl
    go_enter Try.func15, Try.ntmps15
    go_wp2_with (first
      | (go_at_call 17; go_must (refine (ValidPlan_any A n xs HX.out hl h B c p hm _ (M.out.sl HS.out) (M.out.sl HT.out)).mono ?_); rintro e w_ ⟨rfl, N_⟩; have m := M.out.join N_; clear N_; simp only [List.cons_append, List.nil_append, List.append_nil] at m; have M := Lib.hid m; clear m; rw [HP.out])
      | (go_at_call 62; go_must (refine (worths_any A n xs HF.out h6 B c p HPL.out (fun d hd => by have := HPD.out d hd; omega) _ (M.out.sl HS.out) (M.out.sl HT.out)).mono ?_); rintro e w_ ⟨A_, c_, rfl, hc_, N_⟩; have m := M.out.join N_; clear N_; simp only [List.cons_append, List.nil_append, List.append_nil] at m; have M := Lib.hid m; clear m)
      )
    go_loopw [21] (fun v wr => ∃ k : Nat, k ≤ xs.length ∧ v = .int .i64 k ∧ Mem w wr [.row (.slice A_ xs.length c_) 2 1 xs.length (flat oneI (updTo (fun i => sdOf xs i - wOf xs p i) (wOf xs p) xs.length k))])
      (fun v _ => xs.length - (intOf v).toNat)
    case atStart => exact ⟨0, by omega, rfl, by rw [updTo_0]; exact M.out⟩
    case round =>
      clear M
      obtain ⟨k, hk, rfl, mm⟩ := hrel
      have M := Lib.hid mm
      clear mm
      by_cases hlt : k < xs.length
      · obtain ⟨g_, cap_, he, _⟩ := M.out.row_form 0 rfl (by omega)
        obtain ⟨rfl, rfl⟩ : A_ = some ⟨g_, 0, none⟩ ∧ c_ = cap_ := by injection he with e1 _ e2; exact ⟨e1, e2⟩
        obtain ⟨b2, off2, rfl, hr2⟩ := (M.out.sl HS.out).2 (by omega)
        have R := Lib.hid (range_at Plot.vl hr2 (List.getElem?_eq_getElem hlt))
        have V1 := Lib.hid (Plot.one xs[k])
        have i0 : (0 : Int) ≤ (k : Int) := by omega
        have i1 : (k : Int) < (xs.length : Int) := by omega
        have hsd := (Plot.fine_iff.1 (HF.out xs[k] (List.getElem_mem hlt))).1
        have hwb := wOf_b HF.out p k
        have e1 : IntKind.i64.wrap xs[k].seeds = xs[k].seeds := IntWalk.i64_in _ (by omega)
        have HPU := Lib.hid (updTo_put (fun i => sdOf xs i - wOf xs p i) (wOf xs p) hlt)
        have HAT := Lib.hid (updTo_at (fun i => sdOf xs i - wOf xs p i) (wOf xs p) hlt)
        have HSD := Lib.hid (sdOf_at hlt)
        have HL := Lib.hid (show k < (flat oneI (updTo (fun i => sdOf xs i - wOf xs p i) (wOf xs p) xs.length k)).length by rw [flat_len oneI_len, updTo_len]; omega)
        obtain ⟨wv, hwv⟩ : ∃ wv, wv = wOf xs p k := ⟨_, rfl⟩
        have e2 : IntKind.i64.wrap (xs[k].seeds - wv) = xs[k].seeds - wv := IntWalk.i64_in _ (by omega)
        rw [← hwv] at HAT
        have HPV := Lib.hid (show (flat oneI (updTo (fun i => sdOf xs i - wOf xs p i) (wOf xs p) xs.length k)).set k (.int .i64 (xs[k].seeds - wv)) = flat oneI (updTo (fun i => sdOf xs i - wOf xs p i) (wOf xs p) xs.length (k + 1)) by rw [← HPU.out, HSD.out, hwv])
        clear hr2 he hsd hwb hwv
        go_wp2_with (first
          | ((with_reducible refine gate_dst (N := 25) rfl ?_); go_must (refine ev_ldr _ _ rfl rfl (R.out) Try.underlying40 rfl (by first | exact sz40 | (rw [S1.out]; exact sz40)) rfl ?_))
          | ((with_reducible refine gate_dst (N := 10) rfl ?_); go_must (refine M.out.ev_new rfl (by first | (go_simp; done) | (go_simp; rfl)) ?_); intro g10 w10 m; simp only [List.cons_append, List.nil_append] at m; have M := Lib.hid m; clear m)
          | ((with_reducible refine gate_store (x := .tmp 10) rfl ?_); go_must (refine M.out.ev_stw 1 _ _ _ rfl rfl rfl rfl xs[k].vals.toArray rfl rfl sz40 V1.out rfl ?_); intro wn m; simp only [List.set_cons_succ, List.set_cons_zero] at m; have M := Lib.hid m; clear m)
          )
        have q0 := M.out.cell (j := 0) (v := .int .i16 xs[k].seeds) 1 rfl rfl
        have y0 := M.out.row_cell 0 rfl HAT.out
        go_still_tail 11, (by kernel_rfl)
        have M := Lib.hid M.out.drew
        go_wp2_with (first
          | ((with_reducible refine gate_store (x := .tmp 36) rfl ?_); go_must (refine M.out.ev_rput1 0 _ _ _ rfl rfl rfl rfl (.int .i64 (xs[k].seeds - wv)) rfl HL.out sz2 rfl rfl ?_); intro wn m; simp only [List.set_cons_succ, List.set_cons_zero, HPV.out] at m; have M := Lib.hid m; clear m)
          )
        exact ⟨⟨k + 1, by omega, by go_num, M.out.take 1⟩, by simp [intOf]; omega⟩
      · obtain rfl : k = xs.length := by omega
        go_wp2
        go_ret2
        rw [HR.out, HC.out]
        have mm := M.out
        rw [updTo_all] at mm
        rw [show (lostOf xs p).length = xs.length by simp [lostOf]]
        exact ⟨_, _, rfl, hc_, mm⟩
end Go.Proofs.Ytdnofkngljjbmaa
