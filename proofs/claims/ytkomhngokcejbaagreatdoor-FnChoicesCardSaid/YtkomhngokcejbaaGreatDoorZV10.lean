/- Texts of a proof, laid together: SafeFrom. -/
import Derived.Test.YtkomhngokcejbaaGreatDoorZV06
import Derived.Test.YtkomhngokcejbaaGreatDoorZV03
namespace Go.Proofs.YtkomhngokcejbaaGreatDoor
set_option linter.unusedSimpArgs false
set_option linter.unusedVariables false
open Go.RowKit
attribute [local go_sem] cell?_mk frozen?_mk

/-- What is left of a set without the cells of flocks. -/
def leftOf (F : Fld) (fs : List Int) (xs : List Flock) : Cs := xs.foldl (fun c x => c.without (goSet F fs x)) (ofKd F 0)
theorem leftOf_snoc (F : Fld) (fs : List Int) (xs : List Flock) (x : Flock) : leftOf F fs (xs ++ [x]) = (leftOf F fs xs).without (goSet F fs x) := by simp [leftOf]
def calmAt (F : Fld) (fs : List Int) (xs : List Flock) (k : Nat) : Bool := (F.has k && (F.kind k == 0)) && xs.all fun x => !(F.has k && goP F fs x k)
theorem leftOf_has (F : Fld) (fs : List Int) (xs : List Flock) {k : Nat} (hk : k < 100) : (leftOf F fs xs).has k = calmAt F fs xs k := by
  have key : ∀ (xs : List Flock) (c : Cs), (xs.foldl (fun c x => c.without (goSet F fs x)) c).has k = (c.has k && xs.all fun x => !(F.has k && goP F fs x k)) := by
    intro xs
    induction xs with
    | nil => intro c; simp
    | cons x r ih => intro c; rw [List.foldl_cons, ih, Cs.without_has _ _ hk, goSet_has F fs x hk, List.all_cons, Bool.and_assoc]
  rw [leftOf, key, ofKd_has F 0 hk, calmAt]
theorem leftOf_ok (F : Fld) (fs : List Int) (xs : List Flock) : (leftOf F fs xs).ok ∧ ∀ k, 100 ≤ k → k < 128 → (leftOf F fs xs).has k = false := by
  have key : ∀ (xs : List Flock) (c : Cs), (c.ok ∧ ∀ k, 100 ≤ k → k < 128 → c.has k = false) → (xs.foldl (fun c x => c.without (goSet F fs x)) c).ok ∧ ∀ k, 100 ≤ k → k < 128 → (xs.foldl (fun c x => c.without (goSet F fs x)) c).has k = false := by
    intro xs
    induction xs with
    | nil => intro c h; exact h
    | cons x r ih => intro c h; exact ih _ ⟨Cs.without_ok _ _, fun k h1 h2 => Cs.cut_small _ h1 h2⟩
  exact key xs _ ⟨ofKd_ok F 0, fun k h1 _ => setOf_small (fun j hj => (Fld.all_has (List.mem_filter.1 hj).1).1) h1⟩
def calmTo (F : Fld) (fs : List Int) (xs : List Flock) (n : Nat) : Cs := setOf ((List.range n).filter (calmAt F fs xs))
theorem calmTo_ok (F : Fld) (fs : List Int) (xs : List Flock) {n : Nat} (hn : n ≤ 100) : (calmTo F fs xs n).ok := setOf_ok _ fun k hk => by
  have := List.mem_range.1 (List.mem_filter.1 hk).1
  omega
theorem calmTo_succ (F : Fld) (fs : List Int) (xs : List Flock) (n : Nat) : calmTo F fs xs (n + 1) = if calmAt F fs xs n = true then (calmTo F fs xs n).put n else calmTo F fs xs n := by
  unfold calmTo
  rw [List.range_succ, List.filter_append]
  cases h : calmAt F fs xs n
  · simp [h]
  · simp only [List.filter_cons, h, List.filter_nil, if_true]
    rw [setOf_snoc]
theorem calmTo_all (F : Fld) (fs : List Int) (xs : List Flock) : calmTo F fs xs 100 = leftOf F fs xs := by
  refine Cs.ext_has (calmTo_ok F fs xs (Nat.le_refl _)) (leftOf_ok F fs xs).1 fun k hk => ?_
  rcases Nat.lt_or_ge k 100 with h | h
  · rw [leftOf_has F fs xs h, calmTo, setOf_has, Bool.eq_iff_iff, List.contains_iff_mem, List.mem_filter, List.mem_range]
    exact ⟨fun h => h.2, fun hh => ⟨h, hh⟩⟩
  · rw [(leftOf_ok F fs xs).2 k h hk, calmTo]
    exact setOf_small (fun j hj => List.mem_range.1 (List.mem_filter.1 hj).1) h
theorem rng_ {w w2 : World} {L : List Ent} {b off : Nat} {xs : List Flock} {k : Nat} (hlt : k < xs.length) (M : Mem w w2 L) (hs : Sl w 6 (some ⟨b, off, none⟩) xs.length (flat Flock.vals xs)) : w2.rangeAt b (off + k * 6) xs[k].vals := by
  obtain ⟨b', off', he, hr⟩ := (M.sl hs).2 (by omega)
  injection he with he
  injection he with h1 h2
  subst h1 h2
  exact range_at Flock.vl hr (List.getElem?_eq_getElem hlt)
def sfCode (F : Fld) (fs : List Int) (xs : List Flock) : Int := if birdsOk F fs xs = true then 0 else 1
def sfRes (F : Fld) (fs : List Int) (xs : List Flock) : Cs := if birdsOk F fs xs = true then leftOf F fs xs else Cs.z
theorem birdsOk_plain {F : Fld} {fs : List Int} {xs : List Flock} (h : birdsOk F fs xs = true) : ∀ x ∈ xs, x.plain = true := by
  simp only [birdsOk, flocksOk, Bool.and_eq_true, List.all_eq_true, Flock.fine] at h
  exact fun x hx => (h.2.1 x hx).1
set_option maxRecDepth 100000 in
set_option maxHeartbeats 2000000 in
theorem impl_SafeFrom_any (F : Fld) (hF : F.ok) (fs : List Int) (hfl : fs.length = 100) (hff : ∀ x ∈ fs, -32768 ≤ x ∧ x ≤ 32767) (A : Option Addr) (n : Nat) (xs : List Flock) (hx : ∀ x ∈ xs, x.ok) (hl : xs.length ≤ 1048576) (w : World) (hs : Sl w 6 A xs.length (flat Flock.vals xs)) :
    Calls Tryz.prog 11 #[.agg F.cells, .agg (ints .i16 fs), .slice A xs.length n] w fun e w' => e = .returned (.tuple #[.agg (sfRes F fs xs).cells, .int .i64 (sfCode F fs xs)]) ∧ Mem w w' [] := by
  have M := Lib.hid (Mem.start w)
  have HX := Lib.hid hx
  have HS := Lib.hid hs
  have HF := Lib.hid hF
  have HFF := Lib.hid hff
  have S1 := Lib.hid (Fld.size hF.toLen)
  clear hx hs hF hff
  cases hd : birdsOk F fs xs
  · have HD := Lib.hid hd
    clear hd
    go_enter Tryz.func11, Tryz.ntmps11
    go_wp2_with (first
      | ((with_reducible refine gate_dst (N := 3) rfl ?_); go_must (refine M.out.ev_new rfl (by first | (go_simp; done) | (go_simp; rfl)) ?_); intro g3 w3 m; simp only [List.cons_append, List.nil_append] at m; have M := Lib.hid m; clear m)
      | ((with_reducible refine gate_dst (N := 4) rfl ?_); go_must (refine M.out.ev_new rfl (by first | (go_simp; done) | (go_simp; rfl)) ?_); intro g4 w4 m; simp only [List.cons_append, List.nil_append] at m; have M := Lib.hid m; clear m)
      | ((with_reducible refine gate_dst (N := 6) rfl ?_); go_must (refine M.out.ev_new rfl (by first | (go_simp; done) | (go_simp; rfl)) ?_); intro g6 w6 m; simp only [List.cons_append, List.nil_append] at m; have M := Lib.hid m; clear m)
      | ((with_reducible refine gate_store (x := .tmp 6) rfl ?_); go_must (refine M.out.ev_stw 2 _ _ _ rfl rfl rfl rfl _ rfl (by first | rfl | (simp only [S1.out]; rfl) | (simp only [S1.out, S2.out]; rfl) | (simp only [S3.out]; rfl) | (simp only [S1.out, S2.out, S3.out]; rfl)) (by first | exact sz40 | (rw [S1.out]; exact sz40) | (rw [S2.out]; exact sz40) | (rw [S3.out]; exact sz40)) (by first | exact ints_one _ _ | exact Fld.one _ | exact O1.out | rfl | (simp [Value.oneCell']; done)) rfl ?_); intro wn m; simp only [List.set_cons_succ, List.set_cons_zero, List.setIfInBounds_toArray] at m; have M := Lib.hid m; clear m)
      | ((with_reducible refine gate_dst (N := 8) rfl ?_); go_must (refine M.out.ev_new rfl (by first | (go_simp; done) | (go_simp; rfl)) ?_); intro g8 w8 m; simp only [List.cons_append, List.nil_append] at m; have M := Lib.hid m; clear m)
      | ((with_reducible refine gate_store (x := .tmp 8) rfl ?_); go_must (refine M.out.ev_stw 3 _ _ _ rfl rfl rfl rfl _ rfl (by first | rfl | (simp only [S1.out]; rfl) | (simp only [S1.out, S2.out]; rfl) | (simp only [S3.out]; rfl) | (simp only [S1.out, S2.out, S3.out]; rfl)) (by first | exact sz40 | (rw [S1.out]; exact sz40) | (rw [S2.out]; exact sz40) | (rw [S3.out]; exact sz40)) (by first | exact ints_one _ _ | exact Fld.one _ | exact O1.out | rfl | (simp [Value.oneCell']; done)) rfl ?_); intro wn m; simp only [List.set_cons_succ, List.set_cons_zero, List.setIfInBounds_toArray] at m; have M := Lib.hid m; clear m)
      | ((with_reducible refine gate_dst (N := 20) rfl ?_); go_must (refine M.out.ev_ldw 3 _ _ rfl rfl rfl Tryz.underlying40 rfl (by first | exact sz40 | (rw [S1.out]; exact sz40) | (rw [S2.out]; exact sz40) | (rw [S3.out]; exact sz40)) rfl ?_))
      | ((with_reducible refine gate_store (x := .tmp 8) rfl ?_); go_must (refine M.out.ev_stw 3 _ _ _ rfl rfl rfl rfl _ rfl (by first | rfl | (simp only [S1.out]; rfl) | (simp only [S1.out, S2.out]; rfl) | (simp only [S3.out]; rfl) | (simp only [S1.out, S2.out, S3.out]; rfl)) (by first | exact sz40 | (rw [S1.out]; exact sz40) | (rw [S2.out]; exact sz40) | (rw [S3.out]; exact sz40)) (by first | exact ints_one _ _ | exact Fld.one _ | exact O1.out | rfl | (simp [Value.oneCell']; done)) rfl ?_); intro wn m; simp only [List.set_cons_succ, List.set_cons_zero, List.setIfInBounds_toArray] at m; have M := Lib.hid m; clear m)
      | ((with_reducible refine gate_dst (N := 27) rfl ?_); go_must (refine M.out.ev_ldw 3 _ _ rfl rfl rfl Tryz.underlying40 rfl (by first | exact sz40 | (rw [S1.out]; exact sz40) | (rw [S2.out]; exact sz40) | (rw [S3.out]; exact sz40)) rfl ?_))
      | ((with_reducible refine gate_store (x := .tmp 6) rfl ?_); go_must (refine M.out.ev_stw 2 _ _ _ rfl rfl rfl rfl _ rfl (by first | rfl | (simp only [S1.out]; rfl) | (simp only [S1.out, S2.out]; rfl) | (simp only [S3.out]; rfl) | (simp only [S1.out, S2.out, S3.out]; rfl)) (by first | exact sz40 | (rw [S1.out]; exact sz40) | (rw [S2.out]; exact sz40) | (rw [S3.out]; exact sz40)) (by first | exact ints_one _ _ | exact Fld.one _ | exact O1.out | rfl | (simp [Value.oneCell']; done)) rfl ?_); intro wn m; simp only [List.set_cons_succ, List.set_cons_zero, List.setIfInBounds_toArray] at m; have M := Lib.hid m; clear m)
      | (go_at_call 66; go_must (refine (areBirds_any _ _ F HF.out fs hfl HFF.out A n xs HX.out hl _ (M.out.blk 0 rfl) (M.out.blk 1 rfl) (M.out.sl HS.out)).mono ?_); rintro e w_ ⟨rfl, N_⟩; have m := M.out.join N_; clear N_; simp only [List.cons_append, List.nil_append, List.append_nil] at m; have M := Lib.hid m; clear m; rw [HD.out])
      )
    refine ret_ct rfl ((M.out.blk 2 rfl).var Tryz.underlying40 rfl sz40) ⟨?_, M.out.take 0⟩
    simp only [sfRes, sfCode, HD.out]
    rfl
  · have HD := Lib.hid hd
    have HP := Lib.hid (birdsOk_plain hd)
    have O1 := Lib.hid (Cs.one (ofKd F 0))
    clear hd
    go_enter Tryz.func11, Tryz.ntmps11
    go_wp2_with (first
      | ((with_reducible refine gate_dst (N := 3) rfl ?_); go_must (refine M.out.ev_new rfl (by first | (go_simp; done) | (go_simp; rfl)) ?_); intro g3 w3 m; simp only [List.cons_append, List.nil_append] at m; have M := Lib.hid m; clear m)
      | ((with_reducible refine gate_dst (N := 4) rfl ?_); go_must (refine M.out.ev_new rfl (by first | (go_simp; done) | (go_simp; rfl)) ?_); intro g4 w4 m; simp only [List.cons_append, List.nil_append] at m; have M := Lib.hid m; clear m)
      | ((with_reducible refine gate_dst (N := 6) rfl ?_); go_must (refine M.out.ev_new rfl (by first | (go_simp; done) | (go_simp; rfl)) ?_); intro g6 w6 m; simp only [List.cons_append, List.nil_append] at m; have M := Lib.hid m; clear m)
      | ((with_reducible refine gate_store (x := .tmp 6) rfl ?_); go_must (refine M.out.ev_stw 2 _ _ _ rfl rfl rfl rfl _ rfl (by first | rfl | (simp only [S1.out]; rfl) | (simp only [S1.out, S2.out]; rfl) | (simp only [S3.out]; rfl) | (simp only [S1.out, S2.out, S3.out]; rfl)) (by first | exact sz40 | (rw [S1.out]; exact sz40) | (rw [S2.out]; exact sz40) | (rw [S3.out]; exact sz40)) (by first | exact ints_one _ _ | exact Fld.one _ | exact O1.out | rfl | (simp [Value.oneCell']; done)) rfl ?_); intro wn m; simp only [List.set_cons_succ, List.set_cons_zero, List.setIfInBounds_toArray] at m; have M := Lib.hid m; clear m)
      | ((with_reducible refine gate_dst (N := 8) rfl ?_); go_must (refine M.out.ev_new rfl (by first | (go_simp; done) | (go_simp; rfl)) ?_); intro g8 w8 m; simp only [List.cons_append, List.nil_append] at m; have M := Lib.hid m; clear m)
      | ((with_reducible refine gate_store (x := .tmp 8) rfl ?_); go_must (refine M.out.ev_stw 3 _ _ _ rfl rfl rfl rfl _ rfl (by first | rfl | (simp only [S1.out]; rfl) | (simp only [S1.out, S2.out]; rfl) | (simp only [S3.out]; rfl) | (simp only [S1.out, S2.out, S3.out]; rfl)) (by first | exact sz40 | (rw [S1.out]; exact sz40) | (rw [S2.out]; exact sz40) | (rw [S3.out]; exact sz40)) (by first | exact ints_one _ _ | exact Fld.one _ | exact O1.out | rfl | (simp [Value.oneCell']; done)) rfl ?_); intro wn m; simp only [List.set_cons_succ, List.set_cons_zero, List.setIfInBounds_toArray] at m; have M := Lib.hid m; clear m)
      | ((with_reducible refine gate_dst (N := 20) rfl ?_); go_must (refine M.out.ev_ldw 3 _ _ rfl rfl rfl Tryz.underlying40 rfl (by first | exact sz40 | (rw [S1.out]; exact sz40) | (rw [S2.out]; exact sz40) | (rw [S3.out]; exact sz40)) rfl ?_))
      | ((with_reducible refine gate_store (x := .tmp 8) rfl ?_); go_must (refine M.out.ev_stw 3 _ _ _ rfl rfl rfl rfl _ rfl (by first | rfl | (simp only [S1.out]; rfl) | (simp only [S1.out, S2.out]; rfl) | (simp only [S3.out]; rfl) | (simp only [S1.out, S2.out, S3.out]; rfl)) (by first | exact sz40 | (rw [S1.out]; exact sz40) | (rw [S2.out]; exact sz40) | (rw [S3.out]; exact sz40)) (by first | exact ints_one _ _ | exact Fld.one _ | exact O1.out | rfl | (simp [Value.oneCell']; done)) rfl ?_); intro wn m; simp only [List.set_cons_succ, List.set_cons_zero, List.setIfInBounds_toArray] at m; have M := Lib.hid m; clear m)
      | ((with_reducible refine gate_dst (N := 27) rfl ?_); go_must (refine M.out.ev_ldw 3 _ _ rfl rfl rfl Tryz.underlying40 rfl (by first | exact sz40 | (rw [S1.out]; exact sz40) | (rw [S2.out]; exact sz40) | (rw [S3.out]; exact sz40)) rfl ?_))
      | ((with_reducible refine gate_store (x := .tmp 6) rfl ?_); go_must (refine M.out.ev_stw 2 _ _ _ rfl rfl rfl rfl _ rfl (by first | rfl | (simp only [S1.out]; rfl) | (simp only [S1.out, S2.out]; rfl) | (simp only [S3.out]; rfl) | (simp only [S1.out, S2.out, S3.out]; rfl)) (by first | exact sz40 | (rw [S1.out]; exact sz40) | (rw [S2.out]; exact sz40) | (rw [S3.out]; exact sz40)) (by first | exact ints_one _ _ | exact Fld.one _ | exact O1.out | rfl | (simp [Value.oneCell']; done)) rfl ?_); intro wn m; simp only [List.set_cons_succ, List.set_cons_zero, List.setIfInBounds_toArray] at m; have M := Lib.hid m; clear m)
      | (go_at_call 66; go_must (refine (areBirds_any _ _ F HF.out fs hfl HFF.out A n xs HX.out hl _ (M.out.blk 0 rfl) (M.out.blk 1 rfl) (M.out.sl HS.out)).mono ?_); rintro e w_ ⟨rfl, N_⟩; have m := M.out.join N_; clear N_; simp only [List.cons_append, List.nil_append, List.append_nil] at m; have M := Lib.hid m; clear m; rw [HD.out])
      | (go_at_call 67; go_must (refine (ofKind_any _ F HF.out 0 _ (M.out.blk 0 rfl)).mono ?_); rintro e w_ ⟨rfl, N_⟩; have m := M.out.join N_; clear N_; simp only [List.cons_append, List.nil_append, List.append_nil] at m; have M := Lib.hid m; clear m)
      )
    go_loopw [17] (fun v wr => ∃ k : Nat, k ≤ xs.length ∧ v = .int .i64 k ∧ Mem w wr [.blk g3 29 F.cells, .blk g4 31 (ints .i16 fs), .blk g6 40 Cs.z.cells, .blk g8 40 (leftOf F fs (xs.take k)).cells])
      (fun v _ => xs.length - (intOf v).toNat)
    case atStart => exact ⟨0, by omega, rfl, M.out⟩
    case round =>
      clear M O1
      obtain ⟨k, hk, rfl, m⟩ := hrel
      have M := Lib.hid m
      clear m
      by_cases hlt : k < xs.length
      · obtain ⟨b, off, rfl, hr⟩ := (M.out.sl HS.out).2 (by omega)
        have hxk : xs[k]? = some xs[k] := List.getElem?_eq_getElem hlt
        have HPX := Lib.hid (HP.out xs[k] (List.getElem_mem hlt))
        have R := Lib.hid (range_at Flock.vl hr hxk)
        have O1 := Lib.hid (Cs.one (leftOf F fs (xs.take (k + 1))))
        have HL := Lib.hid (show (leftOf F fs (xs.take k)).without (goSet F fs xs[k]) = leftOf F fs (xs.take (k + 1)) by rw [List.take_succ_eq_append_getElem hlt, leftOf_snoc])
        have RNG := Lib.hid (fun (w2 : World) (m2 : Mem w w2 [.blk g3 29 F.cells, .blk g4 31 (ints .i16 fs), .blk g6 40 Cs.z.cells, .blk g8 40 (leftOf F fs (xs.take k)).cells]) => rng_ (xs := xs) hlt m2 HS.out)
        clear hr hxk
        go_wp2
        refine region_any (by kernel_rfl) ?_
        have m := M.out.drew
        clear M
        have M := Lib.hid m
        clear m
        refine takeD (i := 1) (v := ?v0) 21 rfl (by kernel_rfl) (by kernel_rfl) (by kernel_rfl) (fun _ _ _ h => h) rfl (Or.inl ⟨by first | rfl | (go_simp; done), ?y0⟩) ?r0
        case' y0 =>
          intro w
          go_simp
          try with_reducible rfl
        case' r0 =>
          try simp only [Act.put, List.setIfInBounds_toArray, List.set_cons_succ, List.set_cons_zero]
          refine takeD (i := 2) (v := ?v1) 22 rfl (by kernel_rfl) (by kernel_rfl) (by kernel_rfl) (fun _ _ _ h => h) rfl (Or.inl ⟨by first | rfl | (go_simp; done), ?y1⟩) ?r1
          case' y1 =>
            intro w
            go_simp
            try with_reducible rfl
          case' r1 =>
            try simp only [Act.put, List.setIfInBounds_toArray, List.set_cons_succ, List.set_cons_zero]
            refine takeD (i := 3) (v := ?v2) 23 rfl (by kernel_rfl) (by kernel_rfl) (by kernel_rfl) (fun _ _ _ h => h) rfl (Or.inl ⟨by first | rfl | (go_simp; done), ?y2⟩) ?r2
            case' y2 =>
              intro w
              go_simp
              try with_reducible rfl
            case' r2 =>
              try simp only [Act.put, List.setIfInBounds_toArray, List.set_cons_succ, List.set_cons_zero]
              refine any2k 0 4 (by kernel_rfl) rfl rfl (fun K hK => ?x3_1) (fun K hK => ?x3_2)
              case' x3_2 =>
                go_wp2_with (first | ((with_reducible refine gate_store (x := .tmp 8) rfl ?_); go_must (refine M.out.ev_stw 3 _ _ _ rfl rfl rfl rfl _ rfl (by first | rfl | (simp only [S1.out]; rfl) | (simp only [S1.out, S2.out]; rfl) | (simp only [S3.out]; rfl) | (simp only [S1.out, S2.out, S3.out]; rfl)) (by first | exact sz40 | (rw [S1.out]; exact sz40) | (rw [S2.out]; exact sz40) | (rw [S3.out]; exact sz40)) (by first | exact ints_one _ _ | exact Fld.one _ | exact O1.out | rfl | (simp [Value.oneCell']; done)) rfl ?_); intro wn m; simp only [List.set_cons_succ, List.set_cons_zero, List.setIfInBounds_toArray] at m; have M := Lib.hid m; clear m) | ((with_reducible refine gate_dst (N := 20) rfl ?_); go_must (refine M.out.ev_ldw 3 _ _ rfl rfl rfl Tryz.underlying40 rfl (by first | exact sz40 | (rw [S1.out]; exact sz40) | (rw [S2.out]; exact sz40) | (rw [S3.out]; exact sz40)) rfl ?_)) | ((with_reducible refine gate_store (x := .tmp 8) rfl ?_); go_must (refine M.out.ev_stw 3 _ _ _ rfl rfl rfl rfl _ rfl (by first | rfl | (simp only [S1.out]; rfl) | (simp only [S1.out, S2.out]; rfl) | (simp only [S3.out]; rfl) | (simp only [S1.out, S2.out, S3.out]; rfl)) (by first | exact sz40 | (rw [S1.out]; exact sz40) | (rw [S2.out]; exact sz40) | (rw [S3.out]; exact sz40)) (by first | exact ints_one _ _ | exact Fld.one _ | exact O1.out | rfl | (simp [Value.oneCell']; done)) rfl ?_); intro wn m; simp only [List.set_cons_succ, List.set_cons_zero, List.setIfInBounds_toArray] at m; have M := Lib.hid m; clear m) | (go_at_call 69; go_must (refine (cellsFor_any _ _ b _ F HF.out fs hfl xs[k] HPX.out _ (M.out.blk 0 rfl) (M.out.blk 1 rfl) (RNG.out _ M.out)).mono ?_); rintro e w_ ⟨rfl, N_⟩; have m := M.out.join N_; clear N_; simp only [List.cons_append, List.nil_append, List.append_nil] at m; have M := Lib.hid m; clear m) | (go_at_call 68; go_must (refine (WithoutOf_any _ _ _).mono ?_); rw [HL.out]; rintro e w_ ⟨rfl, N_⟩; have m := M.out.join N_; clear N_; simp only [List.cons_append, List.nil_append, List.append_nil] at m; have M := Lib.hid m; clear m))
                refine onward_normal (hK _ _ ?_)
                clear hK K
                try simp only [Act.put, List.getElem_toArray, List.getElem_cons_succ, List.getElem_cons_zero, List.setIfInBounds_toArray, List.set_cons_succ, List.set_cons_zero]
                refine any1k 0 (by kernel_rfl) rfl (fun K hK => ?_)
                go_wp2_with (first | ((with_reducible refine gate_store (x := .tmp 8) rfl ?_); go_must (refine M.out.ev_stw 3 _ _ _ rfl rfl rfl rfl _ rfl (by first | rfl | (simp only [S1.out]; rfl) | (simp only [S1.out, S2.out]; rfl) | (simp only [S3.out]; rfl) | (simp only [S1.out, S2.out, S3.out]; rfl)) (by first | exact sz40 | (rw [S1.out]; exact sz40) | (rw [S2.out]; exact sz40) | (rw [S3.out]; exact sz40)) (by first | exact ints_one _ _ | exact Fld.one _ | exact O1.out | rfl | (simp [Value.oneCell']; done)) rfl ?_); intro wn m; simp only [List.set_cons_succ, List.set_cons_zero, List.setIfInBounds_toArray] at m; have M := Lib.hid m; clear m) | ((with_reducible refine gate_dst (N := 20) rfl ?_); go_must (refine M.out.ev_ldw 3 _ _ rfl rfl rfl Tryz.underlying40 rfl (by first | exact sz40 | (rw [S1.out]; exact sz40) | (rw [S2.out]; exact sz40) | (rw [S3.out]; exact sz40)) rfl ?_)) | ((with_reducible refine gate_store (x := .tmp 8) rfl ?_); go_must (refine M.out.ev_stw 3 _ _ _ rfl rfl rfl rfl _ rfl (by first | rfl | (simp only [S1.out]; rfl) | (simp only [S1.out, S2.out]; rfl) | (simp only [S3.out]; rfl) | (simp only [S1.out, S2.out, S3.out]; rfl)) (by first | exact sz40 | (rw [S1.out]; exact sz40) | (rw [S2.out]; exact sz40) | (rw [S3.out]; exact sz40)) (by first | exact ints_one _ _ | exact Fld.one _ | exact O1.out | rfl | (simp [Value.oneCell']; done)) rfl ?_); intro wn m; simp only [List.set_cons_succ, List.set_cons_zero, List.setIfInBounds_toArray] at m; have M := Lib.hid m; clear m) | (go_at_call 69; go_must (refine (cellsFor_any _ _ b _ F HF.out fs hfl xs[k] HPX.out _ (M.out.blk 0 rfl) (M.out.blk 1 rfl) (RNG.out _ M.out)).mono ?_); rintro e w_ ⟨rfl, N_⟩; have m := M.out.join N_; clear N_; simp only [List.cons_append, List.nil_append, List.append_nil] at m; have M := Lib.hid m; clear m) | (go_at_call 68; go_must (refine (WithoutOf_any _ _ _).mono ?_); rw [HL.out]; rintro e w_ ⟨rfl, N_⟩; have m := M.out.join N_; clear N_; simp only [List.cons_append, List.nil_append, List.append_nil] at m; have M := Lib.hid m; clear m))
                refine onward_normal (hK _ _ ?_)
                clear hK K
                try simp only [Act.put, List.getElem_toArray, List.getElem_cons_succ, List.getElem_cons_zero, List.setIfInBounds_toArray, List.set_cons_succ, List.set_cons_zero]
                refine any1k 5 (by kernel_rfl) rfl (fun K hK => ?_)
                go_wp2_with (first | ((with_reducible refine gate_store (x := .tmp 8) rfl ?_); go_must (refine M.out.ev_stw 3 _ _ _ rfl rfl rfl rfl _ rfl (by first | rfl | (simp only [S1.out]; rfl) | (simp only [S1.out, S2.out]; rfl) | (simp only [S3.out]; rfl) | (simp only [S1.out, S2.out, S3.out]; rfl)) (by first | exact sz40 | (rw [S1.out]; exact sz40) | (rw [S2.out]; exact sz40) | (rw [S3.out]; exact sz40)) (by first | exact ints_one _ _ | exact Fld.one _ | exact O1.out | rfl | (simp [Value.oneCell']; done)) rfl ?_); intro wn m; simp only [List.set_cons_succ, List.set_cons_zero, List.setIfInBounds_toArray] at m; have M := Lib.hid m; clear m) | ((with_reducible refine gate_dst (N := 20) rfl ?_); go_must (refine M.out.ev_ldw 3 _ _ rfl rfl rfl Tryz.underlying40 rfl (by first | exact sz40 | (rw [S1.out]; exact sz40) | (rw [S2.out]; exact sz40) | (rw [S3.out]; exact sz40)) rfl ?_)) | ((with_reducible refine gate_store (x := .tmp 8) rfl ?_); go_must (refine M.out.ev_stw 3 _ _ _ rfl rfl rfl rfl _ rfl (by first | rfl | (simp only [S1.out]; rfl) | (simp only [S1.out, S2.out]; rfl) | (simp only [S3.out]; rfl) | (simp only [S1.out, S2.out, S3.out]; rfl)) (by first | exact sz40 | (rw [S1.out]; exact sz40) | (rw [S2.out]; exact sz40) | (rw [S3.out]; exact sz40)) (by first | exact ints_one _ _ | exact Fld.one _ | exact O1.out | rfl | (simp [Value.oneCell']; done)) rfl ?_); intro wn m; simp only [List.set_cons_succ, List.set_cons_zero, List.setIfInBounds_toArray] at m; have M := Lib.hid m; clear m) | (go_at_call 69; go_must (refine (cellsFor_any _ _ b _ F HF.out fs hfl xs[k] HPX.out _ (M.out.blk 0 rfl) (M.out.blk 1 rfl) (RNG.out _ M.out)).mono ?_); rintro e w_ ⟨rfl, N_⟩; have m := M.out.join N_; clear N_; simp only [List.cons_append, List.nil_append, List.append_nil] at m; have M := Lib.hid m; clear m) | (go_at_call 68; go_must (refine (WithoutOf_any _ _ _).mono ?_); rw [HL.out]; rintro e w_ ⟨rfl, N_⟩; have m := M.out.join N_; clear N_; simp only [List.cons_append, List.nil_append, List.append_nil] at m; have M := Lib.hid m; clear m))
                refine onward_normal (hK _ _ ?_)
                clear hK K
                try simp only [Act.put, List.getElem_toArray, List.getElem_cons_succ, List.getElem_cons_zero, List.setIfInBounds_toArray, List.set_cons_succ, List.set_cons_zero]
                refine any1k 6 (by kernel_rfl) rfl (fun K hK => ?_)
                go_wp2_with (first | ((with_reducible refine gate_store (x := .tmp 8) rfl ?_); go_must (refine M.out.ev_stw 3 _ _ _ rfl rfl rfl rfl _ rfl (by first | rfl | (simp only [S1.out]; rfl) | (simp only [S1.out, S2.out]; rfl) | (simp only [S3.out]; rfl) | (simp only [S1.out, S2.out, S3.out]; rfl)) (by first | exact sz40 | (rw [S1.out]; exact sz40) | (rw [S2.out]; exact sz40) | (rw [S3.out]; exact sz40)) (by first | exact ints_one _ _ | exact Fld.one _ | exact O1.out | rfl | (simp [Value.oneCell']; done)) rfl ?_); intro wn m; simp only [List.set_cons_succ, List.set_cons_zero, List.setIfInBounds_toArray] at m; have M := Lib.hid m; clear m) | ((with_reducible refine gate_dst (N := 20) rfl ?_); go_must (refine M.out.ev_ldw 3 _ _ rfl rfl rfl Tryz.underlying40 rfl (by first | exact sz40 | (rw [S1.out]; exact sz40) | (rw [S2.out]; exact sz40) | (rw [S3.out]; exact sz40)) rfl ?_)) | ((with_reducible refine gate_store (x := .tmp 8) rfl ?_); go_must (refine M.out.ev_stw 3 _ _ _ rfl rfl rfl rfl _ rfl (by first | rfl | (simp only [S1.out]; rfl) | (simp only [S1.out, S2.out]; rfl) | (simp only [S3.out]; rfl) | (simp only [S1.out, S2.out, S3.out]; rfl)) (by first | exact sz40 | (rw [S1.out]; exact sz40) | (rw [S2.out]; exact sz40) | (rw [S3.out]; exact sz40)) (by first | exact ints_one _ _ | exact Fld.one _ | exact O1.out | rfl | (simp [Value.oneCell']; done)) rfl ?_); intro wn m; simp only [List.set_cons_succ, List.set_cons_zero, List.setIfInBounds_toArray] at m; have M := Lib.hid m; clear m) | (go_at_call 69; go_must (refine (cellsFor_any _ _ b _ F HF.out fs hfl xs[k] HPX.out _ (M.out.blk 0 rfl) (M.out.blk 1 rfl) (RNG.out _ M.out)).mono ?_); rintro e w_ ⟨rfl, N_⟩; have m := M.out.join N_; clear N_; simp only [List.cons_append, List.nil_append, List.append_nil] at m; have M := Lib.hid m; clear m) | (go_at_call 68; go_must (refine (WithoutOf_any _ _ _).mono ?_); rw [HL.out]; rintro e w_ ⟨rfl, N_⟩; have m := M.out.join N_; clear N_; simp only [List.cons_append, List.nil_append, List.append_nil] at m; have M := Lib.hid m; clear m))
                refine onward_normal (hK _ _ ?_)
                clear hK K
                try simp only [Act.put, List.getElem_toArray, List.getElem_cons_succ, List.getElem_cons_zero, List.setIfInBounds_toArray, List.set_cons_succ, List.set_cons_zero]
                refine wpAny_done (by kernel_rfl) ?_ _
              case' x3_1 =>
                go_wp2_with (first | ((with_reducible refine gate_store (x := .tmp 8) rfl ?_); go_must (refine M.out.ev_stw 3 _ _ _ rfl rfl rfl rfl _ rfl (by first | rfl | (simp only [S1.out]; rfl) | (simp only [S1.out, S2.out]; rfl) | (simp only [S3.out]; rfl) | (simp only [S1.out, S2.out, S3.out]; rfl)) (by first | exact sz40 | (rw [S1.out]; exact sz40) | (rw [S2.out]; exact sz40) | (rw [S3.out]; exact sz40)) (by first | exact ints_one _ _ | exact Fld.one _ | exact O1.out | rfl | (simp [Value.oneCell']; done)) rfl ?_); intro wn m; simp only [List.set_cons_succ, List.set_cons_zero, List.setIfInBounds_toArray] at m; have M := Lib.hid m; clear m) | ((with_reducible refine gate_dst (N := 20) rfl ?_); go_must (refine M.out.ev_ldw 3 _ _ rfl rfl rfl Tryz.underlying40 rfl (by first | exact sz40 | (rw [S1.out]; exact sz40) | (rw [S2.out]; exact sz40) | (rw [S3.out]; exact sz40)) rfl ?_)) | ((with_reducible refine gate_store (x := .tmp 8) rfl ?_); go_must (refine M.out.ev_stw 3 _ _ _ rfl rfl rfl rfl _ rfl (by first | rfl | (simp only [S1.out]; rfl) | (simp only [S1.out, S2.out]; rfl) | (simp only [S3.out]; rfl) | (simp only [S1.out, S2.out, S3.out]; rfl)) (by first | exact sz40 | (rw [S1.out]; exact sz40) | (rw [S2.out]; exact sz40) | (rw [S3.out]; exact sz40)) (by first | exact ints_one _ _ | exact Fld.one _ | exact O1.out | rfl | (simp [Value.oneCell']; done)) rfl ?_); intro wn m; simp only [List.set_cons_succ, List.set_cons_zero, List.setIfInBounds_toArray] at m; have M := Lib.hid m; clear m) | (go_at_call 69; go_must (refine (cellsFor_any _ _ b _ F HF.out fs hfl xs[k] HPX.out _ (M.out.blk 0 rfl) (M.out.blk 1 rfl) (RNG.out _ M.out)).mono ?_); rintro e w_ ⟨rfl, N_⟩; have m := M.out.join N_; clear N_; simp only [List.cons_append, List.nil_append, List.append_nil] at m; have M := Lib.hid m; clear m) | (go_at_call 68; go_must (refine (WithoutOf_any _ _ _).mono ?_); rw [HL.out]; rintro e w_ ⟨rfl, N_⟩; have m := M.out.join N_; clear N_; simp only [List.cons_append, List.nil_append, List.append_nil] at m; have M := Lib.hid m; clear m))
                refine onward_normal (hK _ _ ?_)
                clear hK K
                try simp only [Act.put, List.getElem_toArray, List.getElem_cons_succ, List.getElem_cons_zero, List.setIfInBounds_toArray, List.set_cons_succ, List.set_cons_zero]
                refine any1k 4 (by kernel_rfl) rfl (fun K hK => ?_)
                go_wp2_with (first | ((with_reducible refine gate_store (x := .tmp 8) rfl ?_); go_must (refine M.out.ev_stw 3 _ _ _ rfl rfl rfl rfl _ rfl (by first | rfl | (simp only [S1.out]; rfl) | (simp only [S1.out, S2.out]; rfl) | (simp only [S3.out]; rfl) | (simp only [S1.out, S2.out, S3.out]; rfl)) (by first | exact sz40 | (rw [S1.out]; exact sz40) | (rw [S2.out]; exact sz40) | (rw [S3.out]; exact sz40)) (by first | exact ints_one _ _ | exact Fld.one _ | exact O1.out | rfl | (simp [Value.oneCell']; done)) rfl ?_); intro wn m; simp only [List.set_cons_succ, List.set_cons_zero, List.setIfInBounds_toArray] at m; have M := Lib.hid m; clear m) | ((with_reducible refine gate_dst (N := 20) rfl ?_); go_must (refine M.out.ev_ldw 3 _ _ rfl rfl rfl Tryz.underlying40 rfl (by first | exact sz40 | (rw [S1.out]; exact sz40) | (rw [S2.out]; exact sz40) | (rw [S3.out]; exact sz40)) rfl ?_)) | ((with_reducible refine gate_store (x := .tmp 8) rfl ?_); go_must (refine M.out.ev_stw 3 _ _ _ rfl rfl rfl rfl _ rfl (by first | rfl | (simp only [S1.out]; rfl) | (simp only [S1.out, S2.out]; rfl) | (simp only [S3.out]; rfl) | (simp only [S1.out, S2.out, S3.out]; rfl)) (by first | exact sz40 | (rw [S1.out]; exact sz40) | (rw [S2.out]; exact sz40) | (rw [S3.out]; exact sz40)) (by first | exact ints_one _ _ | exact Fld.one _ | exact O1.out | rfl | (simp [Value.oneCell']; done)) rfl ?_); intro wn m; simp only [List.set_cons_succ, List.set_cons_zero, List.setIfInBounds_toArray] at m; have M := Lib.hid m; clear m) | (go_at_call 69; go_must (refine (cellsFor_any _ _ b _ F HF.out fs hfl xs[k] HPX.out _ (M.out.blk 0 rfl) (M.out.blk 1 rfl) (RNG.out _ M.out)).mono ?_); rintro e w_ ⟨rfl, N_⟩; have m := M.out.join N_; clear N_; simp only [List.cons_append, List.nil_append, List.append_nil] at m; have M := Lib.hid m; clear m) | (go_at_call 68; go_must (refine (WithoutOf_any _ _ _).mono ?_); rw [HL.out]; rintro e w_ ⟨rfl, N_⟩; have m := M.out.join N_; clear N_; simp only [List.cons_append, List.nil_append, List.append_nil] at m; have M := Lib.hid m; clear m))
                refine onward_normal (hK _ _ ?_)
                clear hK K
                try simp only [Act.put, List.getElem_toArray, List.getElem_cons_succ, List.getElem_cons_zero, List.setIfInBounds_toArray, List.set_cons_succ, List.set_cons_zero]
                refine any1k 5 (by kernel_rfl) rfl (fun K hK => ?_)
                go_wp2_with (first | ((with_reducible refine gate_store (x := .tmp 8) rfl ?_); go_must (refine M.out.ev_stw 3 _ _ _ rfl rfl rfl rfl _ rfl (by first | rfl | (simp only [S1.out]; rfl) | (simp only [S1.out, S2.out]; rfl) | (simp only [S3.out]; rfl) | (simp only [S1.out, S2.out, S3.out]; rfl)) (by first | exact sz40 | (rw [S1.out]; exact sz40) | (rw [S2.out]; exact sz40) | (rw [S3.out]; exact sz40)) (by first | exact ints_one _ _ | exact Fld.one _ | exact O1.out | rfl | (simp [Value.oneCell']; done)) rfl ?_); intro wn m; simp only [List.set_cons_succ, List.set_cons_zero, List.setIfInBounds_toArray] at m; have M := Lib.hid m; clear m) | ((with_reducible refine gate_dst (N := 20) rfl ?_); go_must (refine M.out.ev_ldw 3 _ _ rfl rfl rfl Tryz.underlying40 rfl (by first | exact sz40 | (rw [S1.out]; exact sz40) | (rw [S2.out]; exact sz40) | (rw [S3.out]; exact sz40)) rfl ?_)) | ((with_reducible refine gate_store (x := .tmp 8) rfl ?_); go_must (refine M.out.ev_stw 3 _ _ _ rfl rfl rfl rfl _ rfl (by first | rfl | (simp only [S1.out]; rfl) | (simp only [S1.out, S2.out]; rfl) | (simp only [S3.out]; rfl) | (simp only [S1.out, S2.out, S3.out]; rfl)) (by first | exact sz40 | (rw [S1.out]; exact sz40) | (rw [S2.out]; exact sz40) | (rw [S3.out]; exact sz40)) (by first | exact ints_one _ _ | exact Fld.one _ | exact O1.out | rfl | (simp [Value.oneCell']; done)) rfl ?_); intro wn m; simp only [List.set_cons_succ, List.set_cons_zero, List.setIfInBounds_toArray] at m; have M := Lib.hid m; clear m) | (go_at_call 69; go_must (refine (cellsFor_any _ _ b _ F HF.out fs hfl xs[k] HPX.out _ (M.out.blk 0 rfl) (M.out.blk 1 rfl) (RNG.out _ M.out)).mono ?_); rintro e w_ ⟨rfl, N_⟩; have m := M.out.join N_; clear N_; simp only [List.cons_append, List.nil_append, List.append_nil] at m; have M := Lib.hid m; clear m) | (go_at_call 68; go_must (refine (WithoutOf_any _ _ _).mono ?_); rw [HL.out]; rintro e w_ ⟨rfl, N_⟩; have m := M.out.join N_; clear N_; simp only [List.cons_append, List.nil_append, List.append_nil] at m; have M := Lib.hid m; clear m))
                refine onward_normal (hK _ _ ?_)
                clear hK K
                try simp only [Act.put, List.getElem_toArray, List.getElem_cons_succ, List.getElem_cons_zero, List.setIfInBounds_toArray, List.set_cons_succ, List.set_cons_zero]
                refine any1k 6 (by kernel_rfl) rfl (fun K hK => ?_)
                go_wp2_with (first | ((with_reducible refine gate_store (x := .tmp 8) rfl ?_); go_must (refine M.out.ev_stw 3 _ _ _ rfl rfl rfl rfl _ rfl (by first | rfl | (simp only [S1.out]; rfl) | (simp only [S1.out, S2.out]; rfl) | (simp only [S3.out]; rfl) | (simp only [S1.out, S2.out, S3.out]; rfl)) (by first | exact sz40 | (rw [S1.out]; exact sz40) | (rw [S2.out]; exact sz40) | (rw [S3.out]; exact sz40)) (by first | exact ints_one _ _ | exact Fld.one _ | exact O1.out | rfl | (simp [Value.oneCell']; done)) rfl ?_); intro wn m; simp only [List.set_cons_succ, List.set_cons_zero, List.setIfInBounds_toArray] at m; have M := Lib.hid m; clear m) | ((with_reducible refine gate_dst (N := 20) rfl ?_); go_must (refine M.out.ev_ldw 3 _ _ rfl rfl rfl Tryz.underlying40 rfl (by first | exact sz40 | (rw [S1.out]; exact sz40) | (rw [S2.out]; exact sz40) | (rw [S3.out]; exact sz40)) rfl ?_)) | ((with_reducible refine gate_store (x := .tmp 8) rfl ?_); go_must (refine M.out.ev_stw 3 _ _ _ rfl rfl rfl rfl _ rfl (by first | rfl | (simp only [S1.out]; rfl) | (simp only [S1.out, S2.out]; rfl) | (simp only [S3.out]; rfl) | (simp only [S1.out, S2.out, S3.out]; rfl)) (by first | exact sz40 | (rw [S1.out]; exact sz40) | (rw [S2.out]; exact sz40) | (rw [S3.out]; exact sz40)) (by first | exact ints_one _ _ | exact Fld.one _ | exact O1.out | rfl | (simp [Value.oneCell']; done)) rfl ?_); intro wn m; simp only [List.set_cons_succ, List.set_cons_zero, List.setIfInBounds_toArray] at m; have M := Lib.hid m; clear m) | (go_at_call 69; go_must (refine (cellsFor_any _ _ b _ F HF.out fs hfl xs[k] HPX.out _ (M.out.blk 0 rfl) (M.out.blk 1 rfl) (RNG.out _ M.out)).mono ?_); rintro e w_ ⟨rfl, N_⟩; have m := M.out.join N_; clear N_; simp only [List.cons_append, List.nil_append, List.append_nil] at m; have M := Lib.hid m; clear m) | (go_at_call 68; go_must (refine (WithoutOf_any _ _ _).mono ?_); rw [HL.out]; rintro e w_ ⟨rfl, N_⟩; have m := M.out.join N_; clear N_; simp only [List.cons_append, List.nil_append, List.append_nil] at m; have M := Lib.hid m; clear m))
                refine onward_normal (hK _ _ ?_)
                clear hK K
                try simp only [Act.put, List.getElem_toArray, List.getElem_cons_succ, List.getElem_cons_zero, List.setIfInBounds_toArray, List.set_cons_succ, List.set_cons_zero]
                refine wpAny_done (by kernel_rfl) ?_ _
        all_goals
          go_wp2
          exact ⟨⟨k + 1, by omega, by go_num, M.out⟩, by simp [intOf]; omega⟩
      · obtain rfl : k = xs.length := by omega
        rw [List.take_length] at M
        have O1 := Lib.hid (Cs.one (leftOf F fs xs))
        go_wp2_with (first
          | ((with_reducible refine gate_dst (N := 3) rfl ?_); go_must (refine M.out.ev_new rfl (by first | (go_simp; done) | (go_simp; rfl)) ?_); intro g3 w3 m; simp only [List.cons_append, List.nil_append] at m; have M := Lib.hid m; clear m)
          | ((with_reducible refine gate_dst (N := 4) rfl ?_); go_must (refine M.out.ev_new rfl (by first | (go_simp; done) | (go_simp; rfl)) ?_); intro g4 w4 m; simp only [List.cons_append, List.nil_append] at m; have M := Lib.hid m; clear m)
          | ((with_reducible refine gate_dst (N := 6) rfl ?_); go_must (refine M.out.ev_new rfl (by first | (go_simp; done) | (go_simp; rfl)) ?_); intro g6 w6 m; simp only [List.cons_append, List.nil_append] at m; have M := Lib.hid m; clear m)
          | ((with_reducible refine gate_store (x := .tmp 6) rfl ?_); go_must (refine M.out.ev_stw 2 _ _ _ rfl rfl rfl rfl _ rfl (by first | rfl | (simp only [S1.out]; rfl) | (simp only [S1.out, S2.out]; rfl) | (simp only [S3.out]; rfl) | (simp only [S1.out, S2.out, S3.out]; rfl)) (by first | exact sz40 | (rw [S1.out]; exact sz40) | (rw [S2.out]; exact sz40) | (rw [S3.out]; exact sz40)) (by first | exact ints_one _ _ | exact Fld.one _ | exact O1.out | rfl | (simp [Value.oneCell']; done)) rfl ?_); intro wn m; simp only [List.set_cons_succ, List.set_cons_zero, List.setIfInBounds_toArray] at m; have M := Lib.hid m; clear m)
          | ((with_reducible refine gate_dst (N := 8) rfl ?_); go_must (refine M.out.ev_new rfl (by first | (go_simp; done) | (go_simp; rfl)) ?_); intro g8 w8 m; simp only [List.cons_append, List.nil_append] at m; have M := Lib.hid m; clear m)
          | ((with_reducible refine gate_store (x := .tmp 8) rfl ?_); go_must (refine M.out.ev_stw 3 _ _ _ rfl rfl rfl rfl _ rfl (by first | rfl | (simp only [S1.out]; rfl) | (simp only [S1.out, S2.out]; rfl) | (simp only [S3.out]; rfl) | (simp only [S1.out, S2.out, S3.out]; rfl)) (by first | exact sz40 | (rw [S1.out]; exact sz40) | (rw [S2.out]; exact sz40) | (rw [S3.out]; exact sz40)) (by first | exact ints_one _ _ | exact Fld.one _ | exact O1.out | rfl | (simp [Value.oneCell']; done)) rfl ?_); intro wn m; simp only [List.set_cons_succ, List.set_cons_zero, List.setIfInBounds_toArray] at m; have M := Lib.hid m; clear m)
          | ((with_reducible refine gate_dst (N := 20) rfl ?_); go_must (refine M.out.ev_ldw 3 _ _ rfl rfl rfl Tryz.underlying40 rfl (by first | exact sz40 | (rw [S1.out]; exact sz40) | (rw [S2.out]; exact sz40) | (rw [S3.out]; exact sz40)) rfl ?_))
          | ((with_reducible refine gate_store (x := .tmp 8) rfl ?_); go_must (refine M.out.ev_stw 3 _ _ _ rfl rfl rfl rfl _ rfl (by first | rfl | (simp only [S1.out]; rfl) | (simp only [S1.out, S2.out]; rfl) | (simp only [S3.out]; rfl) | (simp only [S1.out, S2.out, S3.out]; rfl)) (by first | exact sz40 | (rw [S1.out]; exact sz40) | (rw [S2.out]; exact sz40) | (rw [S3.out]; exact sz40)) (by first | exact ints_one _ _ | exact Fld.one _ | exact O1.out | rfl | (simp [Value.oneCell']; done)) rfl ?_); intro wn m; simp only [List.set_cons_succ, List.set_cons_zero, List.setIfInBounds_toArray] at m; have M := Lib.hid m; clear m)
          | ((with_reducible refine gate_dst (N := 27) rfl ?_); go_must (refine M.out.ev_ldw 3 _ _ rfl rfl rfl Tryz.underlying40 rfl (by first | exact sz40 | (rw [S1.out]; exact sz40) | (rw [S2.out]; exact sz40) | (rw [S3.out]; exact sz40)) rfl ?_))
          | ((with_reducible refine gate_store (x := .tmp 6) rfl ?_); go_must (refine M.out.ev_stw 2 _ _ _ rfl rfl rfl rfl _ rfl (by first | rfl | (simp only [S1.out]; rfl) | (simp only [S1.out, S2.out]; rfl) | (simp only [S3.out]; rfl) | (simp only [S1.out, S2.out, S3.out]; rfl)) (by first | exact sz40 | (rw [S1.out]; exact sz40) | (rw [S2.out]; exact sz40) | (rw [S3.out]; exact sz40)) (by first | exact ints_one _ _ | exact Fld.one _ | exact O1.out | rfl | (simp [Value.oneCell']; done)) rfl ?_); intro wn m; simp only [List.set_cons_succ, List.set_cons_zero, List.setIfInBounds_toArray] at m; have M := Lib.hid m; clear m)
          )
        refine ret_ct rfl ((M.out.blk 2 rfl).var Tryz.underlying40 rfl sz40) ⟨?_, M.out.take 0⟩
        simp only [sfRes, sfCode, HD.out]
        rfl
end Go.Proofs.YtkomhngokcejbaaGreatDoor
