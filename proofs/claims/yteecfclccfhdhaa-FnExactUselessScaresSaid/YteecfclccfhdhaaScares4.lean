/- Whether scarecrows are as they must be: the walks of the program. -/
import Derived.Test.YteecfclccfhdhaaScares3
import Derived.Test.YteecfclccfhdhaaSl
namespace Go.Proofs.Yteecfclccfhdhaa
set_option linter.unusedSimpArgs false
set_option linter.unusedVariables false
open Go.RowKit
attribute [local go_sem] cell?_mk frozen?_mk

theorem Sl.takeN {α : Type} {en : α → List Value} {w : World} {sz : Nat} {A : Option Addr} {xs : List α} (hen : ∀ x, (en x).length = sz) (h : Sl w sz A xs.length (flat en xs)) (k : Nat) (hk : k ≤ xs.length) : Sl w sz A k (flat en (xs.take k)) := by
  refine ⟨by rw [flat_len hen, List.length_take, Nat.min_eq_left hk], fun hn => ?_⟩
  obtain ⟨b, off, e, hr⟩ := h.2 (by omega)
  refine ⟨b, off, e, fun j v hv => hr j v ?_⟩
  have hj := (List.getElem?_eq_some_iff.1 hv).1
  rw [← List.take_append_drop k xs]
  unfold flat at hv hj ⊢
  rw [List.flatMap_append, List.getElem?_append_left hj]
  exact hv
theorem scAt_some {F : Fld} {xs : List Scarecrow} {k : Nat} {x : Scarecrow} (h : xs[k]? = some x) : scAt F xs k = (x.plain && (F.place x.cell && !standsAt (xs.take k) x.cell)) := by
  simp only [scAt, h]

set_option maxRecDepth 100000 in
set_option maxHeartbeats 2000000 in
theorem areScares_any (g : Nat) {t : TypeId} (F : Fld) (hF : F.ok) (A : Option Addr) (n : Nat) (xs : List Scarecrow) (hx : ∀ x ∈ xs, x.ok) (hc : xs.length ≤ n) (hn : n ≤ 9223372036854775807) (w : World) (hb : Blk w g t F.cells) (hs : Sl w 3 A xs.length (flat Scarecrow.vals xs)) :
    Calls Try.prog 118 #[.pointer (some ⟨g, 0, none⟩), .slice A xs.length n] w fun e w' => e = .returned (.bool (scOk F xs)) ∧ Mem w w' [] := by
  have M := Lib.hid (Mem.start w)
  have HX := Lib.hid hx
  have HS := Lib.hid hs
  have HB := Lib.hid hb
  clear hs hx hb
  by_cases hl : xs.length ≤ 20
  · go_enter Try.func118, Try.ntmps118
    go_wp2
    go_loopw [13] (fun v wr => ∃ k : Nat, k ≤ xs.length ∧ v = .int .i64 k ∧ (∀ j, j < k → scAt F xs j = true) ∧ Mem w wr [])
      (fun v _ => xs.length - (intOf v).toNat)
    case atStart => exact ⟨0, by omega, rfl, fun j hj => by omega, M.out⟩
    case round =>
      clear M
      obtain ⟨k, hk, rfl, he, m⟩ := hrel
      have M := Lib.hid m
      have HE := Lib.hid he
      clear m he
      by_cases hlt : k < xs.length
      · obtain ⟨b, off, rfl, hr⟩ := (M.out.sl HS.out).2 (by omega)
        have hxk : xs[k]? = some xs[k] := List.getElem?_eq_getElem hlt
        have HXK := Lib.hid (scAt_some (F := F) hxk)
        have R := Lib.hid (range_at Scarecrow.vl hr hxk)
        have HO := Lib.hid (HX.out xs[k] (List.getElem_mem hlt))
        have O1 := Lib.hid (Scarecrow.one xs[k])
        have ST := Lib.hid (fun c w hs => stands_any (some ⟨b, off, none⟩) n (xs.take k) (fun x hx => HX.out x (List.mem_of_mem_take hx)) (by rw [List.length_take]; omega) c w hs)
        have hl2 : (xs.take k).length = k := by rw [List.length_take]; omega
        rw [hl2] at ST
        have q0 : xs[k].vals.toArray[0]? = some (.int .i16 xs[k].cell) := rfl
        have ob := HO.out.cell
        have oc := ob.1
        have od := ob.2
        clear hr hxk hl2 ob
        cases hp : xs[k].plain <;> cases hq : F.place xs[k].cell <;> cases hz : standsAt (xs.take k) xs[k].cell <;>
        · have HP := Lib.hid hp
          have HQ := Lib.hid hq
          have HZ := Lib.hid hz
          clear hp hq hz
          go_wp2_with (first
            | ((with_reducible refine gate_dst (N := 17) rfl ?_); go_must (refine ev_ldr _ _ rfl rfl (R.out) Try.underlying89 rfl (by first | exact sz89 | (rw [S1.out]; exact sz89)) rfl ?_))
            | ((with_reducible refine gate_dst (N := 6) rfl ?_); go_must (refine M.out.ev_new rfl (by first | (go_simp; done) | (go_simp; rfl)) ?_); intro g6 w6 m; simp only [List.cons_append, List.nil_append] at m; have M := Lib.hid m; clear m)
            | ((with_reducible refine gate_store (x := .tmp 6) rfl ?_); go_must (refine M.out.ev_stw 0 _ _ _ rfl rfl rfl rfl _ rfl (by first | rfl | (simp only [S1.out]; rfl) | (simp only [S1.out, S2.out]; rfl) | (simp only [S3.out]; rfl) | (simp only [S1.out, S2.out, S3.out]; rfl)) (by first | exact sz89 | (rw [S1.out]; exact sz89) | (rw [S2.out]; exact sz89) | (rw [S3.out]; exact sz89)) (by first | exact ints_one _ _ | exact Fld.one _ | exact O1.out | rfl | (simp [Value.oneCell']; done)) rfl ?_); intro wn m; simp only [List.set_cons_succ, List.set_cons_zero, List.setIfInBounds_toArray] at m; have M := Lib.hid m; clear m)
            | ((with_reducible refine gate_dst (N := 19) rfl ?_); go_must (refine M.out.ev_ld 0 _ _ rfl rfl rfl Try.underlying24 rfl rfl (by first | assumption | rfl) ?_))
            | ((with_reducible refine gate_dst (N := 21) rfl ?_); go_must (refine M.out.ev_ldw 0 _ _ rfl rfl rfl Try.underlying89 rfl (by first | exact sz89 | (rw [S1.out]; exact sz89) | (rw [S2.out]; exact sz89) | (rw [S3.out]; exact sz89)) rfl ?_))
            | (go_at_call 139; go_must (refine (isPlainS_any xs[k] HO.out _).mono ?_); rintro e w_ ⟨rfl, N_⟩; have m := M.out.join N_; clear N_; simp only [List.append_nil] at m; have M := Lib.hid m; clear m; rw [HP.out])
            | (go_at_call 79; go_must (refine (isPlace_any g F hF _ _ (M.out.arg HB.out)).mono ?_); rintro e w_ ⟨rfl, rfl⟩; rw [HQ.out])
            | (go_at_call 80; go_must (refine (ST.out _ _ ((M.out.sl HS.out).takeN Scarecrow.vl k (by omega))).mono ?_); rintro e w_ ⟨rfl, N_⟩; have m := M.out.join N_; clear N_; simp only [List.append_nil] at m; have M := Lib.hid m; clear m; rw [HZ.out])
            )
          first
            | (refine ⟨⟨k + 1, by omega, by go_num, all_succ HE.out ?_, M.out.take 0⟩, by simp [intOf]; omega⟩; rw [HXK.out, HP.out, HQ.out, HZ.out]; rfl)
            | (go_ret; refine ⟨ret_bool ?_, M.out.take 0⟩; rw [not_scOk hlt]; rw [HXK.out, HP.out, HQ.out, HZ.out]; rfl)
      · obtain rfl : k = xs.length := by omega
        go_wp2
        go_ret
        exact ⟨ret_bool (scOk_of hl HE.out).symm, M.out⟩
  · go_enter Try.func118, Try.ntmps118
    go_wp2
    go_ret
    exact ⟨ret_bool (by simp [scOk, hl]), M.out⟩
end Go.Proofs.Yteecfclccfhdhaa
