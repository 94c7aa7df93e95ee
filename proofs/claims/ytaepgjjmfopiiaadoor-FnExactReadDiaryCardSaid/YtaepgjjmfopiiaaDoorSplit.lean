/- The reference splits a text at a byte: its walk. No condition but the text's size. -/
import Derived.Test.YtaepgjjmfopiiaaDoorReadP
import Derived.Test.YtaepgjjmfopiiaaDoorLibS
namespace Go.Proofs.YtaepgjjmfopiiaaDoor
set_option linter.unusedSimpArgs false
set_option linter.unusedVariables false
open Go.RowKit
attribute [local go_sem] cell?_mk frozen?_mk

/-- A row of texts, by their bytes. -/
def oneT (x : List UInt8) : List Value := [.string ⟨x.toArray⟩]
theorem oneT_len (x : List UInt8) : (oneT x).length = 1 := rfl
theorem oneT_ones (x : List UInt8) : ∀ v ∈ oneT x, v.oneCell' = true := by
  intro v hv
  simp only [oneT, List.mem_cons, List.not_mem_nil, or_false] at hv
  subst hv
  rfl
theorem oneT_at {xs : List (List UInt8)} {k : Nat} (h : k < xs.length) : (flat oneT xs)[k]? = some (.string ⟨xs[k].toArray⟩) := by
  have := flat_at oneT_len (List.getElem?_eq_getElem h) (j := 0) (v := .string ⟨xs[k].toArray⟩) rfl
  simpa using this
set_option maxRecDepth 100000 in
set_option maxHeartbeats 2000000 in
theorem l01Split_any (l : List UInt8) (c : UInt8) (hl : l.length ≤ 1048576) (w : World) :
    Calls Tryd.prog 9 #[.string ⟨l.toArray⟩, .int .u8 (c.toNat : Nat)] w (RetRow w 9 1 (pieces c l).length (flat oneT (pieces c l))) := by
  have M := Lib.hid (Mem.start w)
  have HL := Lib.hid hl
  have hsz : (⟨l.toArray⟩ : ByteArray).size = l.length := rfl
  have hix : ∀ (k : Nat) (hk : k < l.length) w, (Instr.index 9 (.string ⟨l.toArray⟩) (.int .i64 k)).run Tryd.prog w = .ok (.int .u8 (l[k].toNat : Nat)) w := fun k hk w => by
    rw [run_index_string w _ _ _ _ Tryd.underlying9, dif_pos ⟨by omega, by rw [hsz]; omega⟩]
    rfl
  have hcut : ∀ (i j : Nat) (h1 : i ≤ j) (h2 : j ≤ l.length) w, (Instr.slice 9 (.string ⟨l.toArray⟩) (some (.int .i64 i)) (some (.int .i64 j)) none).run Tryd.prog w = .ok (.string ⟨((l.drop i).take (j - i)).toArray⟩) w := fun i j h1 h2 w => by
    rw [run_slice_string _ _ _ _ _ _ _ Tryd.underlying9 (by omega) (by omega) (by rw [hsz]; omega), Int.toNat_natCast, Int.toNat_natCast, ext_mid]
  have hend : ∀ (i : Nat) (h1 : i ≤ l.length) w, (Instr.slice 9 (.string ⟨l.toArray⟩) (some (.int .i64 i)) none none).run Tryd.prog w = .ok (.string ⟨(l.drop i).toArray⟩) w := fun i h1 w => by
    rw [run_slice_string_from_if _ _ _ _ _ Tryd.underlying9, if_pos ⟨by omega, by rw [hsz]; omega⟩, Int.toNat_natCast, hsz, ext_mid, List.take_of_length_le (by rw [List.length_drop]; omega)]
  have HIX := Lib.hid hix
  have HCUT := Lib.hid hcut
  have HEND := Lib.hid hend
  clear hix hcut hend hl
  go_enter Tryd.func9, Tryd.ntmps9
  go_wp2_with (first
    | ((with_reducible refine gate_dst (N := 8) rfl ?_); go_must (refine M.out.ev_bs0 elem_string rfl rfl ?_); intro g0 w0 m; simp only [List.nil_append] at m; have M := Lib.hid m; clear m)
    )
  go_loopw [5, 6, 7] (fun o b i wr => ∃ (k bg : Nat) (ps : List (List UInt8)) (A : Option Addr) (cp : Nat), k ≤ l.length ∧ bg ≤ k ∧ ps.length ≤ k ∧ i = .int .i64 k ∧ b = .int .i64 bg ∧ o = .slice A ps.length cp ∧ pieces c l = ps ++ pieces c (l.drop bg) ∧ c ∉ (l.drop bg).take (k - bg) ∧ Mem w wr [.row (.slice A ps.length cp) 9 1 ps.length (flat oneT ps)])
    (fun _ _ v _ => l.length - (intOf v).toNat)
  case atStart => exact ⟨0, 0, [], some ⟨g0, 0, none⟩, 0, by omega, by omega, by simp, rfl, rfl, rfl, by simp, by simp, M.out⟩
  case round =>
    clear M
    obtain ⟨k, bg, ps, A, cp, hk, hb, hps, rfl, rfl, rfl, hi, hn, m⟩ := hrel
    have M := Lib.hid m
    have HI := Lib.hid hi
    have HN := Lib.hid hn
    clear m hi hn
    have hL := HL.out
    by_cases hlt : k < l.length
    · have i1 : (k : Int) < (l.length : Int) := by omega
      have hik := HIX.out k hlt
      by_cases hc : l[k] = c
      · have h2 := Lib.hid (split_hit hlt hb HI.out HN.out hc)
        have e0 : ((l[k].toNat : Int) == (c.toNat : Int)) = true := by rw [hc]; exact beq_self_eq_true _
        have ck := HCUT.out bg k hb (by omega)
        have e1 : IntKind.i64.wrap ((k : Int) + 1) = (k : Int) + 1 := IntWalk.i64_in _ (by omega)
        clear hc
        obtain ⟨x, hx⟩ : ∃ x, x = l[k].toNat := ⟨_, rfl⟩
        obtain ⟨p, hp⟩ : ∃ p, p = (l.drop bg).take (k - bg) := ⟨_, rfl⟩
        rw [← hx] at hik e0
        rw [← hp] at ck h2
        clear hx hp HN HI
        go_wp2_with (first
          | ((with_reducible refine gate_dst (N := 25) rfl ?_); go_must (refine M.out.ev_bs1 elem_string rfl _ rfl #[.string ⟨p.toArray⟩] rfl rfl (by decide) ?_); intro g37 w37 m; simp only [List.cons_append, List.nil_append] at m; have M := Lib.hid m; clear m)
          | ((with_reducible refine gate_dst (N := 26) rfl ?_); go_must (refine M.out.ev_append1 0 1 elem_string rfl _ _ rfl rfl rfl rfl rfl rfl (by simp [Value.oneCell']) (by omega) (by decide) ?_); intro v38 w38 m; simp only [List.set_cons_succ, List.set_cons_zero] at m; have M := Lib.hid m; clear m)
          )
        obtain ⟨A2, c2, rfl, hm2, _⟩ := M.out.row_slice 0 rfl
        refine ⟨⟨k + 1, k + 1, ps ++ [p], A2, c2, by omega, by omega, by simp; omega, by go_num, by go_num, by simp, h2.out, by simp, ?_⟩, by simp [intOf]; omega⟩
        have mm := M.out.take 1
        simpa [flat_append, flat, oneT] using mm
      · have h2 := Lib.hid (split_miss hlt hb HN.out hc)
        have e0 : ((l[k].toNat : Int) == (c.toNat : Int)) = false := beq_eq_false_iff_ne.2 fun h => hc (UInt8.toNat_inj.1 (Int.ofNat_inj.1 h))
        obtain ⟨x, hx⟩ : ∃ x, x = l[k].toNat := ⟨_, rfl⟩
        rw [← hx] at hik e0
        clear hx hc HN
        go_wp2
        exact ⟨⟨k + 1, bg, ps, A, cp, by omega, by omega, by omega, by go_num, rfl, rfl, HI.out, h2.out, M.out⟩, by simp [intOf]; omega⟩
    · obtain rfl : k = l.length := by omega
      have h2 := split_end HI.out HN.out
      have i1 : ¬ ((l.length : Int) < (l.length : Int)) := by omega
      have ck := HEND.out bg hb
      obtain ⟨p, hp⟩ : ∃ p, p = l.drop bg := ⟨_, rfl⟩
      rw [← hp] at ck h2
      have H2 := Lib.hid h2
      clear hp HN HI h2
      go_wp2_with (first
        | ((with_reducible refine gate_dst (N := 33) rfl ?_); go_must (refine M.out.ev_bs1 elem_string rfl _ rfl #[.string ⟨p.toArray⟩] rfl rfl (by decide) ?_); intro g37 w37 m; simp only [List.cons_append, List.nil_append] at m; have M := Lib.hid m; clear m)
        | ((with_reducible refine gate_dst (N := 34) rfl ?_); go_must (refine M.out.ev_append1 0 1 elem_string rfl _ _ rfl rfl rfl rfl rfl rfl (by simp [Value.oneCell']) (by omega) (by decide) ?_); intro v38 w38 m; simp only [List.set_cons_succ, List.set_cons_zero] at m; have M := Lib.hid m; clear m)
        )
      obtain ⟨A2, c2, rfl, hm2, _⟩ := M.out.row_slice 0 rfl
      go_ret
      have mm := M.out.take 1
      have e : (ps ++ [p]).length = ps.length + 1 := by simp
      rw [H2.out, e]
      refine ⟨A2, c2, rfl, hm2, ?_⟩
      simpa [flat_append, flat, oneT] using mm
end Go.Proofs.YtaepgjjmfopiiaaDoor
