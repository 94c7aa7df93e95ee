/- The text of a diary: the walks of both. -/
import Derived.Test.YtifacledmmpnkaaDoorTextP
import Derived.Test.YtifacledmmpnkaaDoorDec
import Derived.Test.YtifacledmmpnkaaDoorDiary
namespace Go.Proofs.YtifacledmmpnkaaDoor
set_option linter.unusedSimpArgs false
set_option linter.unusedVariables false
open Go.RowKit
attribute [local go_sem] cell?_mk frozen?_mk
--ONES exact Entry.one _

def fourW : List Value := [.string ⟨#[115, 111, 119]⟩, .string ⟨#[101, 97, 116]⟩, .string ⟨#[116, 97, 107, 101]⟩, .string ⟨#[102, 97, 108, 108]⟩]
theorem fourW_one : ∀ v ∈ fourW, v.cells = #[v] := by
  intro v hv
  simp only [fourW, List.mem_cons, List.not_mem_nil, or_false] at hv
  rcases hv with rfl | rfl | rfl | rfl <;> rfl
theorem fourW_at {k : Nat} (h : k < 4) : fourW[k]? = some (.string ⟨(wordOf k).toArray⟩) := by
  match k, h with
  | 0, _ => rfl
  | 1, _ => rfl
  | 2, _ => rfl
  | 3, _ => rfl
set_option maxRecDepth 100000 in
set_option maxHeartbeats 2000000 in
theorem whats_any (w : World) : Calls Tryd.prog 37 #[] w fun e w' => ∃ g, e = .returned (.slice (some ⟨g, 0, none⟩) 4 4) ∧ Mem w w' [.blk g 9 fourW.toArray] := by
  have M := Lib.hid (Mem.start w)
  go_enter Tryd.func37, Tryd.ntmps37
  go_wp2_with (first
    | ((with_reducible refine gate_dst (N := 1) rfl ?_); go_must (refine M.out.ev_bsV elem_string rfl 4 _ rfl fourW fourW_one rfl (by decide) (by decide) (by simp only [fourW]; go_simp; try rfl) ?_); intro g1 w1 m; simp only [List.nil_append] at m; have M := Lib.hid m; clear m)
    )
  go_ret
  exact ⟨g1, rfl, M.out⟩
set_option maxRecDepth 100000 in
set_option maxHeartbeats 2000000 in
theorem l07Word_any (k : Nat) (hk : k < 4) (w : World) : Calls Tryd.prog 61 #[.int .i64 k] w fun e w' => e = .returned (.string ⟨(wordOf k).toArray⟩) ∧ Mem w w' [] := by
  have M := Lib.hid (Mem.start w)
  have HF := Lib.hid (fourW_at hk)
  have i0 : (0 : Int) ≤ (k : Int) := by omega
  have i1 : (k : Int) < 4 := by omega
  go_enter Tryd.func61, Tryd.ntmps61
  go_wp2_with (first
    | ((with_reducible refine gate_dst (N := 4) rfl ?_); go_must (refine M.out.ev_bsV elem_string rfl 4 _ rfl fourW fourW_one rfl (by decide) (by decide) (by simp only [fourW]; go_simp; try rfl) ?_); intro g1 w1 m; simp only [List.nil_append] at m; have M := Lib.hid m; clear m; have c0 := M.out.cell 0 rfl (j := k) (by rw [List.getElem?_toArray]; exact HF.out))
    )
  go_ret
  exact ⟨rfl, M.out.take 0⟩
/-- The text of a diary that is told; none if one of its entries is not plain, or if there are too many. -/
def diaryT (xs : List Entry) : List UInt8 := if xs.all Entry.plain = true then if xs.length ≤ 100 then linesT xs else [] else []
set_option maxRecDepth 100000 in
set_option maxHeartbeats 4000000 in
theorem l07Text_any (A : Option Addr) (n : Nat) (xs : List Entry) (hx : ∀ x ∈ xs, x.ok) (hp : ∀ x ∈ xs, x.plain = true) (hl : xs.length ≤ 100) (w : World) (hs : Sl w 3 A xs.length (flat Entry.vals xs)) :
    Calls Tryd.prog 33 #[.slice A xs.length n] w fun e w' => e = .returned (.string ⟨(linesT xs).toArray⟩) ∧ Mem w w' [] := by
  have M := Lib.hid (Mem.start w)
  have HX := Lib.hid hx
  have HP := Lib.hid hp
  have HS := Lib.hid hs
  clear hx hp hs
  go_enter Tryd.func33, Tryd.ntmps33
  go_wp2
  go_loopw [3, 4] (fun s v wr => ∃ k : Nat, k ≤ xs.length ∧ v = .int .i64 k ∧ s = .string ⟨(linesT (xs.take k)).toArray⟩ ∧ Mem w wr [])
    (fun _ v _ => xs.length - (intOf v).toNat)
  case atStart => exact ⟨0, by omega, rfl, by simp [linesT], M.out⟩
  case round =>
    clear M
    obtain ⟨k, hk, rfl, rfl, m⟩ := hrel
    have M := Lib.hid m
    clear m
    by_cases hlt : k < xs.length
    · obtain ⟨b, off, rfl, hr⟩ := (M.out.sl HS.out).2 (by omega)
      obtain ⟨b0, off0, hA0, hr0⟩ := HS.out.2 (by omega)
      obtain ⟨rfl, rfl⟩ : b = b0 ∧ off = off0 := by injection hA0 with h; injection h with h1 h2; exact ⟨h1, h2⟩
      have R := Lib.hid (range_at Entry.vl hr0 (List.getElem?_eq_getElem hlt))
      have X0 := Lib.hid (R.out 0 _ rfl : w.cell? ⟨b, off + k * 3, none⟩ = some (.int .i8 xs[k].what))
      have X1 := Lib.hid (R.out 1 _ rfl : w.cell? ⟨b, off + k * 3 + 1, none⟩ = some (.int .i16 xs[k].cell))
      have X2 := Lib.hid (R.out 2 _ rfl : w.cell? ⟨b, off + k * 3 + 2, none⟩ = some (.int .i16 xs[k].amount))
      have hpl := HP.out _ (List.getElem_mem hlt)
      rw [Entry.plain, Bool.and_eq_true, Bool.and_eq_true] at hpl
      have q0 := inB_iff.1 hpl.1
      have q1 := inB_iff.1 hpl.2.1
      have q2 := inB_iff.1 hpl.2.2
      have HL := Lib.hid (linesT_succ hlt)
      have HE := Lib.hid (show xs[k].line = wordOf xs[k].what ++ [32] ++ dec xs[k].cell ++ [32] ++ dec xs[k].amount ++ [10] from rfl)
      have lo := linesT_len (xs := xs.take k) fun x hx => HX.out x (List.mem_of_mem_take hx)
      have lo2 : (xs.take k).length ≤ k := List.length_take_le _ _
      obtain ⟨a, ha⟩ := Int.eq_ofNat_of_zero_le q0.1
      obtain ⟨c, hc⟩ := Int.eq_ofNat_of_zero_le q1.1
      obtain ⟨d, hd⟩ := Int.eq_ofNat_of_zero_le (show 0 ≤ xs[k].amount by omega)
      rw [ha] at X0 q0 HE
      rw [hc] at X1 q1 HE
      rw [hd] at X2 q2 HE
      rw [dec_nat, dec_nat] at HE
      have WA := Lib.hid (l07Word_any a (by omega))
      have DC := Lib.hid (Decimal_any c (by omega))
      have DD := Lib.hid (Decimal_any d (by omega))
      have la := wordOf_len (a : Int)
      have lc := dec_len (n := c) (by omega)
      have ld := dec_len (n := d) (by omega)
      obtain ⟨O, hO⟩ : ∃ O, O = linesT (xs.take k) := ⟨_, rfl⟩
      obtain ⟨W1, hW1⟩ : ∃ O, O = wordOf (a : Int) := ⟨_, rfl⟩
      obtain ⟨D1, hD1⟩ : ∃ O, O = Lib.decDigits c := ⟨_, rfl⟩
      obtain ⟨D2, hD2⟩ : ∃ O, O = Lib.decDigits d := ⟨_, rfl⟩
      rw [← hO] at lo HL ⊢
      rw [← hW1] at la WA HE
      rw [← hD1] at lc DC HE
      rw [← hD2] at ld DD HE
      have i0 : (0 : Int) ≤ (k : Int) := by omega
      have i1 : (k : Int) < (xs.length : Int) := by omega
      have e0 : IntKind.i64.wrap (a : Int) = (a : Int) := IntWalk.i64_in _ (by omega)
      have e1 : IntKind.i64.wrap (c : Int) = (c : Int) := IntWalk.i64_in _ (by omega)
      have e2 : IntKind.i64.wrap (d : Int) = (d : Int) := IntWalk.i64_in _ (by omega)
      clear hr hr0 hA0 hpl ha hc hd hO hW1 hD1 hD2
      go_wp2
      refine region_anyH (fun w' => Mem w w' []) (by kernel_rfl) ?_
      have m := M.out.drew
      clear M
      have M := Lib.hid m
      clear m
      apply takeH (i := 0) 11 rfl (by kernel_rfl) (by kernel_rfl) (by kernel_rfl) (fun _ _ _ h => h) rfl (by first | exact M.out | exact M.out.take 0)
      case' hy =>
        refine Or.inl ⟨by first | rfl | (go_simp; done), ?_⟩
        intro w hS
        clear hS
        go_simp
        try with_reducible rfl
      try simp only [Act.put, List.getElem_toArray, List.getElem_cons_succ, List.getElem_cons_zero, List.setIfInBounds_toArray, List.set_cons_succ, List.set_cons_zero]
      apply takeH (i := 1) 12 rfl (by kernel_rfl) (by kernel_rfl) (by kernel_rfl) (fun _ _ _ h => h) rfl (by first | exact M.out | exact M.out.take 0)
      case' hy =>
        refine Or.inl ⟨by first | rfl | (go_simp; done), ?_⟩
        intro w hS
        clear hS
        go_simp
        try with_reducible rfl
      try simp only [Act.put, List.getElem_toArray, List.getElem_cons_succ, List.getElem_cons_zero, List.setIfInBounds_toArray, List.set_cons_succ, List.set_cons_zero]
      apply takeH (i := 2) 13 rfl (by kernel_rfl) (by kernel_rfl) (by kernel_rfl) (fun _ _ _ h => h) rfl (by first | exact M.out | exact M.out.take 0)
      case' hy =>
        refine Or.inl ⟨by first | rfl | (go_simp; done), ?_⟩
        intro w hS
        clear hS
        go_simp
        try with_reducible rfl
      try simp only [Act.put, List.getElem_toArray, List.getElem_cons_succ, List.getElem_cons_zero, List.setIfInBounds_toArray, List.set_cons_succ, List.set_cons_zero]
      apply takeH (i := 3) 14 rfl (by kernel_rfl) (by kernel_rfl) (by kernel_rfl) (fun _ _ _ h => h) rfl (by first | exact M.out | exact M.out.take 0)
      case' hy =>
        refine Or.inl ⟨by first | rfl | (go_simp; done), ?_⟩
        intro w hS
        clear hS
        go_simp
        try with_reducible rfl
      try simp only [Act.put, List.getElem_toArray, List.getElem_cons_succ, List.getElem_cons_zero, List.setIfInBounds_toArray, List.set_cons_succ, List.set_cons_zero]
      apply takeH (i := 4) 15 rfl (by kernel_rfl) (by kernel_rfl) (by kernel_rfl) (fun _ _ _ h => h) rfl (by first | exact M.out | exact M.out.take 0)
      case' hy =>
        refine Or.inl ⟨by first | rfl | (go_simp; done), ?_⟩
        intro w hS
        clear hS
        go_simp
        try with_reducible rfl
      try simp only [Act.put, List.getElem_toArray, List.getElem_cons_succ, List.getElem_cons_zero, List.setIfInBounds_toArray, List.set_cons_succ, List.set_cons_zero]
      apply takeH (i := 5) 16 rfl (by kernel_rfl) (by kernel_rfl) (by kernel_rfl) (fun _ _ _ h => h) rfl (by first | exact M.out | exact M.out.take 0)
      case' hy => exact ylds _ _ rfl rfl Tryd.underlying55 rfl rfl (fun w' hS => hS.argcell X0.out)
      try simp only [Act.put, List.getElem_toArray, List.getElem_cons_succ, List.getElem_cons_zero, List.setIfInBounds_toArray, List.set_cons_succ, List.set_cons_zero]
      apply takeH (i := 6) 17 rfl (by kernel_rfl) (by kernel_rfl) (by kernel_rfl) (fun _ _ _ h => h) rfl (by first | exact M.out | exact M.out.take 0)
      case' hy =>
        refine Or.inl ⟨by first | rfl | (go_simp; done), ?_⟩
        intro w hS
        clear hS
        go_simp
        try with_reducible rfl
      try simp only [Act.put, List.getElem_toArray, List.getElem_cons_succ, List.getElem_cons_zero, List.setIfInBounds_toArray, List.set_cons_succ, List.set_cons_zero]
      apply takeH (i := 9) 20 rfl (by kernel_rfl) (by kernel_rfl) (by kernel_rfl) (fun _ _ _ h => h) rfl (by first | exact M.out | exact M.out.take 0)
      case' hy =>
        refine Or.inl ⟨by first | rfl | (go_simp; done), ?_⟩
        intro w hS
        clear hS
        go_simp
        try with_reducible rfl
      try simp only [Act.put, List.getElem_toArray, List.getElem_cons_succ, List.getElem_cons_zero, List.setIfInBounds_toArray, List.set_cons_succ, List.set_cons_zero]
      apply takeH (i := 10) 21 rfl (by kernel_rfl) (by kernel_rfl) (by kernel_rfl) (fun _ _ _ h => h) rfl (by first | exact M.out | exact M.out.take 0)
      case' hy =>
        refine Or.inl ⟨by first | rfl | (go_simp; done), ?_⟩
        intro w hS
        clear hS
        go_simp
        try with_reducible rfl
      try simp only [Act.put, List.getElem_toArray, List.getElem_cons_succ, List.getElem_cons_zero, List.setIfInBounds_toArray, List.set_cons_succ, List.set_cons_zero]
      apply takeH (i := 11) 22 rfl (by kernel_rfl) (by kernel_rfl) (by kernel_rfl) (fun _ _ _ h => h) rfl (by first | exact M.out | exact M.out.take 0)
      case' hy =>
        refine Or.inl ⟨by first | rfl | (go_simp; done), ?_⟩
        intro w hS
        clear hS
        go_simp
        try with_reducible rfl
      try simp only [Act.put, List.getElem_toArray, List.getElem_cons_succ, List.getElem_cons_zero, List.setIfInBounds_toArray, List.set_cons_succ, List.set_cons_zero]
      apply takeH (i := 12) 23 rfl (by kernel_rfl) (by kernel_rfl) (by kernel_rfl) (fun _ _ _ h => h) rfl (by first | exact M.out | exact M.out.take 0)
      case' hy =>
        refine Or.inl ⟨by first | rfl | (go_simp; done), ?_⟩
        intro w hS
        clear hS
        go_simp
        try with_reducible rfl
      try simp only [Act.put, List.getElem_toArray, List.getElem_cons_succ, List.getElem_cons_zero, List.setIfInBounds_toArray, List.set_cons_succ, List.set_cons_zero]
      apply takeH (i := 13) 24 rfl (by kernel_rfl) (by kernel_rfl) (by kernel_rfl) (fun _ _ _ h => h) rfl (by first | exact M.out | exact M.out.take 0)
      case' hy => exact ylds _ _ rfl rfl Tryd.underlying56 rfl rfl (fun w' hS => hS.argcell X1.out)
      try simp only [Act.put, List.getElem_toArray, List.getElem_cons_succ, List.getElem_cons_zero, List.setIfInBounds_toArray, List.set_cons_succ, List.set_cons_zero]
      apply takeH (i := 14) 25 rfl (by kernel_rfl) (by kernel_rfl) (by kernel_rfl) (fun _ _ _ h => h) rfl (by first | exact M.out | exact M.out.take 0)
      case' hy =>
        refine Or.inl ⟨by first | rfl | (go_simp; done), ?_⟩
        intro w hS
        clear hS
        go_simp
        try with_reducible rfl
      try simp only [Act.put, List.getElem_toArray, List.getElem_cons_succ, List.getElem_cons_zero, List.setIfInBounds_toArray, List.set_cons_succ, List.set_cons_zero]
      apply takeH (i := 18) 29 rfl (by kernel_rfl) (by kernel_rfl) (by kernel_rfl) (fun _ _ _ h => h) rfl (by first | exact M.out | exact M.out.take 0)
      case' hy =>
        refine Or.inl ⟨by first | rfl | (go_simp; done), ?_⟩
        intro w hS
        clear hS
        go_simp
        try with_reducible rfl
      try simp only [Act.put, List.getElem_toArray, List.getElem_cons_succ, List.getElem_cons_zero, List.setIfInBounds_toArray, List.set_cons_succ, List.set_cons_zero]
      apply takeH (i := 19) 30 rfl (by kernel_rfl) (by kernel_rfl) (by kernel_rfl) (fun _ _ _ h => h) rfl (by first | exact M.out | exact M.out.take 0)
      case' hy =>
        refine Or.inl ⟨by first | rfl | (go_simp; done), ?_⟩
        intro w hS
        clear hS
        go_simp
        try with_reducible rfl
      try simp only [Act.put, List.getElem_toArray, List.getElem_cons_succ, List.getElem_cons_zero, List.setIfInBounds_toArray, List.set_cons_succ, List.set_cons_zero]
      apply takeH (i := 20) 31 rfl (by kernel_rfl) (by kernel_rfl) (by kernel_rfl) (fun _ _ _ h => h) rfl (by first | exact M.out | exact M.out.take 0)
      case' hy =>
        refine Or.inl ⟨by first | rfl | (go_simp; done), ?_⟩
        intro w hS
        clear hS
        go_simp
        try with_reducible rfl
      try simp only [Act.put, List.getElem_toArray, List.getElem_cons_succ, List.getElem_cons_zero, List.setIfInBounds_toArray, List.set_cons_succ, List.set_cons_zero]
      apply takeH (i := 21) 32 rfl (by kernel_rfl) (by kernel_rfl) (by kernel_rfl) (fun _ _ _ h => h) rfl (by first | exact M.out | exact M.out.take 0)
      case' hy =>
        refine Or.inl ⟨by first | rfl | (go_simp; done), ?_⟩
        intro w hS
        clear hS
        go_simp
        try with_reducible rfl
      try simp only [Act.put, List.getElem_toArray, List.getElem_cons_succ, List.getElem_cons_zero, List.setIfInBounds_toArray, List.set_cons_succ, List.set_cons_zero]
      apply takeH (i := 22) 33 rfl (by kernel_rfl) (by kernel_rfl) (by kernel_rfl) (fun _ _ _ h => h) rfl (by first | exact M.out | exact M.out.take 0)
      case' hy => exact ylds _ _ rfl rfl Tryd.underlying56 rfl rfl (fun w' hS => hS.argcell X2.out)
      try simp only [Act.put, List.getElem_toArray, List.getElem_cons_succ, List.getElem_cons_zero, List.setIfInBounds_toArray, List.set_cons_succ, List.set_cons_zero]
      apply takeH (i := 23) 34 rfl (by kernel_rfl) (by kernel_rfl) (by kernel_rfl) (fun _ _ _ h => h) rfl (by first | exact M.out | exact M.out.take 0)
      case' hy =>
        refine Or.inl ⟨by first | rfl | (go_simp; done), ?_⟩
        intro w hS
        clear hS
        go_simp
        try with_reducible rfl
      try simp only [Act.put, List.getElem_toArray, List.getElem_cons_succ, List.getElem_cons_zero, List.setIfInBounds_toArray, List.set_cons_succ, List.set_cons_zero]
      refine any1H 7 (by kernel_rfl) rfl (fun K hK => ?_)
      go_wp2_with (first | ((with_reducible refine gate_dst (N := 19) rfl ?_); go_must (refine ev_cat _ _ _ _ rfl rfl _ _ rfl rfl rfl (by simp only [List.length_append, List.length_cons, List.length_nil]; omega) ?_)) | ((with_reducible refine gate_dst (N := 27) rfl ?_); go_must (refine ev_cat _ _ _ _ rfl rfl _ _ rfl rfl rfl (by simp only [List.length_append, List.length_cons, List.length_nil]; omega) ?_)) | ((with_reducible refine gate_dst (N := 28) rfl ?_); go_must (refine ev_cat _ _ _ _ rfl rfl _ _ rfl rfl rfl (by simp only [List.length_append, List.length_cons, List.length_nil]; omega) ?_)) | ((with_reducible refine gate_dst (N := 36) rfl ?_); go_must (refine ev_cat _ _ _ _ rfl rfl _ _ rfl rfl rfl (by simp only [List.length_append, List.length_cons, List.length_nil]; omega) ?_)) | ((with_reducible refine gate_dst (N := 37) rfl ?_); go_must (refine ev_cat _ _ _ _ rfl rfl _ _ rfl rfl rfl (by simp only [List.length_append, List.length_cons, List.length_nil]; omega) ?_)) | ((with_reducible refine gate_dst (N := 38) rfl ?_); go_must (refine ev_cat _ _ _ _ rfl rfl _ _ rfl rfl rfl (by simp only [List.length_append, List.length_cons, List.length_nil]; omega) ?_)) | (go_at_call 61; go_must (refine (WA.out _).mono ?_); rintro e w_ ⟨rfl, N_⟩; have m := M.out.join N_; clear N_; simp only [List.cons_append, List.nil_append, List.append_nil] at m; have M := Lib.hid m; clear m) | (go_at_call 68; go_must (first | (refine Calls.mono (calls_args (by with_reducible rfl) (DC.out _)) ?_) | (refine Calls.mono (calls_args (by with_reducible rfl) (DD.out _)) ?_)); rintro e w_ ⟨rfl, N_⟩; have m := M.out.join N_; clear N_; simp only [List.cons_append, List.nil_append, List.append_nil] at m; have M := Lib.hid m; clear m))
      refine onward_normal (hK _ _ ⟨(by first | exact M.out | exact M.out.take 0), ?_⟩)
      clear hK K
      try simp only [Act.put, List.getElem_toArray, List.getElem_cons_succ, List.getElem_cons_zero, List.setIfInBounds_toArray, List.set_cons_succ, List.set_cons_zero]
      apply takeH (i := 8) 19 rfl (by kernel_rfl) (by kernel_rfl) (by kernel_rfl) (fun _ _ _ h => h) rfl (by first | exact M.out | exact M.out.take 0)
      case' hy => exact yld_cat _ _ _ _ rfl rfl _ _ rfl rfl rfl (by simp only [List.length_append, List.length_cons, List.length_nil]; omega)
      try simp only [Act.put, List.getElem_toArray, List.getElem_cons_succ, List.getElem_cons_zero, List.setIfInBounds_toArray, List.set_cons_succ, List.set_cons_zero]
      refine any1H 15 (by kernel_rfl) rfl (fun K hK => ?_)
      go_wp2_with (first | ((with_reducible refine gate_dst (N := 19) rfl ?_); go_must (refine ev_cat _ _ _ _ rfl rfl _ _ rfl rfl rfl (by simp only [List.length_append, List.length_cons, List.length_nil]; omega) ?_)) | ((with_reducible refine gate_dst (N := 27) rfl ?_); go_must (refine ev_cat _ _ _ _ rfl rfl _ _ rfl rfl rfl (by simp only [List.length_append, List.length_cons, List.length_nil]; omega) ?_)) | ((with_reducible refine gate_dst (N := 28) rfl ?_); go_must (refine ev_cat _ _ _ _ rfl rfl _ _ rfl rfl rfl (by simp only [List.length_append, List.length_cons, List.length_nil]; omega) ?_)) | ((with_reducible refine gate_dst (N := 36) rfl ?_); go_must (refine ev_cat _ _ _ _ rfl rfl _ _ rfl rfl rfl (by simp only [List.length_append, List.length_cons, List.length_nil]; omega) ?_)) | ((with_reducible refine gate_dst (N := 37) rfl ?_); go_must (refine ev_cat _ _ _ _ rfl rfl _ _ rfl rfl rfl (by simp only [List.length_append, List.length_cons, List.length_nil]; omega) ?_)) | ((with_reducible refine gate_dst (N := 38) rfl ?_); go_must (refine ev_cat _ _ _ _ rfl rfl _ _ rfl rfl rfl (by simp only [List.length_append, List.length_cons, List.length_nil]; omega) ?_)) | (go_at_call 61; go_must (refine (WA.out _).mono ?_); rintro e w_ ⟨rfl, N_⟩; have m := M.out.join N_; clear N_; simp only [List.cons_append, List.nil_append, List.append_nil] at m; have M := Lib.hid m; clear m) | (go_at_call 68; go_must (first | (refine Calls.mono (calls_args (by with_reducible rfl) (DC.out _)) ?_) | (refine Calls.mono (calls_args (by with_reducible rfl) (DD.out _)) ?_)); rintro e w_ ⟨rfl, N_⟩; have m := M.out.join N_; clear N_; simp only [List.cons_append, List.nil_append, List.append_nil] at m; have M := Lib.hid m; clear m))
      refine onward_normal (hK _ _ ⟨(by first | exact M.out | exact M.out.take 0), ?_⟩)
      clear hK K
      try simp only [Act.put, List.getElem_toArray, List.getElem_cons_succ, List.getElem_cons_zero, List.setIfInBounds_toArray, List.set_cons_succ, List.set_cons_zero]
      apply takeH (i := 16) 27 rfl (by kernel_rfl) (by kernel_rfl) (by kernel_rfl) (fun _ _ _ h => h) rfl (by first | exact M.out | exact M.out.take 0)
      case' hy => exact yld_cat _ _ _ _ rfl rfl _ _ rfl rfl rfl (by simp only [List.length_append, List.length_cons, List.length_nil]; omega)
      try simp only [Act.put, List.getElem_toArray, List.getElem_cons_succ, List.getElem_cons_zero, List.setIfInBounds_toArray, List.set_cons_succ, List.set_cons_zero]
      apply takeH (i := 17) 28 rfl (by kernel_rfl) (by kernel_rfl) (by kernel_rfl) (fun _ _ _ h => h) rfl (by first | exact M.out | exact M.out.take 0)
      case' hy => exact yld_cat _ _ _ _ rfl rfl _ _ rfl rfl rfl (by simp only [List.length_append, List.length_cons, List.length_nil]; omega)
      try simp only [Act.put, List.getElem_toArray, List.getElem_cons_succ, List.getElem_cons_zero, List.setIfInBounds_toArray, List.set_cons_succ, List.set_cons_zero]
      refine any1H 24 (by kernel_rfl) rfl (fun K hK => ?_)
      go_wp2_with (first | ((with_reducible refine gate_dst (N := 19) rfl ?_); go_must (refine ev_cat _ _ _ _ rfl rfl _ _ rfl rfl rfl (by simp only [List.length_append, List.length_cons, List.length_nil]; omega) ?_)) | ((with_reducible refine gate_dst (N := 27) rfl ?_); go_must (refine ev_cat _ _ _ _ rfl rfl _ _ rfl rfl rfl (by simp only [List.length_append, List.length_cons, List.length_nil]; omega) ?_)) | ((with_reducible refine gate_dst (N := 28) rfl ?_); go_must (refine ev_cat _ _ _ _ rfl rfl _ _ rfl rfl rfl (by simp only [List.length_append, List.length_cons, List.length_nil]; omega) ?_)) | ((with_reducible refine gate_dst (N := 36) rfl ?_); go_must (refine ev_cat _ _ _ _ rfl rfl _ _ rfl rfl rfl (by simp only [List.length_append, List.length_cons, List.length_nil]; omega) ?_)) | ((with_reducible refine gate_dst (N := 37) rfl ?_); go_must (refine ev_cat _ _ _ _ rfl rfl _ _ rfl rfl rfl (by simp only [List.length_append, List.length_cons, List.length_nil]; omega) ?_)) | ((with_reducible refine gate_dst (N := 38) rfl ?_); go_must (refine ev_cat _ _ _ _ rfl rfl _ _ rfl rfl rfl (by simp only [List.length_append, List.length_cons, List.length_nil]; omega) ?_)) | (go_at_call 61; go_must (refine (WA.out _).mono ?_); rintro e w_ ⟨rfl, N_⟩; have m := M.out.join N_; clear N_; simp only [List.cons_append, List.nil_append, List.append_nil] at m; have M := Lib.hid m; clear m) | (go_at_call 68; go_must (first | (refine Calls.mono (calls_args (by with_reducible rfl) (DC.out _)) ?_) | (refine Calls.mono (calls_args (by with_reducible rfl) (DD.out _)) ?_)); rintro e w_ ⟨rfl, N_⟩; have m := M.out.join N_; clear N_; simp only [List.cons_append, List.nil_append, List.append_nil] at m; have M := Lib.hid m; clear m))
      refine onward_normal (hK _ _ ⟨(by first | exact M.out | exact M.out.take 0), ?_⟩)
      clear hK K
      try simp only [Act.put, List.getElem_toArray, List.getElem_cons_succ, List.getElem_cons_zero, List.setIfInBounds_toArray, List.set_cons_succ, List.set_cons_zero]
      apply takeH (i := 25) 36 rfl (by kernel_rfl) (by kernel_rfl) (by kernel_rfl) (fun _ _ _ h => h) rfl (by first | exact M.out | exact M.out.take 0)
      case' hy => exact yld_cat _ _ _ _ rfl rfl _ _ rfl rfl rfl (by simp only [List.length_append, List.length_cons, List.length_nil]; omega)
      try simp only [Act.put, List.getElem_toArray, List.getElem_cons_succ, List.getElem_cons_zero, List.setIfInBounds_toArray, List.set_cons_succ, List.set_cons_zero]
      apply takeH (i := 26) 37 rfl (by kernel_rfl) (by kernel_rfl) (by kernel_rfl) (fun _ _ _ h => h) rfl (by first | exact M.out | exact M.out.take 0)
      case' hy => exact yld_cat _ _ _ _ rfl rfl _ _ rfl rfl rfl (by simp only [List.length_append, List.length_cons, List.length_nil]; omega)
      try simp only [Act.put, List.getElem_toArray, List.getElem_cons_succ, List.getElem_cons_zero, List.setIfInBounds_toArray, List.set_cons_succ, List.set_cons_zero]
      apply takeH (i := 27) 38 rfl (by kernel_rfl) (by kernel_rfl) (by kernel_rfl) (fun _ _ _ h => h) rfl (by first | exact M.out | exact M.out.take 0)
      case' hy => exact yld_cat _ _ _ _ rfl rfl _ _ rfl rfl rfl (by simp only [List.length_append, List.length_cons, List.length_nil]; omega)
      try simp only [Act.put, List.getElem_toArray, List.getElem_cons_succ, List.getElem_cons_zero, List.setIfInBounds_toArray, List.set_cons_succ, List.set_cons_zero]
      apply takeH (i := 28) 3 rfl (by kernel_rfl) (by kernel_rfl) (by kernel_rfl) (fun _ _ _ h => h) rfl (by first | exact M.out | exact M.out.take 0)
      case' hy =>
        refine Or.inl ⟨by first | rfl | (go_simp; done), ?_⟩
        intro w hS
        clear hS
        go_simp
        try with_reducible rfl
      try simp only [Act.put, List.getElem_toArray, List.getElem_cons_succ, List.getElem_cons_zero, List.setIfInBounds_toArray, List.set_cons_succ, List.set_cons_zero]
      refine wpAnyH_done (by kernel_rfl) ?_ _
      all_goals
        go_wp2
        exact ⟨⟨k + 1, by omega, by go_num, by rw [HL.out, HE.out]; simp only [List.append_assoc, List.cons_append, List.nil_append], M.out.take 0⟩, by simp [intOf]; omega⟩
    · obtain rfl : k = xs.length := by omega
      have i1 : ¬ ((xs.length : Int) < (xs.length : Int)) := by omega
      go_wp2
      go_ret
      exact ⟨by first | rfl | (rw [List.take_length]; rfl), M.out⟩
set_option maxRecDepth 100000 in
set_option maxHeartbeats 4000000 in
theorem spec_DiaryText_any (A : Option Addr) (n : Nat) (xs : List Entry) (hx : ∀ x ∈ xs, x.ok) (hl : xs.length ≤ 1048576) (w : World) (hs : Sl w 3 A xs.length (flat Entry.vals xs)) :
    Calls Tryd.prog 9 #[.slice A xs.length n] w fun e w' => e = .returned (.string ⟨(diaryT xs).toArray⟩) ∧ Mem w w' [] := by
  have M := Lib.hid (Mem.start w)
  have HX := Lib.hid hx
  have HS := Lib.hid hs
  clear hx hs
  go_enter Tryd.func9, Tryd.ntmps9
  go_wp2
  go_loopw [3] (fun v wr => ∃ k : Nat, k ≤ xs.length ∧ v = .int .i64 k ∧ (∀ x ∈ xs.take k, x.plain = true) ∧ Mem w wr [])
    (fun v _ => xs.length - (intOf v).toNat)
  case atStart => exact ⟨0, by omega, rfl, fun x h => absurd h (by simp), M.out⟩
  case round =>
    clear M
    obtain ⟨k, hk, rfl, he, m⟩ := hrel
    have M := Lib.hid m
    have HE := Lib.hid he
    clear m he
    by_cases hlt : k < xs.length
    · obtain ⟨b, off, rfl, hr⟩ := (M.out.sl HS.out).2 (by omega)
      have R := Lib.hid (range_at Entry.vl hr (List.getElem?_eq_getElem hlt))
      have HO := Lib.hid (HX.out xs[k] (List.getElem_mem hlt))
      have HM := Lib.hid (List.getElem_mem hlt)
      have i0 : (0 : Int) ≤ (k : Int) := by omega
      have i1 : (k : Int) < (xs.length : Int) := by omega
      clear hr
      cases hf : xs[k].plain
      · have HFN := Lib.hid hf
        clear hf
        go_wp2_with (first
          | ((with_reducible refine gate_dst (N := 13) rfl ?_); go_must (refine ev_ldr _ _ rfl rfl (R.out) Tryd.underlying58 rfl (by first | exact sz58 | (rw [S1.out]; exact sz58)) rfl ?_))
          | (go_at_call 32; go_must (refine (l07Entry_any _ HO.out _).mono ?_); rintro e w_ ⟨rfl, N_⟩; have m := M.out.join N_; clear N_; simp only [List.cons_append, List.nil_append, List.append_nil] at m; have M := Lib.hid m; clear m; rw [HFN.out])
          )
        go_ret
        exact ⟨by rw [diaryT, if_neg (by rw [not_allT HM.out HFN.out]; decide)]; rfl, M.out.take 0⟩
      · have HFN := Lib.hid hf
        clear hf
        go_wp2_with (first
          | ((with_reducible refine gate_dst (N := 13) rfl ?_); go_must (refine ev_ldr _ _ rfl rfl (R.out) Tryd.underlying58 rfl (by first | exact sz58 | (rw [S1.out]; exact sz58)) rfl ?_))
          | (go_at_call 32; go_must (refine (l07Entry_any _ HO.out _).mono ?_); rintro e w_ ⟨rfl, N_⟩; have m := M.out.join N_; clear N_; simp only [List.cons_append, List.nil_append, List.append_nil] at m; have M := Lib.hid m; clear m; rw [HFN.out])
          )
        exact ⟨⟨k + 1, by omega, by go_num, allT_succ hlt HE.out HFN.out, M.out.take 0⟩, by simp [intOf]; omega⟩
    · obtain rfl : k = xs.length := by omega
      have i1 : ¬ ((xs.length : Int) < (xs.length : Int)) := by omega
      have HA := Lib.hid (allT_of HE.out)
      by_cases h9 : xs.length ≤ 100
      · have i9 : ¬ ((100 : Int) < (xs.length : Int)) := by omega
        have HP := Lib.hid (fun x hx => List.all_eq_true.1 HA.out x hx : ∀ x ∈ xs, x.plain = true)
        have HD := Lib.hid (show diaryT xs = linesT xs by rw [diaryT, if_pos HA.out, if_pos h9])
        clear HE
        go_wp2_with (first
          | (go_at_call 33; go_must (refine (l07Text_any A n xs HX.out HP.out h9 _ (M.out.sl HS.out)).mono ?_); rintro e w_ ⟨rfl, N_⟩; have m := M.out.join N_; clear N_; simp only [List.cons_append, List.nil_append, List.append_nil] at m; have M := Lib.hid m; clear m)
          )
        go_ret
        exact ⟨by rw [HD.out]; rfl, M.out.take 0⟩
      · have i9 : (100 : Int) < (xs.length : Int) := by omega
        have HD := Lib.hid (show diaryT xs = [] by rw [diaryT, if_pos HA.out, if_neg h9])
        clear HE
        go_wp2
        go_ret
        exact ⟨by rw [HD.out]; rfl, M.out.take 0⟩
set_option maxRecDepth 100000 in
set_option maxHeartbeats 4000000 in
theorem impl_DiaryText_any (A : Option Addr) (n : Nat) (xs : List Entry) (hx : ∀ x ∈ xs, x.ok) (hl : xs.length ≤ 1048576) (w : World) (ht : Tab w) (hs : Sl w 3 A xs.length (flat Entry.vals xs)) :
    Calls Tryd.prog 11 #[.slice A xs.length n] w fun e w' => e = .returned (.string ⟨(diaryT xs).toArray⟩) ∧ Mem w w' [] := by
  have M := Lib.hid (Mem.start w)
  have HX := Lib.hid hx
  have HS := Lib.hid hs
  have HT := Lib.hid ht
  clear hx hs ht
  go_enter Tryd.func11, Tryd.ntmps11
  go_wp2_with (first
    | ((with_reducible refine gate_dst (N := 3) rfl ?_); go_must (refine M.out.ev_new rfl (by first | (go_simp; done) | (go_simp; rfl)) ?_); intro g3 w3 m; simp only [List.cons_append, List.nil_append] at m; have M := Lib.hid m; clear m; try have q1_0 := M.out.cell (j := 0) 1 rfl (by first | assumption | rfl); try have q1_1 := M.out.cell (j := 1) 1 rfl (by first | assumption | rfl); try have q1_2 := M.out.cell (j := 2) 1 rfl (by first | assumption | rfl))
    | ((with_reducible refine gate_store (x := .tmp 3) rfl ?_); go_must (refine M.out.ev_stw 0 _ _ _ rfl rfl rfl rfl _ rfl (by first | rfl | (simp only [S1.out]; rfl) | (simp only [S1.out, S2.out]; rfl) | (simp only [S3.out]; rfl) | (simp only [S1.out, S2.out, S3.out]; rfl)) (by first | exact sz64 | (rw [S1.out]; exact sz64) | (rw [S2.out]; exact sz64) | (rw [S3.out]; exact sz64)) (by first | exact ints_one _ _ | exact Fld.one _ | exact O1.out | exact Entry.one _ | rfl | (simp [Value.oneCell']; done)) rfl ?_); intro wn m; simp only [List.set_cons_succ, List.set_cons_zero, List.setIfInBounds_toArray] at m; have M := Lib.hid m; clear m; try have q1_0 := M.out.cell (j := 0) 1 rfl (by first | assumption | rfl); try have q1_1 := M.out.cell (j := 1) 1 rfl (by first | assumption | rfl); try have q1_2 := M.out.cell (j := 2) 1 rfl (by first | assumption | rfl))
    | ((with_reducible refine gate_dst (N := 5) rfl ?_); go_must (refine M.out.ev_new rfl (by first | (go_simp; done) | (go_simp; rfl)) ?_); intro g5 w5 m; simp only [List.cons_append, List.nil_append] at m; have M := Lib.hid m; clear m; try have q1_0 := M.out.cell (j := 0) 1 rfl (by first | assumption | rfl); try have q1_1 := M.out.cell (j := 1) 1 rfl (by first | assumption | rfl); try have q1_2 := M.out.cell (j := 2) 1 rfl (by first | assumption | rfl))
    | ((with_reducible refine gate_store (x := .tmp 5) rfl ?_); go_must (refine M.out.ev_stw 1 _ _ _ rfl rfl rfl rfl _ rfl (by first | rfl | (simp only [S1.out]; rfl) | (simp only [S1.out, S2.out]; rfl) | (simp only [S3.out]; rfl) | (simp only [S1.out, S2.out, S3.out]; rfl)) (by first | exact sz58 | (rw [S1.out]; exact sz58) | (rw [S2.out]; exact sz58) | (rw [S3.out]; exact sz58)) (by first | exact ints_one _ _ | exact Fld.one _ | exact O1.out | exact Entry.one _ | rfl | (simp [Value.oneCell']; done)) rfl ?_); intro wn m; simp only [List.set_cons_succ, List.set_cons_zero, List.setIfInBounds_toArray] at m; have M := Lib.hid m; clear m; try have q1_0 := M.out.cell (j := 0) 1 rfl (by first | assumption | rfl); try have q1_1 := M.out.cell (j := 1) 1 rfl (by first | assumption | rfl); try have q1_2 := M.out.cell (j := 2) 1 rfl (by first | assumption | rfl))
    | ((with_reducible refine gate_dst (N := 13) rfl ?_); go_must (refine M.out.ev_ldw 1 _ _ rfl rfl rfl Tryd.underlying58 rfl (by first | exact sz58 | (rw [S1.out]; exact sz58) | (rw [S2.out]; exact sz58) | (rw [S3.out]; exact sz58)) rfl ?_))
    | ((with_reducible refine gate_dst (N := 23) rfl ?_); go_must (refine M.out.ev_ld 1 _ _ rfl rfl rfl Tryd.underlying55 rfl rfl (by first | assumption | rfl) ?_))
    | ((with_reducible refine gate_dst (N := 26) rfl ?_); go_must (refine ev_cat _ _ _ _ rfl rfl _ _ rfl rfl rfl (by simp only [List.length_append, List.length_cons, List.length_nil]; omega) ?_))
    | ((with_reducible refine gate_dst (N := 28) rfl ?_); go_must (refine M.out.ev_ld 1 _ _ rfl rfl rfl Tryd.underlying56 rfl rfl (by first | assumption | rfl) ?_))
    | ((with_reducible refine gate_dst (N := 30) rfl ?_); go_must (refine ev_cat _ _ _ _ rfl rfl _ _ rfl rfl rfl (by simp only [List.length_append, List.length_cons, List.length_nil]; omega) ?_))
    | ((with_reducible refine gate_dst (N := 31) rfl ?_); go_must (refine ev_cat _ _ _ _ rfl rfl _ _ rfl rfl rfl (by simp only [List.length_append, List.length_cons, List.length_nil]; omega) ?_))
    | ((with_reducible refine gate_dst (N := 33) rfl ?_); go_must (refine M.out.ev_ld 1 _ _ rfl rfl rfl Tryd.underlying56 rfl rfl (by first | assumption | rfl) ?_))
    | ((with_reducible refine gate_dst (N := 35) rfl ?_); go_must (refine ev_cat _ _ _ _ rfl rfl _ _ rfl rfl rfl (by simp only [List.length_append, List.length_cons, List.length_nil]; omega) ?_))
    | ((with_reducible refine gate_dst (N := 36) rfl ?_); go_must (refine ev_cat _ _ _ _ rfl rfl _ _ rfl rfl rfl (by simp only [List.length_append, List.length_cons, List.length_nil]; omega) ?_))
    )
  go_loopw [9] (fun v wr => ∃ k : Nat, k ≤ xs.length ∧ v = .int .i64 k ∧ (∀ x ∈ xs.take k, x.plain = true) ∧ (0 < k → xs.length ≤ 100) ∧ Bld w wr g3 (Lib.byteCells (linesT (xs.take k))))
    (fun v _ => xs.length - (intOf v).toNat)
  case atStart => exact ⟨0, by omega, rfl, fun x h => absurd h (by simp), fun h => by omega, Bld.of_new M.out⟩
  case round =>
    clear M
    obtain ⟨k, hk, rfl, he, h100, hB⟩ := hrel
    have BB := Lib.hid hB
    have HE := Lib.hid he
    have M0 := Lib.hid hB.mem
    have M := Lib.hid (Mem.start wr)
    clear hB he
    by_cases hlt : k < xs.length
    · obtain ⟨b, off, rfl, hr⟩ := (M0.out.sl HS.out).2 (by omega)
      have R := Lib.hid (range_at Entry.vl hr (List.getElem?_eq_getElem hlt))
      have HO := Lib.hid (HX.out xs[k] (List.getElem_mem hlt))
      have HM := Lib.hid (List.getElem_mem hlt)
      have i0 : (0 : Int) ≤ (k : Int) := by omega
      have i1 : (k : Int) < (xs.length : Int) := by omega
      clear hr
      cases hf : xs[k].plain
      · have HFN := Lib.hid hf
        clear hf h100
        go_wp2_with (first
          | ((with_reducible refine gate_dst (N := 12) rfl ?_); go_must (refine ev_ldr _ _ rfl rfl (R.out) Tryd.underlying58 rfl (by first | exact sz58 | (rw [S1.out]; exact sz58)) rfl ?_))
          | ((with_reducible refine gate_dst (N := 3) rfl ?_); go_must (refine M.out.ev_new rfl (by first | (go_simp; done) | (go_simp; rfl)) ?_); intro g3 w3 m; simp only [List.cons_append, List.nil_append] at m; have M := Lib.hid m; clear m; try have q0_0 := M.out.cell (j := 0) 0 rfl (by first | assumption | rfl); try have q0_1 := M.out.cell (j := 1) 0 rfl (by first | assumption | rfl); try have q0_2 := M.out.cell (j := 2) 0 rfl (by first | assumption | rfl))
          | ((with_reducible refine gate_store (x := .tmp 3) rfl ?_); go_must (refine M.out.ev_stw 0 _ _ _ rfl rfl rfl rfl _ rfl (by first | rfl | (simp only [S1.out]; rfl) | (simp only [S1.out, S2.out]; rfl) | (simp only [S3.out]; rfl) | (simp only [S1.out, S2.out, S3.out]; rfl)) (by first | exact sz64 | (rw [S1.out]; exact sz64) | (rw [S2.out]; exact sz64) | (rw [S3.out]; exact sz64)) (by first | exact ints_one _ _ | exact Fld.one _ | exact O1.out | exact Entry.one _ | rfl | (simp [Value.oneCell']; done)) rfl ?_); intro wn m; simp only [List.set_cons_succ, List.set_cons_zero, List.setIfInBounds_toArray] at m; have M := Lib.hid m; clear m; try have q0_0 := M.out.cell (j := 0) 0 rfl (by first | assumption | rfl); try have q0_1 := M.out.cell (j := 1) 0 rfl (by first | assumption | rfl); try have q0_2 := M.out.cell (j := 2) 0 rfl (by first | assumption | rfl))
          | ((with_reducible refine gate_dst (N := 5) rfl ?_); go_must (refine M.out.ev_new rfl (by first | (go_simp; done) | (go_simp; rfl)) ?_); intro g5 w5 m; simp only [List.cons_append, List.nil_append] at m; have M := Lib.hid m; clear m; try have q0_0 := M.out.cell (j := 0) 0 rfl (by first | assumption | rfl); try have q0_1 := M.out.cell (j := 1) 0 rfl (by first | assumption | rfl); try have q0_2 := M.out.cell (j := 2) 0 rfl (by first | assumption | rfl))
          | ((with_reducible refine gate_store (x := .tmp 5) rfl ?_); go_must (refine M.out.ev_stw 0 _ _ _ rfl rfl rfl rfl _ rfl (by first | rfl | (simp only [S1.out]; rfl) | (simp only [S1.out, S2.out]; rfl) | (simp only [S3.out]; rfl) | (simp only [S1.out, S2.out, S3.out]; rfl)) (by first | exact sz58 | (rw [S1.out]; exact sz58) | (rw [S2.out]; exact sz58) | (rw [S3.out]; exact sz58)) (by first | exact ints_one _ _ | exact Fld.one _ | exact O1.out | exact Entry.one _ | rfl | (simp [Value.oneCell']; done)) rfl ?_); intro wn m; simp only [List.set_cons_succ, List.set_cons_zero, List.setIfInBounds_toArray] at m; have M := Lib.hid m; clear m; try have q0_0 := M.out.cell (j := 0) 0 rfl (by first | assumption | rfl); try have q0_1 := M.out.cell (j := 1) 0 rfl (by first | assumption | rfl); try have q0_2 := M.out.cell (j := 2) 0 rfl (by first | assumption | rfl))
          | ((with_reducible refine gate_dst (N := 13) rfl ?_); go_must (refine M.out.ev_ldw 0 _ _ rfl rfl rfl Tryd.underlying58 rfl (by first | exact sz58 | (rw [S1.out]; exact sz58) | (rw [S2.out]; exact sz58) | (rw [S3.out]; exact sz58)) rfl ?_))
          | ((with_reducible refine gate_dst (N := 23) rfl ?_); go_must (refine M.out.ev_ld 0 _ _ rfl rfl rfl Tryd.underlying55 rfl rfl (by first | assumption | rfl) ?_))
          | ((with_reducible refine gate_dst (N := 26) rfl ?_); go_must (refine ev_cat _ _ _ _ rfl rfl _ _ rfl rfl rfl (by simp only [List.length_append, List.length_cons, List.length_nil]; omega) ?_))
          | ((with_reducible refine gate_dst (N := 28) rfl ?_); go_must (refine M.out.ev_ld 0 _ _ rfl rfl rfl Tryd.underlying56 rfl rfl (by first | assumption | rfl) ?_))
          | ((with_reducible refine gate_dst (N := 30) rfl ?_); go_must (refine ev_cat _ _ _ _ rfl rfl _ _ rfl rfl rfl (by simp only [List.length_append, List.length_cons, List.length_nil]; omega) ?_))
          | ((with_reducible refine gate_dst (N := 31) rfl ?_); go_must (refine ev_cat _ _ _ _ rfl rfl _ _ rfl rfl rfl (by simp only [List.length_append, List.length_cons, List.length_nil]; omega) ?_))
          | ((with_reducible refine gate_dst (N := 33) rfl ?_); go_must (refine M.out.ev_ld 0 _ _ rfl rfl rfl Tryd.underlying56 rfl rfl (by first | assumption | rfl) ?_))
          | ((with_reducible refine gate_dst (N := 35) rfl ?_); go_must (refine ev_cat _ _ _ _ rfl rfl _ _ rfl rfl rfl (by simp only [List.length_append, List.length_cons, List.length_nil]; omega) ?_))
          | ((with_reducible refine gate_dst (N := 36) rfl ?_); go_must (refine ev_cat _ _ _ _ rfl rfl _ _ rfl rfl rfl (by simp only [List.length_append, List.length_cons, List.length_nil]; omega) ?_))
          | (go_at_call 35; go_must (refine (isPlainE_any _ HO.out _).mono ?_); rintro e w_ ⟨rfl, N_⟩; have m := M.out.join N_; clear N_; simp only [List.cons_append, List.nil_append, List.append_nil] at m; have M := Lib.hid m; clear m; rw [HFN.out])
          )
        go_ret
        exact ⟨by rw [diaryT, if_neg (by rw [not_allT HM.out HFN.out]; decide)]; rfl, M0.out.kept M.out.below⟩
      · have HFN := Lib.hid hf
        clear hf
        by_cases h9 : xs.length ≤ 100
        · have i9 : ¬ ((100 : Int) < (xs.length : Int)) := by omega
          have hpl := HFN.out
          rw [Entry.plain, Bool.and_eq_true, Bool.and_eq_true] at hpl
          have q0 := inB_iff.1 hpl.1
          have q1 := inB_iff.1 hpl.2.1
          have q2 := inB_iff.1 hpl.2.2
          have HL := Lib.hid (linesT_succ hlt)
          have HE2 := Lib.hid (show xs[k].line = wordOf xs[k].what ++ [32] ++ dec xs[k].cell ++ [32] ++ dec xs[k].amount ++ [10] from rfl)
          have lo := linesT_len (xs := xs.take k) fun x hx => HX.out x (List.mem_of_mem_take hx)
          have lo2 : (xs.take k).length ≤ k := List.length_take_le _ _
          have HV := Lib.hid (show xs[k].vals.toArray = #[.int .i8 xs[k].what, .int .i16 xs[k].cell, .int .i16 xs[k].amount] from rfl)
          obtain ⟨a, ha⟩ := Int.eq_ofNat_of_zero_le q0.1
          obtain ⟨c, hc⟩ : ∃ c, c = xs[k].cell := ⟨_, rfl⟩
          obtain ⟨d, hd⟩ : ∃ c, c = xs[k].amount := ⟨_, rfl⟩
          rw [ha] at q0 HE2 HV
          rw [← hc] at q1 HE2 HV
          rw [← hd] at q2 HE2 HV
          have HF4 := Lib.hid (fourW_at (k := a) (by omega))
          have DC := Lib.hid (fun w ht => decimal16_any c (by omega) (by omega) w ht)
          have DD := Lib.hid (fun w ht => decimal16_any d (by omega) (by omega) w ht)
          have la := wordOf_len (a : Int)
          have lc := dec_b (n := c) (by omega) (by omega)
          have ld := dec_b (n := d) (by omega) (by omega)
          unfold dec at lc ld HE2
          obtain ⟨W1, hW1⟩ : ∃ O, O = wordOf (a : Int) := ⟨_, rfl⟩
          obtain ⟨D1, hD1⟩ : ∃ O, O = Lib.itoa c := ⟨_, rfl⟩
          obtain ⟨D2, hD2⟩ : ∃ O, O = Lib.itoa d := ⟨_, rfl⟩
          obtain ⟨O, hO⟩ : ∃ O, O = linesT (xs.take k) := ⟨_, rfl⟩
          rw [← hO] at lo HL BB
          rw [← hW1] at la HF4 HE2
          rw [← hD1] at lc DC HE2
          rw [← hD2] at ld DD HE2
          have a0 : (0 : Int) ≤ (a : Int) := by omega
          have a1 : (a : Int) < 4 := by omega
          clear hpl ha hc hd hO hW1 hD1 hD2
          go_wp2_with (first
            | ((with_reducible refine gate_dst (N := 12) rfl ?_); go_must (refine ev_ldr _ _ rfl rfl (R.out) Tryd.underlying58 rfl (by first | exact sz58 | (rw [S1.out]; exact sz58)) rfl ?_))
            | ((with_reducible refine gate_dst (N := 3) rfl ?_); go_must (refine M.out.ev_new rfl (by first | (go_simp; done) | (go_simp; rfl)) ?_); intro g3 w3 m; simp only [List.cons_append, List.nil_append] at m; have M := Lib.hid m; clear m; try have q0_0 := M.out.cell (j := 0) 0 rfl (by first | assumption | rfl); try have q0_1 := M.out.cell (j := 1) 0 rfl (by first | assumption | rfl); try have q0_2 := M.out.cell (j := 2) 0 rfl (by first | assumption | rfl))
            | ((with_reducible refine gate_store (x := .tmp 3) rfl ?_); go_must (refine M.out.ev_stw 0 _ _ _ rfl rfl rfl rfl _ rfl (by first | rfl | (simp only [S1.out]; rfl) | (simp only [S1.out, S2.out]; rfl) | (simp only [S3.out]; rfl) | (simp only [S1.out, S2.out, S3.out]; rfl)) (by first | exact sz64 | (rw [S1.out]; exact sz64) | (rw [S2.out]; exact sz64) | (rw [S3.out]; exact sz64)) (by first | exact ints_one _ _ | exact Fld.one _ | exact O1.out | exact Entry.one _ | rfl | (simp [Value.oneCell']; done)) rfl ?_); intro wn m; simp only [List.set_cons_succ, List.set_cons_zero, List.setIfInBounds_toArray] at m; have M := Lib.hid m; clear m; try have q0_0 := M.out.cell (j := 0) 0 rfl (by first | assumption | rfl); try have q0_1 := M.out.cell (j := 1) 0 rfl (by first | assumption | rfl); try have q0_2 := M.out.cell (j := 2) 0 rfl (by first | assumption | rfl))
            | ((with_reducible refine gate_dst (N := 5) rfl ?_); go_must (refine M.out.ev_new rfl (by first | (go_simp; done) | (go_simp; rfl)) ?_); intro g5 w5 m; simp only [List.cons_append, List.nil_append] at m; have M := Lib.hid m; clear m; try have q0_0 := M.out.cell (j := 0) 0 rfl (by first | assumption | rfl); try have q0_1 := M.out.cell (j := 1) 0 rfl (by first | assumption | rfl); try have q0_2 := M.out.cell (j := 2) 0 rfl (by first | assumption | rfl))
            | ((with_reducible refine gate_store (x := .tmp 5) rfl ?_); go_must (refine M.out.ev_stw 0 _ _ _ rfl rfl rfl rfl _ rfl (by first | rfl | (simp only [S1.out]; rfl) | (simp only [S1.out, S2.out]; rfl) | (simp only [S3.out]; rfl) | (simp only [S1.out, S2.out, S3.out]; rfl)) (by first | exact sz58 | (rw [S1.out]; exact sz58) | (rw [S2.out]; exact sz58) | (rw [S3.out]; exact sz58)) (by first | exact ints_one _ _ | exact Fld.one _ | exact O1.out | exact Entry.one _ | rfl | (simp [Value.oneCell']; done)) rfl ?_); intro wn m; simp only [List.set_cons_succ, List.set_cons_zero, List.setIfInBounds_toArray] at m; have M := Lib.hid m; clear m; try have q0_0 := M.out.cell (j := 0) 0 rfl (by first | assumption | rfl); try have q0_1 := M.out.cell (j := 1) 0 rfl (by first | assumption | rfl); try have q0_2 := M.out.cell (j := 2) 0 rfl (by first | assumption | rfl))
            | ((with_reducible refine gate_dst (N := 13) rfl ?_); go_must (refine M.out.ev_ldw 0 _ _ rfl rfl rfl Tryd.underlying58 rfl (by first | exact sz58 | (rw [S1.out]; exact sz58) | (rw [S2.out]; exact sz58) | (rw [S3.out]; exact sz58)) rfl ?_))
            | ((with_reducible refine gate_dst (N := 23) rfl ?_); go_must (refine M.out.ev_ld 0 _ _ rfl rfl rfl Tryd.underlying55 rfl rfl (by first | assumption | rfl) ?_))
            | ((with_reducible refine gate_dst (N := 26) rfl ?_); go_must (refine ev_cat _ _ _ _ rfl rfl _ _ rfl rfl rfl (by simp only [List.length_append, List.length_cons, List.length_nil]; omega) ?_))
            | ((with_reducible refine gate_dst (N := 28) rfl ?_); go_must (refine M.out.ev_ld 0 _ _ rfl rfl rfl Tryd.underlying56 rfl rfl (by first | assumption | rfl) ?_))
            | ((with_reducible refine gate_dst (N := 30) rfl ?_); go_must (refine ev_cat _ _ _ _ rfl rfl _ _ rfl rfl rfl (by simp only [List.length_append, List.length_cons, List.length_nil]; omega) ?_))
            | ((with_reducible refine gate_dst (N := 31) rfl ?_); go_must (refine ev_cat _ _ _ _ rfl rfl _ _ rfl rfl rfl (by simp only [List.length_append, List.length_cons, List.length_nil]; omega) ?_))
            | ((with_reducible refine gate_dst (N := 33) rfl ?_); go_must (refine M.out.ev_ld 0 _ _ rfl rfl rfl Tryd.underlying56 rfl rfl (by first | assumption | rfl) ?_))
            | ((with_reducible refine gate_dst (N := 35) rfl ?_); go_must (refine ev_cat _ _ _ _ rfl rfl _ _ rfl rfl rfl (by simp only [List.length_append, List.length_cons, List.length_nil]; omega) ?_))
            | ((with_reducible refine gate_dst (N := 36) rfl ?_); go_must (refine ev_cat _ _ _ _ rfl rfl _ _ rfl rfl rfl (by simp only [List.length_append, List.length_cons, List.length_nil]; omega) ?_))
            | (go_at_call 35; go_must (refine (isPlainE_any _ HO.out _).mono ?_); rintro e w_ ⟨rfl, N_⟩; have m := M.out.join N_; clear N_; simp only [List.cons_append, List.nil_append, List.append_nil] at m; have M := Lib.hid m; clear m; rw [HFN.out])
            )
          have m := M.out
          rw [HV.out] at m
          have M := Lib.hid m
          clear m
          refine region_anyH (fun w' => Blk w' g5 58 #[.int .i8 a, .int .i16 c, .int .i16 d]) (by kernel_rfl) ?_
          have m := M.out.drew
          clear M
          have M := Lib.hid m
          clear m
          apply takeH (i := 1) 22 rfl (by kernel_rfl) (by kernel_rfl) (by kernel_rfl) (fun _ _ _ h => h) rfl (by first | exact M.out.blk 0 rfl | exact KEPT.out)
          case' hy =>
            refine Or.inl ⟨by first | rfl | (go_simp; done), ?_⟩
            intro w hS
            clear hS
            go_simp
            try with_reducible rfl
          try simp only [Act.put, List.getElem_toArray, List.getElem_cons_succ, List.getElem_cons_zero, List.setIfInBounds_toArray, List.set_cons_succ, List.set_cons_zero]
          apply takeH (i := 2) 23 rfl (by kernel_rfl) (by kernel_rfl) (by kernel_rfl) (fun _ _ _ h => h) rfl (by first | exact M.out.blk 0 rfl | exact KEPT.out)
          case' hy => exact ylds _ _ rfl rfl Tryd.underlying55 rfl rfl (fun w' hS => hS.cellv rfl)
          try simp only [Act.put, List.getElem_toArray, List.getElem_cons_succ, List.getElem_cons_zero, List.setIfInBounds_toArray, List.set_cons_succ, List.set_cons_zero]
          apply takeH (i := 6) 27 rfl (by kernel_rfl) (by kernel_rfl) (by kernel_rfl) (fun _ _ _ h => h) rfl (by first | exact M.out.blk 0 rfl | exact KEPT.out)
          case' hy =>
            refine Or.inl ⟨by first | rfl | (go_simp; done), ?_⟩
            intro w hS
            clear hS
            go_simp
            try with_reducible rfl
          try simp only [Act.put, List.getElem_toArray, List.getElem_cons_succ, List.getElem_cons_zero, List.setIfInBounds_toArray, List.set_cons_succ, List.set_cons_zero]
          apply takeH (i := 7) 28 rfl (by kernel_rfl) (by kernel_rfl) (by kernel_rfl) (fun _ _ _ h => h) rfl (by first | exact M.out.blk 0 rfl | exact KEPT.out)
          case' hy => exact ylds _ _ rfl rfl Tryd.underlying56 rfl rfl (fun w' hS => hS.cellv rfl)
          try simp only [Act.put, List.getElem_toArray, List.getElem_cons_succ, List.getElem_cons_zero, List.setIfInBounds_toArray, List.set_cons_succ, List.set_cons_zero]
          apply takeH (i := 11) 32 rfl (by kernel_rfl) (by kernel_rfl) (by kernel_rfl) (fun _ _ _ h => h) rfl (by first | exact M.out.blk 0 rfl | exact KEPT.out)
          case' hy =>
            refine Or.inl ⟨by first | rfl | (go_simp; done), ?_⟩
            intro w hS
            clear hS
            go_simp
            try with_reducible rfl
          try simp only [Act.put, List.getElem_toArray, List.getElem_cons_succ, List.getElem_cons_zero, List.setIfInBounds_toArray, List.set_cons_succ, List.set_cons_zero]
          apply takeH (i := 12) 33 rfl (by kernel_rfl) (by kernel_rfl) (by kernel_rfl) (fun _ _ _ h => h) rfl (by first | exact M.out.blk 0 rfl | exact KEPT.out)
          case' hy => exact ylds _ _ rfl rfl Tryd.underlying56 rfl rfl (fun w' hS => hS.cellv rfl)
          try simp only [Act.put, List.getElem_toArray, List.getElem_cons_succ, List.getElem_cons_zero, List.setIfInBounds_toArray, List.set_cons_succ, List.set_cons_zero]
          refine any1H 0 (by kernel_rfl) rfl (fun K hK => ?_)
          go_wp2_with (first | ((with_reducible refine gate_dst (N := 23) rfl ?_); go_must (refine M.out.ev_ld 0 _ _ rfl rfl rfl Tryd.underlying55 rfl rfl (by first | assumption | rfl) ?_)) | ((with_reducible refine gate_dst (N := 26) rfl ?_); go_must (refine ev_cat _ _ _ _ rfl rfl _ _ rfl rfl rfl (by simp only [List.length_append, List.length_cons, List.length_nil]; omega) ?_)) | ((with_reducible refine gate_dst (N := 28) rfl ?_); go_must (refine M.out.ev_ld 0 _ _ rfl rfl rfl Tryd.underlying56 rfl rfl (by first | assumption | rfl) ?_)) | ((with_reducible refine gate_dst (N := 30) rfl ?_); go_must (refine ev_cat _ _ _ _ rfl rfl _ _ rfl rfl rfl (by simp only [List.length_append, List.length_cons, List.length_nil]; omega) ?_)) | ((with_reducible refine gate_dst (N := 31) rfl ?_); go_must (refine ev_cat _ _ _ _ rfl rfl _ _ rfl rfl rfl (by simp only [List.length_append, List.length_cons, List.length_nil]; omega) ?_)) | ((with_reducible refine gate_dst (N := 33) rfl ?_); go_must (refine M.out.ev_ld 0 _ _ rfl rfl rfl Tryd.underlying56 rfl rfl (by first | assumption | rfl) ?_)) | ((with_reducible refine gate_dst (N := 35) rfl ?_); go_must (refine ev_cat _ _ _ _ rfl rfl _ _ rfl rfl rfl (by simp only [List.length_append, List.length_cons, List.length_nil]; omega) ?_)) | ((with_reducible refine gate_dst (N := 36) rfl ?_); go_must (refine ev_cat _ _ _ _ rfl rfl _ _ rfl rfl rfl (by simp only [List.length_append, List.length_cons, List.length_nil]; omega) ?_)) | ((with_reducible refine gate_dst (N := 25) rfl ?_); go_must (refine ev_get _ _ rfl rfl (M.out.cell 1 rfl (j := a) (by rw [List.getElem?_toArray]; exact HF4.out)) Tryd.underlying9 rfl rfl ?_)) | (go_at_call 37; go_must (refine (whats_any _).mono ?_); rintro e w_ ⟨gw, rfl, N_⟩; have m := M.out.join N_; clear N_; simp only [List.cons_append, List.nil_append, List.append_nil] at m; have M := Lib.hid m; clear m) | (go_at_call 38; go_must (first | (refine Calls.mono (calls_args (by with_reducible rfl) (DC.out _ (M.out.tab (M0.out.tab HT.out)))) ?_) | (refine Calls.mono (calls_args (by with_reducible rfl) (DD.out _ (M.out.tab (M0.out.tab HT.out)))) ?_)); rintro e w_ ⟨rfl, N_⟩; have m := M.out.join N_; clear N_; simp only [List.cons_append, List.nil_append, List.append_nil] at m; have M := Lib.hid m; clear m) | (go_at_call 36; go_must (refine (WriteString_any _ (BB.out.kept M.out.below) (by simp only [List.length_append, List.length_cons, List.length_nil]; omega)).mono ?_); rintro e w_ ⟨rfl, B_, K_⟩; have KEPT := Lib.hid (K_ _ _ (M.out.blk 0 rfl) (by have h1 := M.out.base 0 rfl; have h2 := BB.out.lt; simp; omega) (fun c fz h => by cases h)); have B2 := Lib.hid B_; clear B_ K_))
          refine onward_normal (hK _ _ ⟨(by first | exact M.out.blk 0 rfl | exact KEPT.out), ?_⟩)
          clear hK K
          try simp only [Act.put, List.getElem_toArray, List.getElem_cons_succ, List.getElem_cons_zero, List.setIfInBounds_toArray, List.set_cons_succ, List.set_cons_zero]
          apply takeH (i := 3) 24 rfl (by kernel_rfl) (by kernel_rfl) (by kernel_rfl) (fun _ _ _ h => h) rfl (by first | exact M.out.blk 0 rfl | exact KEPT.out)
          case' hy =>
            refine Or.inl ⟨by first | rfl | (go_simp; done), ?_⟩
            intro w hS
            clear hS
            go_simp
            try with_reducible rfl
          try simp only [Act.put, List.getElem_toArray, List.getElem_cons_succ, List.getElem_cons_zero, List.setIfInBounds_toArray, List.set_cons_succ, List.set_cons_zero]
          refine any2H 4 8 (by kernel_rfl) rfl rfl (fun K hK => ?_) (fun K hK => ?_)
          rotate_right 1
          case' _ =>
            go_wp2_with (first | ((with_reducible refine gate_dst (N := 23) rfl ?_); go_must (refine M.out.ev_ld 0 _ _ rfl rfl rfl Tryd.underlying55 rfl rfl (by first | assumption | rfl) ?_)) | ((with_reducible refine gate_dst (N := 26) rfl ?_); go_must (refine ev_cat _ _ _ _ rfl rfl _ _ rfl rfl rfl (by simp only [List.length_append, List.length_cons, List.length_nil]; omega) ?_)) | ((with_reducible refine gate_dst (N := 28) rfl ?_); go_must (refine M.out.ev_ld 0 _ _ rfl rfl rfl Tryd.underlying56 rfl rfl (by first | assumption | rfl) ?_)) | ((with_reducible refine gate_dst (N := 30) rfl ?_); go_must (refine ev_cat _ _ _ _ rfl rfl _ _ rfl rfl rfl (by simp only [List.length_append, List.length_cons, List.length_nil]; omega) ?_)) | ((with_reducible refine gate_dst (N := 31) rfl ?_); go_must (refine ev_cat _ _ _ _ rfl rfl _ _ rfl rfl rfl (by simp only [List.length_append, List.length_cons, List.length_nil]; omega) ?_)) | ((with_reducible refine gate_dst (N := 33) rfl ?_); go_must (refine M.out.ev_ld 0 _ _ rfl rfl rfl Tryd.underlying56 rfl rfl (by first | assumption | rfl) ?_)) | ((with_reducible refine gate_dst (N := 35) rfl ?_); go_must (refine ev_cat _ _ _ _ rfl rfl _ _ rfl rfl rfl (by simp only [List.length_append, List.length_cons, List.length_nil]; omega) ?_)) | ((with_reducible refine gate_dst (N := 36) rfl ?_); go_must (refine ev_cat _ _ _ _ rfl rfl _ _ rfl rfl rfl (by simp only [List.length_append, List.length_cons, List.length_nil]; omega) ?_)) | ((with_reducible refine gate_dst (N := 25) rfl ?_); go_must (refine ev_get _ _ rfl rfl (M.out.cell 1 rfl (j := a) (by rw [List.getElem?_toArray]; exact HF4.out)) Tryd.underlying9 rfl rfl ?_)) | (go_at_call 37; go_must (refine (whats_any _).mono ?_); rintro e w_ ⟨gw, rfl, N_⟩; have m := M.out.join N_; clear N_; simp only [List.cons_append, List.nil_append, List.append_nil] at m; have M := Lib.hid m; clear m) | (go_at_call 38; go_must (first | (refine Calls.mono (calls_args (by with_reducible rfl) (DC.out _ (M.out.tab (M0.out.tab HT.out)))) ?_) | (refine Calls.mono (calls_args (by with_reducible rfl) (DD.out _ (M.out.tab (M0.out.tab HT.out)))) ?_)); rintro e w_ ⟨rfl, N_⟩; have m := M.out.join N_; clear N_; simp only [List.cons_append, List.nil_append, List.append_nil] at m; have M := Lib.hid m; clear m) | (go_at_call 36; go_must (refine (WriteString_any _ (BB.out.kept M.out.below) (by simp only [List.length_append, List.length_cons, List.length_nil]; omega)).mono ?_); rintro e w_ ⟨rfl, B_, K_⟩; have KEPT := Lib.hid (K_ _ _ (M.out.blk 0 rfl) (by have h1 := M.out.base 0 rfl; have h2 := BB.out.lt; simp; omega) (fun c fz h => by cases h)); have B2 := Lib.hid B_; clear B_ K_))
            refine onward_normal (hK _ _ ⟨(by first | exact M.out.blk 0 rfl | exact KEPT.out), ?_⟩)
            clear hK K
            try simp only [Act.put, List.getElem_toArray, List.getElem_cons_succ, List.getElem_cons_zero, List.setIfInBounds_toArray, List.set_cons_succ, List.set_cons_zero]
            refine any2H 4 13 (by kernel_rfl) rfl rfl (fun K hK => ?_) (fun K hK => ?_)
            rotate_right 1
            case' _ =>
              go_wp2_with (first | ((with_reducible refine gate_dst (N := 23) rfl ?_); go_must (refine M.out.ev_ld 0 _ _ rfl rfl rfl Tryd.underlying55 rfl rfl (by first | assumption | rfl) ?_)) | ((with_reducible refine gate_dst (N := 26) rfl ?_); go_must (refine ev_cat _ _ _ _ rfl rfl _ _ rfl rfl rfl (by simp only [List.length_append, List.length_cons, List.length_nil]; omega) ?_)) | ((with_reducible refine gate_dst (N := 28) rfl ?_); go_must (refine M.out.ev_ld 0 _ _ rfl rfl rfl Tryd.underlying56 rfl rfl (by first | assumption | rfl) ?_)) | ((with_reducible refine gate_dst (N := 30) rfl ?_); go_must (refine ev_cat _ _ _ _ rfl rfl _ _ rfl rfl rfl (by simp only [List.length_append, List.length_cons, List.length_nil]; omega) ?_)) | ((with_reducible refine gate_dst (N := 31) rfl ?_); go_must (refine ev_cat _ _ _ _ rfl rfl _ _ rfl rfl rfl (by simp only [List.length_append, List.length_cons, List.length_nil]; omega) ?_)) | ((with_reducible refine gate_dst (N := 33) rfl ?_); go_must (refine M.out.ev_ld 0 _ _ rfl rfl rfl Tryd.underlying56 rfl rfl (by first | assumption | rfl) ?_)) | ((with_reducible refine gate_dst (N := 35) rfl ?_); go_must (refine ev_cat _ _ _ _ rfl rfl _ _ rfl rfl rfl (by simp only [List.length_append, List.length_cons, List.length_nil]; omega) ?_)) | ((with_reducible refine gate_dst (N := 36) rfl ?_); go_must (refine ev_cat _ _ _ _ rfl rfl _ _ rfl rfl rfl (by simp only [List.length_append, List.length_cons, List.length_nil]; omega) ?_)) | ((with_reducible refine gate_dst (N := 25) rfl ?_); go_must (refine ev_get _ _ rfl rfl (M.out.cell 1 rfl (j := a) (by rw [List.getElem?_toArray]; exact HF4.out)) Tryd.underlying9 rfl rfl ?_)) | (go_at_call 37; go_must (refine (whats_any _).mono ?_); rintro e w_ ⟨gw, rfl, N_⟩; have m := M.out.join N_; clear N_; simp only [List.cons_append, List.nil_append, List.append_nil] at m; have M := Lib.hid m; clear m) | (go_at_call 38; go_must (first | (refine Calls.mono (calls_args (by with_reducible rfl) (DC.out _ (M.out.tab (M0.out.tab HT.out)))) ?_) | (refine Calls.mono (calls_args (by with_reducible rfl) (DD.out _ (M.out.tab (M0.out.tab HT.out)))) ?_)); rintro e w_ ⟨rfl, N_⟩; have m := M.out.join N_; clear N_; simp only [List.cons_append, List.nil_append, List.append_nil] at m; have M := Lib.hid m; clear m) | (go_at_call 36; go_must (refine (WriteString_any _ (BB.out.kept M.out.below) (by simp only [List.length_append, List.length_cons, List.length_nil]; omega)).mono ?_); rintro e w_ ⟨rfl, B_, K_⟩; have KEPT := Lib.hid (K_ _ _ (M.out.blk 0 rfl) (by have h1 := M.out.base 0 rfl; have h2 := BB.out.lt; simp; omega) (fun c fz h => by cases h)); have B2 := Lib.hid B_; clear B_ K_))
              refine onward_normal (hK _ _ ⟨(by first | exact M.out.blk 0 rfl | exact KEPT.out), ?_⟩)
              clear hK K
              try simp only [Act.put, List.getElem_toArray, List.getElem_cons_succ, List.getElem_cons_zero, List.setIfInBounds_toArray, List.set_cons_succ, List.set_cons_zero]
              refine any1H 4 (by kernel_rfl) rfl (fun K hK => ?_)
              go_wp2_with (first | ((with_reducible refine gate_dst (N := 23) rfl ?_); go_must (refine M.out.ev_ld 0 _ _ rfl rfl rfl Tryd.underlying55 rfl rfl (by first | assumption | rfl) ?_)) | ((with_reducible refine gate_dst (N := 26) rfl ?_); go_must (refine ev_cat _ _ _ _ rfl rfl _ _ rfl rfl rfl (by simp only [List.length_append, List.length_cons, List.length_nil]; omega) ?_)) | ((with_reducible refine gate_dst (N := 28) rfl ?_); go_must (refine M.out.ev_ld 0 _ _ rfl rfl rfl Tryd.underlying56 rfl rfl (by first | assumption | rfl) ?_)) | ((with_reducible refine gate_dst (N := 30) rfl ?_); go_must (refine ev_cat _ _ _ _ rfl rfl _ _ rfl rfl rfl (by simp only [List.length_append, List.length_cons, List.length_nil]; omega) ?_)) | ((with_reducible refine gate_dst (N := 31) rfl ?_); go_must (refine ev_cat _ _ _ _ rfl rfl _ _ rfl rfl rfl (by simp only [List.length_append, List.length_cons, List.length_nil]; omega) ?_)) | ((with_reducible refine gate_dst (N := 33) rfl ?_); go_must (refine M.out.ev_ld 0 _ _ rfl rfl rfl Tryd.underlying56 rfl rfl (by first | assumption | rfl) ?_)) | ((with_reducible refine gate_dst (N := 35) rfl ?_); go_must (refine ev_cat _ _ _ _ rfl rfl _ _ rfl rfl rfl (by simp only [List.length_append, List.length_cons, List.length_nil]; omega) ?_)) | ((with_reducible refine gate_dst (N := 36) rfl ?_); go_must (refine ev_cat _ _ _ _ rfl rfl _ _ rfl rfl rfl (by simp only [List.length_append, List.length_cons, List.length_nil]; omega) ?_)) | ((with_reducible refine gate_dst (N := 25) rfl ?_); go_must (refine ev_get _ _ rfl rfl (M.out.cell 1 rfl (j := a) (by rw [List.getElem?_toArray]; exact HF4.out)) Tryd.underlying9 rfl rfl ?_)) | (go_at_call 37; go_must (refine (whats_any _).mono ?_); rintro e w_ ⟨gw, rfl, N_⟩; have m := M.out.join N_; clear N_; simp only [List.cons_append, List.nil_append, List.append_nil] at m; have M := Lib.hid m; clear m) | (go_at_call 38; go_must (first | (refine Calls.mono (calls_args (by with_reducible rfl) (DC.out _ (M.out.tab (M0.out.tab HT.out)))) ?_) | (refine Calls.mono (calls_args (by with_reducible rfl) (DD.out _ (M.out.tab (M0.out.tab HT.out)))) ?_)); rintro e w_ ⟨rfl, N_⟩; have m := M.out.join N_; clear N_; simp only [List.cons_append, List.nil_append, List.append_nil] at m; have M := Lib.hid m; clear m) | (go_at_call 36; go_must (refine (WriteString_any _ (BB.out.kept M.out.below) (by simp only [List.length_append, List.length_cons, List.length_nil]; omega)).mono ?_); rintro e w_ ⟨rfl, B_, K_⟩; have KEPT := Lib.hid (K_ _ _ (M.out.blk 0 rfl) (by have h1 := M.out.base 0 rfl; have h2 := BB.out.lt; simp; omega) (fun c fz h => by cases h)); have B2 := Lib.hid B_; clear B_ K_))
              refine onward_normal (hK _ _ ⟨(by first | exact M.out.blk 0 rfl | exact KEPT.out), ?_⟩)
              clear hK K
              try simp only [Act.put, List.getElem_toArray, List.getElem_cons_succ, List.getElem_cons_zero, List.setIfInBounds_toArray, List.set_cons_succ, List.set_cons_zero]
              apply takeH (i := 5) 26 rfl (by kernel_rfl) (by kernel_rfl) (by kernel_rfl) (fun _ _ _ h => h) rfl (by first | exact M.out.blk 0 rfl | exact KEPT.out)
              case' hy => exact yld_cat _ _ _ _ rfl rfl _ _ rfl rfl rfl (by simp only [List.length_append, List.length_cons, List.length_nil]; omega)
              try simp only [Act.put, List.getElem_toArray, List.getElem_cons_succ, List.getElem_cons_zero, List.setIfInBounds_toArray, List.set_cons_succ, List.set_cons_zero]
              apply takeH (i := 9) 30 rfl (by kernel_rfl) (by kernel_rfl) (by kernel_rfl) (fun _ _ _ h => h) rfl (by first | exact M.out.blk 0 rfl | exact KEPT.out)
              case' hy => exact yld_cat _ _ _ _ rfl rfl _ _ rfl rfl rfl (by simp only [List.length_append, List.length_cons, List.length_nil]; omega)
              try simp only [Act.put, List.getElem_toArray, List.getElem_cons_succ, List.getElem_cons_zero, List.setIfInBounds_toArray, List.set_cons_succ, List.set_cons_zero]
              apply takeH (i := 10) 31 rfl (by kernel_rfl) (by kernel_rfl) (by kernel_rfl) (fun _ _ _ h => h) rfl (by first | exact M.out.blk 0 rfl | exact KEPT.out)
              case' hy => exact yld_cat _ _ _ _ rfl rfl _ _ rfl rfl rfl (by simp only [List.length_append, List.length_cons, List.length_nil]; omega)
              try simp only [Act.put, List.getElem_toArray, List.getElem_cons_succ, List.getElem_cons_zero, List.setIfInBounds_toArray, List.set_cons_succ, List.set_cons_zero]
              apply takeH (i := 14) 35 rfl (by kernel_rfl) (by kernel_rfl) (by kernel_rfl) (fun _ _ _ h => h) rfl (by first | exact M.out.blk 0 rfl | exact KEPT.out)
              case' hy => exact yld_cat _ _ _ _ rfl rfl _ _ rfl rfl rfl (by simp only [List.length_append, List.length_cons, List.length_nil]; omega)
              try simp only [Act.put, List.getElem_toArray, List.getElem_cons_succ, List.getElem_cons_zero, List.setIfInBounds_toArray, List.set_cons_succ, List.set_cons_zero]
              apply takeH (i := 15) 36 rfl (by kernel_rfl) (by kernel_rfl) (by kernel_rfl) (fun _ _ _ h => h) rfl (by first | exact M.out.blk 0 rfl | exact KEPT.out)
              case' hy => exact yld_cat _ _ _ _ rfl rfl _ _ rfl rfl rfl (by simp only [List.length_append, List.length_cons, List.length_nil]; omega)
              try simp only [Act.put, List.getElem_toArray, List.getElem_cons_succ, List.getElem_cons_zero, List.setIfInBounds_toArray, List.set_cons_succ, List.set_cons_zero]
              refine any1H 16 (by kernel_rfl) rfl (fun K hK => ?_)
              go_wp2_with (first | ((with_reducible refine gate_dst (N := 23) rfl ?_); go_must (refine M.out.ev_ld 0 _ _ rfl rfl rfl Tryd.underlying55 rfl rfl (by first | assumption | rfl) ?_)) | ((with_reducible refine gate_dst (N := 26) rfl ?_); go_must (refine ev_cat _ _ _ _ rfl rfl _ _ rfl rfl rfl (by simp only [List.length_append, List.length_cons, List.length_nil]; omega) ?_)) | ((with_reducible refine gate_dst (N := 28) rfl ?_); go_must (refine M.out.ev_ld 0 _ _ rfl rfl rfl Tryd.underlying56 rfl rfl (by first | assumption | rfl) ?_)) | ((with_reducible refine gate_dst (N := 30) rfl ?_); go_must (refine ev_cat _ _ _ _ rfl rfl _ _ rfl rfl rfl (by simp only [List.length_append, List.length_cons, List.length_nil]; omega) ?_)) | ((with_reducible refine gate_dst (N := 31) rfl ?_); go_must (refine ev_cat _ _ _ _ rfl rfl _ _ rfl rfl rfl (by simp only [List.length_append, List.length_cons, List.length_nil]; omega) ?_)) | ((with_reducible refine gate_dst (N := 33) rfl ?_); go_must (refine M.out.ev_ld 0 _ _ rfl rfl rfl Tryd.underlying56 rfl rfl (by first | assumption | rfl) ?_)) | ((with_reducible refine gate_dst (N := 35) rfl ?_); go_must (refine ev_cat _ _ _ _ rfl rfl _ _ rfl rfl rfl (by simp only [List.length_append, List.length_cons, List.length_nil]; omega) ?_)) | ((with_reducible refine gate_dst (N := 36) rfl ?_); go_must (refine ev_cat _ _ _ _ rfl rfl _ _ rfl rfl rfl (by simp only [List.length_append, List.length_cons, List.length_nil]; omega) ?_)) | ((with_reducible refine gate_dst (N := 25) rfl ?_); go_must (refine ev_get _ _ rfl rfl (M.out.cell 1 rfl (j := a) (by rw [List.getElem?_toArray]; exact HF4.out)) Tryd.underlying9 rfl rfl ?_)) | (go_at_call 37; go_must (refine (whats_any _).mono ?_); rintro e w_ ⟨gw, rfl, N_⟩; have m := M.out.join N_; clear N_; simp only [List.cons_append, List.nil_append, List.append_nil] at m; have M := Lib.hid m; clear m) | (go_at_call 38; go_must (first | (refine Calls.mono (calls_args (by with_reducible rfl) (DC.out _ (M.out.tab (M0.out.tab HT.out)))) ?_) | (refine Calls.mono (calls_args (by with_reducible rfl) (DD.out _ (M.out.tab (M0.out.tab HT.out)))) ?_)); rintro e w_ ⟨rfl, N_⟩; have m := M.out.join N_; clear N_; simp only [List.cons_append, List.nil_append, List.append_nil] at m; have M := Lib.hid m; clear m) | (go_at_call 36; go_must (refine (WriteString_any _ (BB.out.kept M.out.below) (by simp only [List.length_append, List.length_cons, List.length_nil]; omega)).mono ?_); rintro e w_ ⟨rfl, B_, K_⟩; have KEPT := Lib.hid (K_ _ _ (M.out.blk 0 rfl) (by have h1 := M.out.base 0 rfl; have h2 := BB.out.lt; simp; omega) (fun c fz h => by cases h)); have B2 := Lib.hid B_; clear B_ K_))
              refine onward_normal (hK _ _ ⟨(by first | exact M.out.blk 0 rfl | exact KEPT.out), ?_⟩)
              clear hK K
              try simp only [Act.put, List.getElem_toArray, List.getElem_cons_succ, List.getElem_cons_zero, List.setIfInBounds_toArray, List.set_cons_succ, List.set_cons_zero]
              refine wpAnyH_done (by kernel_rfl) ?_ _
            rotate_right 1
            case' _ =>
              go_wp2_with (first | ((with_reducible refine gate_dst (N := 23) rfl ?_); go_must (refine M.out.ev_ld 0 _ _ rfl rfl rfl Tryd.underlying55 rfl rfl (by first | assumption | rfl) ?_)) | ((with_reducible refine gate_dst (N := 26) rfl ?_); go_must (refine ev_cat _ _ _ _ rfl rfl _ _ rfl rfl rfl (by simp only [List.length_append, List.length_cons, List.length_nil]; omega) ?_)) | ((with_reducible refine gate_dst (N := 28) rfl ?_); go_must (refine M.out.ev_ld 0 _ _ rfl rfl rfl Tryd.underlying56 rfl rfl (by first | assumption | rfl) ?_)) | ((with_reducible refine gate_dst (N := 30) rfl ?_); go_must (refine ev_cat _ _ _ _ rfl rfl _ _ rfl rfl rfl (by simp only [List.length_append, List.length_cons, List.length_nil]; omega) ?_)) | ((with_reducible refine gate_dst (N := 31) rfl ?_); go_must (refine ev_cat _ _ _ _ rfl rfl _ _ rfl rfl rfl (by simp only [List.length_append, List.length_cons, List.length_nil]; omega) ?_)) | ((with_reducible refine gate_dst (N := 33) rfl ?_); go_must (refine M.out.ev_ld 0 _ _ rfl rfl rfl Tryd.underlying56 rfl rfl (by first | assumption | rfl) ?_)) | ((with_reducible refine gate_dst (N := 35) rfl ?_); go_must (refine ev_cat _ _ _ _ rfl rfl _ _ rfl rfl rfl (by simp only [List.length_append, List.length_cons, List.length_nil]; omega) ?_)) | ((with_reducible refine gate_dst (N := 36) rfl ?_); go_must (refine ev_cat _ _ _ _ rfl rfl _ _ rfl rfl rfl (by simp only [List.length_append, List.length_cons, List.length_nil]; omega) ?_)) | ((with_reducible refine gate_dst (N := 25) rfl ?_); go_must (refine ev_get _ _ rfl rfl (M.out.cell 1 rfl (j := a) (by rw [List.getElem?_toArray]; exact HF4.out)) Tryd.underlying9 rfl rfl ?_)) | (go_at_call 37; go_must (refine (whats_any _).mono ?_); rintro e w_ ⟨gw, rfl, N_⟩; have m := M.out.join N_; clear N_; simp only [List.cons_append, List.nil_append, List.append_nil] at m; have M := Lib.hid m; clear m) | (go_at_call 38; go_must (first | (refine Calls.mono (calls_args (by with_reducible rfl) (DC.out _ (M.out.tab (M0.out.tab HT.out)))) ?_) | (refine Calls.mono (calls_args (by with_reducible rfl) (DD.out _ (M.out.tab (M0.out.tab HT.out)))) ?_)); rintro e w_ ⟨rfl, N_⟩; have m := M.out.join N_; clear N_; simp only [List.cons_append, List.nil_append, List.append_nil] at m; have M := Lib.hid m; clear m) | (go_at_call 36; go_must (refine (WriteString_any _ (BB.out.kept M.out.below) (by simp only [List.length_append, List.length_cons, List.length_nil]; omega)).mono ?_); rintro e w_ ⟨rfl, B_, K_⟩; have KEPT := Lib.hid (K_ _ _ (M.out.blk 0 rfl) (by have h1 := M.out.base 0 rfl; have h2 := BB.out.lt; simp; omega) (fun c fz h => by cases h)); have B2 := Lib.hid B_; clear B_ K_))
              refine onward_normal (hK _ _ ⟨(by first | exact M.out.blk 0 rfl | exact KEPT.out), ?_⟩)
              clear hK K
              try simp only [Act.put, List.getElem_toArray, List.getElem_cons_succ, List.getElem_cons_zero, List.setIfInBounds_toArray, List.set_cons_succ, List.set_cons_zero]
              apply takeH (i := 5) 26 rfl (by kernel_rfl) (by kernel_rfl) (by kernel_rfl) (fun _ _ _ h => h) rfl (by first | exact M.out.blk 0 rfl | exact KEPT.out)
              case' hy => exact yld_cat _ _ _ _ rfl rfl _ _ rfl rfl rfl (by simp only [List.length_append, List.length_cons, List.length_nil]; omega)
              try simp only [Act.put, List.getElem_toArray, List.getElem_cons_succ, List.getElem_cons_zero, List.setIfInBounds_toArray, List.set_cons_succ, List.set_cons_zero]
              apply takeH (i := 9) 30 rfl (by kernel_rfl) (by kernel_rfl) (by kernel_rfl) (fun _ _ _ h => h) rfl (by first | exact M.out.blk 0 rfl | exact KEPT.out)
              case' hy => exact yld_cat _ _ _ _ rfl rfl _ _ rfl rfl rfl (by simp only [List.length_append, List.length_cons, List.length_nil]; omega)
              try simp only [Act.put, List.getElem_toArray, List.getElem_cons_succ, List.getElem_cons_zero, List.setIfInBounds_toArray, List.set_cons_succ, List.set_cons_zero]
              apply takeH (i := 10) 31 rfl (by kernel_rfl) (by kernel_rfl) (by kernel_rfl) (fun _ _ _ h => h) rfl (by first | exact M.out.blk 0 rfl | exact KEPT.out)
              case' hy => exact yld_cat _ _ _ _ rfl rfl _ _ rfl rfl rfl (by simp only [List.length_append, List.length_cons, List.length_nil]; omega)
              try simp only [Act.put, List.getElem_toArray, List.getElem_cons_succ, List.getElem_cons_zero, List.setIfInBounds_toArray, List.set_cons_succ, List.set_cons_zero]
              refine any1H 13 (by kernel_rfl) rfl (fun K hK => ?_)
              go_wp2_with (first | ((with_reducible refine gate_dst (N := 23) rfl ?_); go_must (refine M.out.ev_ld 0 _ _ rfl rfl rfl Tryd.underlying55 rfl rfl (by first | assumption | rfl) ?_)) | ((with_reducible refine gate_dst (N := 26) rfl ?_); go_must (refine ev_cat _ _ _ _ rfl rfl _ _ rfl rfl rfl (by simp only [List.length_append, List.length_cons, List.length_nil]; omega) ?_)) | ((with_reducible refine gate_dst (N := 28) rfl ?_); go_must (refine M.out.ev_ld 0 _ _ rfl rfl rfl Tryd.underlying56 rfl rfl (by first | assumption | rfl) ?_)) | ((with_reducible refine gate_dst (N := 30) rfl ?_); go_must (refine ev_cat _ _ _ _ rfl rfl _ _ rfl rfl rfl (by simp only [List.length_append, List.length_cons, List.length_nil]; omega) ?_)) | ((with_reducible refine gate_dst (N := 31) rfl ?_); go_must (refine ev_cat _ _ _ _ rfl rfl _ _ rfl rfl rfl (by simp only [List.length_append, List.length_cons, List.length_nil]; omega) ?_)) | ((with_reducible refine gate_dst (N := 33) rfl ?_); go_must (refine M.out.ev_ld 0 _ _ rfl rfl rfl Tryd.underlying56 rfl rfl (by first | assumption | rfl) ?_)) | ((with_reducible refine gate_dst (N := 35) rfl ?_); go_must (refine ev_cat _ _ _ _ rfl rfl _ _ rfl rfl rfl (by simp only [List.length_append, List.length_cons, List.length_nil]; omega) ?_)) | ((with_reducible refine gate_dst (N := 36) rfl ?_); go_must (refine ev_cat _ _ _ _ rfl rfl _ _ rfl rfl rfl (by simp only [List.length_append, List.length_cons, List.length_nil]; omega) ?_)) | ((with_reducible refine gate_dst (N := 25) rfl ?_); go_must (refine ev_get _ _ rfl rfl (M.out.cell 1 rfl (j := a) (by rw [List.getElem?_toArray]; exact HF4.out)) Tryd.underlying9 rfl rfl ?_)) | (go_at_call 37; go_must (refine (whats_any _).mono ?_); rintro e w_ ⟨gw, rfl, N_⟩; have m := M.out.join N_; clear N_; simp only [List.cons_append, List.nil_append, List.append_nil] at m; have M := Lib.hid m; clear m) | (go_at_call 38; go_must (first | (refine Calls.mono (calls_args (by with_reducible rfl) (DC.out _ (M.out.tab (M0.out.tab HT.out)))) ?_) | (refine Calls.mono (calls_args (by with_reducible rfl) (DD.out _ (M.out.tab (M0.out.tab HT.out)))) ?_)); rintro e w_ ⟨rfl, N_⟩; have m := M.out.join N_; clear N_; simp only [List.cons_append, List.nil_append, List.append_nil] at m; have M := Lib.hid m; clear m) | (go_at_call 36; go_must (refine (WriteString_any _ (BB.out.kept M.out.below) (by simp only [List.length_append, List.length_cons, List.length_nil]; omega)).mono ?_); rintro e w_ ⟨rfl, B_, K_⟩; have KEPT := Lib.hid (K_ _ _ (M.out.blk 0 rfl) (by have h1 := M.out.base 0 rfl; have h2 := BB.out.lt; simp; omega) (fun c fz h => by cases h)); have B2 := Lib.hid B_; clear B_ K_))
              refine onward_normal (hK _ _ ⟨(by first | exact M.out.blk 0 rfl | exact KEPT.out), ?_⟩)
              clear hK K
              try simp only [Act.put, List.getElem_toArray, List.getElem_cons_succ, List.getElem_cons_zero, List.setIfInBounds_toArray, List.set_cons_succ, List.set_cons_zero]
              apply takeH (i := 14) 35 rfl (by kernel_rfl) (by kernel_rfl) (by kernel_rfl) (fun _ _ _ h => h) rfl (by first | exact M.out.blk 0 rfl | exact KEPT.out)
              case' hy => exact yld_cat _ _ _ _ rfl rfl _ _ rfl rfl rfl (by simp only [List.length_append, List.length_cons, List.length_nil]; omega)
              try simp only [Act.put, List.getElem_toArray, List.getElem_cons_succ, List.getElem_cons_zero, List.setIfInBounds_toArray, List.set_cons_succ, List.set_cons_zero]
              apply takeH (i := 15) 36 rfl (by kernel_rfl) (by kernel_rfl) (by kernel_rfl) (fun _ _ _ h => h) rfl (by first | exact M.out.blk 0 rfl | exact KEPT.out)
              case' hy => exact yld_cat _ _ _ _ rfl rfl _ _ rfl rfl rfl (by simp only [List.length_append, List.length_cons, List.length_nil]; omega)
              try simp only [Act.put, List.getElem_toArray, List.getElem_cons_succ, List.getElem_cons_zero, List.setIfInBounds_toArray, List.set_cons_succ, List.set_cons_zero]
              refine any1H 16 (by kernel_rfl) rfl (fun K hK => ?_)
              go_wp2_with (first | ((with_reducible refine gate_dst (N := 23) rfl ?_); go_must (refine M.out.ev_ld 0 _ _ rfl rfl rfl Tryd.underlying55 rfl rfl (by first | assumption | rfl) ?_)) | ((with_reducible refine gate_dst (N := 26) rfl ?_); go_must (refine ev_cat _ _ _ _ rfl rfl _ _ rfl rfl rfl (by simp only [List.length_append, List.length_cons, List.length_nil]; omega) ?_)) | ((with_reducible refine gate_dst (N := 28) rfl ?_); go_must (refine M.out.ev_ld 0 _ _ rfl rfl rfl Tryd.underlying56 rfl rfl (by first | assumption | rfl) ?_)) | ((with_reducible refine gate_dst (N := 30) rfl ?_); go_must (refine ev_cat _ _ _ _ rfl rfl _ _ rfl rfl rfl (by simp only [List.length_append, List.length_cons, List.length_nil]; omega) ?_)) | ((with_reducible refine gate_dst (N := 31) rfl ?_); go_must (refine ev_cat _ _ _ _ rfl rfl _ _ rfl rfl rfl (by simp only [List.length_append, List.length_cons, List.length_nil]; omega) ?_)) | ((with_reducible refine gate_dst (N := 33) rfl ?_); go_must (refine M.out.ev_ld 0 _ _ rfl rfl rfl Tryd.underlying56 rfl rfl (by first | assumption | rfl) ?_)) | ((with_reducible refine gate_dst (N := 35) rfl ?_); go_must (refine ev_cat _ _ _ _ rfl rfl _ _ rfl rfl rfl (by simp only [List.length_append, List.length_cons, List.length_nil]; omega) ?_)) | ((with_reducible refine gate_dst (N := 36) rfl ?_); go_must (refine ev_cat _ _ _ _ rfl rfl _ _ rfl rfl rfl (by simp only [List.length_append, List.length_cons, List.length_nil]; omega) ?_)) | ((with_reducible refine gate_dst (N := 25) rfl ?_); go_must (refine ev_get _ _ rfl rfl (M.out.cell 1 rfl (j := a) (by rw [List.getElem?_toArray]; exact HF4.out)) Tryd.underlying9 rfl rfl ?_)) | (go_at_call 37; go_must (refine (whats_any _).mono ?_); rintro e w_ ⟨gw, rfl, N_⟩; have m := M.out.join N_; clear N_; simp only [List.cons_append, List.nil_append, List.append_nil] at m; have M := Lib.hid m; clear m) | (go_at_call 38; go_must (first | (refine Calls.mono (calls_args (by with_reducible rfl) (DC.out _ (M.out.tab (M0.out.tab HT.out)))) ?_) | (refine Calls.mono (calls_args (by with_reducible rfl) (DD.out _ (M.out.tab (M0.out.tab HT.out)))) ?_)); rintro e w_ ⟨rfl, N_⟩; have m := M.out.join N_; clear N_; simp only [List.cons_append, List.nil_append, List.append_nil] at m; have M := Lib.hid m; clear m) | (go_at_call 36; go_must (refine (WriteString_any _ (BB.out.kept M.out.below) (by simp only [List.length_append, List.length_cons, List.length_nil]; omega)).mono ?_); rintro e w_ ⟨rfl, B_, K_⟩; have KEPT := Lib.hid (K_ _ _ (M.out.blk 0 rfl) (by have h1 := M.out.base 0 rfl; have h2 := BB.out.lt; simp; omega) (fun c fz h => by cases h)); have B2 := Lib.hid B_; clear B_ K_))
              refine onward_normal (hK _ _ ⟨(by first | exact M.out.blk 0 rfl | exact KEPT.out), ?_⟩)
              clear hK K
              try simp only [Act.put, List.getElem_toArray, List.getElem_cons_succ, List.getElem_cons_zero, List.setIfInBounds_toArray, List.set_cons_succ, List.set_cons_zero]
              refine wpAnyH_done (by kernel_rfl) ?_ _
          rotate_right 1
          case' _ =>
            go_wp2_with (first | ((with_reducible refine gate_dst (N := 23) rfl ?_); go_must (refine M.out.ev_ld 0 _ _ rfl rfl rfl Tryd.underlying55 rfl rfl (by first | assumption | rfl) ?_)) | ((with_reducible refine gate_dst (N := 26) rfl ?_); go_must (refine ev_cat _ _ _ _ rfl rfl _ _ rfl rfl rfl (by simp only [List.length_append, List.length_cons, List.length_nil]; omega) ?_)) | ((with_reducible refine gate_dst (N := 28) rfl ?_); go_must (refine M.out.ev_ld 0 _ _ rfl rfl rfl Tryd.underlying56 rfl rfl (by first | assumption | rfl) ?_)) | ((with_reducible refine gate_dst (N := 30) rfl ?_); go_must (refine ev_cat _ _ _ _ rfl rfl _ _ rfl rfl rfl (by simp only [List.length_append, List.length_cons, List.length_nil]; omega) ?_)) | ((with_reducible refine gate_dst (N := 31) rfl ?_); go_must (refine ev_cat _ _ _ _ rfl rfl _ _ rfl rfl rfl (by simp only [List.length_append, List.length_cons, List.length_nil]; omega) ?_)) | ((with_reducible refine gate_dst (N := 33) rfl ?_); go_must (refine M.out.ev_ld 0 _ _ rfl rfl rfl Tryd.underlying56 rfl rfl (by first | assumption | rfl) ?_)) | ((with_reducible refine gate_dst (N := 35) rfl ?_); go_must (refine ev_cat _ _ _ _ rfl rfl _ _ rfl rfl rfl (by simp only [List.length_append, List.length_cons, List.length_nil]; omega) ?_)) | ((with_reducible refine gate_dst (N := 36) rfl ?_); go_must (refine ev_cat _ _ _ _ rfl rfl _ _ rfl rfl rfl (by simp only [List.length_append, List.length_cons, List.length_nil]; omega) ?_)) | ((with_reducible refine gate_dst (N := 25) rfl ?_); go_must (refine ev_get _ _ rfl rfl (M.out.cell 1 rfl (j := a) (by rw [List.getElem?_toArray]; exact HF4.out)) Tryd.underlying9 rfl rfl ?_)) | (go_at_call 37; go_must (refine (whats_any _).mono ?_); rintro e w_ ⟨gw, rfl, N_⟩; have m := M.out.join N_; clear N_; simp only [List.cons_append, List.nil_append, List.append_nil] at m; have M := Lib.hid m; clear m) | (go_at_call 38; go_must (first | (refine Calls.mono (calls_args (by with_reducible rfl) (DC.out _ (M.out.tab (M0.out.tab HT.out)))) ?_) | (refine Calls.mono (calls_args (by with_reducible rfl) (DD.out _ (M.out.tab (M0.out.tab HT.out)))) ?_)); rintro e w_ ⟨rfl, N_⟩; have m := M.out.join N_; clear N_; simp only [List.cons_append, List.nil_append, List.append_nil] at m; have M := Lib.hid m; clear m) | (go_at_call 36; go_must (refine (WriteString_any _ (BB.out.kept M.out.below) (by simp only [List.length_append, List.length_cons, List.length_nil]; omega)).mono ?_); rintro e w_ ⟨rfl, B_, K_⟩; have KEPT := Lib.hid (K_ _ _ (M.out.blk 0 rfl) (by have h1 := M.out.base 0 rfl; have h2 := BB.out.lt; simp; omega) (fun c fz h => by cases h)); have B2 := Lib.hid B_; clear B_ K_))
            refine onward_normal (hK _ _ ⟨(by first | exact M.out.blk 0 rfl | exact KEPT.out), ?_⟩)
            clear hK K
            try simp only [Act.put, List.getElem_toArray, List.getElem_cons_succ, List.getElem_cons_zero, List.setIfInBounds_toArray, List.set_cons_succ, List.set_cons_zero]
            apply takeH (i := 5) 26 rfl (by kernel_rfl) (by kernel_rfl) (by kernel_rfl) (fun _ _ _ h => h) rfl (by first | exact M.out.blk 0 rfl | exact KEPT.out)
            case' hy => exact yld_cat _ _ _ _ rfl rfl _ _ rfl rfl rfl (by simp only [List.length_append, List.length_cons, List.length_nil]; omega)
            try simp only [Act.put, List.getElem_toArray, List.getElem_cons_succ, List.getElem_cons_zero, List.setIfInBounds_toArray, List.set_cons_succ, List.set_cons_zero]
            refine any1H 8 (by kernel_rfl) rfl (fun K hK => ?_)
            go_wp2_with (first | ((with_reducible refine gate_dst (N := 23) rfl ?_); go_must (refine M.out.ev_ld 0 _ _ rfl rfl rfl Tryd.underlying55 rfl rfl (by first | assumption | rfl) ?_)) | ((with_reducible refine gate_dst (N := 26) rfl ?_); go_must (refine ev_cat _ _ _ _ rfl rfl _ _ rfl rfl rfl (by simp only [List.length_append, List.length_cons, List.length_nil]; omega) ?_)) | ((with_reducible refine gate_dst (N := 28) rfl ?_); go_must (refine M.out.ev_ld 0 _ _ rfl rfl rfl Tryd.underlying56 rfl rfl (by first | assumption | rfl) ?_)) | ((with_reducible refine gate_dst (N := 30) rfl ?_); go_must (refine ev_cat _ _ _ _ rfl rfl _ _ rfl rfl rfl (by simp only [List.length_append, List.length_cons, List.length_nil]; omega) ?_)) | ((with_reducible refine gate_dst (N := 31) rfl ?_); go_must (refine ev_cat _ _ _ _ rfl rfl _ _ rfl rfl rfl (by simp only [List.length_append, List.length_cons, List.length_nil]; omega) ?_)) | ((with_reducible refine gate_dst (N := 33) rfl ?_); go_must (refine M.out.ev_ld 0 _ _ rfl rfl rfl Tryd.underlying56 rfl rfl (by first | assumption | rfl) ?_)) | ((with_reducible refine gate_dst (N := 35) rfl ?_); go_must (refine ev_cat _ _ _ _ rfl rfl _ _ rfl rfl rfl (by simp only [List.length_append, List.length_cons, List.length_nil]; omega) ?_)) | ((with_reducible refine gate_dst (N := 36) rfl ?_); go_must (refine ev_cat _ _ _ _ rfl rfl _ _ rfl rfl rfl (by simp only [List.length_append, List.length_cons, List.length_nil]; omega) ?_)) | ((with_reducible refine gate_dst (N := 25) rfl ?_); go_must (refine ev_get _ _ rfl rfl (M.out.cell 1 rfl (j := a) (by rw [List.getElem?_toArray]; exact HF4.out)) Tryd.underlying9 rfl rfl ?_)) | (go_at_call 37; go_must (refine (whats_any _).mono ?_); rintro e w_ ⟨gw, rfl, N_⟩; have m := M.out.join N_; clear N_; simp only [List.cons_append, List.nil_append, List.append_nil] at m; have M := Lib.hid m; clear m) | (go_at_call 38; go_must (first | (refine Calls.mono (calls_args (by with_reducible rfl) (DC.out _ (M.out.tab (M0.out.tab HT.out)))) ?_) | (refine Calls.mono (calls_args (by with_reducible rfl) (DD.out _ (M.out.tab (M0.out.tab HT.out)))) ?_)); rintro e w_ ⟨rfl, N_⟩; have m := M.out.join N_; clear N_; simp only [List.cons_append, List.nil_append, List.append_nil] at m; have M := Lib.hid m; clear m) | (go_at_call 36; go_must (refine (WriteString_any _ (BB.out.kept M.out.below) (by simp only [List.length_append, List.length_cons, List.length_nil]; omega)).mono ?_); rintro e w_ ⟨rfl, B_, K_⟩; have KEPT := Lib.hid (K_ _ _ (M.out.blk 0 rfl) (by have h1 := M.out.base 0 rfl; have h2 := BB.out.lt; simp; omega) (fun c fz h => by cases h)); have B2 := Lib.hid B_; clear B_ K_))
            refine onward_normal (hK _ _ ⟨(by first | exact M.out.blk 0 rfl | exact KEPT.out), ?_⟩)
            clear hK K
            try simp only [Act.put, List.getElem_toArray, List.getElem_cons_succ, List.getElem_cons_zero, List.setIfInBounds_toArray, List.set_cons_succ, List.set_cons_zero]
            apply takeH (i := 9) 30 rfl (by kernel_rfl) (by kernel_rfl) (by kernel_rfl) (fun _ _ _ h => h) rfl (by first | exact M.out.blk 0 rfl | exact KEPT.out)
            case' hy => exact yld_cat _ _ _ _ rfl rfl _ _ rfl rfl rfl (by simp only [List.length_append, List.length_cons, List.length_nil]; omega)
            try simp only [Act.put, List.getElem_toArray, List.getElem_cons_succ, List.getElem_cons_zero, List.setIfInBounds_toArray, List.set_cons_succ, List.set_cons_zero]
            apply takeH (i := 10) 31 rfl (by kernel_rfl) (by kernel_rfl) (by kernel_rfl) (fun _ _ _ h => h) rfl (by first | exact M.out.blk 0 rfl | exact KEPT.out)
            case' hy => exact yld_cat _ _ _ _ rfl rfl _ _ rfl rfl rfl (by simp only [List.length_append, List.length_cons, List.length_nil]; omega)
            try simp only [Act.put, List.getElem_toArray, List.getElem_cons_succ, List.getElem_cons_zero, List.setIfInBounds_toArray, List.set_cons_succ, List.set_cons_zero]
            refine any1H 13 (by kernel_rfl) rfl (fun K hK => ?_)
            go_wp2_with (first | ((with_reducible refine gate_dst (N := 23) rfl ?_); go_must (refine M.out.ev_ld 0 _ _ rfl rfl rfl Tryd.underlying55 rfl rfl (by first | assumption | rfl) ?_)) | ((with_reducible refine gate_dst (N := 26) rfl ?_); go_must (refine ev_cat _ _ _ _ rfl rfl _ _ rfl rfl rfl (by simp only [List.length_append, List.length_cons, List.length_nil]; omega) ?_)) | ((with_reducible refine gate_dst (N := 28) rfl ?_); go_must (refine M.out.ev_ld 0 _ _ rfl rfl rfl Tryd.underlying56 rfl rfl (by first | assumption | rfl) ?_)) | ((with_reducible refine gate_dst (N := 30) rfl ?_); go_must (refine ev_cat _ _ _ _ rfl rfl _ _ rfl rfl rfl (by simp only [List.length_append, List.length_cons, List.length_nil]; omega) ?_)) | ((with_reducible refine gate_dst (N := 31) rfl ?_); go_must (refine ev_cat _ _ _ _ rfl rfl _ _ rfl rfl rfl (by simp only [List.length_append, List.length_cons, List.length_nil]; omega) ?_)) | ((with_reducible refine gate_dst (N := 33) rfl ?_); go_must (refine M.out.ev_ld 0 _ _ rfl rfl rfl Tryd.underlying56 rfl rfl (by first | assumption | rfl) ?_)) | ((with_reducible refine gate_dst (N := 35) rfl ?_); go_must (refine ev_cat _ _ _ _ rfl rfl _ _ rfl rfl rfl (by simp only [List.length_append, List.length_cons, List.length_nil]; omega) ?_)) | ((with_reducible refine gate_dst (N := 36) rfl ?_); go_must (refine ev_cat _ _ _ _ rfl rfl _ _ rfl rfl rfl (by simp only [List.length_append, List.length_cons, List.length_nil]; omega) ?_)) | ((with_reducible refine gate_dst (N := 25) rfl ?_); go_must (refine ev_get _ _ rfl rfl (M.out.cell 1 rfl (j := a) (by rw [List.getElem?_toArray]; exact HF4.out)) Tryd.underlying9 rfl rfl ?_)) | (go_at_call 37; go_must (refine (whats_any _).mono ?_); rintro e w_ ⟨gw, rfl, N_⟩; have m := M.out.join N_; clear N_; simp only [List.cons_append, List.nil_append, List.append_nil] at m; have M := Lib.hid m; clear m) | (go_at_call 38; go_must (first | (refine Calls.mono (calls_args (by with_reducible rfl) (DC.out _ (M.out.tab (M0.out.tab HT.out)))) ?_) | (refine Calls.mono (calls_args (by with_reducible rfl) (DD.out _ (M.out.tab (M0.out.tab HT.out)))) ?_)); rintro e w_ ⟨rfl, N_⟩; have m := M.out.join N_; clear N_; simp only [List.cons_append, List.nil_append, List.append_nil] at m; have M := Lib.hid m; clear m) | (go_at_call 36; go_must (refine (WriteString_any _ (BB.out.kept M.out.below) (by simp only [List.length_append, List.length_cons, List.length_nil]; omega)).mono ?_); rintro e w_ ⟨rfl, B_, K_⟩; have KEPT := Lib.hid (K_ _ _ (M.out.blk 0 rfl) (by have h1 := M.out.base 0 rfl; have h2 := BB.out.lt; simp; omega) (fun c fz h => by cases h)); have B2 := Lib.hid B_; clear B_ K_))
            refine onward_normal (hK _ _ ⟨(by first | exact M.out.blk 0 rfl | exact KEPT.out), ?_⟩)
            clear hK K
            try simp only [Act.put, List.getElem_toArray, List.getElem_cons_succ, List.getElem_cons_zero, List.setIfInBounds_toArray, List.set_cons_succ, List.set_cons_zero]
            apply takeH (i := 14) 35 rfl (by kernel_rfl) (by kernel_rfl) (by kernel_rfl) (fun _ _ _ h => h) rfl (by first | exact M.out.blk 0 rfl | exact KEPT.out)
            case' hy => exact yld_cat _ _ _ _ rfl rfl _ _ rfl rfl rfl (by simp only [List.length_append, List.length_cons, List.length_nil]; omega)
            try simp only [Act.put, List.getElem_toArray, List.getElem_cons_succ, List.getElem_cons_zero, List.setIfInBounds_toArray, List.set_cons_succ, List.set_cons_zero]
            apply takeH (i := 15) 36 rfl (by kernel_rfl) (by kernel_rfl) (by kernel_rfl) (fun _ _ _ h => h) rfl (by first | exact M.out.blk 0 rfl | exact KEPT.out)
            case' hy => exact yld_cat _ _ _ _ rfl rfl _ _ rfl rfl rfl (by simp only [List.length_append, List.length_cons, List.length_nil]; omega)
            try simp only [Act.put, List.getElem_toArray, List.getElem_cons_succ, List.getElem_cons_zero, List.setIfInBounds_toArray, List.set_cons_succ, List.set_cons_zero]
            refine any1H 16 (by kernel_rfl) rfl (fun K hK => ?_)
            go_wp2_with (first | ((with_reducible refine gate_dst (N := 23) rfl ?_); go_must (refine M.out.ev_ld 0 _ _ rfl rfl rfl Tryd.underlying55 rfl rfl (by first | assumption | rfl) ?_)) | ((with_reducible refine gate_dst (N := 26) rfl ?_); go_must (refine ev_cat _ _ _ _ rfl rfl _ _ rfl rfl rfl (by simp only [List.length_append, List.length_cons, List.length_nil]; omega) ?_)) | ((with_reducible refine gate_dst (N := 28) rfl ?_); go_must (refine M.out.ev_ld 0 _ _ rfl rfl rfl Tryd.underlying56 rfl rfl (by first | assumption | rfl) ?_)) | ((with_reducible refine gate_dst (N := 30) rfl ?_); go_must (refine ev_cat _ _ _ _ rfl rfl _ _ rfl rfl rfl (by simp only [List.length_append, List.length_cons, List.length_nil]; omega) ?_)) | ((with_reducible refine gate_dst (N := 31) rfl ?_); go_must (refine ev_cat _ _ _ _ rfl rfl _ _ rfl rfl rfl (by simp only [List.length_append, List.length_cons, List.length_nil]; omega) ?_)) | ((with_reducible refine gate_dst (N := 33) rfl ?_); go_must (refine M.out.ev_ld 0 _ _ rfl rfl rfl Tryd.underlying56 rfl rfl (by first | assumption | rfl) ?_)) | ((with_reducible refine gate_dst (N := 35) rfl ?_); go_must (refine ev_cat _ _ _ _ rfl rfl _ _ rfl rfl rfl (by simp only [List.length_append, List.length_cons, List.length_nil]; omega) ?_)) | ((with_reducible refine gate_dst (N := 36) rfl ?_); go_must (refine ev_cat _ _ _ _ rfl rfl _ _ rfl rfl rfl (by simp only [List.length_append, List.length_cons, List.length_nil]; omega) ?_)) | ((with_reducible refine gate_dst (N := 25) rfl ?_); go_must (refine ev_get _ _ rfl rfl (M.out.cell 1 rfl (j := a) (by rw [List.getElem?_toArray]; exact HF4.out)) Tryd.underlying9 rfl rfl ?_)) | (go_at_call 37; go_must (refine (whats_any _).mono ?_); rintro e w_ ⟨gw, rfl, N_⟩; have m := M.out.join N_; clear N_; simp only [List.cons_append, List.nil_append, List.append_nil] at m; have M := Lib.hid m; clear m) | (go_at_call 38; go_must (first | (refine Calls.mono (calls_args (by with_reducible rfl) (DC.out _ (M.out.tab (M0.out.tab HT.out)))) ?_) | (refine Calls.mono (calls_args (by with_reducible rfl) (DD.out _ (M.out.tab (M0.out.tab HT.out)))) ?_)); rintro e w_ ⟨rfl, N_⟩; have m := M.out.join N_; clear N_; simp only [List.cons_append, List.nil_append, List.append_nil] at m; have M := Lib.hid m; clear m) | (go_at_call 36; go_must (refine (WriteString_any _ (BB.out.kept M.out.below) (by simp only [List.length_append, List.length_cons, List.length_nil]; omega)).mono ?_); rintro e w_ ⟨rfl, B_, K_⟩; have KEPT := Lib.hid (K_ _ _ (M.out.blk 0 rfl) (by have h1 := M.out.base 0 rfl; have h2 := BB.out.lt; simp; omega) (fun c fz h => by cases h)); have B2 := Lib.hid B_; clear B_ K_))
            refine onward_normal (hK _ _ ⟨(by first | exact M.out.blk 0 rfl | exact KEPT.out), ?_⟩)
            clear hK K
            try simp only [Act.put, List.getElem_toArray, List.getElem_cons_succ, List.getElem_cons_zero, List.setIfInBounds_toArray, List.set_cons_succ, List.set_cons_zero]
            refine wpAnyH_done (by kernel_rfl) ?_ _
          all_goals
            go_wp2
            refine ⟨⟨k + 1, by omega, by go_num, allT_succ hlt HE.out HFN.out, fun _ => h9, ?_⟩, by simp [intOf]; omega⟩
            have b := B2.out
            rw [HL.out, HE2.out]
            simp only [List.append_assoc, List.cons_append, List.nil_append] at b ⊢
            exact b
        · have i9 : (100 : Int) < (xs.length : Int) := by omega
          have HD := Lib.hid (show diaryT xs = [] by
            unfold diaryT
            rw [if_neg h9]
            split <;> rfl)
          clear h100
          go_wp2_with (first
            | ((with_reducible refine gate_dst (N := 12) rfl ?_); go_must (refine ev_ldr _ _ rfl rfl (R.out) Tryd.underlying58 rfl (by first | exact sz58 | (rw [S1.out]; exact sz58)) rfl ?_))
            | ((with_reducible refine gate_dst (N := 3) rfl ?_); go_must (refine M.out.ev_new rfl (by first | (go_simp; done) | (go_simp; rfl)) ?_); intro g3 w3 m; simp only [List.cons_append, List.nil_append] at m; have M := Lib.hid m; clear m; try have q0_0 := M.out.cell (j := 0) 0 rfl (by first | assumption | rfl); try have q0_1 := M.out.cell (j := 1) 0 rfl (by first | assumption | rfl); try have q0_2 := M.out.cell (j := 2) 0 rfl (by first | assumption | rfl))
            | ((with_reducible refine gate_store (x := .tmp 3) rfl ?_); go_must (refine M.out.ev_stw 0 _ _ _ rfl rfl rfl rfl _ rfl (by first | rfl | (simp only [S1.out]; rfl) | (simp only [S1.out, S2.out]; rfl) | (simp only [S3.out]; rfl) | (simp only [S1.out, S2.out, S3.out]; rfl)) (by first | exact sz64 | (rw [S1.out]; exact sz64) | (rw [S2.out]; exact sz64) | (rw [S3.out]; exact sz64)) (by first | exact ints_one _ _ | exact Fld.one _ | exact O1.out | exact Entry.one _ | rfl | (simp [Value.oneCell']; done)) rfl ?_); intro wn m; simp only [List.set_cons_succ, List.set_cons_zero, List.setIfInBounds_toArray] at m; have M := Lib.hid m; clear m; try have q0_0 := M.out.cell (j := 0) 0 rfl (by first | assumption | rfl); try have q0_1 := M.out.cell (j := 1) 0 rfl (by first | assumption | rfl); try have q0_2 := M.out.cell (j := 2) 0 rfl (by first | assumption | rfl))
            | ((with_reducible refine gate_dst (N := 5) rfl ?_); go_must (refine M.out.ev_new rfl (by first | (go_simp; done) | (go_simp; rfl)) ?_); intro g5 w5 m; simp only [List.cons_append, List.nil_append] at m; have M := Lib.hid m; clear m; try have q0_0 := M.out.cell (j := 0) 0 rfl (by first | assumption | rfl); try have q0_1 := M.out.cell (j := 1) 0 rfl (by first | assumption | rfl); try have q0_2 := M.out.cell (j := 2) 0 rfl (by first | assumption | rfl))
            | ((with_reducible refine gate_store (x := .tmp 5) rfl ?_); go_must (refine M.out.ev_stw 0 _ _ _ rfl rfl rfl rfl _ rfl (by first | rfl | (simp only [S1.out]; rfl) | (simp only [S1.out, S2.out]; rfl) | (simp only [S3.out]; rfl) | (simp only [S1.out, S2.out, S3.out]; rfl)) (by first | exact sz58 | (rw [S1.out]; exact sz58) | (rw [S2.out]; exact sz58) | (rw [S3.out]; exact sz58)) (by first | exact ints_one _ _ | exact Fld.one _ | exact O1.out | exact Entry.one _ | rfl | (simp [Value.oneCell']; done)) rfl ?_); intro wn m; simp only [List.set_cons_succ, List.set_cons_zero, List.setIfInBounds_toArray] at m; have M := Lib.hid m; clear m; try have q0_0 := M.out.cell (j := 0) 0 rfl (by first | assumption | rfl); try have q0_1 := M.out.cell (j := 1) 0 rfl (by first | assumption | rfl); try have q0_2 := M.out.cell (j := 2) 0 rfl (by first | assumption | rfl))
            | ((with_reducible refine gate_dst (N := 13) rfl ?_); go_must (refine M.out.ev_ldw 0 _ _ rfl rfl rfl Tryd.underlying58 rfl (by first | exact sz58 | (rw [S1.out]; exact sz58) | (rw [S2.out]; exact sz58) | (rw [S3.out]; exact sz58)) rfl ?_))
            | ((with_reducible refine gate_dst (N := 23) rfl ?_); go_must (refine M.out.ev_ld 0 _ _ rfl rfl rfl Tryd.underlying55 rfl rfl (by first | assumption | rfl) ?_))
            | ((with_reducible refine gate_dst (N := 26) rfl ?_); go_must (refine ev_cat _ _ _ _ rfl rfl _ _ rfl rfl rfl (by simp only [List.length_append, List.length_cons, List.length_nil]; omega) ?_))
            | ((with_reducible refine gate_dst (N := 28) rfl ?_); go_must (refine M.out.ev_ld 0 _ _ rfl rfl rfl Tryd.underlying56 rfl rfl (by first | assumption | rfl) ?_))
            | ((with_reducible refine gate_dst (N := 30) rfl ?_); go_must (refine ev_cat _ _ _ _ rfl rfl _ _ rfl rfl rfl (by simp only [List.length_append, List.length_cons, List.length_nil]; omega) ?_))
            | ((with_reducible refine gate_dst (N := 31) rfl ?_); go_must (refine ev_cat _ _ _ _ rfl rfl _ _ rfl rfl rfl (by simp only [List.length_append, List.length_cons, List.length_nil]; omega) ?_))
            | ((with_reducible refine gate_dst (N := 33) rfl ?_); go_must (refine M.out.ev_ld 0 _ _ rfl rfl rfl Tryd.underlying56 rfl rfl (by first | assumption | rfl) ?_))
            | ((with_reducible refine gate_dst (N := 35) rfl ?_); go_must (refine ev_cat _ _ _ _ rfl rfl _ _ rfl rfl rfl (by simp only [List.length_append, List.length_cons, List.length_nil]; omega) ?_))
            | ((with_reducible refine gate_dst (N := 36) rfl ?_); go_must (refine ev_cat _ _ _ _ rfl rfl _ _ rfl rfl rfl (by simp only [List.length_append, List.length_cons, List.length_nil]; omega) ?_))
            | (go_at_call 35; go_must (refine (isPlainE_any _ HO.out _).mono ?_); rintro e w_ ⟨rfl, N_⟩; have m := M.out.join N_; clear N_; simp only [List.cons_append, List.nil_append, List.append_nil] at m; have M := Lib.hid m; clear m; rw [HFN.out])
            )
          go_ret
          exact ⟨by rw [HD.out]; rfl, M0.out.kept M.out.below⟩
    · obtain rfl : k = xs.length := by omega
      have i1 : ¬ ((xs.length : Int) < (xs.length : Int)) := by omega
      have HA := Lib.hid (allT_of HE.out)
      have HD := Lib.hid (show diaryT xs = linesT xs by
        rw [diaryT, if_pos HA.out]
        rcases Nat.eq_zero_or_pos xs.length with h | h
        · rw [if_pos (by omega)]
        · rw [if_pos (h100 h)])
      have b := BB.out
      rw [List.take_length] at b
      have BB := Lib.hid b
      clear b h100 HE
      go_wp2_with (first
        | (go_at_call 39; go_must (refine (String_any BB.out).mono ?_); rintro e w_ ⟨rfl, N_⟩)
        )
      go_ret
      exact ⟨by rw [HD.out]; rfl, N_⟩
end Go.Proofs.YtifacledmmpnkaaDoor
