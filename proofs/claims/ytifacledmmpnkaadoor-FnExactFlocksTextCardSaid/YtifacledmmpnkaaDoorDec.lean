/- Numerals: the reference's and the program's are the library's. -/
import Derived.Test.YtifacledmmpnkaaDoorLibS
import Derived.Test.YtifacledmmpnkaaDoorHeld3
import Derived.Laws.IdiomStrings
namespace Go.Proofs.YtifacledmmpnkaaDoor
set_option linter.unusedSimpArgs false
set_option linter.unusedVariables false
open Go.RowKit
attribute [local go_sem] cell?_mk frozen?_mk

section
variable {P : Program} {ops : Array Oper} {Q : Exit → Act → World → Prop} {rest : List Oper} {a : Act} {w0 w : World} {L : List Ent} {o : Oper}
/-- A row of one byte made a text. -/
theorem Mem.ev_str1 (M : Mem w0 w L) (i : Nat) {src dst e : TypeId} (x : Operand) (ho : o.op = .convert src dst x) (hgd : o.guard = none) {g : Nat} (b : UInt8) (hL : L[i]? = some (.blk g e #[.int .u8 (b.toNat : Int)])) (hs : P.underlying src = some (.slice e)) (he : P.underlying e = some (.int .u8)) (hd : P.underlying dst = some .string)
    (hx : a.eval x = .slice (some ⟨g, 0, none⟩) 1 1) (h : wpList P ops Q rest (a.put o.dst (.string ⟨#[b]⟩)) w) : wpList P ops Q (o :: rest) a w := by
  have hr := run_convert_bytes_back (P := P) w src dst e ⟨g, 0, none⟩ 1 [b] hs he hd (fun j hj => by
    obtain rfl : j = 0 := by simpa using hj
    exact M.cell i hL (j := 0) rfl)
  refine wpList_plain hgd fun K hK => ?_
  unfold Oper.wp execOp
  simp only [ho, hx, Sem.run_bind]
  rw [show ([b] : List UInt8).length = 1 from rfl] at hr
  rw [hr]
  exact hK _ _ h
end
theorem dec_small {n : Nat} (h : n < 10) : (⟨(Lib.decDigits n).toArray⟩ : ByteArray) = ⟨#[UInt8.ofNat (48 + n)]⟩ := by rw [Lib.decDigits_one h]
theorem dec_big {n : Nat} (h : ¬ n < 10) : (⟨(Lib.decDigits n).toArray⟩ : ByteArray) = ⟨(Lib.decDigits (n / 10)).toArray⟩ ++ ⟨#[UInt8.ofNat (48 + n % 10)]⟩ := by
  rw [Lib.decDigits, dif_neg h]
  apply ByteArray.ext
  simp
theorem byte_of {n : Nat} (h : n < 10) : 48 + (n : Int) = ((UInt8.ofNat (48 + n)).toNat : Int) := by
  rw [UInt8.toNat_ofNat']
  omega
theorem dec_len {n : Nat} (h : n ≤ 1000000) : (Lib.decDigits n).length ≤ 21 := by
  have := Lib.itoa_length_le (n : Int) (by omega) (by omega)
  rwa [Lib.itoa_nonneg] at this
set_option maxRecDepth 100000 in
set_option maxHeartbeats 2000000 in
theorem Decimal_any : ∀ (n : Nat), n ≤ 1000000 → ∀ w : World, Calls Tryd.prog 68 #[.int .i64 n] w fun e w' => e = .returned (.string ⟨(Lib.decDigits n).toArray⟩) ∧ Mem w w' [] := by
  intro n
  induction n using Nat.strongRecOn with
  | _ n ih =>
    intro hn w
    have M := Lib.hid (Mem.start w)
    by_cases h : n < 10
    · have e1 : IntKind.i64.wrap (48 + (n : Int)) = 48 + (n : Int) := IntWalk.i64_in _ (by omega)
      have e3 : (n : Int).tmod 10 = (n : Int) := by rw [Int.tmod_eq_emod_of_nonneg (by omega)]; omega
      have e4 : (n : Int) % 10 = (n : Int) := by omega
      have E2 := Lib.hid (byte_of h)
      have DS := Lib.hid (dec_small h)
      obtain ⟨b, hb⟩ : ∃ b : UInt8, b = UInt8.ofNat (48 + n) := ⟨_, rfl⟩
      rw [← hb] at E2 DS
      clear hb
      have i1 : (n : Int) < 10 := by omega
      clear ih
      go_enter Tryd.func68, Tryd.ntmps68
      go_wp2_with (first
        | ((with_reducible refine gate_dst (N := 9) rfl ?_); go_must (refine M.out.ev_bs1 elem_uint8 rfl _ rfl #[.int .u8 (b.toNat : Int)] (by rw [← E2.out]; rfl) rfl (by decide) ?_); intro g9 w9 m; simp only [List.cons_append, List.nil_append] at m; have M := Lib.hid m; clear m)
        | ((with_reducible refine gate_dst (N := 10) rfl ?_); go_must (refine M.out.ev_str1 0 _ rfl rfl _ rfl Tryd.underlying62 Tryd.underlying5 Tryd.underlying9 rfl ?_))
        )
      go_ret
      exact ⟨by rw [DS.out]; rfl, M.out.take 0⟩
    · have i1 : ¬ ((n : Int) < 10) := by omega
      obtain ⟨q, hq⟩ : ∃ q : Nat, q = n / 10 := ⟨_, rfl⟩
      obtain ⟨r, hr⟩ : ∃ r : Nat, r = n % 10 := ⟨_, rfl⟩
      have hr10 : r < 10 := by omega
      have e1 : IntKind.i64.wrap (48 + (r : Int)) = 48 + (r : Int) := IntWalk.i64_in _ (by omega)
      have e2 : IntKind.u8.wrap (48 + (r : Int)) = 48 + (r : Int) := IntWalk.u8_in _ (by omega)
      have e3 : (n : Int).tmod 10 = (r : Int) := by rw [Int.tmod_eq_emod_of_nonneg (by omega)]; omega
      have e4 : (n : Int) % 10 = (r : Int) := by omega
      have e5 : (n : Int).tdiv 10 = (q : Int) := by rw [Int.tdiv_eq_ediv_of_nonneg (by omega)]; omega
      have e6 : (n : Int) / 10 = (q : Int) := by omega
      have IH := Lib.hid (ih q (by omega) (by omega))
      have E2 := Lib.hid (byte_of hr10)
      have DB := Lib.hid (dec_big h)
      have dl := dec_len (n := q) (by omega)
      have dl2 : ¬ (9223372036854775807 < (Lib.decDigits q).length + 1) := by omega
      rw [← hq, ← hr] at DB
      obtain ⟨b, hb⟩ : ∃ b : UInt8, b = UInt8.ofNat (48 + r) := ⟨_, rfl⟩
      rw [← hb] at E2 DB
      clear hb
      clear ih hq hr
      go_enter Tryd.func68, Tryd.ntmps68
      go_wp2
      refine region_anyH (fun w' => Mem w w' []) (by kernel_rfl) ?_
      have m := M.out.drew
      clear M
      have M := Lib.hid m
      clear m
      apply takeH (i := 0) 11 rfl (by kernel_rfl) (by kernel_rfl) (by kernel_rfl) (fun _ _ _ h => h) rfl (by first | exact M.out | exact M.out.take 0)
      case' hy =>
        refine Or.inl ⟨by first | rfl | (go_simp; done), ?_⟩
        intro w hS
        clear hS
        go_simp
        try with_reducible rfl
      try simp only [Act.put, List.getElem_toArray, List.getElem_cons_succ, List.getElem_cons_zero, List.setIfInBounds_toArray, List.set_cons_succ, List.set_cons_zero]
      apply takeH (i := 1) 12 rfl (by kernel_rfl) (by kernel_rfl) (by kernel_rfl) (fun _ _ _ h => h) rfl (by first | exact M.out | exact M.out.take 0)
      case' hy =>
        refine Or.inl ⟨by first | rfl | (go_simp; done), ?_⟩
        intro w hS
        clear hS
        go_simp
        try with_reducible rfl
      try simp only [Act.put, List.getElem_toArray, List.getElem_cons_succ, List.getElem_cons_zero, List.setIfInBounds_toArray, List.set_cons_succ, List.set_cons_zero]
      apply takeH (i := 3) 14 rfl (by kernel_rfl) (by kernel_rfl) (by kernel_rfl) (fun _ _ _ h => h) rfl (by first | exact M.out | exact M.out.take 0)
      case' hy =>
        refine Or.inl ⟨by first | rfl | (go_simp; done), ?_⟩
        intro w hS
        clear hS
        go_simp
        try with_reducible rfl
      try simp only [Act.put, List.getElem_toArray, List.getElem_cons_succ, List.getElem_cons_zero, List.setIfInBounds_toArray, List.set_cons_succ, List.set_cons_zero]
      apply takeH (i := 4) 15 rfl (by kernel_rfl) (by kernel_rfl) (by kernel_rfl) (fun _ _ _ h => h) rfl (by first | exact M.out | exact M.out.take 0)
      case' hy =>
        refine Or.inl ⟨by first | rfl | (go_simp; done), ?_⟩
        intro w hS
        clear hS
        go_simp
        try with_reducible rfl
      try simp only [Act.put, List.getElem_toArray, List.getElem_cons_succ, List.getElem_cons_zero, List.setIfInBounds_toArray, List.set_cons_succ, List.set_cons_zero]
      apply takeH (i := 5) 16 rfl (by kernel_rfl) (by kernel_rfl) (by kernel_rfl) (fun _ _ _ h => h) rfl (by first | exact M.out | exact M.out.take 0)
      case' hy =>
        refine Or.inl ⟨by first | rfl | (go_simp; done), ?_⟩
        intro w hS
        clear hS
        go_simp
        try with_reducible rfl
      try simp only [Act.put, List.getElem_toArray, List.getElem_cons_succ, List.getElem_cons_zero, List.setIfInBounds_toArray, List.set_cons_succ, List.set_cons_zero]
      apply takeH (i := 6) 17 rfl (by kernel_rfl) (by kernel_rfl) (by kernel_rfl) (fun _ _ _ h => h) rfl (by first | exact M.out | exact M.out.take 0)
      case' hy =>
        refine Or.inl ⟨by first | rfl | (go_simp; done), ?_⟩
        intro w hS
        clear hS
        go_simp
        try with_reducible rfl
      try simp only [Act.put, List.getElem_toArray, List.getElem_cons_succ, List.getElem_cons_zero, List.setIfInBounds_toArray, List.set_cons_succ, List.set_cons_zero]
      refine any2H 2 7 (by kernel_rfl) rfl rfl (fun K hK => ?_) (fun K hK => ?_)
      rotate_right 1
      case' _ =>
        go_wp2_with (first | ((with_reducible refine gate_dst (N := 20) rfl ?_); go_must (refine ev_cat _ _ _ _ rfl rfl _ _ rfl rfl rfl (by simp only [List.length_append, List.length_cons, List.length_nil]; omega) ?_)) | (go_at_call 68; go_must (refine (IH.out _).mono ?_); rintro e w_ ⟨rfl, N_⟩; have m := M.out.join N_; clear N_; simp only [List.cons_append, List.nil_append, List.append_nil] at m; have M := Lib.hid m; clear m) | ((with_reducible refine gate_dst (N := 18) rfl ?_); go_must (refine M.out.ev_bs1 elem_uint8 rfl _ rfl #[.int .u8 (b.toNat : Int)] (by rw [← E2.out]; first | rfl | (go_simp; rfl)) rfl (by decide) ?_); intro g18 w18 m; simp only [List.cons_append, List.nil_append] at m; have M := Lib.hid m; clear m) | ((with_reducible refine gate_dst (N := 19) rfl ?_); go_must (refine M.out.ev_str1 0 _ rfl rfl _ rfl Tryd.underlying62 Tryd.underlying5 Tryd.underlying9 rfl ?_)))
        refine onward_normal (hK _ _ ⟨(by first | exact M.out | exact M.out.take 0), ?_⟩)
        clear hK K
        try simp only [Act.put, List.getElem_toArray, List.getElem_cons_succ, List.getElem_cons_zero, List.setIfInBounds_toArray, List.set_cons_succ, List.set_cons_zero]
        refine any2H 2 8 (by kernel_rfl) rfl rfl (fun K hK => ?_) (fun K hK => ?_)
        rotate_right 1
        case' _ =>
          go_wp2_with (first | ((with_reducible refine gate_dst (N := 20) rfl ?_); go_must (refine ev_cat _ _ _ _ rfl rfl _ _ rfl rfl rfl (by simp only [List.length_append, List.length_cons, List.length_nil]; omega) ?_)) | (go_at_call 68; go_must (refine (IH.out _).mono ?_); rintro e w_ ⟨rfl, N_⟩; have m := M.out.join N_; clear N_; simp only [List.cons_append, List.nil_append, List.append_nil] at m; have M := Lib.hid m; clear m) | ((with_reducible refine gate_dst (N := 18) rfl ?_); go_must (refine M.out.ev_bs1 elem_uint8 rfl _ rfl #[.int .u8 (b.toNat : Int)] (by rw [← E2.out]; first | rfl | (go_simp; rfl)) rfl (by decide) ?_); intro g18 w18 m; simp only [List.cons_append, List.nil_append] at m; have M := Lib.hid m; clear m) | ((with_reducible refine gate_dst (N := 19) rfl ?_); go_must (refine M.out.ev_str1 0 _ rfl rfl _ rfl Tryd.underlying62 Tryd.underlying5 Tryd.underlying9 rfl ?_)))
          refine onward_normal (hK _ _ ⟨(by first | exact M.out | exact M.out.take 0), ?_⟩)
          clear hK K
          try simp only [Act.put, List.getElem_toArray, List.getElem_cons_succ, List.getElem_cons_zero, List.setIfInBounds_toArray, List.set_cons_succ, List.set_cons_zero]
          refine any1H 2 (by kernel_rfl) rfl (fun K hK => ?_)
          go_wp2_with (first | ((with_reducible refine gate_dst (N := 20) rfl ?_); go_must (refine ev_cat _ _ _ _ rfl rfl _ _ rfl rfl rfl (by simp only [List.length_append, List.length_cons, List.length_nil]; omega) ?_)) | (go_at_call 68; go_must (refine (IH.out _).mono ?_); rintro e w_ ⟨rfl, N_⟩; have m := M.out.join N_; clear N_; simp only [List.cons_append, List.nil_append, List.append_nil] at m; have M := Lib.hid m; clear m) | ((with_reducible refine gate_dst (N := 18) rfl ?_); go_must (refine M.out.ev_bs1 elem_uint8 rfl _ rfl #[.int .u8 (b.toNat : Int)] (by rw [← E2.out]; first | rfl | (go_simp; rfl)) rfl (by decide) ?_); intro g18 w18 m; simp only [List.cons_append, List.nil_append] at m; have M := Lib.hid m; clear m) | ((with_reducible refine gate_dst (N := 19) rfl ?_); go_must (refine M.out.ev_str1 0 _ rfl rfl _ rfl Tryd.underlying62 Tryd.underlying5 Tryd.underlying9 rfl ?_)))
          refine onward_normal (hK _ _ ⟨(by first | exact M.out | exact M.out.take 0), ?_⟩)
          clear hK K
          try simp only [Act.put, List.getElem_toArray, List.getElem_cons_succ, List.getElem_cons_zero, List.setIfInBounds_toArray, List.set_cons_succ, List.set_cons_zero]
          apply takeH (i := 9) 20 rfl (by kernel_rfl) (by kernel_rfl) (by kernel_rfl) (fun _ _ _ h => h) rfl (by first | exact M.out | exact M.out.take 0)
          case' hy => exact yld_cat _ _ _ _ rfl rfl _ _ rfl rfl rfl (by simp only [List.length_append, List.length_cons, List.length_nil]; omega)
          try simp only [Act.put, List.getElem_toArray, List.getElem_cons_succ, List.getElem_cons_zero, List.setIfInBounds_toArray, List.set_cons_succ, List.set_cons_zero]
          apply takeH (i := 10) 2 rfl (by kernel_rfl) (by kernel_rfl) (by kernel_rfl) (fun _ _ _ h => h) rfl (by first | exact M.out | exact M.out.take 0)
          case' hy =>
            refine Or.inl ⟨by first | rfl | (go_simp; done), ?_⟩
            intro w hS
            clear hS
            go_simp
            try with_reducible rfl
          try simp only [Act.put, List.getElem_toArray, List.getElem_cons_succ, List.getElem_cons_zero, List.setIfInBounds_toArray, List.set_cons_succ, List.set_cons_zero]
          refine wpAnyH_done (by kernel_rfl) ?_ _
        rotate_right 1
        case' _ =>
          go_wp2_with (first | ((with_reducible refine gate_dst (N := 20) rfl ?_); go_must (refine ev_cat _ _ _ _ rfl rfl _ _ rfl rfl rfl (by simp only [List.length_append, List.length_cons, List.length_nil]; omega) ?_)) | (go_at_call 68; go_must (refine (IH.out _).mono ?_); rintro e w_ ⟨rfl, N_⟩; have m := M.out.join N_; clear N_; simp only [List.cons_append, List.nil_append, List.append_nil] at m; have M := Lib.hid m; clear m) | ((with_reducible refine gate_dst (N := 18) rfl ?_); go_must (refine M.out.ev_bs1 elem_uint8 rfl _ rfl #[.int .u8 (b.toNat : Int)] (by rw [← E2.out]; first | rfl | (go_simp; rfl)) rfl (by decide) ?_); intro g18 w18 m; simp only [List.cons_append, List.nil_append] at m; have M := Lib.hid m; clear m) | ((with_reducible refine gate_dst (N := 19) rfl ?_); go_must (refine M.out.ev_str1 0 _ rfl rfl _ rfl Tryd.underlying62 Tryd.underlying5 Tryd.underlying9 rfl ?_)))
          refine onward_normal (hK _ _ ⟨(by first | exact M.out | exact M.out.take 0), ?_⟩)
          clear hK K
          try simp only [Act.put, List.getElem_toArray, List.getElem_cons_succ, List.getElem_cons_zero, List.setIfInBounds_toArray, List.set_cons_succ, List.set_cons_zero]
          refine any1H 8 (by kernel_rfl) rfl (fun K hK => ?_)
          go_wp2_with (first | ((with_reducible refine gate_dst (N := 20) rfl ?_); go_must (refine ev_cat _ _ _ _ rfl rfl _ _ rfl rfl rfl (by simp only [List.length_append, List.length_cons, List.length_nil]; omega) ?_)) | (go_at_call 68; go_must (refine (IH.out _).mono ?_); rintro e w_ ⟨rfl, N_⟩; have m := M.out.join N_; clear N_; simp only [List.cons_append, List.nil_append, List.append_nil] at m; have M := Lib.hid m; clear m) | ((with_reducible refine gate_dst (N := 18) rfl ?_); go_must (refine M.out.ev_bs1 elem_uint8 rfl _ rfl #[.int .u8 (b.toNat : Int)] (by rw [← E2.out]; first | rfl | (go_simp; rfl)) rfl (by decide) ?_); intro g18 w18 m; simp only [List.cons_append, List.nil_append] at m; have M := Lib.hid m; clear m) | ((with_reducible refine gate_dst (N := 19) rfl ?_); go_must (refine M.out.ev_str1 0 _ rfl rfl _ rfl Tryd.underlying62 Tryd.underlying5 Tryd.underlying9 rfl ?_)))
          refine onward_normal (hK _ _ ⟨(by first | exact M.out | exact M.out.take 0), ?_⟩)
          clear hK K
          try simp only [Act.put, List.getElem_toArray, List.getElem_cons_succ, List.getElem_cons_zero, List.setIfInBounds_toArray, List.set_cons_succ, List.set_cons_zero]
          apply takeH (i := 9) 20 rfl (by kernel_rfl) (by kernel_rfl) (by kernel_rfl) (fun _ _ _ h => h) rfl (by first | exact M.out | exact M.out.take 0)
          case' hy => exact yld_cat _ _ _ _ rfl rfl _ _ rfl rfl rfl (by simp only [List.length_append, List.length_cons, List.length_nil]; omega)
          try simp only [Act.put, List.getElem_toArray, List.getElem_cons_succ, List.getElem_cons_zero, List.setIfInBounds_toArray, List.set_cons_succ, List.set_cons_zero]
          apply takeH (i := 10) 2 rfl (by kernel_rfl) (by kernel_rfl) (by kernel_rfl) (fun _ _ _ h => h) rfl (by first | exact M.out | exact M.out.take 0)
          case' hy =>
            refine Or.inl ⟨by first | rfl | (go_simp; done), ?_⟩
            intro w hS
            clear hS
            go_simp
            try with_reducible rfl
          try simp only [Act.put, List.getElem_toArray, List.getElem_cons_succ, List.getElem_cons_zero, List.setIfInBounds_toArray, List.set_cons_succ, List.set_cons_zero]
          refine wpAnyH_done (by kernel_rfl) ?_ _
      rotate_right 1
      case' _ =>
        go_wp2_with (first | ((with_reducible refine gate_dst (N := 20) rfl ?_); go_must (refine ev_cat _ _ _ _ rfl rfl _ _ rfl rfl rfl (by simp only [List.length_append, List.length_cons, List.length_nil]; omega) ?_)) | (go_at_call 68; go_must (refine (IH.out _).mono ?_); rintro e w_ ⟨rfl, N_⟩; have m := M.out.join N_; clear N_; simp only [List.cons_append, List.nil_append, List.append_nil] at m; have M := Lib.hid m; clear m) | ((with_reducible refine gate_dst (N := 18) rfl ?_); go_must (refine M.out.ev_bs1 elem_uint8 rfl _ rfl #[.int .u8 (b.toNat : Int)] (by rw [← E2.out]; first | rfl | (go_simp; rfl)) rfl (by decide) ?_); intro g18 w18 m; simp only [List.cons_append, List.nil_append] at m; have M := Lib.hid m; clear m) | ((with_reducible refine gate_dst (N := 19) rfl ?_); go_must (refine M.out.ev_str1 0 _ rfl rfl _ rfl Tryd.underlying62 Tryd.underlying5 Tryd.underlying9 rfl ?_)))
        refine onward_normal (hK _ _ ⟨(by first | exact M.out | exact M.out.take 0), ?_⟩)
        clear hK K
        try simp only [Act.put, List.getElem_toArray, List.getElem_cons_succ, List.getElem_cons_zero, List.setIfInBounds_toArray, List.set_cons_succ, List.set_cons_zero]
        refine any1H 7 (by kernel_rfl) rfl (fun K hK => ?_)
        go_wp2_with (first | ((with_reducible refine gate_dst (N := 20) rfl ?_); go_must (refine ev_cat _ _ _ _ rfl rfl _ _ rfl rfl rfl (by simp only [List.length_append, List.length_cons, List.length_nil]; omega) ?_)) | (go_at_call 68; go_must (refine (IH.out _).mono ?_); rintro e w_ ⟨rfl, N_⟩; have m := M.out.join N_; clear N_; simp only [List.cons_append, List.nil_append, List.append_nil] at m; have M := Lib.hid m; clear m) | ((with_reducible refine gate_dst (N := 18) rfl ?_); go_must (refine M.out.ev_bs1 elem_uint8 rfl _ rfl #[.int .u8 (b.toNat : Int)] (by rw [← E2.out]; first | rfl | (go_simp; rfl)) rfl (by decide) ?_); intro g18 w18 m; simp only [List.cons_append, List.nil_append] at m; have M := Lib.hid m; clear m) | ((with_reducible refine gate_dst (N := 19) rfl ?_); go_must (refine M.out.ev_str1 0 _ rfl rfl _ rfl Tryd.underlying62 Tryd.underlying5 Tryd.underlying9 rfl ?_)))
        refine onward_normal (hK _ _ ⟨(by first | exact M.out | exact M.out.take 0), ?_⟩)
        clear hK K
        try simp only [Act.put, List.getElem_toArray, List.getElem_cons_succ, List.getElem_cons_zero, List.setIfInBounds_toArray, List.set_cons_succ, List.set_cons_zero]
        refine any1H 8 (by kernel_rfl) rfl (fun K hK => ?_)
        go_wp2_with (first | ((with_reducible refine gate_dst (N := 20) rfl ?_); go_must (refine ev_cat _ _ _ _ rfl rfl _ _ rfl rfl rfl (by simp only [List.length_append, List.length_cons, List.length_nil]; omega) ?_)) | (go_at_call 68; go_must (refine (IH.out _).mono ?_); rintro e w_ ⟨rfl, N_⟩; have m := M.out.join N_; clear N_; simp only [List.cons_append, List.nil_append, List.append_nil] at m; have M := Lib.hid m; clear m) | ((with_reducible refine gate_dst (N := 18) rfl ?_); go_must (refine M.out.ev_bs1 elem_uint8 rfl _ rfl #[.int .u8 (b.toNat : Int)] (by rw [← E2.out]; first | rfl | (go_simp; rfl)) rfl (by decide) ?_); intro g18 w18 m; simp only [List.cons_append, List.nil_append] at m; have M := Lib.hid m; clear m) | ((with_reducible refine gate_dst (N := 19) rfl ?_); go_must (refine M.out.ev_str1 0 _ rfl rfl _ rfl Tryd.underlying62 Tryd.underlying5 Tryd.underlying9 rfl ?_)))
        refine onward_normal (hK _ _ ⟨(by first | exact M.out | exact M.out.take 0), ?_⟩)
        clear hK K
        try simp only [Act.put, List.getElem_toArray, List.getElem_cons_succ, List.getElem_cons_zero, List.setIfInBounds_toArray, List.set_cons_succ, List.set_cons_zero]
        apply takeH (i := 9) 20 rfl (by kernel_rfl) (by kernel_rfl) (by kernel_rfl) (fun _ _ _ h => h) rfl (by first | exact M.out | exact M.out.take 0)
        case' hy => exact yld_cat _ _ _ _ rfl rfl _ _ rfl rfl rfl (by simp only [List.length_append, List.length_cons, List.length_nil]; omega)
        try simp only [Act.put, List.getElem_toArray, List.getElem_cons_succ, List.getElem_cons_zero, List.setIfInBounds_toArray, List.set_cons_succ, List.set_cons_zero]
        apply takeH (i := 10) 2 rfl (by kernel_rfl) (by kernel_rfl) (by kernel_rfl) (fun _ _ _ h => h) rfl (by first | exact M.out | exact M.out.take 0)
        case' hy =>
          refine Or.inl ⟨by first | rfl | (go_simp; done), ?_⟩
          intro w hS
          clear hS
          go_simp
          try with_reducible rfl
        try simp only [Act.put, List.getElem_toArray, List.getElem_cons_succ, List.getElem_cons_zero, List.setIfInBounds_toArray, List.set_cons_succ, List.set_cons_zero]
        refine wpAnyH_done (by kernel_rfl) ?_ _
      all_goals
        go_wp2
        go_ret
        exact ⟨by rw [DB.out]; rfl, M.out.take 0⟩
set_option maxRecDepth 100000 in
set_option maxHeartbeats 2000000 in
theorem decimal8_any (n : Int) (h0 : -128 ≤ n) (h1 : n ≤ 127) (w : World) (ht : Tab w) : Calls Tryd.prog 45 #[.int .i8 n] w fun e w' => e = .returned (.string ⟨(Lib.itoa n).toArray⟩) ∧ Mem w w' [] := by
  have M := Lib.hid (Mem.start w)
  have HT := Lib.hid ht
  have e1 : IntKind.i64.wrap n = n := IntWalk.i64_in _ (by omega)
  clear ht
  go_enter Tryd.func45, Tryd.ntmps45
  go_wp2_with (first
    | (go_at_call 71; go_must (refine (FormatInt_any _ (by omega) (by omega) _ HT.out).mono ?_); rintro e w_ ⟨rfl, N_⟩; have m := M.out.join N_; clear N_; simp only [List.cons_append, List.nil_append, List.append_nil] at m; have M := Lib.hid m; clear m)
    )
  go_ret
  exact ⟨rfl, M.out⟩
set_option maxRecDepth 100000 in
set_option maxHeartbeats 2000000 in
theorem decimal16_any (n : Int) (h0 : -32768 ≤ n) (h1 : n ≤ 32767) (w : World) (ht : Tab w) : Calls Tryd.prog 38 #[.int .i16 n] w fun e w' => e = .returned (.string ⟨(Lib.itoa n).toArray⟩) ∧ Mem w w' [] := by
  have M := Lib.hid (Mem.start w)
  have HT := Lib.hid ht
  have e1 : IntKind.i64.wrap n = n := IntWalk.i64_in _ (by omega)
  clear ht
  go_enter Tryd.func38, Tryd.ntmps38
  go_wp2_with (first
    | (go_at_call 71; go_must (refine (FormatInt_any _ (by omega) (by omega) _ HT.out).mono ?_); rintro e w_ ⟨rfl, N_⟩; have m := M.out.join N_; clear N_; simp only [List.cons_append, List.nil_append, List.append_nil] at m; have M := Lib.hid m; clear m)
    )
  go_ret
  exact ⟨rfl, M.out⟩
set_option maxRecDepth 100000 in
set_option maxHeartbeats 2000000 in
theorem decimal64_any (n : Int) (h0 : -9223372036854775808 ≤ n) (h1 : n ≤ 9223372036854775807) (w : World) (ht : Tab w) : Calls Tryd.prog 58 #[.int .i64 n] w fun e w' => e = .returned (.string ⟨(Lib.itoa n).toArray⟩) ∧ Mem w w' [] := by
  have M := Lib.hid (Mem.start w)
  have HT := Lib.hid ht
  have e1 : IntKind.i64.wrap n = n := IntWalk.i64_in _ (by omega)
  clear ht
  go_enter Tryd.func58, Tryd.ntmps58
  go_wp2_with (first
    | (go_at_call 71; go_must (refine (FormatInt_any _ (by omega) (by omega) _ HT.out).mono ?_); rintro e w_ ⟨rfl, N_⟩; have m := M.out.join N_; clear N_; simp only [List.cons_append, List.nil_append, List.append_nil] at m; have M := Lib.hid m; clear m)
    )
  go_ret
  exact ⟨rfl, M.out⟩
end Go.Proofs.YtifacledmmpnkaaDoor
