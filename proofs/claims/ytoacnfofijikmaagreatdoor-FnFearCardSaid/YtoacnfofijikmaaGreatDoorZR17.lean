/- Texts of a proof, laid together: ReadSc, Del0, Delete, EqC. -/
import Derived.Test.YtoacnfofijikmaaGreatDoorZR15
import Derived.Test.YtoacnfofijikmaaGreatDoorZR16
import Derived.Test.YtoacnfofijikmaaGreatDoorZR02
import Derived.Test.YtoacnfofijikmaaGreatDoorZR06
import Derived.Laws.StructEq
namespace Go.Proofs.YtoacnfofijikmaaGreatDoor
set_option linter.unusedSimpArgs false
set_option linter.unusedVariables false
open Go.RowKit
attribute [local go_sem] cell?_mk frozen?_mk
--ONES exact Scarecrow.one _

theorem parse_dec_any (n lo hi : Nat) (h1 : lo ≤ n) (h2 : n ≤ hi) (hh : hi < 10 ^ 9) (w : World) (ht : Tabs w) :
    Calls Tryz.prog 40 #[.string ⟨(dec n).toArray⟩, .int .i64 lo, .int .i64 hi] w fun e w' => e = .returned (.tuple #[.int .i64 n, .bool true]) ∧ Mem w w' [] := by
  have hl : (dec n).length ≤ 1048576 := by
    rw [dec_nat]
    have := dec_len9 (n := n) (by omega)
    omega
  refine (parse_any (dec n) lo hi hh hl w ht).mono ?_
  rintro e w' ⟨v, rfl, hv, M⟩
  have hn := parse_dec h1 h2 hh
  obtain rfl := hv n hn
  rw [hn]
  exact ⟨rfl, M⟩
set_option maxRecDepth 100000 in
set_option maxHeartbeats 4000000 in
theorem ReadScares_any (xs : List Scarecrow) (hx : ∀ x ∈ xs, x.ok) (hp : ∀ x ∈ xs, x.plain = true) (hl : xs.length ≤ 20) (w : World) (ht : Tabs w) :
    Calls Tryz.prog 9 #[.string ⟨(scaresT xs).toArray⟩] w (RetRowC w 60 3 xs.length (flat Scarecrow.vals xs) 0) := by
  have M := Lib.hid (Mem.start w)
  have HT := Lib.hid ht
  have HP := Lib.hid hp
  have hT : scaresT xs = joinS 32 (xs.map Scarecrow.word) := by
    unfold scaresT
    rw [if_pos (List.all_eq_true.2 hp), if_pos hl]
  have hnat : ∀ x ∈ xs, ∃ a b c : Nat, x = ⟨a, b, c⟩ ∧ a ≤ 99 ∧ 1 ≤ b ∧ b ≤ 1000 ∧ c ≤ 30 := fun x hx => by
    obtain ⟨⟨a0, a1⟩, ⟨b0, b1⟩, e0, e1⟩ := Scarecrow.plain_iff.1 (hp x hx)
    obtain ⟨p, q, r⟩ := x
    simp only at a0 a1 b0 b1 e0 e1
    refine ⟨p.toNat, q.toNat, r.toNat, ?_, by omega, by omega, by omega, by omega⟩
    rw [Int.toNat_of_nonneg a0, Int.toNat_of_nonneg (by omega), Int.toNat_of_nonneg e0]
  have HN := Lib.hid hnat
  rw [hT]
  clear hp ht
  by_cases h0 : xs = []
  · subst h0
    go_enter Tryz.func9, Tryz.ntmps9
    go_wp2_with (first
      | ((with_reducible refine gate_dst (N := 20) rfl ?_); go_must (refine M.out.ev_bs0 elem_Scarecrow rfl rfl ?_); intro g0 w0 m; simp only [List.nil_append] at m; have M := Lib.hid m; clear m)
      )
    go_ret2
    exact ⟨_, _, rfl, Nat.le_refl _, M.out⟩
  · have hpc : pieces 32 (joinS 32 (xs.map Scarecrow.word)) = xs.map Scarecrow.word := pieces_join 32 _ (by simpa using h0) (fun v hv => by
      obtain ⟨x, hx, rfl⟩ := List.mem_map.1 hv
      obtain ⟨a, b, c, rfl, _⟩ := hnat x hx
      exact Scarecrow.word_free a b c)
    have hTl : (joinS 32 (xs.map Scarecrow.word)).length ≤ 1048576 := by
      have h1 := joinS_len 32 200 (xs.map Scarecrow.word) (fun v hv => by
        obtain ⟨x, hx', rfl⟩ := List.mem_map.1 hv
        have := Scarecrow.word_len (hx x hx')
        omega)
      rw [List.length_map] at h1
      have : 201 * xs.length ≤ 201 * 20 := Nat.mul_le_mul_left _ hl
      omega
    have hTn : joinS 32 (xs.map Scarecrow.word) ≠ [] := fun e => by
      rw [e] at hpc
      have hlen := congrArg List.length hpc
      cases xs with
      | nil => exact h0 rfl
      | cons x r =>
        obtain ⟨a, b, c, rfl, _⟩ := hnat x (by simp)
        rw [pieces, List.map_cons, List.cons.injEq, Scarecrow.word_nat] at hpc
        have := congrArg List.length hpc.1
        simp at this
    have SP0 := fun w ht => Split_any (joinS 32 (xs.map Scarecrow.word)) 32 hTl w ht
    rw [hpc, List.length_map] at SP0
    have SP := Lib.hid SP0
    generalize joinS 32 (xs.map Scarecrow.word) = T at SP hTn
    have hTe : T.isEmpty = false := by
      cases T with
      | nil => exact absurd rfl hTn
      | cons x y => rfl
    have hg : decide ((20 : Int) < (xs.length : Int)) = false := decide_eq_false (by omega)
    have hg2 : ¬ ((20 : Int) < (xs.length : Int)) := by omega
    clear SP0 hpc hTl hT hnat h0 hx
    go_enter Tryz.func9, Tryz.ntmps9
    go_wp2_with (first
      | ((with_reducible refine gate_dst (N := 20) rfl ?_); go_must (refine M.out.ev_bs0 elem_Scarecrow rfl rfl ?_); intro g0 w0 m; simp only [List.nil_append] at m; have M := Lib.hid m; clear m)
      | (go_at_call 38; go_must (refine (SP.out _ (M.out.tabs HT.out)).mono ?_); rintro e w_ ⟨gs, rfl, N_⟩; have m := M.out.join N_; clear N_; simp only [List.cons_append, List.nil_append, List.append_nil] at m; have M := Lib.hid m; clear m)
      )
    go_loopw [4, 31] (fun o v wr => ∃ (i : Nat) (A : Option Addr) (cp : Nat), i ≤ xs.length ∧ v = .int .i64 i ∧ o = .slice A i cp ∧ Mem w wr [.row (.slice A i cp) 60 3 i (flat Scarecrow.vals (xs.take i)), .blk gs 9 (strsV (xs.map Scarecrow.word)).toArray])
      (fun _ v _ => xs.length - (intOf v).toNat)
    case atStart => exact ⟨0, some ⟨g0, 0, none⟩, 0, by omega, rfl, rfl, M.out⟩
    case round =>
      clear M
      obtain ⟨i, A, cp, hi, rfl, rfl, m⟩ := hrel
      have M := Lib.hid m
      clear m
      by_cases hlt : i < xs.length
      · obtain ⟨a, b, c, hx, ha, hb1, hb2, hc⟩ := HN.out xs[i] (List.getElem_mem hlt)
        have WC := Lib.hid (show (strsV (xs.map Scarecrow.word)).toArray[i]? = some (.string ⟨(dec a ++ 58 :: (dec b ++ 47 :: dec c)).toArray⟩) by
          have h := strsV_at (ls := xs.map Scarecrow.word) (k := i) (by rw [List.length_map]; exact hlt)
          rw [List.getElem_map, hx, Scarecrow.word_nat] at h
          exact h)
        have HTS := Lib.hid (show xs.take (i + 1) = xs.take i ++ [⟨a, b, c⟩] by rw [List.take_succ_eq_append_getElem hlt, hx])
        have la : (dec a).length ≤ 9 := by rw [dec_nat]; exact dec_len9 (by omega)
        have lb : (dec b).length ≤ 9 := by rw [dec_nat]; exact dec_len9 (by omega)
        have lc : (dec c).length ≤ 9 := by rw [dec_nat]; exact dec_len9 (by omega)
        have CA0 := fun w ht => Cut_any (dec a ++ 58 :: (dec b ++ 47 :: dec c)) 58 (by simp; omega) w ht
        simp only [cut_dec 58 a _ (by decide)] at CA0
        have CB0 := fun w ht => Cut_any (dec b ++ 47 :: dec c) 47 (by simp; omega) w ht
        simp only [cut_dec 47 b _ (by decide)] at CB0
        have PA0 := fun w ht => parse_dec_any a 0 99 (by omega) ha (by decide) w ht
        have PB0 := fun w ht => parse_dec_any b 1 1000 hb1 hb2 (by decide) w ht
        have PC0 := fun w ht => parse_dec_any c 0 30 (by omega) hc (by decide) w ht
        generalize dec b ++ 47 :: dec c = R at WC CA0 CB0
        generalize dec a ++ 58 :: R = RR at WC CA0
        generalize dec a = DA at CA0 PA0
        generalize dec b = DB at CB0 PB0
        generalize dec c = DC at CB0 PC0
        have CA := Lib.hid CA0
        have CB := Lib.hid CB0
        have PA := Lib.hid (show ∀ w, Tabs w → Calls Tryz.prog 40 #[.string ⟨DA.toArray⟩, .int .i64 0, .int .i64 99] w (fun e w' => e = .returned (.tuple #[.int .i64 a, .bool true]) ∧ Mem w w' []) from PA0)
        have PB := Lib.hid (show ∀ w, Tabs w → Calls Tryz.prog 40 #[.string ⟨DB.toArray⟩, .int .i64 1, .int .i64 1000] w (fun e w' => e = .returned (.tuple #[.int .i64 b, .bool true]) ∧ Mem w w' []) from PB0)
        have PC := Lib.hid (show ∀ w, Tabs w → Calls Tryz.prog 40 #[.string ⟨DC.toArray⟩, .int .i64 0, .int .i64 30] w (fun e w' => e = .returned (.tuple #[.int .i64 c, .bool true]) ∧ Mem w w' []) from PC0)
        have e1 : IntKind.i16.wrap (a : Int) = (a : Int) := IntWalk.i16_in _ (by omega)
        have e2 : IntKind.i16.wrap (b : Int) = (b : Int) := IntWalk.i16_in _ (by omega)
        have e3 : IntKind.i8.wrap (c : Int) = (c : Int) := IntWalk.i8_in _ (by omega)
        have i0 : (0 : Int) ≤ (i : Int) := by omega
        have i1 : (i : Int) < (xs.length : Int) := by omega
        clear CA0 CB0 PA0 PB0 PC0 hx la lb lc ha hb1 hb2 hc
        go_wp2_with (first
          | ((with_reducible refine gate_dst (N := 34) rfl ?_); go_must (refine ev_get _ _ rfl rfl (M.out.cell 1 rfl WC.out) Tryz.underlying9 rfl rfl ?_))
          | (go_at_call 39; go_must (first | (refine Calls.mono (calls_args (by with_reducible rfl) (CA.out _ (M.out.tabs HT.out))) ?_) | (refine Calls.mono (calls_args (by with_reducible rfl) (CB.out _ (M.out.tabs HT.out))) ?_)); rintro e w_ ⟨rfl, N_⟩; have m := M.out.join N_; clear N_; simp only [List.cons_append, List.nil_append, List.append_nil] at m; have M := Lib.hid m; clear m)
          | (go_at_call 40; go_must (first | (refine Calls.mono (calls_args (by with_reducible rfl) (PA.out _ (M.out.tabs HT.out))) ?_) | (refine Calls.mono (calls_args (by with_reducible rfl) (PB.out _ (M.out.tabs HT.out))) ?_) | (refine Calls.mono (calls_args (by with_reducible rfl) (PC.out _ (M.out.tabs HT.out))) ?_)); rintro e w_ ⟨rfl, N_⟩; have m := M.out.join N_; clear N_; simp only [List.cons_append, List.nil_append, List.append_nil] at m; have M := Lib.hid m; clear m)
          | ((with_reducible refine gate_dst (N := 80) rfl ?_); go_must (refine M.out.ev_bs1 elem_Scarecrow rfl _ rfl (Scarecrow.vals ⟨a, b, c⟩).toArray rfl rfl (by decide) ?_); intro g80 w80 m; simp only [List.cons_append, List.nil_append] at m; have M := Lib.hid m; clear m)
          | ((with_reducible refine gate_dst (N := 81) rfl ?_); go_must (refine M.out.ev_append1 0 2 elem_Scarecrow rfl _ _ rfl rfl rfl rfl rfl rfl (Scarecrow.one _) (by omega) (by decide) ?_); intro v81 w81 m; simp only [List.set_cons_succ, List.set_cons_zero] at m; have M := Lib.hid m; clear m)
          )
        obtain ⟨A2, c2, rfl, hm2, _⟩ := M.out.row_slice 0 rfl
        refine ⟨⟨i + 1, A2, c2, by omega, by go_num, rfl, ?_⟩, by simp [intOf]; omega⟩
        have mm := M.out.take 2
        rw [HTS.out, flat_snoc]
        exact mm
      · obtain rfl : xs.length = i := by omega
        have i1 : ¬ ((xs.length : Int) < (xs.length : Int)) := by omega
        rw [List.take_length] at M
        have hcp := (M.out.row_le 0 rfl).1
        go_wp2
        go_ret2
        exact ⟨A, cp, rfl, hcp, M.out.take 1⟩
end Go.Proofs.YtoacnfofijikmaaGreatDoor
namespace Go.Proofs.YtoacnfofijikmaaGreatDoor
set_option linter.unusedSimpArgs false
set_option linter.unusedVariables false
open Go.RowKit
attribute [local go_sem] cell?_mk frozen?_mk

section
variable {P : Program} {ops : Array Oper} {rest : List Oper} {o : Oper} {a : Act} {w0 w : World} {Q : Exit → Act → World → Prop} {L : List Ent}
/-- A row, seen as a shorter one. -/
theorem Mem.row_less (M : Mem w0 w L) (i : Nat) {A : Option Addr} {c : Nat} {e : TypeId} {sz n : Nat} {cs : List Value} (h : L[i]? = some (.row (.slice A n c) e sz n cs)) (k : Nat) (hk : k ≤ n) :
    Mem w0 w (L.set i (.row (.slice A k c) e sz k (cs.take (k * sz)))) := by
  have hl := M.row_len i h
  have hkn : k * sz ≤ n * sz := Nat.mul_le_mul_right _ hk
  refine M.change i h M.below ⟨by rw [List.length_take, hl]; omega, ?_⟩ (fun _ _ _ => rfl) (fun j hj => .inl (by cases A <;> exact hj))
  rcases (M.row i h).2 with ⟨h1, h2⟩ | ⟨g, cap, cur, h1, hb, hg, hc, hm, hs, ht⟩
  · injection h1 with e1 e2 e3
    exact .inl ⟨by rw [e1, e3, show k = 0 by omega], by omega⟩
  · injection h1 with e1 e2 e3
    exact .inr ⟨g, c, cur, by rw [e1], hb, hg, by omega, by omega, by rw [e3]; exact hs, by rw [← ht, List.take_take, Nat.min_eq_left hkn]⟩
/-- A row, seen as one of one more element: what lies there is not known. -/
theorem Mem.row_more (M : Mem w0 w L) (i : Nat) {g c : Nat} {e : TypeId} {sz m : Nat} {cs : List Value} (h : L[i]? = some (.row (.slice (some ⟨g, 0, none⟩) m c) e sz m cs)) (hm1 : m + 1 ≤ c) :
    ∃ ex : List Value, ex.length = sz ∧ Mem w0 w (L.set i (.row (.slice (some ⟨g, 0, none⟩) (m + 1) c) e sz (m + 1) (cs ++ ex))) := by
  have hl := M.row_len i h
  rcases (M.row i h).2 with ⟨h1, h2⟩ | ⟨g', cap, cur, h1, hb, hg, hc, hm, hs, ht⟩
  · injection h1 with e1 e2 e3
    cases e1
  · injection h1 with e1 e2 e3
    injection e1 with e1
    injection e1 with e1
    subst e1 e3
    have hsz : (m + 1) * sz ≤ c * sz := Nat.mul_le_mul_right _ hm1
    have hcl : cur.toList.length = c * sz := by rw [Array.length_toList]; exact hs
    have hmul : (m + 1) * sz = m * sz + sz := by rw [Nat.add_mul, Nat.one_mul]
    have hex : ((cur.toList.drop (m * sz)).take sz).length = sz := by
      rw [List.length_take, List.length_drop, hcl]
      omega
    have htk : cs ++ (cur.toList.drop (m * sz)).take sz = cur.toList.take ((m + 1) * sz) := by
      rw [← ht, hmul, List.take_add]
    refine ⟨(cur.toList.drop (m * sz)).take sz, hex, ?_⟩
    refine M.change i h M.below ⟨by rw [List.length_append, hl, hex, hmul], .inr ⟨g, c, cur, rfl, hb, hg, hm1, hm, hs, htk.symm⟩⟩ (fun _ _ _ => rfl) (fun j hj => .inl hj)
theorem splL_end {cs ex vs : List Value} {m sz : Nat} (h1 : cs.length = m * sz) (h2 : ex.length = sz) (h3 : vs.length = sz) : splL (cs ++ ex) (m * sz) vs = cs ++ vs := by
  unfold splL
  rw [← h1, List.take_left, h3, ← h2, ← List.length_append, List.drop_length, List.append_nil]
/-- clear of the one element that lies behind a row: the row stays as it is. -/
theorem Mem.ev_clear1 (M : Mem w0 w L) (i : Nat) {T e : TypeId} {zv : Value} {sz bytes : Nat} (E : ElemOk P T e zv sz bytes) (hgd : o.guard = none) (hdst : o.dst = none) (x : Operand)
    (ho : o.op = .call { callee := .builtin .clear, args := #[x], argTypes := #[T] }) {g c m c' : Nat} {cs : List Value} (hL : L[i]? = some (.row (.slice (some ⟨g, 0, none⟩) m c) e sz m cs)) (hm1 : m + 1 ≤ c)
    (hx : a.eval x = .slice (some ⟨g, m * sz, none⟩) 1 c') (h1 : ∀ u ∈ zv.cells.toList, u.oneCell' = true)
    (h : ∀ w1, Mem w0 w1 L → wpList P ops Q rest a w1) : wpList P ops Q (o :: rest) a w := by
  obtain ⟨inf, hi, hz1, hz2, hz3⟩ := E.get
  obtain ⟨ex, hex, M2⟩ := M.row_more i hL hm1
  have hil : i < L.length := (List.getElem?_eq_some_iff.1 hL).1
  have hL2 : (L.set i (.row (.slice (some ⟨g, 0, none⟩) (m + 1) c) e sz (m + 1) (cs ++ ex)))[i]? = some (.row (.slice (some ⟨g, 0, none⟩) (m + 1) c) e sz (m + 1) (cs ++ ex)) := by rw [List.getElem?_set_self hil]
  have hcl := M.row_len i hL
  have hzl : zv.cells.toList.length = sz := by rw [Array.length_toList]; exact E.zs
  have hz : (Builtin.zeroCells zv.cells 1).toList = zv.cells.toList := by
    apply List.ext_getElem
    · simp [Builtin.zeroCells]
    · intro j h1 h2
      simp only [Array.length_toList] at h2
      simp [Builtin.zeroCells, Nat.mod_eq_of_lt h2, h2]
  have hv : (zeroValue e).run P w = .ok zv w := by simp [zeroValue, typeInfo, hi, hz1]
  have hst := run_storeCells_cells (P := P) g (m * sz) zv.cells.toList 0 w (fun j hj => by
      have hlt : m * sz + j < (cs ++ ex).length := by rw [List.length_append, hcl, hex]; omega
      rw [Nat.add_zero, M2.row_cell i hL2 (List.getElem?_eq_getElem hlt)]
      rfl) (fun j hj => by rw [Nat.add_zero]; exact M2.row_frozen i hL2 _) h1
  rw [Nat.add_zero] at hst
  have hrun : ∀ ty, (Builtin.clear_ #[T] ty #[.slice (some ⟨g, m * sz, none⟩) 1 c']).run P w = .ok (.tuple #[]) (w.setCells g (m * sz) zv.cells.toList) := fun ty => by
    simp [Builtin.clear_, run_underlying E.sl, hv, hz, hst]
  have M3 := Mem.row_setn i zv.cells.toList (m * sz) w _ (cs ++ ex) M2 hL2 (by rw [List.length_append, hcl, hex, hzl]; omega)
  rw [List.set_set, splL_end hcl hex hzl] at M3
  have M4 := M3.row_less i (by rw [List.getElem?_set_self hil]) m (by omega)
  rw [List.set_set, List.take_left' hcl, set_same hL] at M4
  refine wpList_plain hgd fun K hK => ?_
  unfold Oper.wp execOp
  simp only [ho, resolve, invoke, builtin, Sem.run_bind, Sem.run_pure, Result.andThen_ok, List.map_toArray, List.map_cons, List.map_nil, hx, hrun]
  show K (a.put o.dst _) _
  rw [hdst]
  exact hK _ _ (h _ M4)
/-- append where there is room, from wherever. -/
theorem Mem.ev_appendFit (M : Mem w0 w L) (i : Nat) {T e : TypeId} {zv : Value} {sz bytes : Nat} (E : ElemOk P T e zv sz bytes) (hgd : o.guard = none) (s x : Operand)
    (ho : o.op = .call { callee := .builtin .append, args := #[s, x], argTypes := #[T, T] }) {g c k : Nat} {cs : List Value} (hL : L[i]? = some (.row (.slice (some ⟨g, 0, none⟩) k c) e sz k cs)) (hs : a.eval s = .slice (some ⟨g, 0, none⟩) k c)
    {ad : Addr} {m c' : Nat} (hx : a.eval x = .slice (some ad) m c') {news : List Value} (hl : news.length = m * sz) (hnews : ∀ j u, news[j]? = some u → w.cell? (ad.add j) = some u) (h1 : ∀ u ∈ news, u.oneCell' = true) (hroom : k + m ≤ c)
    (h : ∀ w1, Mem w0 w1 (L.set i (.row (.slice (some ⟨g, 0, none⟩) (k + m) c) e sz (k + m) (cs ++ news))) → wpList P ops Q rest (a.put o.dst (.slice (some ⟨g, 0, none⟩) (k + m) c)) w1) : wpList P ops Q (o :: rest) a w := by
  obtain ⟨inf, hi, hz1, hz2, hz3⟩ := E.get
  obtain ⟨w', hrun, hown, hg⟩ := run_append_fits (P := P) w w0.heap.size T o.type e inf sz E.sl hi hz2 g k c cs (M.row i hL) ad m c' news hl hnews h1 hroom
  have hgb : w0.heap.size ≤ g := ((M.all i _ hL).lt (k := g) rfl).1
  refine wpList_plain hgd fun K hK => ?_
  unfold Oper.wp execOp
  simp only [ho, resolve, invoke, builtin, Sem.run_bind, Sem.run_pure, Result.andThen_ok, List.map_toArray, List.map_cons, List.map_nil, hs, hx, hrun]
  refine hK _ _ (h w' (M.change i hL ?_ hown (fun j hk hne => hg.block j hk (fun q => hne q.symm)) (fun j hj => .inl hj)))
  exact M.below.grown hg M.size (fun j hj => by injection hj with hj; omega)
end
theorem flat_take {α : Type} {enc : α → List Value} {sz : Nat} (h : ∀ x, (enc x).length = sz) (xs : List α) (k : Nat) (hk : k ≤ xs.length) : (flat enc xs).take (k * sz) = flat enc (xs.take k) := by
  have h1 : flat enc xs = flat enc (xs.take k) ++ flat enc (xs.drop k) := by rw [← flat_append, List.take_append_drop]
  rw [h1]
  exact List.take_left' (by rw [flat_len h, List.length_take, Nat.min_eq_left hk])
end Go.Proofs.YtoacnfofijikmaaGreatDoor
namespace Go.Proofs.YtoacnfofijikmaaGreatDoor
set_option linter.unusedSimpArgs false
set_option linter.unusedVariables false
open Go.RowKit
attribute [local go_sem] cell?_mk frozen?_mk

set_option maxRecDepth 100000 in
set_option maxHeartbeats 2000000 in
theorem deleteS_any {w0 w : World} {L : List Ent} (i : Nat) (M0 : Mem w0 w L) (A : Option Addr) (c : Nat) (xs : List Scarecrow) (hL : L[i]? = some (.row (.slice A xs.length c) 60 3 xs.length (flat Scarecrow.vals xs))) (hl : xs.length ≤ 1048576) (hc : xs.length ≤ c) (hcm : c ≤ 9223372036854775807) (k : Nat) (hk : k < xs.length) :
    Calls Tryz.prog 72 #[.slice A xs.length c, .int .i64 k, .int .i64 ((k : Int) + 1)] w fun e w' => e = .returned (.slice A (xs.length - 1) c) ∧ Mem w0 w' (L.set i (.row (.slice A (xs.length - 1) c) 60 3 (xs.length - 1) (flat Scarecrow.vals (xs.eraseIdx k)))) := by
  obtain ⟨g, cap, he, _⟩ := M0.row_form i hL (by omega)
  obtain ⟨rfl, rfl⟩ : A = some ⟨g, 0, none⟩ ∧ c = cap := by injection he with e1 _ e2; exact ⟨e1, e2⟩
  clear he
  have M := Lib.hid M0
  have HL := Lib.hid hL
  have hil : i < L.length := (List.getElem?_eq_some_iff.1 hL).1
  have HIL := Lib.hid hil
  obtain ⟨n, hn⟩ : ∃ n, xs.length = n + 1 := ⟨xs.length - 1, by omega⟩
  have HN := Lib.hid hn
  have HER := Lib.hid (show flat Scarecrow.vals (xs.take k) ++ flat Scarecrow.vals (xs.drop (k + 1)) = flat Scarecrow.vals (xs.eraseIdx k) by rw [← flat_append, List.eraseIdx_eq_take_drop_succ])
  have HNW := Lib.hid (fun (w2 : World) (m2 : Mem w0 w2 L) (j : Nat) (u : Value) (hu : (flat Scarecrow.vals (xs.drop (k + 1)))[j]? = some u) => show w2.cell? ((⟨g, (k + 1) * 3, none⟩ : Addr).add j) = some u by
    rw [Addr.add_mid]
    refine m2.row_cell i hL ?_
    have h1 : flat Scarecrow.vals xs = flat Scarecrow.vals (xs.take (k + 1)) ++ flat Scarecrow.vals (xs.drop (k + 1)) := by rw [← flat_append, List.take_append_drop]
    have h2 : (flat Scarecrow.vals (xs.take (k + 1))).length = (k + 1) * 3 := by rw [flat_len Scarecrow.vl, List.length_take, Nat.min_eq_left (by omega)]
    rw [h1, List.getElem?_append_right (by omega), h2, Nat.add_sub_cancel_left]
    exact hu)
  have i0 : (0 : Int) ≤ (k : Int) := by omega
  have i1 : (k : Int) < (xs.length : Int) := by omega
  have i2 : (k : Int) + 1 ≤ (xs.length : Int) := by omega
  have i3 : (xs.length : Int) ≤ (c : Int) := by omega
  have i4 : ((k : Int) + 1).toNat = k + 1 := by omega
  have i5 : ((k : Int) == (k : Int) + 1) = false := by simp; omega
  clear M0 hL hil hn
  go_enter Tryz.func72, Tryz.ntmps72
  have HK2 := Lib.hid (show k + (xs.length - (k + 1)) = xs.length - 1 by omega)
  have HLN := Lib.hid (show (flat Scarecrow.vals (xs.drop (k + 1))).length = (xs.length - (k + 1)) * 3 by rw [flat_len Scarecrow.vl, List.length_drop])
  have hc0 : ¬ (c = 0) := by omega
  have hkc : k ≤ c := by omega
  have hl1 : xs.length - (xs.length - 1) = 1 := by omega
  have hcn : ¬ (c = xs.length - 1) := by omega
  by_cases hce : c = k + 1
  · subst hce
    have hnl : xs.drop (k + 1) = [] := List.drop_of_length_le (by omega)
    have HNV := Lib.hid (fun (w2 : World) (j : Nat) (u : Value) (hu : (flat Scarecrow.vals (xs.drop (k + 1)))[j]? = some u) => show w2.cell? ((⟨g, 0, none⟩ : Addr).add j) = some u by rw [hnl] at hu; simp [flat] at hu)
    have HLZ := Lib.hid (show (flat Scarecrow.vals (xs.drop (k + 1))).length = 0 * 3 by rw [hnl]; rfl)
    have HKZ := Lib.hid (show k + 0 = xs.length - 1 by omega)
    clear hnl
    have hq1 : k ≤ k + 1 := by omega
    have hq2 : (k : Int) ≤ (k : Int) + 1 := by omega
    have hq3 : ¬ (k + 1 = 0) := by omega
    go_wp2
    refine region_any (by kernel_rfl) ?_
    have m := M.out.drew
    clear M
    have M := Lib.hid m
    clear m
    refine takeD (i := 0) (v := ?v0) 20 rfl (by kernel_rfl) (by kernel_rfl) (by kernel_rfl) (fun _ _ _ h => h) rfl (Or.inl ⟨by first | rfl | (go_simp; done), ?y0⟩) ?r0
    case' y0 =>
      intro w
      go_simp
      try with_reducible rfl
    case' r0 =>
      try simp only [Act.put, List.setIfInBounds_toArray, List.set_cons_succ, List.set_cons_zero]
      refine takeD (i := 1) (v := ?v1) 21 rfl (by kernel_rfl) (by kernel_rfl) (by kernel_rfl) (fun _ _ _ h => h) rfl (Or.inl ⟨by first | rfl | (go_simp; done), ?y1⟩) ?r1
      case' y1 =>
        intro w
        go_simp
        try with_reducible rfl
      case' r1 =>
        try simp only [Act.put, List.setIfInBounds_toArray, List.set_cons_succ, List.set_cons_zero]
        refine takeD (i := 2) (v := ?v2) 22 rfl (by kernel_rfl) (by kernel_rfl) (by kernel_rfl) (fun _ _ _ h => h) rfl (Or.inl ⟨by first | rfl | (go_simp; done), ?y2⟩) ?r2
        case' y2 =>
          intro w
          go_simp
          try with_reducible rfl
        case' r2 =>
          try simp only [Act.put, List.setIfInBounds_toArray, List.set_cons_succ, List.set_cons_zero]
          refine takeD (i := 3) (v := ?v3) 23 rfl (by kernel_rfl) (by kernel_rfl) (by kernel_rfl) (fun _ _ _ h => h) rfl (Or.inl ⟨by first | rfl | (go_simp; done), ?y3⟩) ?r3
          case' y3 =>
            intro w
            go_simp
            try with_reducible rfl
          case' r3 =>
            try simp only [Act.put, List.setIfInBounds_toArray, List.set_cons_succ, List.set_cons_zero]
            refine any1k 4 (by kernel_rfl) rfl (fun K hK => ?_)
            go_wp2
            refine onward_normal (hK _ _ ?_)
            clear hK K
            try simp only [Act.put, List.getElem_toArray, List.getElem_cons_succ, List.getElem_cons_zero, List.setIfInBounds_toArray, List.set_cons_succ, List.set_cons_zero]
            refine any1k 5 (by kernel_rfl) rfl (fun K hK => ?_)
            go_wp2
            refine onward_normal (hK _ _ ?_)
            clear hK K
            try simp only [Act.put, List.getElem_toArray, List.getElem_cons_succ, List.getElem_cons_zero, List.setIfInBounds_toArray, List.set_cons_succ, List.set_cons_zero]
            refine any1k 6 (by kernel_rfl) rfl (fun K hK => ?_)
            go_wp2_with (first | ((with_reducible refine gate_dst (N := 26) rfl ?_); go_must (refine (M.out.row_less i HL.out k (by omega)).ev_appendFit i elem_Scarecrow rfl _ _ rfl (List.getElem?_set_self HIL.out) rfl rfl HLZ.out (HNV.out _) (flat_one Scarecrow.ones _) (by omega) ?_); intro w26 m; rw [List.set_set, flat_take Scarecrow.vl xs k (by omega), HER.out, HKZ.out] at m; rw [HKZ.out]; have M := Lib.hid m; clear m))
            refine onward_normal (hK _ _ ?_)
            clear hK K
            try simp only [Act.put, List.getElem_toArray, List.getElem_cons_succ, List.getElem_cons_zero, List.setIfInBounds_toArray, List.set_cons_succ, List.set_cons_zero]
            refine any1k 7 (by kernel_rfl) rfl (fun K hK => ?_)
            go_wp2
            refine onward_normal (hK _ _ ?_)
            clear hK K
            try simp only [Act.put, List.getElem_toArray, List.getElem_cons_succ, List.getElem_cons_zero, List.setIfInBounds_toArray, List.set_cons_succ, List.set_cons_zero]
            refine wpAny_done (by kernel_rfl) ?_ _
    all_goals
      go_wp2_with (first
        | (refine M.out.ev_clear1 i elem_Scarecrow rfl rfl _ rfl (List.getElem?_set_self HIL.out) (by omega) rfl (by simp [Scarecrow.z, Scarecrow.vals, Value.cells, Value.oneCell']) ?_; intro wn m; have M := Lib.hid m; clear m)
        )
      go_ret
      exact ⟨rfl, M.out⟩
  · skip
    go_wp2
    refine region_any (by kernel_rfl) ?_
    have m := M.out.drew
    clear M
    have M := Lib.hid m
    clear m
    refine takeD (i := 0) (v := ?v4) 20 rfl (by kernel_rfl) (by kernel_rfl) (by kernel_rfl) (fun _ _ _ h => h) rfl (Or.inl ⟨by first | rfl | (go_simp; done), ?y4⟩) ?r4
    case' y4 =>
      intro w
      go_simp
      try with_reducible rfl
    case' r4 =>
      try simp only [Act.put, List.setIfInBounds_toArray, List.set_cons_succ, List.set_cons_zero]
      refine takeD (i := 1) (v := ?v5) 21 rfl (by kernel_rfl) (by kernel_rfl) (by kernel_rfl) (fun _ _ _ h => h) rfl (Or.inl ⟨by first | rfl | (go_simp; done), ?y5⟩) ?r5
      case' y5 =>
        intro w
        go_simp
        try with_reducible rfl
      case' r5 =>
        try simp only [Act.put, List.setIfInBounds_toArray, List.set_cons_succ, List.set_cons_zero]
        refine takeD (i := 2) (v := ?v6) 22 rfl (by kernel_rfl) (by kernel_rfl) (by kernel_rfl) (fun _ _ _ h => h) rfl (Or.inl ⟨by first | rfl | (go_simp; done), ?y6⟩) ?r6
        case' y6 =>
          intro w
          go_simp
          try with_reducible rfl
        case' r6 =>
          try simp only [Act.put, List.setIfInBounds_toArray, List.set_cons_succ, List.set_cons_zero]
          refine takeD (i := 3) (v := ?v7) 23 rfl (by kernel_rfl) (by kernel_rfl) (by kernel_rfl) (fun _ _ _ h => h) rfl (Or.inl ⟨by first | rfl | (go_simp; done), ?y7⟩) ?r7
          case' y7 =>
            intro w
            go_simp
            try with_reducible rfl
          case' r7 =>
            try simp only [Act.put, List.setIfInBounds_toArray, List.set_cons_succ, List.set_cons_zero]
            refine any1k 4 (by kernel_rfl) rfl (fun K hK => ?_)
            go_wp2
            refine onward_normal (hK _ _ ?_)
            clear hK K
            try simp only [Act.put, List.getElem_toArray, List.getElem_cons_succ, List.getElem_cons_zero, List.setIfInBounds_toArray, List.set_cons_succ, List.set_cons_zero]
            refine any1k 5 (by kernel_rfl) rfl (fun K hK => ?_)
            go_wp2
            refine onward_normal (hK _ _ ?_)
            clear hK K
            try simp only [Act.put, List.getElem_toArray, List.getElem_cons_succ, List.getElem_cons_zero, List.setIfInBounds_toArray, List.set_cons_succ, List.set_cons_zero]
            refine any1k 6 (by kernel_rfl) rfl (fun K hK => ?_)
            go_wp2_with (first | ((with_reducible refine gate_dst (N := 26) rfl ?_); go_must (refine (M.out.row_less i HL.out k (by omega)).ev_appendFit i elem_Scarecrow rfl _ _ rfl (List.getElem?_set_self HIL.out) rfl rfl HLN.out (HNW.out _ M.out) (flat_one Scarecrow.ones _) (by omega) ?_); intro w26 m; rw [List.set_set, flat_take Scarecrow.vl xs k (by omega), HER.out, HK2.out] at m; rw [HK2.out]; have M := Lib.hid m; clear m))
            refine onward_normal (hK _ _ ?_)
            clear hK K
            try simp only [Act.put, List.getElem_toArray, List.getElem_cons_succ, List.getElem_cons_zero, List.setIfInBounds_toArray, List.set_cons_succ, List.set_cons_zero]
            refine any1k 7 (by kernel_rfl) rfl (fun K hK => ?_)
            go_wp2
            refine onward_normal (hK _ _ ?_)
            clear hK K
            try simp only [Act.put, List.getElem_toArray, List.getElem_cons_succ, List.getElem_cons_zero, List.setIfInBounds_toArray, List.set_cons_succ, List.set_cons_zero]
            refine wpAny_done (by kernel_rfl) ?_ _
    all_goals
      go_wp2_with (first
        | (refine M.out.ev_clear1 i elem_Scarecrow rfl rfl _ rfl (List.getElem?_set_self HIL.out) (by omega) rfl (by simp [Scarecrow.z, Scarecrow.vals, Value.cells, Value.oneCell']) ?_; intro wn m; have M := Lib.hid m; clear m)
        )
      go_ret
      exact ⟨rfl, M.out⟩
end Go.Proofs.YtoacnfofijikmaaGreatDoor
namespace Go.Proofs.YtoacnfofijikmaaGreatDoor
set_option linter.unusedSimpArgs false
set_option linter.unusedVariables false
open Go.RowKit
attribute [local go_sem] cell?_mk frozen?_mk

def Cs.same (a b : Cs) : Bool := decide (a.lo = b.lo) && decide (a.hi = b.hi)
theorem eqCsInt (a b c d : Int) (w : World) : (Op.equalIn 10000 44 (.agg #[.int .u64 a, .int .u64 b]) (.agg #[.int .u64 c, .int .u64 d])).run Tryz.prog w = .ok (a == c && b == d) w := by
  have u3 := Tryz.underlying42
  have a3 := Tryz.isAgg42
  have z3 := Tryz.sizeOf42
  rw [show (10000 : Nat) = 9999 + 1 from rfl, Op.equalIn]
  simp only [Sem.run_bind, run_underlying Tryz.underlying44, Result.andThen_ok]
  simp only [Std.Legacy.Range.forIn_eq_forIn_range', Std.Legacy.Range.size, Nat.sub_zero, Nat.add_sub_cancel, Nat.div_one, List.range'_succ, List.range'_zero, List.forIn_cons, List.forIn_nil]
  go_simp
  by_cases h1 : a = c <;> by_cases h2 : b = d <;> simp [h1, h2]
theorem eqCs (a b : Cs) (w : World) : (binOp .eql 44 (.agg a.cells) (.agg b.cells)).run Tryz.prog w = .ok (.bool (a.same b)) w := by
  rw [run_eql_struct]
  show ((Op.equalIn 10000 44 (.agg #[.int .u64 a.lo, .int .u64 a.hi]) (.agg #[.int .u64 b.lo, .int .u64 b.hi])).run Tryz.prog w).andThen _ = _
  rw [eqCsInt]
  show Result.ok (Value.bool _) w = _
  congr 2
  rw [Cs.same, Bool.eq_iff_iff]
  simp
  omega
end Go.Proofs.YtoacnfofijikmaaGreatDoor
