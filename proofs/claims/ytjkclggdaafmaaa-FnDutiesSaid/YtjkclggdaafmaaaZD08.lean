/- Texts of a proof, laid together: All. -/
import Derived.Test.YtjkclggdaafmaaaZD07
namespace Go.Proofs.Ytjkclggdaafmaaa
set_option linter.unusedSimpArgs false
set_option linter.unusedVariables false
open Go.RowKit
attribute [local go_sem] cell?_mk frozen?_mk

/-- The nets from a place, of one height, whose width is one of the first i beginning with w0. -/
def nets1 (F : Fld) (x y h w0 i : Nat) : List Net := ((List.range i).map fun (i : Nat) => (⟨(x : Nat), (y : Nat), (w0 + i : Nat), (h : Nat)⟩ : Net)).filter fun n => n.fits F
def nets2 (F : Fld) (x y w0 W h0 j : Nat) : List Net := (List.range j).flatMap fun j => nets1 F x y (h0 + j) w0 W
def nets3 (F : Fld) (r d W H y x : Nat) : List Net := (List.range x).flatMap fun x => nets2 F x y (r + 1 - x) W (d + 1 - y) H
def nets4 (F : Fld) (r d W H y : Nat) : List Net := (List.range y).flatMap fun y => nets3 F r d W H y (r + 1)
/-- All nets that cover a cell, in order. -/
def netsAt (F : Fld) (k : Nat) : List Net := nets4 F (k % 10) (k / 10) (F.wide - (k % 10 : Nat)).toNat (F.high - (k / 10 : Nat)).toNat (k / 10 + 1)
theorem nets1_succ (F : Fld) (x y h w0 i : Nat) : nets1 F x y h w0 (i + 1) = nets1 F x y h w0 i ++ if (⟨(x : Nat), (y : Nat), (w0 + i : Nat), (h : Nat)⟩ : Net).fits F = true then [⟨(x : Nat), (y : Nat), (w0 + i : Nat), (h : Nat)⟩] else [] := by
  simp only [nets1, List.range_succ, List.map_append, List.filter_append, List.map_cons, List.map_nil, List.filter_cons, List.filter_nil]
theorem nets2_succ (F : Fld) (x y w0 W h0 j : Nat) : nets2 F x y w0 W h0 (j + 1) = nets2 F x y w0 W h0 j ++ nets1 F x y (h0 + j) w0 W := by
  simp only [nets2, List.range_succ, List.flatMap_append, List.flatMap_cons, List.flatMap_nil, List.append_nil]
theorem nets3_succ (F : Fld) (r d W H y x : Nat) : nets3 F r d W H y (x + 1) = nets3 F r d W H y x ++ nets2 F x y (r + 1 - x) W (d + 1 - y) H := by
  simp only [nets3, List.range_succ, List.flatMap_append, List.flatMap_cons, List.flatMap_nil, List.append_nil]
theorem nets4_succ (F : Fld) (r d W H y : Nat) : nets4 F r d W H (y + 1) = nets4 F r d W H y ++ nets3 F r d W H y (r + 1) := by
  simp only [nets4, List.range_succ, List.flatMap_append, List.flatMap_cons, List.flatMap_nil, List.append_nil]
theorem flatMap_len {α β : Type} (f : α → List β) (B : Nat) : ∀ (l : List α), (∀ x ∈ l, (f x).length ≤ B) → (l.flatMap f).length ≤ l.length * B
  | [], _ => by simp
  | a :: r, h => by
    have h1 := h a (by simp)
    have h2 := flatMap_len f B r fun x hx => h x (by simp [hx])
    rw [List.flatMap_cons, List.length_append, List.length_cons, Nat.add_mul]
    omega
theorem nets1_len (F : Fld) (x y h w0 i : Nat) : (nets1 F x y h w0 i).length ≤ i := by
  unfold nets1
  refine Nat.le_trans (List.length_filter_le _ _) ?_
  simp
theorem nets2_len (F : Fld) (x y w0 h0 j : Nat) {W : Nat} (hW : W ≤ 10) : (nets2 F x y w0 W h0 j).length ≤ j * 10 := by
  have := flatMap_len (fun j => nets1 F x y (h0 + j) w0 W) 10 (List.range j) fun z _ => Nat.le_trans (nets1_len _ _ _ _ _ _) hW
  rwa [List.length_range] at this
theorem nets3_len (F : Fld) (r d y x : Nat) {W H : Nat} (hW : W ≤ 10) (hH : H ≤ 10) : (nets3 F r d W H y x).length ≤ x * 100 := by
  have := flatMap_len (fun x => nets2 F x y (r + 1 - x) W (d + 1 - y) H) 100 (List.range x) fun z _ => by
    have := nets2_len F z y (r + 1 - z) (d + 1 - y) H hW
    omega
  rwa [List.length_range] at this
theorem nets4_len (F : Fld) (d y : Nat) {r W H : Nat} (hr : r < 10) (hW : W ≤ 10) (hH : H ≤ 10) : (nets4 F r d W H y).length ≤ y * 1000 := by
  have := flatMap_len (fun y => nets3 F r d W H y (r + 1)) 1000 (List.range y) fun z _ => by
    have := nets3_len F r d z (r + 1) hW hH
    omega
  rwa [List.length_range] at this
theorem nets_len (F : Fld) (d : Nat) {r W H x y j i : Nat} (w0 h0 h : Nat) (hr : r < 10) (hW : W ≤ 10) (hH : H ≤ 10) (hx : x ≤ 10) (hy : y ≤ 10) (hj : j ≤ 10) (hi : i ≤ 10) :
    (nets4 F r d W H y ++ nets3 F r d W H y x ++ nets2 F x y w0 W h0 j ++ nets1 F x y h w0 i).length ≤ 20000 := by
  have h1 := nets4_len F d y hr hW hH
  have h2 := nets3_len F r d y x hW hH
  have h3 := nets2_len F x y w0 h0 j hW
  have h4 := nets1_len F x y h w0 i
  simp only [List.length_append]
  omega
theorem has_size {F : Fld} {k : Nat} (hk : k < 100) (h : F.has k = true) : ((k % 10 : Nat) : Int) < F.wide ∧ ((k / 10 : Nat) : Int) < F.high := by
  simp only [Fld.has, Bool.and_eq_true, decide_eq_true_eq] at h
  omega
theorem netsAt_len {F : Fld} (hv : F.valid = true) {k : Nat} (hk : k < 100) : (netsAt F k).length ≤ 10000 := by
  obtain ⟨⟨wl, wu⟩, ⟨hl, hu⟩⟩ := Fld.valid_size hv
  have := nets4_len F (k / 10) (k / 10 + 1) (r := k % 10) (W := (F.wide - (k % 10 : Nat)).toNat) (H := (F.high - (k / 10 : Nat)).toNat) (by omega) (by omega) (by omega)
  unfold netsAt
  omega
/-- The numbers by which the walks count. -/
theorem netsAt_nums {F : Fld} (hv : F.valid = true) {k : Nat} (hk : k < 100) (h : F.has k = true) :
    ∃ r d W H : Nat, (k : Int).tmod 10 = r ∧ (k : Int).tdiv 10 = d ∧ F.wide = ((r + W : Nat) : Int) ∧ F.high = ((d + H : Nat) : Int) ∧ r < 10 ∧ d < 10 ∧ r + W ≤ 10 ∧ d + H ≤ 10 ∧ netsAt F k = nets4 F r d W H (d + 1) := by
  obtain ⟨⟨wl, wu⟩, ⟨hl, hu⟩⟩ := Fld.valid_size hv
  obtain ⟨h1, h2⟩ := has_size hk h
  have i0 : (0 : Int) ≤ (k : Int) := by omega
  refine ⟨k % 10, k / 10, (F.wide - (k % 10 : Nat)).toNat, (F.high - (k / 10 : Nat)).toNat, ?_, ?_, by omega, by omega, by omega, by omega, by omega, by omega, rfl⟩
  · rw [Int.tmod_eq_emod_of_nonneg i0]; omega
  · rw [Int.tdiv_eq_ediv_of_nonneg i0]; omega
set_option maxRecDepth 100000 in
set_option maxHeartbeats 4000000 in
theorem allNets_any (g : Nat) {t : TypeId} (F : Fld) (hF : F.ok) (hv : F.valid = true) (k : Nat) (hk : k < 100) (hh : F.has k = true) (w : World) (hb : Blk w g t F.cells) :
    Calls Try.prog 45 #[.pointer (some ⟨g, 0, none⟩), .int .i64 k] w (RetRow w 65 4 (netsAt F k).length (flat Net.vals (netsAt F k))) := by
  have M := Lib.hid (Mem.start w)
  obtain ⟨r, d, W, H, ht, hd, hW, hH, r9, d9, W9, H9, hN⟩ := netsAt_nums hv hk hh
  have HB := Lib.hid hb
  have HN := Lib.hid hN
  have c0 := hb.cellv F.cell0
  have c1 := hb.cellv F.cell1
  have C0 := Lib.hid hW
  have C1 := Lib.hid hH
  have e1 : IntKind.i8.wrap (r : Int) = r := IntWalk.i8_in _ (by omega)
  have e2 : IntKind.i8.wrap (d : Int) = d := IntWalk.i8_in _ (by omega)
  have e3 : IntKind.i64.wrap (d : Int) = d := IntWalk.i64_in _ (by omega)
  rw [hW] at c0
  rw [hH] at c1
  clear hb hN hW hH hk hh c0 c1
  obtain ⟨T, hT⟩ : ∃ T : Nat, T = r + W := ⟨_, rfl⟩
  obtain ⟨U, hU⟩ : ∃ U : Nat, U = d + H := ⟨_, rfl⟩
  have HT := Lib.hid hT
  have HU := Lib.hid hU
  clear hT hU
  go_enter Try.func45, Try.ntmps45
  go_wp2_with (first
    | ((with_reducible refine gate_dst (N := 13) rfl ?_); go_must (refine M.out.ev_bs0 elem_Net rfl rfl ?_); intro gv wv m; simp only [List.cons_append, List.nil_append] at m; have M := Lib.hid m; clear m)
    )
  go_loopw [5, 8] (fun s v wr => ∃ y : Nat, y ≤ d + 1 ∧ v = .int .i8 y ∧ Mem w wr [.row s 65 4 (nets4 F r d W H y).length (flat Net.vals (nets4 F r d W H y))])
    (fun _ v _ => d + 1 - (intOf v).toNat)
  case atStart => exact ⟨0, by omega, rfl, M.out⟩
  case round =>
    clear M
    obtain ⟨y, hy, rfl, m⟩ := hrel
    have M := Lib.hid m
    clear m
    by_cases hlt : y < d + 1
    · have y0 : (y : Int) ≤ (d : Int) := by omega
      have y1 : IntKind.i8.wrap ((y : Int) + 1) = (y : Int) + 1 := IntWalk.i8_in _ (by omega)
      have y2 : IntKind.i8.wrap ((d : Int) - (y : Int)) = (d : Int) - y := IntWalk.i8_in _ (by omega)
      obtain ⟨h0, hh0⟩ : ∃ h0 : Nat, d + 1 - y = h0 := ⟨_, rfl⟩
      have y3 : IntKind.i8.wrap ((d : Int) - (y : Int) + 1) = (h0 : Int) := by rw [IntWalk.i8_in _ (by omega)]; omega
      have HH0 := Lib.hid hh0
      clear hh0
      go_wp2
      go_loopw [5, 9] (fun s v wr => ∃ x : Nat, x ≤ r + 1 ∧ v = .int .i8 x ∧ Mem w wr [.row s 65 4 (nets4 F r d W H y ++ nets3 F r d W H y x).length (flat Net.vals (nets4 F r d W H y ++ nets3 F r d W H y x))])
        (fun _ v _ => r + 1 - (intOf v).toNat)
      case atStart => exact ⟨0, by omega, rfl, by rw [show nets3 F r d W H y 0 = [] from rfl, List.append_nil]; exact M.out⟩
      case round =>
        clear M
        obtain ⟨x, hx, rfl, m⟩ := hrel
        have M := Lib.hid m
        clear m
        by_cases hxt : x < r + 1
        · have x0 : (x : Int) ≤ (r : Int) := by omega
          have x1 : IntKind.i8.wrap ((x : Int) + 1) = (x : Int) + 1 := IntWalk.i8_in _ (by omega)
          have x2 : IntKind.i8.wrap ((r : Int) - (x : Int)) = (r : Int) - x := IntWalk.i8_in _ (by omega)
          obtain ⟨w0, hw0⟩ : ∃ w0 : Nat, r + 1 - x = w0 := ⟨_, rfl⟩
          have x3 : IntKind.i8.wrap ((r : Int) - (x : Int) + 1) = (w0 : Int) := by rw [IntWalk.i8_in _ (by omega)]; omega
          have HW0 := Lib.hid hw0
          have N3 := Lib.hid (show nets3 F r d W H y (x + 1) = nets3 F r d W H y x ++ nets2 F x y w0 W h0 H by rw [nets3_succ, hw0, HH0.out])
          clear hw0
          go_wp2
          go_loopw [5, 10] (fun s v wr => ∃ j h : Nat, j ≤ H ∧ h = h0 + j ∧ v = .int .i8 h ∧ Mem w wr [.row s 65 4 (nets4 F r d W H y ++ nets3 F r d W H y x ++ nets2 F x y w0 W h0 j).length (flat Net.vals (nets4 F r d W H y ++ nets3 F r d W H y x ++ nets2 F x y w0 W h0 j))])
            (fun _ v _ => h0 + H - (intOf v).toNat)
          case atStart => exact ⟨0, h0, by omega, rfl, rfl, by rw [show nets2 F x y w0 W h0 0 = [] from rfl, List.append_nil]; exact M.out⟩
          case round =>
            clear M
            obtain ⟨j, h, hj, hhj, rfl, m⟩ := hrel
            have M := Lib.hid m
            clear m
            have c1 : wr.cell? ⟨g, 1, none⟩ = some (.int .i8 (U : Int)) := by
              have := (M.out.arg HB.out).cellv F.cell1
              rw [C1.out, ← HU.out] at this
              exact this
            have hU := HU.out
            have hT := HT.out
            have hh0 := HH0.out
            have hw0 := HW0.out
            have j1 : IntKind.i8.wrap ((h : Int) + 1) = (h : Int) + 1 := IntWalk.i8_in _ (by omega)
            have j2 : IntKind.i8.wrap ((y : Int) + (h : Int)) = ((y : Int) + (h : Int)) := IntWalk.i8_in _ (by omega)
            by_cases hjt : j < H
            · have j3 : ((y : Int) + (h : Int) ≤ (U : Int)) := by omega
              have HHJ := Lib.hid hhj
              clear hU hT hh0 hw0 hhj
              go_wp2
              clear c1
              go_loopw [5, 11] (fun s v wr => ∃ i wd : Nat, i ≤ W ∧ wd = w0 + i ∧ v = .int .i8 wd ∧ Mem w wr [.row s 65 4 (nets4 F r d W H y ++ nets3 F r d W H y x ++ nets2 F x y w0 W h0 j ++ nets1 F x y h w0 i).length (flat Net.vals (nets4 F r d W H y ++ nets3 F r d W H y x ++ nets2 F x y w0 W h0 j ++ nets1 F x y h w0 i))])
                (fun _ v _ => w0 + W - (intOf v).toNat)
              case atStart => exact ⟨0, w0, by omega, rfl, rfl, by rw [show nets1 F x y h w0 0 = [] from rfl, List.append_nil]; exact M.out⟩
              case round =>
                clear M
                obtain ⟨i, wd, hi, hwi, rfl, m⟩ := hrel
                have M := Lib.hid m
                clear m
                have c0 : wr.cell? ⟨g, 0, none⟩ = some (.int .i8 (T : Int)) := by
                  have := (M.out.arg HB.out).cellv F.cell0
                  rw [C0.out, ← HT.out] at this
                  exact this
                have hU := HU.out
                have hT := HT.out
                have hh0 := HH0.out
                have hw0 := HW0.out
                have hhj := HHJ.out
                have i1 : IntKind.i8.wrap ((wd : Int) + 1) = (wd : Int) + 1 := IntWalk.i8_in _ (by omega)
                have i2 : IntKind.i8.wrap ((x : Int) + (wd : Int)) = ((x : Int) + (wd : Int)) := IntWalk.i8_in _ (by omega)
                by_cases hit : i < W
                · have i3 : ((x : Int) + (wd : Int) ≤ (T : Int)) := by omega
                  have hok : (⟨(x : Nat), (y : Nat), (wd : Nat), (h : Nat)⟩ : Net).ok := by refine ⟨?_, ?_, ?_, ?_⟩ <;> dsimp only <;> omega
                  have hlen := nets_len F d (r := r) (W := W) (H := H) (x := x) (y := y) (j := j) (i := i) w0 h0 h (by omega) (by omega) (by omega) (by omega) (by omega) (by omega) (by omega)
                  have N1 := Lib.hid (nets1_succ F x y h w0 i)
                  rw [← hwi] at N1
                  have HWI := Lib.hid hwi
                  have HOK := Lib.hid hok
                  have ON := Lib.hid (Net.one ⟨(x : Nat), (y : Nat), (wd : Nat), (h : Nat)⟩)
                  clear hU hT hh0 hw0 hhj hwi hok
                  cases hq : (⟨(x : Nat), (y : Nat), (wd : Nat), (h : Nat)⟩ : Net).fits F
                  · have HQ := Lib.hid hq
                    clear hq
                    go_wp2_with (first
                      | ((with_reducible refine gate_dst (N := 12) rfl ?_); go_must (refine M.out.ev_new rfl (by first | (go_simp; done) | (go_simp; rfl)) ?_); intro g12 w12 m; simp only [List.cons_append, List.nil_append] at m; have M := Lib.hid m; clear m)
                      | ((with_reducible refine gate_store (x := .tmp 12) rfl ?_); go_must (refine M.out.ev_stw 1 _ _ _ rfl rfl rfl rfl _ rfl (by first | rfl | (simp only [S1.out]; rfl) | (simp only [S1.out, S2.out]; rfl) | (simp only [S3.out]; rfl) | (simp only [S1.out, S2.out, S3.out]; rfl)) (by first | exact sz65 | (rw [S1.out]; exact sz65) | (rw [S2.out]; exact sz65) | (rw [S3.out]; exact sz65)) (by first | exact ints_one _ _ | exact Fld.one _ | exact O1.out | rfl | (simp [Value.oneCell']; done)) rfl ?_); intro wn m; simp only [List.set_cons_succ, List.set_cons_zero, List.setIfInBounds_toArray] at m; have M := Lib.hid m; clear m)
                      | ((with_reducible refine gate_dst (N := 64) rfl ?_); go_must (refine M.out.ev_ldw 1 _ _ rfl rfl rfl Try.underlying65 rfl (by first | exact sz65 | (rw [S1.out]; exact sz65) | (rw [S2.out]; exact sz65) | (rw [S3.out]; exact sz65)) rfl ?_))
                      | ((with_reducible refine gate_dst (N := 67) rfl ?_); go_must (refine M.out.ev_ldw 1 _ _ rfl rfl rfl Try.underlying65 rfl (by first | exact sz65 | (rw [S1.out]; exact sz65) | (rw [S2.out]; exact sz65) | (rw [S3.out]; exact sz65)) rfl ?_))
                      | (go_at_call 80; go_must (refine (isNet_any g F hF hv ⟨(x : Nat), (y : Nat), (wd : Nat), (h : Nat)⟩ HOK.out _ (M.out.arg HB.out)).mono ?_); rintro e w_ ⟨rfl, N_⟩; have m := M.out.join N_; clear N_; simp only [List.cons_append, List.nil_append, List.append_nil] at m; have M := Lib.hid m; clear m; rw [HQ.out])
                      )
                    refine ⟨⟨i + 1, wd + 1, by omega, by have := HWI.out; omega, by go_num, ?_⟩, by simp [intOf]; have := HWI.out; omega⟩
                    rw [N1.out, HQ.out]
                    simpa using M.out.take 1
                  · have HQ := Lib.hid hq
                    clear hq
                    go_wp2_with (first
                      | ((with_reducible refine gate_dst (N := 12) rfl ?_); go_must (refine M.out.ev_new rfl (by first | (go_simp; done) | (go_simp; rfl)) ?_); intro g12 w12 m; simp only [List.cons_append, List.nil_append] at m; have M := Lib.hid m; clear m)
                      | ((with_reducible refine gate_store (x := .tmp 12) rfl ?_); go_must (refine M.out.ev_stw 1 _ _ _ rfl rfl rfl rfl _ rfl (by first | rfl | (simp only [S1.out]; rfl) | (simp only [S1.out, S2.out]; rfl) | (simp only [S3.out]; rfl) | (simp only [S1.out, S2.out, S3.out]; rfl)) (by first | exact sz65 | (rw [S1.out]; exact sz65) | (rw [S2.out]; exact sz65) | (rw [S3.out]; exact sz65)) (by first | exact ints_one _ _ | exact Fld.one _ | exact O1.out | rfl | (simp [Value.oneCell']; done)) rfl ?_); intro wn m; simp only [List.set_cons_succ, List.set_cons_zero, List.setIfInBounds_toArray] at m; have M := Lib.hid m; clear m)
                      | ((with_reducible refine gate_dst (N := 64) rfl ?_); go_must (refine M.out.ev_ldw 1 _ _ rfl rfl rfl Try.underlying65 rfl (by first | exact sz65 | (rw [S1.out]; exact sz65) | (rw [S2.out]; exact sz65) | (rw [S3.out]; exact sz65)) rfl ?_))
                      | ((with_reducible refine gate_dst (N := 67) rfl ?_); go_must (refine M.out.ev_ldw 1 _ _ rfl rfl rfl Try.underlying65 rfl (by first | exact sz65 | (rw [S1.out]; exact sz65) | (rw [S2.out]; exact sz65) | (rw [S3.out]; exact sz65)) rfl ?_))
                      | (go_at_call 80; go_must (refine (isNet_any g F hF hv ⟨(x : Nat), (y : Nat), (wd : Nat), (h : Nat)⟩ HOK.out _ (M.out.arg HB.out)).mono ?_); rintro e w_ ⟨rfl, N_⟩; have m := M.out.join N_; clear N_; simp only [List.cons_append, List.nil_append, List.append_nil] at m; have M := Lib.hid m; clear m; rw [HQ.out])
                      | ((with_reducible refine gate_dst (N := 68) rfl ?_); go_must (refine M.out.ev_bs1 elem_Net rfl _ rfl (Net.vals ⟨(x : Nat), (y : Nat), (wd : Nat), (h : Nat)⟩).toArray rfl rfl (by decide) ?_); intro g68 w68 m; simp only [List.cons_append, List.nil_append] at m; have M := Lib.hid m; clear m)
                      | ((with_reducible refine gate_dst (N := 69) rfl ?_); go_must (refine M.out.ev_append1 0 2 elem_Net rfl _ _ rfl rfl rfl rfl rfl rfl ON.out (by omega) (by decide) ?_); intro v69 w69 m; simp only [List.set_cons_succ, List.set_cons_zero] at m; have M := Lib.hid m; clear m)
                      )
                    refine ⟨⟨i + 1, wd + 1, by omega, by have := HWI.out; omega, by go_num, ?_⟩, by simp [intOf]; have := HWI.out; omega⟩
                    have mm := M.out.take 1
                    rw [N1.out, HQ.out, if_pos rfl, ← List.append_assoc, flat_snoc, List.length_append]
                    exact mm
                · obtain rfl : i = W := by omega
                  have i3 : ¬ ((x : Int) + (wd : Int) ≤ (T : Int)) := by omega
                  have HWI := Lib.hid hwi
                  clear hU hT hh0 hw0 hhj hwi
                  go_wp2
                  refine ⟨⟨j + 1, h + 1, by omega, by have := HHJ.out; omega, by go_num, ?_⟩, by simp [intOf]; have := HHJ.out; omega⟩
                  rw [nets2_succ, ← HHJ.out, ← List.append_assoc]
                  exact M.out
            · obtain rfl : j = H := by omega
              have j3 : ¬ ((y : Int) + (h : Int) ≤ (U : Int)) := by omega
              clear hU hT hh0 hw0 hhj
              go_wp2
              refine ⟨⟨x + 1, by omega, by go_num, ?_⟩, by simp [intOf]; omega⟩
              rw [N3.out, ← List.append_assoc]
              exact M.out
        · obtain rfl : x = r + 1 := by omega
          have x0 : ¬ (((r + 1 : Nat) : Int) ≤ (r : Int)) := by omega
          go_wp2
          refine ⟨⟨y + 1, by omega, by go_num, ?_⟩, by simp [intOf]; omega⟩
          rw [nets4_succ]
          exact M.out
    · obtain rfl : y = d + 1 := by omega
      have y0 : ¬ (((d + 1 : Nat) : Int) ≤ (d : Int)) := by omega
      go_wp2
      obtain ⟨A, cc, rfl, hcc, _⟩ := M.out.row_slice 0 rfl
      go_ret
      rw [HN.out]
      exact ⟨A, cc, rfl, hcc, M.out⟩
set_option maxRecDepth 100000 in
set_option maxHeartbeats 4000000 in
theorem l04All_any (g : Nat) {t : TypeId} (F : Fld) (hF : F.ok) (hv : F.valid = true) (k : Nat) (hk : k < 100) (hh : F.has k = true) (w : World) (hb : Blk w g t F.cells) :
    Calls Try.prog 35 #[.pointer (some ⟨g, 0, none⟩), .int .i64 k] w (RetRow w 65 4 (netsAt F k).length (flat Net.vals (netsAt F k))) := by
  have M := Lib.hid (Mem.start w)
  obtain ⟨r, d, W, H, ht, hd, hW, hH, r9, d9, W9, H9, hN⟩ := netsAt_nums hv hk hh
  have HB := Lib.hid hb
  have HN := Lib.hid hN
  have c0 := hb.cellv F.cell0
  have c1 := hb.cellv F.cell1
  have C0 := Lib.hid hW
  have C1 := Lib.hid hH
  have e1 : IntKind.i8.wrap (r : Int) = r := IntWalk.i8_in _ (by omega)
  have e2 : IntKind.i8.wrap (d : Int) = d := IntWalk.i8_in _ (by omega)
  have e3 : IntKind.i64.wrap (d : Int) = d := IntWalk.i64_in _ (by omega)
  rw [hW] at c0
  rw [hH] at c1
  clear hb hN hW hH hk hh c0 c1
  obtain ⟨T, hT⟩ : ∃ T : Nat, T = r + W := ⟨_, rfl⟩
  obtain ⟨U, hU⟩ : ∃ U : Nat, U = d + H := ⟨_, rfl⟩
  have HT := Lib.hid hT
  have HU := Lib.hid hU
  clear hT hU
  go_enter Try.func35, Try.ntmps35
  go_wp2_with (first
    | ((with_reducible refine gate_dst (N := 13) rfl ?_); go_must (refine M.out.ev_bs0 elem_Net rfl rfl ?_); intro gv wv m; simp only [List.cons_append, List.nil_append] at m; have M := Lib.hid m; clear m)
    )
  go_loopw [5, 8] (fun s v wr => ∃ y : Nat, y ≤ d + 1 ∧ v = .int .i8 y ∧ Mem w wr [.row s 65 4 (nets4 F r d W H y).length (flat Net.vals (nets4 F r d W H y))])
    (fun _ v _ => d + 1 - (intOf v).toNat)
  case atStart => exact ⟨0, by omega, rfl, M.out⟩
  case round =>
    clear M
    obtain ⟨y, hy, rfl, m⟩ := hrel
    have M := Lib.hid m
    clear m
    by_cases hlt : y < d + 1
    · have y0 : (y : Int) ≤ (d : Int) := by omega
      have y1 : IntKind.i8.wrap ((y : Int) + 1) = (y : Int) + 1 := IntWalk.i8_in _ (by omega)
      have y2 : IntKind.i8.wrap ((d : Int) - (y : Int)) = (d : Int) - y := IntWalk.i8_in _ (by omega)
      obtain ⟨h0, hh0⟩ : ∃ h0 : Nat, d + 1 - y = h0 := ⟨_, rfl⟩
      have y3 : IntKind.i8.wrap ((d : Int) - (y : Int) + 1) = (h0 : Int) := by rw [IntWalk.i8_in _ (by omega)]; omega
      have HH0 := Lib.hid hh0
      clear hh0
      go_wp2
      go_loopw [5, 9] (fun s v wr => ∃ x : Nat, x ≤ r + 1 ∧ v = .int .i8 x ∧ Mem w wr [.row s 65 4 (nets4 F r d W H y ++ nets3 F r d W H y x).length (flat Net.vals (nets4 F r d W H y ++ nets3 F r d W H y x))])
        (fun _ v _ => r + 1 - (intOf v).toNat)
      case atStart => exact ⟨0, by omega, rfl, by rw [show nets3 F r d W H y 0 = [] from rfl, List.append_nil]; exact M.out⟩
      case round =>
        clear M
        obtain ⟨x, hx, rfl, m⟩ := hrel
        have M := Lib.hid m
        clear m
        by_cases hxt : x < r + 1
        · have x0 : (x : Int) ≤ (r : Int) := by omega
          have x1 : IntKind.i8.wrap ((x : Int) + 1) = (x : Int) + 1 := IntWalk.i8_in _ (by omega)
          have x2 : IntKind.i8.wrap ((r : Int) - (x : Int)) = (r : Int) - x := IntWalk.i8_in _ (by omega)
          obtain ⟨w0, hw0⟩ : ∃ w0 : Nat, r + 1 - x = w0 := ⟨_, rfl⟩
          have x3 : IntKind.i8.wrap ((r : Int) - (x : Int) + 1) = (w0 : Int) := by rw [IntWalk.i8_in _ (by omega)]; omega
          have HW0 := Lib.hid hw0
          have N3 := Lib.hid (show nets3 F r d W H y (x + 1) = nets3 F r d W H y x ++ nets2 F x y w0 W h0 H by rw [nets3_succ, hw0, HH0.out])
          clear hw0
          go_wp2
          go_loopw [5, 10] (fun s v wr => ∃ j h : Nat, j ≤ H ∧ h = h0 + j ∧ v = .int .i8 h ∧ Mem w wr [.row s 65 4 (nets4 F r d W H y ++ nets3 F r d W H y x ++ nets2 F x y w0 W h0 j).length (flat Net.vals (nets4 F r d W H y ++ nets3 F r d W H y x ++ nets2 F x y w0 W h0 j))])
            (fun _ v _ => h0 + H - (intOf v).toNat)
          case atStart => exact ⟨0, h0, by omega, rfl, rfl, by rw [show nets2 F x y w0 W h0 0 = [] from rfl, List.append_nil]; exact M.out⟩
          case round =>
            clear M
            obtain ⟨j, h, hj, hhj, rfl, m⟩ := hrel
            have M := Lib.hid m
            clear m
            have c1 : wr.cell? ⟨g, 1, none⟩ = some (.int .i8 (U : Int)) := by
              have := (M.out.arg HB.out).cellv F.cell1
              rw [C1.out, ← HU.out] at this
              exact this
            have hU := HU.out
            have hT := HT.out
            have hh0 := HH0.out
            have hw0 := HW0.out
            have j1 : IntKind.i8.wrap ((h : Int) + 1) = (h : Int) + 1 := IntWalk.i8_in _ (by omega)
            have j2 : IntKind.i8.wrap ((U : Int) - (y : Int)) = ((U : Int) - (y : Int)) := IntWalk.i8_in _ (by omega)
            by_cases hjt : j < H
            · have j3 : ((h : Int) ≤ (U : Int) - (y : Int)) := by omega
              have HHJ := Lib.hid hhj
              clear hU hT hh0 hw0 hhj
              go_wp2
              clear c1
              go_loopw [5, 11] (fun s v wr => ∃ i wd : Nat, i ≤ W ∧ wd = w0 + i ∧ v = .int .i8 wd ∧ Mem w wr [.row s 65 4 (nets4 F r d W H y ++ nets3 F r d W H y x ++ nets2 F x y w0 W h0 j ++ nets1 F x y h w0 i).length (flat Net.vals (nets4 F r d W H y ++ nets3 F r d W H y x ++ nets2 F x y w0 W h0 j ++ nets1 F x y h w0 i))])
                (fun _ v _ => w0 + W - (intOf v).toNat)
              case atStart => exact ⟨0, w0, by omega, rfl, rfl, by rw [show nets1 F x y h w0 0 = [] from rfl, List.append_nil]; exact M.out⟩
              case round =>
                clear M
                obtain ⟨i, wd, hi, hwi, rfl, m⟩ := hrel
                have M := Lib.hid m
                clear m
                have c0 : wr.cell? ⟨g, 0, none⟩ = some (.int .i8 (T : Int)) := by
                  have := (M.out.arg HB.out).cellv F.cell0
                  rw [C0.out, ← HT.out] at this
                  exact this
                have hU := HU.out
                have hT := HT.out
                have hh0 := HH0.out
                have hw0 := HW0.out
                have hhj := HHJ.out
                have i1 : IntKind.i8.wrap ((wd : Int) + 1) = (wd : Int) + 1 := IntWalk.i8_in _ (by omega)
                have i2 : IntKind.i8.wrap ((T : Int) - (x : Int)) = ((T : Int) - (x : Int)) := IntWalk.i8_in _ (by omega)
                by_cases hit : i < W
                · have i3 : ((wd : Int) ≤ (T : Int) - (x : Int)) := by omega
                  have hok : (⟨(x : Nat), (y : Nat), (wd : Nat), (h : Nat)⟩ : Net).ok := by refine ⟨?_, ?_, ?_, ?_⟩ <;> dsimp only <;> omega
                  have hlen := nets_len F d (r := r) (W := W) (H := H) (x := x) (y := y) (j := j) (i := i) w0 h0 h (by omega) (by omega) (by omega) (by omega) (by omega) (by omega) (by omega)
                  have N1 := Lib.hid (nets1_succ F x y h w0 i)
                  rw [← hwi] at N1
                  have HWI := Lib.hid hwi
                  have HOK := Lib.hid hok
                  have ON := Lib.hid (Net.one ⟨(x : Nat), (y : Nat), (wd : Nat), (h : Nat)⟩)
                  clear hU hT hh0 hw0 hhj hwi hok
                  cases hq : (⟨(x : Nat), (y : Nat), (wd : Nat), (h : Nat)⟩ : Net).fits F
                  · have HQ := Lib.hid hq
                    clear hq
                    go_wp2_with (first
                      | ((with_reducible refine gate_dst (N := 12) rfl ?_); go_must (refine M.out.ev_new rfl (by first | (go_simp; done) | (go_simp; rfl)) ?_); intro g12 w12 m; simp only [List.cons_append, List.nil_append] at m; have M := Lib.hid m; clear m)
                      | ((with_reducible refine gate_store (x := .tmp 12) rfl ?_); go_must (refine M.out.ev_stw 1 _ _ _ rfl rfl rfl rfl _ rfl (by first | rfl | (simp only [S1.out]; rfl) | (simp only [S1.out, S2.out]; rfl) | (simp only [S3.out]; rfl) | (simp only [S1.out, S2.out, S3.out]; rfl)) (by first | exact sz65 | (rw [S1.out]; exact sz65) | (rw [S2.out]; exact sz65) | (rw [S3.out]; exact sz65)) (by first | exact ints_one _ _ | exact Fld.one _ | exact O1.out | rfl | (simp [Value.oneCell']; done)) rfl ?_); intro wn m; simp only [List.set_cons_succ, List.set_cons_zero, List.setIfInBounds_toArray] at m; have M := Lib.hid m; clear m)
                      | ((with_reducible refine gate_dst (N := 64) rfl ?_); go_must (refine M.out.ev_ldw 1 _ _ rfl rfl rfl Try.underlying65 rfl (by first | exact sz65 | (rw [S1.out]; exact sz65) | (rw [S2.out]; exact sz65) | (rw [S3.out]; exact sz65)) rfl ?_))
                      | ((with_reducible refine gate_dst (N := 67) rfl ?_); go_must (refine M.out.ev_ldw 1 _ _ rfl rfl rfl Try.underlying65 rfl (by first | exact sz65 | (rw [S1.out]; exact sz65) | (rw [S2.out]; exact sz65) | (rw [S3.out]; exact sz65)) rfl ?_))
                      | (go_at_call 74; go_must (refine (l04Net_any g F hF hv ⟨(x : Nat), (y : Nat), (wd : Nat), (h : Nat)⟩ HOK.out _ (M.out.arg HB.out)).mono ?_); rintro e w_ ⟨rfl, N_⟩; have m := M.out.join N_; clear N_; simp only [List.cons_append, List.nil_append, List.append_nil] at m; have M := Lib.hid m; clear m; rw [HQ.out])
                      )
                    refine ⟨⟨i + 1, wd + 1, by omega, by have := HWI.out; omega, by go_num, ?_⟩, by simp [intOf]; have := HWI.out; omega⟩
                    rw [N1.out, HQ.out]
                    simpa using M.out.take 1
                  · have HQ := Lib.hid hq
                    clear hq
                    go_wp2_with (first
                      | ((with_reducible refine gate_dst (N := 12) rfl ?_); go_must (refine M.out.ev_new rfl (by first | (go_simp; done) | (go_simp; rfl)) ?_); intro g12 w12 m; simp only [List.cons_append, List.nil_append] at m; have M := Lib.hid m; clear m)
                      | ((with_reducible refine gate_store (x := .tmp 12) rfl ?_); go_must (refine M.out.ev_stw 1 _ _ _ rfl rfl rfl rfl _ rfl (by first | rfl | (simp only [S1.out]; rfl) | (simp only [S1.out, S2.out]; rfl) | (simp only [S3.out]; rfl) | (simp only [S1.out, S2.out, S3.out]; rfl)) (by first | exact sz65 | (rw [S1.out]; exact sz65) | (rw [S2.out]; exact sz65) | (rw [S3.out]; exact sz65)) (by first | exact ints_one _ _ | exact Fld.one _ | exact O1.out | rfl | (simp [Value.oneCell']; done)) rfl ?_); intro wn m; simp only [List.set_cons_succ, List.set_cons_zero, List.setIfInBounds_toArray] at m; have M := Lib.hid m; clear m)
                      | ((with_reducible refine gate_dst (N := 64) rfl ?_); go_must (refine M.out.ev_ldw 1 _ _ rfl rfl rfl Try.underlying65 rfl (by first | exact sz65 | (rw [S1.out]; exact sz65) | (rw [S2.out]; exact sz65) | (rw [S3.out]; exact sz65)) rfl ?_))
                      | ((with_reducible refine gate_dst (N := 67) rfl ?_); go_must (refine M.out.ev_ldw 1 _ _ rfl rfl rfl Try.underlying65 rfl (by first | exact sz65 | (rw [S1.out]; exact sz65) | (rw [S2.out]; exact sz65) | (rw [S3.out]; exact sz65)) rfl ?_))
                      | (go_at_call 74; go_must (refine (l04Net_any g F hF hv ⟨(x : Nat), (y : Nat), (wd : Nat), (h : Nat)⟩ HOK.out _ (M.out.arg HB.out)).mono ?_); rintro e w_ ⟨rfl, N_⟩; have m := M.out.join N_; clear N_; simp only [List.cons_append, List.nil_append, List.append_nil] at m; have M := Lib.hid m; clear m; rw [HQ.out])
                      | ((with_reducible refine gate_dst (N := 68) rfl ?_); go_must (refine M.out.ev_bs1 elem_Net rfl _ rfl (Net.vals ⟨(x : Nat), (y : Nat), (wd : Nat), (h : Nat)⟩).toArray rfl rfl (by decide) ?_); intro g68 w68 m; simp only [List.cons_append, List.nil_append] at m; have M := Lib.hid m; clear m)
                      | ((with_reducible refine gate_dst (N := 69) rfl ?_); go_must (refine M.out.ev_append1 0 2 elem_Net rfl _ _ rfl rfl rfl rfl rfl rfl ON.out (by omega) (by decide) ?_); intro v69 w69 m; simp only [List.set_cons_succ, List.set_cons_zero] at m; have M := Lib.hid m; clear m)
                      )
                    refine ⟨⟨i + 1, wd + 1, by omega, by have := HWI.out; omega, by go_num, ?_⟩, by simp [intOf]; have := HWI.out; omega⟩
                    have mm := M.out.take 1
                    rw [N1.out, HQ.out, if_pos rfl, ← List.append_assoc, flat_snoc, List.length_append]
                    exact mm
                · obtain rfl : i = W := by omega
                  have i3 : ¬ ((wd : Int) ≤ (T : Int) - (x : Int)) := by omega
                  have HWI := Lib.hid hwi
                  clear hU hT hh0 hw0 hhj hwi
                  go_wp2
                  refine ⟨⟨j + 1, h + 1, by omega, by have := HHJ.out; omega, by go_num, ?_⟩, by simp [intOf]; have := HHJ.out; omega⟩
                  rw [nets2_succ, ← HHJ.out, ← List.append_assoc]
                  exact M.out
            · obtain rfl : j = H := by omega
              have j3 : ¬ ((h : Int) ≤ (U : Int) - (y : Int)) := by omega
              clear hU hT hh0 hw0 hhj
              go_wp2
              refine ⟨⟨x + 1, by omega, by go_num, ?_⟩, by simp [intOf]; omega⟩
              rw [N3.out, ← List.append_assoc]
              exact M.out
        · obtain rfl : x = r + 1 := by omega
          have x0 : ¬ (((r + 1 : Nat) : Int) ≤ (r : Int)) := by omega
          go_wp2
          refine ⟨⟨y + 1, by omega, by go_num, ?_⟩, by simp [intOf]; omega⟩
          rw [nets4_succ]
          exact M.out
    · obtain rfl : y = d + 1 := by omega
      have y0 : ¬ (((d + 1 : Nat) : Int) ≤ (d : Int)) := by omega
      go_wp2
      obtain ⟨A, cc, rfl, hcc, _⟩ := M.out.row_slice 0 rfl
      go_ret
      rw [HN.out]
      exact ⟨A, cc, rfl, hcc, M.out⟩
end Go.Proofs.Ytjkclggdaafmaaa
