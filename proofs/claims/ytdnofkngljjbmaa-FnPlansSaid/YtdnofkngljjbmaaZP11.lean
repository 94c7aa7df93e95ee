/- Texts of a proof, laid together: Greedy. -/
import Derived.Test.YtdnofkngljjbmaaZP10
namespace Go.Proofs.Ytdnofkngljjbmaa
set_option linter.unusedSimpArgs false
set_option linter.unusedVariables false
open Go.RowKit
attribute [local go_sem] cell?_mk frozen?_mk

def worthAt (xs : List Plot) (i : Nat) (d : Int) : Int := match xs[i]? with | some x => x.worth d | none => 0
theorem worthAt_at {xs : List Plot} {i : Nat} (h : i < xs.length) (d : Int) : worthAt xs i d = xs[i].worth d := by
  have h1 : xs[i]? = some xs[i] := List.getElem?_eq_getElem h
  simp [worthAt, h1]
/-- Among the first plots that are free, that which is worth most on a day, and its worth. -/
def bestTo (xs : List Plot) (p : List Int) (d : Int) : Nat → Int × Int
  | 0 => (-1, 0)
  | k + 1 => if gi p k < 0 ∧ (bestTo xs p d k).2 < worthAt xs k d then ((k : Int), worthAt xs k d) else bestTo xs p d k
def turnOf (xs : List Plot) (p : List Int) (d : Int) : List Int := if 0 ≤ (bestTo xs p d xs.length).1 then p.set (bestTo xs p d xs.length).1.toNat d else p
def dayG (xs : List Plot) (d : Int) (p : List Int) : Nat → List Int
  | 0 => p
  | j + 1 => turnOf xs (dayG xs d p j) d
def greedyTo (xs : List Plot) (h : Nat) : Nat → List Int
  | 0 => List.replicate xs.length (-1)
  | k + 1 => dayG xs k (greedyTo xs h k) h
theorem bestTo_b (xs : List Plot) (p : List Int) (d : Int) : ∀ k, (bestTo xs p d k).1 = -1 ∨ (0 ≤ (bestTo xs p d k).1 ∧ (bestTo xs p d k).1 < k)
  | 0 => .inl rfl
  | k + 1 => by
    rw [bestTo]
    split
    · exact .inr ⟨by show (0 : Int) ≤ k; omega, by show (k : Int) < (k + 1 : Nat); omega⟩
    · rcases bestTo_b xs p d k with h | h
      · exact .inl h
      · exact .inr ⟨h.1, by have := h.2; omega⟩
def inP (n : Nat) (p : List Int) : Prop := p.length = n ∧ ∀ x ∈ p, -1 ≤ x ∧ x ≤ 19
theorem turnOf_in {xs : List Plot} {p : List Int} {n : Nat} (h : inP n p) {d : Int} (d0 : 0 ≤ d) (d1 : d ≤ 19) : inP n (turnOf xs p d) := by
  unfold turnOf
  split
  · refine ⟨by rw [List.length_set]; exact h.1, fun x hx => ?_⟩
    rcases List.mem_or_eq_of_mem_set hx with h1 | h1
    · exact h.2 x h1
    · omega
  · exact h
theorem dayG_in {xs : List Plot} {p : List Int} {n : Nat} (h : inP n p) {d : Int} (d0 : 0 ≤ d) (d1 : d ≤ 19) : ∀ j, inP n (dayG xs d p j)
  | 0 => h
  | j + 1 => turnOf_in (dayG_in h d0 d1 j) d0 d1
theorem greedyTo_in (xs : List Plot) (h : Nat) : ∀ k, k ≤ 20 → inP xs.length (greedyTo xs h k)
  | 0, _ => ⟨by simp [greedyTo], fun x hx => by rw [greedyTo, List.mem_replicate] at hx; omega⟩
  | k + 1, hk => dayG_in (greedyTo_in xs h k (by omega)) (by omega) (by omega) h
def sumTo (f : Nat → Int) : Nat → Int
  | 0 => 0
  | k + 1 => sumTo f k + f k
theorem sumTo_congr {f g : Nat → Int} : ∀ n, (∀ i, i < n → f i = g i) → sumTo f n = sumTo g n
  | 0, _ => rfl
  | n + 1, h => by rw [sumTo, sumTo, sumTo_congr n (fun i hi => h i (by omega)), h n (by omega)]
theorem sumTo_b {f : Nat → Int} (h : ∀ i, 0 ≤ f i ∧ f i ≤ 1000) : ∀ n : Nat, 0 ≤ sumTo f n ∧ sumTo f n ≤ 1000 * (n : Int)
  | 0 => ⟨Int.le_refl _, by simp [sumTo]⟩
  | n + 1 => by
    have ih := sumTo_b h n
    have := h n
    rw [sumTo]
    constructor <;> (push_cast; omega)
theorem worthsOf_gi {xs : List Plot} {p : List Int} {i : Nat} (h : i < xs.length) : gi (worthsOf xs p) i = wOf xs p i := by
  unfold gi
  rw [List.getD_eq_getElem?_getD]
  simp [worthsOf, h]
theorem worthsOf_len (xs : List Plot) (p : List Int) : (worthsOf xs p).length = xs.length := by simp [worthsOf]
set_option maxRecDepth 100000 in
set_option maxHeartbeats 1000000 in
theorem total_any (A : Option Addr) (c : Nat) (l : List Int) (hl : l.length ≤ 6) (hb : ∀ i, 0 ≤ gi l i ∧ gi l i ≤ 1000) (w : World) (hs : Sl w 1 A l.length (flat oneI l)) :
    Calls Try.prog 61 #[.slice A l.length c] w fun e w' => e = .returned (.int .i64 (sumTo (gi l) l.length)) ∧ w = w' := by
  have HS := Lib.hid hs
  have HB := Lib.hid hb
  clear hs hb
  go_enter Try.func61, Try.ntmps61
  go_wp2
  go_loop [3, 8] (fun s v => ∃ k : Nat, k ≤ l.length ∧ v = .int .i64 k ∧ s = .int .i64 (sumTo (gi l) k))
    (fun _ v => l.length - (intOf v).toNat)
  case atStart => exact ⟨0, by omega, rfl, rfl⟩
  case round =>
    obtain ⟨k, hk, rfl, rfl⟩ := hrel
    by_cases hlt : k < l.length
    · obtain ⟨b, off, rfl, hr⟩ := HS.out.2 (by omega)
      have x0 : w.cell? ⟨b, off + k, none⟩ = some (.int .i64 (gi l k)) := by simpa [oneI] using range_at oneI_len hr (getElem?_gi hlt) 0 _ rfl
      have h1 := HB.out k
      have h2 := sumTo_b HB.out k
      have e1 : IntKind.i64.wrap (sumTo (gi l) k + gi l k) = sumTo (gi l) k + gi l k := IntWalk.i64_in _ (by omega)
      have i0 : (0 : Int) ≤ (k : Int) := by omega
      have i1 : (k : Int) < (l.length : Int) := by omega
      clear hr
      go_wp2
      exact ⟨⟨k + 1, by omega, by go_num, rfl⟩, by simp [intOf]; omega⟩
    · obtain rfl : k = l.length := by omega
      go_wp2
      go_ret
      exact ⟨rfl, rfl⟩
set_option maxRecDepth 100000 in
set_option maxHeartbeats 1000000 in
theorem l07Sum_any (A : Option Addr) (n : Nat) (xs : List Plot) (hx : ∀ x ∈ xs, x.fine = true) (hl : xs.length ≤ 6) (B : Option Addr) (c : Nat) (p : List Int) (hp : p.length = xs.length) (hd : ∀ d ∈ p, -1 ≤ d ∧ d ≤ 1000) (w : World) (hs : Sl w 4 A xs.length (flat Plot.vals xs)) (ht : Sl w 1 B p.length (flat oneI p)) :
    Calls Try.prog 59 #[.slice A xs.length n, .slice B p.length c] w fun e w' => e = .returned (.int .i64 (sumTo (wOf xs p) p.length)) ∧ Mem w w' [] := by
  have M := Lib.hid (Mem.start w)
  have HX := Lib.hid hx
  have HS := Lib.hid hs
  have HT := Lib.hid ht
  have HD := Lib.hid hd
  have HPL := Lib.hid hp
  clear hx hs ht hd hp
  go_enter Try.func59, Try.ntmps59
  go_wp2
  go_loopw [5, 6] (fun s v wr => ∃ k : Nat, k ≤ p.length ∧ v = .int .i64 k ∧ s = .int .i64 (sumTo (wOf xs p) k) ∧ Mem w wr [])
    (fun _ v _ => p.length - (intOf v).toNat)
  case atStart => exact ⟨0, by omega, rfl, rfl, M.out⟩
  case round =>
    clear M
    obtain ⟨k, hk, rfl, rfl, mm⟩ := hrel
    have M := Lib.hid mm
    clear mm
    by_cases hlt : k < p.length
    · have hkx : k < xs.length := by have := HPL.out; omega
      obtain ⟨b, off, rfl, hr0⟩ := HT.out.2 (by omega)
      obtain ⟨b2, off2, rfl, hr2⟩ := HS.out.2 (by omega)
      have X0 := Lib.hid (show w.cell? ⟨b, off + k, none⟩ = some (.int .i64 p[k]) by simpa [oneI] using range_at oneI_len hr0 (List.getElem?_eq_getElem hlt) 0 _ rfl)
      have R := Lib.hid (range_at Plot.vl hr2 (List.getElem?_eq_getElem hkx))
      have x0 := M.out.argcell X0.out
      have HPK := Lib.hid (List.getElem?_eq_getElem hlt)
      have hdd := HD.out p[k] (List.getElem_mem hlt)
      have HFK := Lib.hid (HX.out xs[k] (List.getElem_mem hkx))
      have h1 := wOf_b HX.out p k
      have h2 := sumTo_b (wOf_b HX.out p) k
      have HSU := Lib.hid (show sumTo (wOf xs p) (k + 1) = sumTo (wOf xs p) k + wOf xs p k from rfl)
      have i0 : (0 : Int) ≤ (k : Int) := by omega
      have i1 : (k : Int) < (p.length : Int) := by omega
      have i2 : (k : Int) < (xs.length : Int) := by omega
      obtain ⟨y, hy⟩ : ∃ y, y = p[k] := ⟨_, rfl⟩
      rw [← hy] at x0 X0 HPK hdd
      clear hr0 hr2 hy
      by_cases hn : 0 ≤ y
      · have HW := Lib.hid (wOf_pos hkx HPK.out hn)
        obtain ⟨wv, hwv⟩ : ∃ wv, wv = wOf xs p k := ⟨_, rfl⟩
        rw [← hwv] at HW h1 HSU
        have e2 : IntKind.i64.wrap (sumTo (wOf xs p) k + wv) = sumTo (wOf xs p) k + wv := IntWalk.i64_in _ (by omega)
        clear hwv h1 h2
        go_wp2
        refine region_anyH (fun w' => Mem w w' []) (by kernel_rfl) ?_
        have m := M.out.drew
        clear M
        have M := Lib.hid m
        clear m
        apply takeH (i := 0) 18 rfl (by kernel_rfl) (by kernel_rfl) (by kernel_rfl) (fun _ _ _ h => h) rfl (by first | exact M.out | exact M.out.take 0)
        case' hy =>
          refine Or.inl ⟨by first | rfl | (go_simp; done), ?_⟩
          intro w hS
          clear hS
          go_simp
          try with_reducible rfl
        try simp only [Act.put, List.getElem_toArray, List.getElem_cons_succ, List.getElem_cons_zero, List.setIfInBounds_toArray, List.set_cons_succ, List.set_cons_zero]
        apply takeH (i := 1) 19 rfl (by kernel_rfl) (by kernel_rfl) (by kernel_rfl) (fun _ _ _ h => h) rfl (by first | exact M.out | exact M.out.take 0)
        case' hy =>
          refine Or.inl ⟨by first | rfl | (go_simp; done), ?_⟩
          intro w hS
          clear hS
          go_simp
          try with_reducible rfl
        try simp only [Act.put, List.getElem_toArray, List.getElem_cons_succ, List.getElem_cons_zero, List.setIfInBounds_toArray, List.set_cons_succ, List.set_cons_zero]
        apply takeH (i := 2) 20 rfl (by kernel_rfl) (by kernel_rfl) (by kernel_rfl) (fun _ _ _ h => h) rfl (by first | exact M.out | exact M.out.take 0)
        case' hy =>
          refine Or.inl ⟨by first | rfl | (go_simp; done), ?_⟩
          intro w hS
          clear hS
          go_simp
          try with_reducible rfl
        try simp only [Act.put, List.getElem_toArray, List.getElem_cons_succ, List.getElem_cons_zero, List.setIfInBounds_toArray, List.set_cons_succ, List.set_cons_zero]
        apply takeH (i := 3) 21 rfl (by kernel_rfl) (by kernel_rfl) (by kernel_rfl) (fun _ _ _ h => h) rfl (by first | exact M.out | exact M.out.take 0)
        case' hy =>
          refine Or.inl ⟨by first | rfl | (go_simp; done), ?_⟩
          intro w hS
          clear hS
          go_simp
          try with_reducible rfl
        try simp only [Act.put, List.getElem_toArray, List.getElem_cons_succ, List.getElem_cons_zero, List.setIfInBounds_toArray, List.set_cons_succ, List.set_cons_zero]
        apply takeH (i := 5) 23 rfl (by kernel_rfl) (by kernel_rfl) (by kernel_rfl) (fun _ _ _ h => h) rfl (by first | exact M.out | exact M.out.take 0)
        case' hy =>
          refine Or.inl ⟨by first | rfl | (go_simp; done), ?_⟩
          intro w hS
          clear hS
          go_simp
          try with_reducible rfl
        try simp only [Act.put, List.getElem_toArray, List.getElem_cons_succ, List.getElem_cons_zero, List.setIfInBounds_toArray, List.set_cons_succ, List.set_cons_zero]
        apply takeH (i := 6) 24 rfl (by kernel_rfl) (by kernel_rfl) (by kernel_rfl) (fun _ _ _ h => h) rfl (by first | exact M.out | exact M.out.take 0)
        case' hy =>
          refine Or.inl ⟨by first | rfl | (go_simp; done), ?_⟩
          intro w hS
          clear hS
          go_simp
          try with_reducible rfl
        try simp only [Act.put, List.getElem_toArray, List.getElem_cons_succ, List.getElem_cons_zero, List.setIfInBounds_toArray, List.set_cons_succ, List.set_cons_zero]
        apply takeH (i := 7) 25 rfl (by kernel_rfl) (by kernel_rfl) (by kernel_rfl) (fun _ _ _ h => h) rfl (by first | exact M.out | exact M.out.take 0)
        case' hy =>
          refine Or.inl ⟨by first | rfl | (go_simp; done), ?_⟩
          intro w hS
          clear hS
          go_simp
          try with_reducible rfl
        try simp only [Act.put, List.getElem_toArray, List.getElem_cons_succ, List.getElem_cons_zero, List.setIfInBounds_toArray, List.set_cons_succ, List.set_cons_zero]
        apply takeH (i := 8) 26 rfl (by kernel_rfl) (by kernel_rfl) (by kernel_rfl) (fun _ _ _ h => h) rfl (by first | exact M.out | exact M.out.take 0)
        case' hy => exact ylds _ _ rfl rfl Try.underlying2 rfl rfl (fun w' hS => hS.argcell X0.out)
        try simp only [Act.put, List.getElem_toArray, List.getElem_cons_succ, List.getElem_cons_zero, List.setIfInBounds_toArray, List.set_cons_succ, List.set_cons_zero]
        refine any1H 4 (by kernel_rfl) rfl (fun K hK => ?_)
        go_wp2_with (first | ((with_reducible refine gate_dst (N := 22) rfl ?_); go_must (refine ev_ldr _ _ rfl rfl (M.out.argR R.out) Try.underlying40 rfl (by first | exact sz40 | (rw [S1.out]; exact sz40)) rfl ?_)) | (go_at_call 63; go_must (refine (l07Worth_any _ HFK.out _ (by omega) (by omega) _).mono ?_); rintro e w_ ⟨rfl, N_⟩; have m := M.out.join N_; clear N_; simp only [List.cons_append, List.nil_append, List.append_nil] at m; have M := Lib.hid m; clear m; rw [← HW.out]))
        refine onward_normal (hK _ _ ⟨(by first | exact M.out | exact M.out.take 0), ?_⟩)
        clear hK K
        try simp only [Act.put, List.getElem_toArray, List.getElem_cons_succ, List.getElem_cons_zero, List.setIfInBounds_toArray, List.set_cons_succ, List.set_cons_zero]
        refine any1H 9 (by kernel_rfl) rfl (fun K hK => ?_)
        go_wp2_with (first | ((with_reducible refine gate_dst (N := 22) rfl ?_); go_must (refine ev_ldr _ _ rfl rfl (M.out.argR R.out) Try.underlying40 rfl (by first | exact sz40 | (rw [S1.out]; exact sz40)) rfl ?_)) | (go_at_call 63; go_must (refine (l07Worth_any _ HFK.out _ (by omega) (by omega) _).mono ?_); rintro e w_ ⟨rfl, N_⟩; have m := M.out.join N_; clear N_; simp only [List.cons_append, List.nil_append, List.append_nil] at m; have M := Lib.hid m; clear m; rw [← HW.out]))
        refine onward_normal (hK _ _ ⟨(by first | exact M.out | exact M.out.take 0), ?_⟩)
        clear hK K
        try simp only [Act.put, List.getElem_toArray, List.getElem_cons_succ, List.getElem_cons_zero, List.setIfInBounds_toArray, List.set_cons_succ, List.set_cons_zero]
        apply takeH (i := 10) 28 rfl (by kernel_rfl) (by kernel_rfl) (by kernel_rfl) (fun _ _ _ h => h) rfl (by first | exact M.out | exact M.out.take 0)
        case' hy =>
          refine Or.inl ⟨by first | rfl | (go_simp; done), ?_⟩
          intro w hS
          clear hS
          go_simp
          try with_reducible rfl
        try simp only [Act.put, List.getElem_toArray, List.getElem_cons_succ, List.getElem_cons_zero, List.setIfInBounds_toArray, List.set_cons_succ, List.set_cons_zero]
        apply takeH (i := 11) 5 rfl (by kernel_rfl) (by kernel_rfl) (by kernel_rfl) (fun _ _ _ h => h) rfl (by first | exact M.out | exact M.out.take 0)
        case' hy =>
          refine Or.inl ⟨by first | rfl | (go_simp; done), ?_⟩
          intro w hS
          clear hS
          go_simp
          try with_reducible rfl
        try simp only [Act.put, List.getElem_toArray, List.getElem_cons_succ, List.getElem_cons_zero, List.setIfInBounds_toArray, List.set_cons_succ, List.set_cons_zero]
        refine wpAnyH_done (by kernel_rfl) ?_ _
        all_goals
          go_wp2
          exact ⟨⟨k + 1, by omega, by go_num, by rw [HSU.out], M.out⟩, by simp [intOf]; omega⟩
      · have HW := Lib.hid (wOf_neg (xs := xs) HPK.out hn)
        have HN := Lib.hid hn
        clear h1 h2
        go_wp2
        exact ⟨⟨k + 1, by omega, by go_num, by rw [HSU.out, HW.out, Int.add_zero], M.out⟩, by simp [intOf]; omega⟩
    · obtain rfl : k = p.length := by omega
      go_wp2
      go_ret
      exact ⟨rfl, M.out⟩
set_option maxRecDepth 100000 in
set_option maxHeartbeats 1000000 in
theorem areDays_any (n : Int) (w : World) :
    Calls Try.prog 55 #[.int .i64 n] w fun e w' => e = .returned (.bool (inB n 1 20)) ∧ w = w' := by
  go_enter Try.func55, Try.ntmps55
  go_wp2_with (first
    | (go_at_call 66; go_must (refine (within_any _ _ _ _).mono ?_); rintro e w_ ⟨rfl, rfl⟩)
    )
  go_ret
  exact ⟨rfl, rfl⟩
set_option maxRecDepth 100000 in
set_option maxHeartbeats 1000000 in
theorem l07Days_any (n : Int) (w : World) :
    Calls Try.prog 71 #[.int .i64 n] w fun e w' => e = .returned (.bool (inB n 1 20)) ∧ w = w' := by
  go_enter Try.func71, Try.ntmps71
  go_wp2_with (first
    | (go_at_call 97; go_must (refine (l00In_any _ _ _ _).mono ?_); rintro e w_ ⟨rfl, rfl⟩)
    )
  go_ret
  exact ⟨rfl, rfl⟩
def plCode (xs : List Plot) (f : Bool) : Int := if plotsOk xs = true then if f = true then 0 else 2 else 1
set_option maxRecDepth 100000 in
set_option maxHeartbeats 1000000 in
theorem plotsCode_any (A : Option Addr) (n : Nat) (xs : List Plot) (hx : ∀ x ∈ xs, x.ok) (hl : xs.length ≤ 1048576) (b : Bool) (w : World) (hs : Sl w 4 A xs.length (flat Plot.vals xs)) :
    Calls Try.prog 53 #[.slice A xs.length n, .bool b] w fun e w' => e = .returned (.int .i64 (plCode xs b)) ∧ Mem w w' [] := by
  have M := Lib.hid (Mem.start w)
  have HX := Lib.hid hx
  have HS := Lib.hid hs
  clear hx hs
  cases hp : plotsOk xs <;> cases b <;>
  · have HP := Lib.hid hp
    clear hp
    go_enter Try.func53, Try.ntmps53
    go_wp2_with (first
      | (go_at_call 18; go_must (refine (ValidPlots_any A n xs HX.out hl _ (M.out.sl HS.out)).mono ?_); rintro e w_ ⟨rfl, N_⟩; have m := M.out.join N_; clear N_; simp only [List.cons_append, List.nil_append, List.append_nil] at m; have M := Lib.hid m; clear m; rw [HP.out])
      )
    go_ret
    exact ⟨ret_int (by simp [plCode, HP.out]), M.out⟩
set_option maxRecDepth 100000 in
set_option maxHeartbeats 1000000 in
theorem l07Asked_any (A : Option Addr) (n : Nat) (xs : List Plot) (hx : ∀ x ∈ xs, x.ok) (hl : xs.length ≤ 1048576) (b : Bool) (w : World) (hs : Sl w 4 A xs.length (flat Plot.vals xs)) :
    Calls Try.prog 69 #[.slice A xs.length n, .bool b] w fun e w' => e = .returned (.int .i64 (plCode xs b)) ∧ Mem w w' [] := by
  have M := Lib.hid (Mem.start w)
  have HX := Lib.hid hx
  have HS := Lib.hid hs
  clear hx hs
  cases hp : plotsOk xs <;> cases b <;>
  · have HP := Lib.hid hp
    clear hp
    go_enter Try.func69, Try.ntmps69
    go_wp2_with (first
      | (go_at_call 116; go_must (refine (l07Ok_any A n xs HX.out hl _ (M.out.sl HS.out)).mono ?_); rintro e w_ ⟨rfl, N_⟩; have m := M.out.join N_; clear N_; simp only [List.cons_append, List.nil_append, List.append_nil] at m; have M := Lib.hid m; clear m; rw [HP.out])
      )
    go_ret
    exact ⟨ret_int (by simp [plCode, HP.out]), M.out⟩
set_option maxRecDepth 100000 in
set_option maxHeartbeats 1000000 in
theorem l07Game_any (A : Option Addr) (n : Nat) (xs : List Plot) (hx : ∀ x ∈ xs, x.ok) (hl : xs.length ≤ 1048576) (h d : Int) (w : World) (hs : Sl w 4 A xs.length (flat Plot.vals xs)) :
    Calls Try.prog 57 #[.slice A xs.length n, .int .i64 h, .int .i64 d] w fun e w' => e = .returned (.int .i64 (plCode xs (inB h 1 3 && inB d 1 20))) ∧ Mem w w' [] := by
  have M := Lib.hid (Mem.start w)
  have HX := Lib.hid hx
  have HS := Lib.hid hs
  clear hx hs
  cases hh : inB h 1 3 <;> cases hd : inB d 1 20 <;>
  · have HH := Lib.hid hh
    have HD := Lib.hid hd
    clear hh hd
    go_enter Try.func57, Try.ntmps57
    go_wp2_with (first
      | (go_at_call 114; go_must (refine (l07Hands_any _ _).mono ?_); rintro e w_ ⟨rfl, rfl⟩; rw [HH.out])
      | (go_at_call 71; go_must (refine (l07Days_any _ _).mono ?_); rintro e w_ ⟨rfl, rfl⟩; rw [HD.out])
      | (go_at_call 69; go_must (refine (l07Asked_any A n xs HX.out hl _ _ (M.out.sl HS.out)).mono ?_); rintro e w_ ⟨rfl, N_⟩; have m := M.out.join N_; clear N_; simp only [List.cons_append, List.nil_append, List.append_nil] at m; have M := Lib.hid m; clear m)
      )
    go_ret
    exact ⟨rfl, M.out⟩
def grCode (xs : List Plot) (h d : Int) : Int := plCode xs (inB h 1 3 && inB d 1 20)
def grRes (xs : List Plot) (h d : Int) : List Int := if grCode xs h d = 0 then greedyTo xs h.toNat d.toNat else []
def grSum (xs : List Plot) (h d : Int) : Int := if grCode xs h d = 0 then sumTo (wOf xs (greedyTo xs h.toNat d.toNat)) xs.length else 0
theorem grCode_0 {xs : List Plot} {h d : Int} (H : grCode xs h d = 0) : plotsOk xs = true ∧ (1 ≤ h ∧ h ≤ 3) ∧ (1 ≤ d ∧ d ≤ 20) := by
  unfold grCode plCode at H
  split at H
  · split at H
    · rename_i h1 h2
      rw [Bool.and_eq_true, inB_iff, inB_iff] at h2
      exact ⟨h1, h2⟩
    · cases H
  · cases H
theorem grRes_len (xs : List Plot) (h d : Int) : (grRes xs h d).length ≤ 1048576 := by
  unfold grRes
  split
  · rename_i H
    obtain ⟨h1, _, h3⟩ := grCode_0 H
    have := (plotsOk_iff.1 h1).2
    rw [(greedyTo_in xs h.toNat d.toNat (by omega)).1]
    omega
  · simp
/-- A call hands back whole numbers of its own, a sum and a code. -/
def RetIS (w : World) (vs : List Int) (s code : Int) (e : Ending) (w' : World) : Prop :=
  ∃ A c, e = .returned (.tuple #[.slice A vs.length c, .int .i64 s, .int .i64 code]) ∧ vs.length ≤ c ∧ Mem w w' [.row (.slice A vs.length c) 2 1 vs.length (flat oneI vs)]
theorem turn_none {xs : List Plot} {p : List Int} {d : Int} (h : (bestTo xs p d xs.length).1 = -1) : turnOf xs p d = p := by
  rw [turnOf, if_neg (by omega)]
theorem turn_some {xs : List Plot} {p : List Int} {d : Int} {b : Nat} (h : (bestTo xs p d xs.length).1 = b) : turnOf xs p d = p.set b d := by
  rw [turnOf, if_pos (by omega), h, Int.toNat_natCast]
theorem acc2_at {p : List Int} {i : Nat} (h : i < p.length) : (flat oneI p)[i]? = some (.int .i64 (gi p i)) := by
  rw [flat_oneI, List.getElem?_map, getElem?_gi h]
  rfl
set_option maxRecDepth 100000 in
set_option maxHeartbeats 4000000 in
theorem impl_GreedyPlan_any (A : Option Addr) (n : Nat) (xs : List Plot) (hx : ∀ x ∈ xs, x.ok) (hl : xs.length ≤ 1048576) (h d : Int) (w : World) (hs : Sl w 4 A xs.length (flat Plot.vals xs)) :
    Calls Try.prog 11 #[.slice A xs.length n, .int .i64 h, .int .i64 d] w (RetIS w (grRes xs h d) (grSum xs h d) (grCode xs h d)) := by
  have M := Lib.hid (Mem.start w)
  have HX := Lib.hid hx
  have HS := Lib.hid hs
  clear hx hs
  by_cases hg : grCode xs h d = 0
  · obtain ⟨hpo, hh, hd⟩ := grCode_0 hg
    obtain ⟨hf, h6⟩ := plotsOk_iff.1 hpo
    have HF := Lib.hid hf
    have HHB := Lib.hid (inB_iff.2 hh)
    obtain ⟨h0, h1⟩ := hh
    obtain ⟨d0, d1⟩ := hd
    have HH := Lib.hid (show inB h 1 3 = true from inB_iff.2 ⟨h0, h1⟩)
    have HDD := Lib.hid (show inB d 1 20 = true from inB_iff.2 ⟨d0, d1⟩)
    have HG0 := Lib.hid hg
    have HG := Lib.hid (show plCode xs true = 0 by simp [plCode, hpo])
    obtain ⟨q, rfl⟩ : ∃ q : Nat, d = q := ⟨d.toNat, by omega⟩
    obtain ⟨hn, rfl⟩ : ∃ hn : Nat, h = hn := ⟨h.toNat, by omega⟩
    have HR := Lib.hid (show grRes xs (hn : Int) (q : Int) = greedyTo xs hn q by rw [grRes, if_pos HG0.out, Int.toNat_natCast, Int.toNat_natCast])
    have HSM := Lib.hid (show grSum xs (hn : Int) (q : Int) = sumTo (wOf xs (greedyTo xs hn q)) xs.length by rw [grSum, if_pos HG0.out, Int.toNat_natCast, Int.toNat_natCast])
    clear hg hpo hf HHB
    go_enter Try.func11, Try.ntmps11
    go_wp2_with (first
      | (go_at_call 54; go_must (refine (areHands_any _ _).mono ?_); rintro e w_ ⟨rfl, rfl⟩; rw [HH.out])
      | (go_at_call 55; go_must (refine (areDays_any _ _).mono ?_); rintro e w_ ⟨rfl, rfl⟩; rw [HDD.out])
      | (go_at_call 53; go_must (refine (plotsCode_any A n xs HX.out hl _ _ (M.out.sl HS.out)).mono ?_); rintro e w_ ⟨rfl, N_⟩; have m := M.out.join N_; clear N_; simp only [List.cons_append, List.nil_append, List.append_nil] at m; have M := Lib.hid m; clear m; rw [HG.out])
      | ((with_reducible refine gate_dst (N := 28) rfl ?_); go_must (refine M.out.ev_bs0 elem_int64 rfl rfl ?_); intro g28 w28 m; simp only [List.cons_append, List.nil_append] at m; have M := Lib.hid m; clear m)
      )
    go_loopw [10, 31] (fun s v wr => ∃ k : Nat, k ≤ xs.length ∧ v = .int .i64 k ∧ Mem w wr [.row s 2 1 k (flat oneI (List.replicate k (-1)))])
      (fun _ v _ => xs.length - (intOf v).toNat)
    case atStart => exact ⟨0, by omega, rfl, M.out⟩
    case round =>
      clear M
      obtain ⟨k, hk, rfl, mm⟩ := hrel
      have M := Lib.hid mm
      clear mm
      by_cases hlt : k < xs.length
      · go_wp2_with (first
          | ((with_reducible refine gate_dst (N := 34) rfl ?_); go_must (refine M.out.ev_bs1 elem_int64 rfl _ rfl #[.int .i64 (-1)] rfl rfl (by decide) ?_); intro g34 w34 m; simp only [List.cons_append, List.nil_append] at m; have M := Lib.hid m; clear m)
          | ((with_reducible refine gate_dst (N := 35) rfl ?_); go_must (refine M.out.ev_append1 0 1 elem_int64 rfl _ _ rfl rfl rfl rfl rfl rfl (by simp [Value.oneCell']) (by omega) (by decide) ?_); intro v35 w35 m; simp only [List.set_cons_succ, List.set_cons_zero] at m; have M := Lib.hid m; clear m)
          )
        refine ⟨⟨k + 1, by omega, by go_num, ?_⟩, by simp [intOf]; omega⟩
        have mm := M.out.take 1
        rw [flat_oneI, List.replicate_succ', List.map_append]
        rw [flat_oneI] at mm
        exact mm
      · obtain rfl : k = xs.length := by omega
        obtain ⟨B, c, rfl, hc, _⟩ := M.out.row_slice 0 rfl
        go_wp2
        go_loopw [38] (fun v wr => ∃ k : Nat, k ≤ q ∧ v = .int .i64 k ∧ Mem w wr [.row (.slice B xs.length c) 2 1 xs.length (flat oneI (greedyTo xs hn k))])
          (fun v _ => q - (intOf v).toNat)
        case atStart => exact ⟨0, by omega, rfl, M.out⟩
        case round =>
          clear M
          obtain ⟨k, hk, rfl, mm⟩ := hrel
          have M := Lib.hid mm
          clear mm
          by_cases hlt : k < q
          · have HIN := Lib.hid (greedyTo_in xs hn k (by omega))
            have HGS := Lib.hid (show greedyTo xs hn (k + 1) = dayG xs k (greedyTo xs hn k) hn from rfl)
            obtain ⟨P0, hP0⟩ : ∃ P0, P0 = greedyTo xs hn k := ⟨_, rfl⟩
            rw [← hP0] at M HIN HGS
            clear hP0
            go_wp2
            go_loopw [42] (fun v wr => ∃ j : Nat, j ≤ hn ∧ v = .int .i64 j ∧ Mem w wr [.row (.slice B xs.length c) 2 1 xs.length (flat oneI (dayG xs k P0 j))])
              (fun v _ => hn - (intOf v).toNat)
            case atStart => exact ⟨0, by omega, rfl, M.out⟩
            case round =>
              clear M
              obtain ⟨j, hj, rfl, mm⟩ := hrel
              have M := Lib.hid mm
              clear mm
              by_cases hjl : j < hn
              · have HPI := Lib.hid (dayG_in (xs := xs) HIN.out (by omega : (0 : Int) ≤ (k : Int)) (by omega : (k : Int) ≤ 19) j)
                have HDS := Lib.hid (show dayG xs k P0 (j + 1) = turnOf xs (dayG xs k P0 j) k from rfl)
                obtain ⟨P, hP⟩ : ∃ P, P = dayG xs k P0 j := ⟨_, rfl⟩
                rw [← hP] at M HPI HDS
                clear hP
                go_wp2
                go_loopw [12, 13, 46] (fun b m v wr => ∃ i : Nat, i ≤ xs.length ∧ v = .int .i64 i ∧ b = .int .i64 (bestTo xs P k i).1 ∧ m = .int .i64 (bestTo xs P k i).2 ∧ Mem w wr [.row (.slice B xs.length c) 2 1 xs.length (flat oneI P)])
                  (fun _ _ v _ => xs.length - (intOf v).toNat)
                case atStart => exact ⟨0, by omega, rfl, rfl, rfl, M.out⟩
                case round =>
                  clear M
                  obtain ⟨i, hi, rfl, rfl, rfl, mm⟩ := hrel
                  have M := Lib.hid mm
                  clear mm
                  by_cases hil : i < xs.length
                  · obtain ⟨b2, off2, rfl, hr2⟩ := (M.out.sl HS.out).2 (by omega)
                    obtain ⟨g_, cap_, he, _⟩ := M.out.row_form 0 rfl (by omega)
                    obtain ⟨rfl, rfl⟩ : B = some ⟨g_, 0, none⟩ ∧ c = cap_ := by injection he with e1 _ e2; exact ⟨e1, e2⟩
                    have R := Lib.hid (range_at Plot.vl hr2 (List.getElem?_eq_getElem hil))
                    have V1 := Lib.hid (Plot.one xs[i])
                    have HFK := Lib.hid (HF.out xs[i] (List.getElem_mem hil))
                    have hpl := HPI.out.1
                    have HAT := Lib.hid (acc2_at (p := P) (i := i) (by omega))
                    have y0 := M.out.row_cell 0 rfl HAT.out
                    have HY0 := HAT
                    have i0 : (0 : Int) ≤ (i : Int) := by omega
                    have i1 : (i : Int) < (xs.length : Int) := by omega
                    have HBS := Lib.hid (show bestTo xs P k (i + 1) = if gi P i < 0 ∧ (bestTo xs P k i).2 < worthAt xs i k then ((i : Int), worthAt xs i k) else bestTo xs P k i from rfl)
                    have HWA := Lib.hid (worthAt_at hil (k : Int))
                    obtain ⟨bt, hbt⟩ : ∃ bt, bt = bestTo xs P k i := ⟨_, rfl⟩
                    obtain ⟨wv, hwv⟩ : ∃ wv, wv = worthAt xs i k := ⟨_, rfl⟩
                    obtain ⟨y, hy⟩ : ∃ y, y = gi P i := ⟨_, rfl⟩
                    rw [← hbt, ← hwv, ← hy] at HBS
                    rw [← hwv] at HWA
                    rw [← hy] at y0 HY0
                    rw [← hbt]
                    clear hr2 he hpl hbt hwv hy HAT
                    by_cases hy0 : y < 0 <;> by_cases hw0 : bt.2 < wv
                    all_goals
                      have HY := Lib.hid hy0
                      have HW := Lib.hid hw0
                      go_wp2_with (first
                        | ((with_reducible refine gate_dst (N := 50) rfl ?_); go_must (refine ev_ldr _ _ rfl rfl (R.out) Try.underlying40 rfl (by first | exact sz40 | (rw [S1.out]; exact sz40)) rfl ?_))
                        | ((with_reducible refine gate_dst (N := 15) rfl ?_); go_must (refine M.out.ev_new rfl (by first | (go_simp; done) | (go_simp; rfl)) ?_); intro g15 w15 m; simp only [List.cons_append, List.nil_append] at m; have M := Lib.hid m; clear m; have y0 := M.out.row_cell 0 rfl HY0.out)
                        | ((with_reducible refine gate_store (x := .tmp 15) rfl ?_); go_must (refine M.out.ev_stw 1 _ _ _ rfl rfl rfl rfl xs[i].vals.toArray rfl rfl sz40 V1.out rfl ?_); intro wn m; simp only [List.set_cons_succ, List.set_cons_zero] at m; have M := Lib.hid m; clear m)
                        | ((with_reducible refine gate_dst (N := 51) rfl ?_); go_must (refine M.out.ev_ldw 1 _ _ rfl rfl rfl Try.underlying40 rfl sz40 rfl ?_))
                        | (go_at_call 60; go_must (refine (worth_any _ HFK.out _ (by omega) (by omega) _).mono ?_); rintro e w_ ⟨rfl, N_⟩; have m := M.out.join N_; clear N_; simp only [List.cons_append, List.nil_append, List.append_nil] at m; have M := Lib.hid m; clear m; rw [← HWA.out]; have y0 := M.out.row_cell 0 rfl HY0.out)
                        )
                      refine ⟨⟨i + 1, by omega, by go_num, ?_, ?_, M.out.take 1⟩, by simp [intOf]; omega⟩
                      · rw [HBS.out]
                        split
                        · rename_i hc
                          first | rfl | (exfalso; have h1 := HY.out; have h2 := HW.out; omega)
                        · rename_i hc
                          first | rfl | exact (hc ⟨HY.out, HW.out⟩).elim
                      · rw [HBS.out]
                        split
                        · rename_i hc
                          first | rfl | (exfalso; have h1 := HY.out; have h2 := HW.out; omega)
                        · rename_i hc
                          first | rfl | exact (hc ⟨HY.out, HW.out⟩).elim
                  · obtain rfl : i = xs.length := by omega
                    rcases bestTo_b xs P k xs.length with hb | ⟨hb0, hb1⟩
                    · have HT := Lib.hid (turn_none hb)
                      rw [hb]
                      clear hb
                      go_wp2
                      refine ⟨⟨j + 1, by omega, by go_num, ?_⟩, by simp [intOf]; omega⟩
                      rw [HDS.out, HT.out]
                      exact M.out
                    · obtain ⟨b, hb⟩ : ∃ b : Nat, (bestTo xs P k xs.length).1 = b := ⟨(bestTo xs P k xs.length).1.toNat, by omega⟩
                      have HT := Lib.hid (turn_some hb)
                      rw [hb] at hb0 hb1 ⊢
                      have hbl : b < xs.length := by omega
                      obtain ⟨g_, cap_, he, _⟩ := M.out.row_form 0 rfl (by omega)
                      obtain ⟨rfl, rfl⟩ : B = some ⟨g_, 0, none⟩ ∧ c = cap_ := by injection he with e1 _ e2; exact ⟨e1, e2⟩
                      have HL := Lib.hid (show b < (flat oneI P).length by rw [flat_len oneI_len, HPI.out.1]; omega)
                      have HP := Lib.hid (show (flat oneI P).set b (.int .i64 (k : Int)) = flat oneI (P.set b (k : Int)) by rw [flat_oneI, flat_oneI, List.map_set])
                      clear hb he
                      go_wp2_with (first
                        | ((with_reducible refine gate_store (x := .tmp 72) rfl ?_); go_must (refine M.out.ev_rput1 0 _ _ _ rfl rfl rfl rfl (.int .i64 (k : Int)) rfl HL.out sz2 rfl rfl ?_); intro wn m; simp only [List.set_cons_zero, HP.out] at m; have M := Lib.hid m; clear m)
                        )
                      refine ⟨⟨j + 1, by omega, by go_num, ?_⟩, by simp [intOf]; omega⟩
                      rw [HDS.out, HT.out]
                      exact M.out
              · obtain rfl : j = hn := by omega
                go_wp2
                refine ⟨⟨k + 1, by omega, by go_num, ?_⟩, by simp [intOf]; omega⟩
                rw [HGS.out]
                exact M.out
          · obtain rfl : k = q := by omega
            have HIN := Lib.hid (greedyTo_in xs hn k (by omega))
            obtain ⟨P, hP⟩ : ∃ P, P = greedyTo xs hn k := ⟨_, rfl⟩
            rw [← hP] at M HIN HR HSM
            have HPL := Lib.hid HIN.out.1
            have SLP := Lib.hid (show ∀ (wx : World) (L : List Ent), Mem w wx (.row (.slice B xs.length c) 2 1 xs.length (flat oneI P) :: L) → Sl wx 1 B P.length (flat oneI P) from fun wx L mm => by rw [HPL.out]; exact mm.slof 0 rfl)
            clear hP
            have WO := Lib.hid (fun (wx : World) (h1 : Sl wx 4 A xs.length (flat Plot.vals xs)) (h2 : Sl wx 1 B P.length (flat oneI P)) => worths_any A n xs HF.out h6 B c P HPL.out (fun x hx => by have := HIN.out.2 x hx; omega) wx h1 h2)
            rw [HPL.out] at WO
            have TO := Lib.hid (fun (A2 : Option Addr) (c2 : Nat) (wx : World) (h1 : Sl wx 1 A2 (worthsOf xs P).length (flat oneI (worthsOf xs P))) => total_any A2 c2 (worthsOf xs P) (by rw [worthsOf_len]; exact h6) (fun i => by
              rcases Nat.lt_or_ge i xs.length with h | h
              · rw [worthsOf_gi h]; exact wOf_b HF.out P i
              · unfold gi
                rw [List.getD_eq_getElem?_getD, List.getElem?_eq_none (by rw [worthsOf_len]; omega)]
                exact ⟨Int.le_refl _, by decide⟩) wx h1)
            rw [worthsOf_len, show sumTo (gi (worthsOf xs P)) xs.length = sumTo (wOf xs P) xs.length from sumTo_congr _ fun i hi => worthsOf_gi hi] at TO
            go_wp2_with (first
              | (go_at_call 62; go_must (refine (WO.out _ (M.out.sl HS.out) (by have := SLP.out _ _ M.out; rw [HPL.out] at this; exact this)).mono ?_); rintro e w_ ⟨A_, c_, rfl, hc_, N_⟩; have m := M.out.join N_; clear N_; simp only [List.cons_append, List.nil_append, List.append_nil] at m; have M := Lib.hid m; clear m)
              | (go_at_call 61; go_must (refine (TO.out _ _ _ (M.out.slof 1 rfl)).mono ?_); rintro e w_ ⟨rfl, rfl⟩)
              )
            go_ret3
            rw [HR.out, HSM.out, HG0.out]
            unfold RetIS
            rw [HPL.out]
            exact ⟨_, _, rfl, by assumption, M.out.take 1⟩
  · have HG0 := Lib.hid hg
    have hgb : (grCode xs h d != 0) = true := by simp [hg]
    have HR := Lib.hid (show grRes xs h d = [] by rw [grRes, if_neg hg])
    have HSM := Lib.hid (show grSum xs h d = 0 by rw [grSum, if_neg hg])
    have HGC := Lib.hid (show plCode xs (inB h 1 3 && inB d 1 20) = grCode xs h d from rfl)
    obtain ⟨C, hC⟩ : ∃ C, C = grCode xs h d := ⟨_, rfl⟩
    rw [← hC] at hgb HGC HG0 ⊢
    clear hg hC
    cases hh : inB h 1 3 <;> cases hd : inB d 1 20
    all_goals
      have HH := Lib.hid hh
      have HDD := Lib.hid hd
      have HG := Lib.hid HGC.out
      rw [hh, hd] at HG
      simp only [Bool.and_true, Bool.and_false, Bool.false_and, Bool.true_and] at HG
      clear hh hd
      go_enter Try.func11, Try.ntmps11
      go_wp2_with (first
        | (go_at_call 54; go_must (refine (areHands_any _ _).mono ?_); rintro e w_ ⟨rfl, rfl⟩; rw [HH.out])
        | (go_at_call 55; go_must (refine (areDays_any _ _).mono ?_); rintro e w_ ⟨rfl, rfl⟩; rw [HDD.out])
        | (go_at_call 53; go_must (refine (plotsCode_any A n xs HX.out hl _ _ (M.out.sl HS.out)).mono ?_); rintro e w_ ⟨rfl, N_⟩; have m := M.out.join N_; clear N_; simp only [List.cons_append, List.nil_append, List.append_nil] at m; have M := Lib.hid m; clear m; rw [HG.out])
        )
      go_ret3
      rw [HR.out, HSM.out]
      exact ⟨none, 0, rfl, Nat.le_refl _, (M.out.take 0).nilrow 2 1⟩
set_option maxRecDepth 100000 in
set_option maxHeartbeats 4000000 in
theorem spec_GreedyPlan_any (A : Option Addr) (n : Nat) (xs : List Plot) (hx : ∀ x ∈ xs, x.ok) (hl : xs.length ≤ 1048576) (h d : Int) (w : World) (hs : Sl w 4 A xs.length (flat Plot.vals xs)) :
    Calls Try.prog 12 #[.slice A xs.length n, .int .i64 h, .int .i64 d] w (RetIS w (grRes xs h d) (grSum xs h d) (grCode xs h d)) := by
  have M := Lib.hid (Mem.start w)
  have HX := Lib.hid hx
  have HS := Lib.hid hs
  clear hx hs
  by_cases hg : grCode xs h d = 0
  · obtain ⟨hpo, hh, hd⟩ := grCode_0 hg
    obtain ⟨hf, h6⟩ := plotsOk_iff.1 hpo
    have HF := Lib.hid hf
    have HHB := Lib.hid (inB_iff.2 hh)
    obtain ⟨h0, h1⟩ := hh
    obtain ⟨d0, d1⟩ := hd
    have HH := Lib.hid (show inB h 1 3 = true from inB_iff.2 ⟨h0, h1⟩)
    have HDD := Lib.hid (show inB d 1 20 = true from inB_iff.2 ⟨d0, d1⟩)
    have HG0 := Lib.hid hg
    have HG := Lib.hid (show plCode xs (inB h 1 3 && inB d 1 20) = 0 by exact hg)
    obtain ⟨q, rfl⟩ : ∃ q : Nat, d = q := ⟨d.toNat, by omega⟩
    obtain ⟨hn, rfl⟩ : ∃ hn : Nat, h = hn := ⟨h.toNat, by omega⟩
    have HR := Lib.hid (show grRes xs (hn : Int) (q : Int) = greedyTo xs hn q by rw [grRes, if_pos HG0.out, Int.toNat_natCast, Int.toNat_natCast])
    have HSM := Lib.hid (show grSum xs (hn : Int) (q : Int) = sumTo (wOf xs (greedyTo xs hn q)) xs.length by rw [grSum, if_pos HG0.out, Int.toNat_natCast, Int.toNat_natCast])
    clear hg hpo hf HHB
    go_enter Try.func12, Try.ntmps12
    go_wp2_with (first
      | (go_at_call 57; go_must (refine (l07Game_any A n xs HX.out hl _ _ _ (M.out.sl HS.out)).mono ?_); rintro e w_ ⟨rfl, N_⟩; have m := M.out.join N_; clear N_; simp only [List.cons_append, List.nil_append, List.append_nil] at m; have M := Lib.hid m; clear m; rw [HG.out])
      | ((with_reducible refine gate_dst (N := 26) rfl ?_); go_must (refine M.out.ev_bs0 elem_int64 rfl rfl ?_); intro g26 w26 m; simp only [List.cons_append, List.nil_append] at m; have M := Lib.hid m; clear m)
      )
    go_loopw [10, 11] (fun s v wr => ∃ k : Nat, k ≤ xs.length ∧ v = .int .i64 k ∧ Mem w wr [.row s 2 1 k (flat oneI (List.replicate k (-1)))])
      (fun _ v _ => xs.length - (intOf v).toNat)
    case atStart => exact ⟨0, by omega, rfl, M.out⟩
    case round =>
      clear M
      obtain ⟨k, hk, rfl, mm⟩ := hrel
      have M := Lib.hid mm
      clear mm
      by_cases hlt : k < xs.length
      · go_wp2_with (first
          | ((with_reducible refine gate_dst (N := 34) rfl ?_); go_must (refine M.out.ev_bs1 elem_int64 rfl _ rfl #[.int .i64 (-1)] rfl rfl (by decide) ?_); intro g34 w34 m; simp only [List.cons_append, List.nil_append] at m; have M := Lib.hid m; clear m)
          | ((with_reducible refine gate_dst (N := 35) rfl ?_); go_must (refine M.out.ev_append1 0 1 elem_int64 rfl _ _ rfl rfl rfl rfl rfl rfl (by simp [Value.oneCell']) (by omega) (by decide) ?_); intro v35 w35 m; simp only [List.set_cons_succ, List.set_cons_zero] at m; have M := Lib.hid m; clear m)
          )
        refine ⟨⟨k + 1, by omega, by go_num, ?_⟩, by simp [intOf]; omega⟩
        have mm := M.out.take 1
        rw [flat_oneI, List.replicate_succ', List.map_append]
        rw [flat_oneI] at mm
        exact mm
      · obtain rfl : k = xs.length := by omega
        obtain ⟨B, c, rfl, hc, _⟩ := M.out.row_slice 0 rfl
        go_wp2
        go_loopw [12] (fun v wr => ∃ k : Nat, k ≤ q ∧ v = .int .i64 k ∧ Mem w wr [.row (.slice B xs.length c) 2 1 xs.length (flat oneI (greedyTo xs hn k))])
          (fun v _ => q - (intOf v).toNat)
        case atStart => exact ⟨0, by omega, rfl, M.out⟩
        case round =>
          clear M
          obtain ⟨k, hk, rfl, mm⟩ := hrel
          have M := Lib.hid mm
          clear mm
          by_cases hlt : k < q
          · have HIN := Lib.hid (greedyTo_in xs hn k (by omega))
            have HGS := Lib.hid (show greedyTo xs hn (k + 1) = dayG xs k (greedyTo xs hn k) hn from rfl)
            obtain ⟨P0, hP0⟩ : ∃ P0, P0 = greedyTo xs hn k := ⟨_, rfl⟩
            rw [← hP0] at M HIN HGS
            clear hP0
            go_wp2
            go_loopw [13] (fun v wr => ∃ j : Nat, j ≤ hn ∧ v = .int .i64 j ∧ Mem w wr [.row (.slice B xs.length c) 2 1 xs.length (flat oneI (dayG xs k P0 j))])
              (fun v _ => hn - (intOf v).toNat)
            case atStart => exact ⟨0, by omega, rfl, M.out⟩
            case round =>
              clear M
              obtain ⟨j, hj, rfl, mm⟩ := hrel
              have M := Lib.hid mm
              clear mm
              by_cases hjl : j < hn
              · have HPI := Lib.hid (dayG_in (xs := xs) HIN.out (by omega : (0 : Int) ≤ (k : Int)) (by omega : (k : Int) ≤ 19) j)
                have HDS := Lib.hid (show dayG xs k P0 (j + 1) = turnOf xs (dayG xs k P0 j) k from rfl)
                obtain ⟨P, hP⟩ : ∃ P, P = dayG xs k P0 j := ⟨_, rfl⟩
                rw [← hP] at M HPI HDS
                clear hP
                go_wp2
                go_loopw [14, 15, 16] (fun b m v wr => ∃ i : Nat, i ≤ xs.length ∧ v = .int .i64 i ∧ b = .int .i64 (bestTo xs P k i).1 ∧ m = .int .i64 (bestTo xs P k i).2 ∧ Mem w wr [.row (.slice B xs.length c) 2 1 xs.length (flat oneI P)])
                  (fun _ _ v _ => xs.length - (intOf v).toNat)
                case atStart => exact ⟨0, by omega, rfl, rfl, rfl, M.out⟩
                case round =>
                  clear M
                  obtain ⟨i, hi, rfl, rfl, rfl, mm⟩ := hrel
                  have M := Lib.hid mm
                  clear mm
                  by_cases hil : i < xs.length
                  · obtain ⟨b2, off2, rfl, hr2⟩ := (M.out.sl HS.out).2 (by omega)
                    obtain ⟨g_, cap_, he, _⟩ := M.out.row_form 0 rfl (by omega)
                    obtain ⟨rfl, rfl⟩ : B = some ⟨g_, 0, none⟩ ∧ c = cap_ := by injection he with e1 _ e2; exact ⟨e1, e2⟩
                    have R := Lib.hid (range_at Plot.vl hr2 (List.getElem?_eq_getElem hil))
                    have V1 := Lib.hid (Plot.one xs[i])
                    have HFK := Lib.hid (HF.out xs[i] (List.getElem_mem hil))
                    have hpl := HPI.out.1
                    have HAT := Lib.hid (acc2_at (p := P) (i := i) (by omega))
                    have y0 := M.out.row_cell 0 rfl HAT.out
                    have HY0 := HAT
                    have i0 : (0 : Int) ≤ (i : Int) := by omega
                    have i1 : (i : Int) < (xs.length : Int) := by omega
                    have HBS := Lib.hid (show bestTo xs P k (i + 1) = if gi P i < 0 ∧ (bestTo xs P k i).2 < worthAt xs i k then ((i : Int), worthAt xs i k) else bestTo xs P k i from rfl)
                    have HWA := Lib.hid (worthAt_at hil (k : Int))
                    obtain ⟨bt, hbt⟩ : ∃ bt, bt = bestTo xs P k i := ⟨_, rfl⟩
                    obtain ⟨wv, hwv⟩ : ∃ wv, wv = worthAt xs i k := ⟨_, rfl⟩
                    obtain ⟨y, hy⟩ : ∃ y, y = gi P i := ⟨_, rfl⟩
                    rw [← hbt, ← hwv, ← hy] at HBS
                    rw [← hwv] at HWA
                    rw [← hy] at y0 HY0
                    rw [← hbt]
                    clear hr2 he hpl hbt hwv hy HAT
                    by_cases hy0 : y < 0 <;> by_cases hw0 : bt.2 < wv
                    all_goals
                      have HY := Lib.hid hy0
                      have HW := Lib.hid hw0
                      go_wp2_with (first
                        | ((with_reducible refine gate_dst (N := 55) rfl ?_); go_must (refine ev_ldr _ _ rfl rfl (R.out) Try.underlying40 rfl (by first | exact sz40 | (rw [S1.out]; exact sz40)) rfl ?_))
                        | (go_at_call 63; go_must (refine (l07Worth_any _ HFK.out _ (by omega) (by omega) _).mono ?_); rintro e w_ ⟨rfl, N_⟩; have m := M.out.join N_; clear N_; simp only [List.cons_append, List.nil_append, List.append_nil] at m; have M := Lib.hid m; clear m; rw [← HWA.out]; have y0 := M.out.row_cell 0 rfl HY0.out)
                        )
                      refine ⟨⟨i + 1, by omega, by go_num, ?_, ?_, M.out.take 1⟩, by simp [intOf]; omega⟩
                      · rw [HBS.out]
                        split
                        · rename_i hc
                          first | rfl | (exfalso; have h1 := HY.out; have h2 := HW.out; omega)
                        · rename_i hc
                          first | rfl | exact (hc ⟨HY.out, HW.out⟩).elim
                      · rw [HBS.out]
                        split
                        · rename_i hc
                          first | rfl | (exfalso; have h1 := HY.out; have h2 := HW.out; omega)
                        · rename_i hc
                          first | rfl | exact (hc ⟨HY.out, HW.out⟩).elim
                  · obtain rfl : i = xs.length := by omega
                    rcases bestTo_b xs P k xs.length with hb | ⟨hb0, hb1⟩
                    · have HT := Lib.hid (turn_none hb)
                      rw [hb]
                      clear hb
                      go_wp2
                      refine ⟨⟨j + 1, by omega, by go_num, ?_⟩, by simp [intOf]; omega⟩
                      rw [HDS.out, HT.out]
                      exact M.out
                    · obtain ⟨b, hb⟩ : ∃ b : Nat, (bestTo xs P k xs.length).1 = b := ⟨(bestTo xs P k xs.length).1.toNat, by omega⟩
                      have HT := Lib.hid (turn_some hb)
                      rw [hb] at hb0 hb1 ⊢
                      have hbl : b < xs.length := by omega
                      obtain ⟨g_, cap_, he, _⟩ := M.out.row_form 0 rfl (by omega)
                      obtain ⟨rfl, rfl⟩ : B = some ⟨g_, 0, none⟩ ∧ c = cap_ := by injection he with e1 _ e2; exact ⟨e1, e2⟩
                      have HL := Lib.hid (show b < (flat oneI P).length by rw [flat_len oneI_len, HPI.out.1]; omega)
                      have HP := Lib.hid (show (flat oneI P).set b (.int .i64 (k : Int)) = flat oneI (P.set b (k : Int)) by rw [flat_oneI, flat_oneI, List.map_set])
                      clear hb he
                      go_wp2_with (first
                        | ((with_reducible refine gate_store (x := .tmp 75) rfl ?_); go_must (refine M.out.ev_rput1 0 _ _ _ rfl rfl rfl rfl (.int .i64 (k : Int)) rfl HL.out sz2 rfl rfl ?_); intro wn m; simp only [List.set_cons_zero, HP.out] at m; have M := Lib.hid m; clear m)
                        )
                      refine ⟨⟨j + 1, by omega, by go_num, ?_⟩, by simp [intOf]; omega⟩
                      rw [HDS.out, HT.out]
                      exact M.out
              · obtain rfl : j = hn := by omega
                go_wp2
                refine ⟨⟨k + 1, by omega, by go_num, ?_⟩, by simp [intOf]; omega⟩
                rw [HGS.out]
                exact M.out
          · obtain rfl : k = q := by omega
            have HIN := Lib.hid (greedyTo_in xs hn k (by omega))
            obtain ⟨P, hP⟩ : ∃ P, P = greedyTo xs hn k := ⟨_, rfl⟩
            rw [← hP] at M HIN HR HSM
            have HPL := Lib.hid HIN.out.1
            have SLP := Lib.hid (show ∀ (wx : World) (L : List Ent), Mem w wx (.row (.slice B xs.length c) 2 1 xs.length (flat oneI P) :: L) → Sl wx 1 B P.length (flat oneI P) from fun wx L mm => by rw [HPL.out]; exact mm.slof 0 rfl)
            clear hP
            have WO := Lib.hid (fun (wx : World) (h1 : Sl wx 4 A xs.length (flat Plot.vals xs)) (h2 : Sl wx 1 B P.length (flat oneI P)) => l07Sum_any A n xs HF.out h6 B c P HPL.out (fun x hx => by have := HIN.out.2 x hx; omega) wx h1 h2)
            rw [HPL.out] at WO
            go_wp2_with (first
              | (go_at_call 59; go_must (refine (WO.out _ (M.out.sl HS.out) (by have := SLP.out _ _ M.out; rw [HPL.out] at this; exact this)).mono ?_); rintro e w_ ⟨rfl, N_⟩; have m := M.out.join N_; clear N_; simp only [List.cons_append, List.nil_append, List.append_nil] at m; have M := Lib.hid m; clear m)
              )
            go_ret3
            rw [HR.out, HSM.out, HG0.out]
            unfold RetIS
            rw [HPL.out]
            exact ⟨_, _, rfl, by assumption, M.out.take 1⟩
  · have HG0 := Lib.hid hg
    have hgb : (grCode xs h d != 0) = true := by simp [hg]
    have HR := Lib.hid (show grRes xs h d = [] by rw [grRes, if_neg hg])
    have HSM := Lib.hid (show grSum xs h d = 0 by rw [grSum, if_neg hg])
    have HGC := Lib.hid (show plCode xs (inB h 1 3 && inB d 1 20) = grCode xs h d from rfl)
    obtain ⟨C, hC⟩ : ∃ C, C = grCode xs h d := ⟨_, rfl⟩
    rw [← hC] at hgb HGC HG0 ⊢
    clear hg hC
    have HG := HGC
    go_enter Try.func12, Try.ntmps12
    go_wp2_with (first
      | (go_at_call 57; go_must (refine (l07Game_any A n xs HX.out hl _ _ _ (M.out.sl HS.out)).mono ?_); rintro e w_ ⟨rfl, N_⟩; have m := M.out.join N_; clear N_; simp only [List.cons_append, List.nil_append, List.append_nil] at m; have M := Lib.hid m; clear m; rw [HG.out])
      | ((with_reducible refine gate_dst (N := 24) rfl ?_); go_must (refine M.out.ev_bs0 elem_int64 rfl rfl ?_); intro g24 w24 m; simp only [List.cons_append, List.nil_append] at m; have M := Lib.hid m; clear m)
      )
    go_ret3
    rw [HR.out, HSM.out]
    exact ⟨_, 0, rfl, Nat.le_refl _, M.out⟩
end Go.Proofs.Ytdnofkngljjbmaa
