/- What a call has made itself: variables that are blocks of their own, and rows of slices; kept apart from each other and from what was there before. No program. -/
import Derived.Test.YtaepgjjmfopiiaaDoorWords
namespace Go.Proofs.YtaepgjjmfopiiaaDoor
set_option linter.unusedSimpArgs false
set_option linter.unusedVariables false
open Go.RowKit

/-- A row of a lot. -/
structure Rw where
  v : Value
  e : TypeId
  sz : Nat
  n : Nat
  cs : List Value
/-- blk: a variable; row: a slice's row; lot: any number of rows that are but read. -/
inductive Ent where
  | blk (g : Nat) (t : TypeId) (cs : Array Value)
  | row (v : Value) (e : TypeId) (sz n : Nat) (cs : List Value)
  | lot (rs : List Rw)

def Ent.holds (base : Nat) (w : World) : Ent → Prop
  | .blk g t cs => base ≤ g ∧ Blk w g t cs
  | .row v e sz n cs => w.ownsRow base e sz v n cs
  | .lot rs => ∀ r ∈ rs, w.ownsRow base r.e r.sz r.v r.n r.cs
def Ent.place : Ent → Nat → Prop
  | .blk g _ _, k => g = k
  | .row v _ _ _ _, k => v.ownBlock = some k
  | .lot rs, k => ∃ r ∈ rs, r.v.ownBlock = some k
def Ent.apart (x y : Ent) : Prop := ∀ k, x.place k → ¬ y.place k

theorem Ent.apart.symm {x y : Ent} (h : x.apart y) : y.apart x := fun k hy hx => h k hx hy
theorem Ent.holds.lt {base : Nat} {w : World} {x : Ent} (h : x.holds base w) {k : Nat} (hk : x.place k) : base ≤ k ∧ k < w.heap.size := by
  cases x with
  | blk g t cs =>
    simp only [Ent.place] at hk
    subst hk
    exact ⟨h.1, h.2.lt⟩
  | row v e sz n cs => exact World.ownsRow.lt h k hk
  | lot rs =>
    obtain ⟨r, hr, he⟩ := hk
    exact World.ownsRow.lt (h r hr) k he
theorem row_keep {base e sz n : Nat} {v : Value} {cs : List Value} {w w' : World} (h : w.ownsRow base e sz v n cs) (hk : ∀ k, v.ownBlock = some k → w'.heap[k]? = w.heap[k]?) : w'.ownsRow base e sz v n cs := by
  refine ⟨h.1, ?_⟩
  rcases h.2 with hn | ⟨g, cap, cur, rfl, hb, hg, rest⟩
  · exact .inl hn
  · exact .inr ⟨g, cap, cur, rfl, hb, (hk g rfl).trans hg, rest⟩
theorem row_lower {base b' e sz n : Nat} {v : Value} {cs : List Value} {w : World} (h : w.ownsRow base e sz v n cs) (hb : b' ≤ base) : w.ownsRow b' e sz v n cs := by
  refine ⟨h.1, ?_⟩
  rcases h.2 with hn | ⟨g, cap, cur, rfl, hg, rest⟩
  · exact .inl hn
  · exact .inr ⟨g, cap, cur, rfl, Nat.le_trans hb hg, rest⟩
theorem Ent.holds.keep {base : Nat} {w w' : World} {x : Ent} (h : x.holds base w) (hk : ∀ k, x.place k → w'.heap[k]? = w.heap[k]?) : x.holds base w' := by
  cases x with
  | blk g t cs => exact ⟨h.1, (hk g rfl).trans h.2⟩
  | row v e sz n cs => exact row_keep h hk
  | lot rs => exact fun r hr => row_keep (h r hr) fun k he => hk k ⟨r, hr, he⟩

structure Mem (w0 w : World) (L : List Ent) : Prop where
  below : Below w0.heap.size w0 w
  all : ∀ (i : Nat) (x : Ent), L[i]? = some x → x.holds w0.heap.size w
  sep : ∀ (i j : Nat) (x y : Ent), i ≠ j → L[i]? = some x → L[j]? = some y → x.apart y

section
variable {w0 w w1 : World} {L : List Ent}
theorem Mem.start (w : World) : Mem w w [] := ⟨Below.refl _ _, fun i x h => by simp at h, fun i j x y _ h => by simp at h⟩
theorem Mem.size (M : Mem w0 w L) : w0.heap.size ≤ w.heap.size := M.below.size
theorem Mem.kept (M : Mem w0 w L) (h : Below w.heap.size w w1) : Mem w0 w1 L :=
  ⟨below_then M.below h, fun i x hx => (M.all i x hx).keep fun _ hk => h.block _ ((M.all i x hx).lt hk).2, M.sep⟩
theorem Mem.drewN (M : Mem w0 w L) (n : Nat) : Mem w0 (w.drewN n) L :=
  M.kept ⟨rfl, rfl, rfl, Nat.le_refl _, fun _ _ => rfl⟩
theorem Mem.drew (M : Mem w0 w L) : Mem w0 w.drew L := M.kept (Below.refl _ _).drew
theorem Mem.take (M : Mem w0 w L) (n : Nat) : Mem w0 w (L.take n) := by
  have key : ∀ (i : Nat) (x : Ent), (L.take n)[i]? = some x → L[i]? = some x := by
    intro i x h
    rw [List.getElem?_take] at h
    split at h
    · exact h
    · cases h
  exact ⟨M.below, fun i x hx => M.all i x (key i x hx), fun i j x y hij hx hy => M.sep i j x y hij (key i x hx) (key j y hy)⟩
/-- Something new. -/
theorem Mem.push (M : Mem w0 w L) (x : Ent) (hB : Below w.heap.size w w1) (hx : x.holds w0.heap.size w1) (hn : ∀ k, x.place k → w.heap.size ≤ k) : Mem w0 w1 (L ++ [x]) := by
  have M1 := M.kept hB
  have key : ∀ (i : Nat) (y : Ent), (L ++ [x])[i]? = some y → (i < L.length ∧ L[i]? = some y) ∨ (i = L.length ∧ y = x) := by
    intro i y h
    rcases Nat.lt_or_ge i L.length with hl | hl
    · rw [List.getElem?_append_left hl] at h; exact .inl ⟨hl, h⟩
    · rw [List.getElem?_append_right hl] at h
      have h0 : i - L.length = 0 := by
        rcases Nat.eq_zero_or_pos (i - L.length) with h0 | h0
        · exact h0
        · obtain ⟨m, hm⟩ : ∃ m, i - L.length = m + 1 := ⟨i - L.length - 1, by omega⟩
          rw [hm] at h; simp at h
      rw [h0] at h
      simp at h
      exact .inr ⟨by omega, h.symm⟩
  have fresh : ∀ (i : Nat) (y : Ent), L[i]? = some y → y.apart x := fun i y hy k hk hk' => by
    have := ((M.all i y hy).lt hk).2
    have := hn k hk'
    omega
  refine ⟨M1.below, fun i y h => ?_, fun i j y z hij hy hz => ?_⟩
  · rcases key i y h with ⟨_, h'⟩ | ⟨_, rfl⟩
    · exact M1.all i y h'
    · exact hx
  · rcases key i y hy with ⟨hi, h1⟩ | ⟨hi, rfl⟩ <;> rcases key j z hz with ⟨hj, h2⟩ | ⟨hj, rfl⟩
    · exact M.sep i j y z hij h1 h2
    · exact fresh i y h1
    · exact (fresh j z h2).symm
    · omega
/-- One thing changed, at its place or at a new one. -/
theorem Mem.change (M : Mem w0 w L) (i : Nat) {x y : Ent} (hi : L[i]? = some x) (hB : Below w0.heap.size w0 w1) (hy : y.holds w0.heap.size w1)
    (hk : ∀ k, k < w.heap.size → ¬ x.place k → w1.heap[k]? = w.heap[k]?) (hp : ∀ k, y.place k → x.place k ∨ w.heap.size ≤ k) : Mem w0 w1 (L.set i y) := by
  have key : ∀ (j : Nat) (z : Ent), (L.set i y)[j]? = some z → (j ≠ i ∧ L[j]? = some z) ∨ (j = i ∧ z = y) := by
    intro j z h
    by_cases hji : j = i
    · subst hji
      have hlt : j < L.length := (List.getElem?_eq_some_iff.1 hi).1
      rw [List.getElem?_set_self hlt] at h
      exact .inr ⟨rfl, by simpa using h.symm⟩
    · rw [List.getElem?_set_ne (Ne.symm hji)] at h
      exact .inl ⟨hji, h⟩
  have hap : ∀ (j : Nat) (z : Ent), j ≠ i → L[j]? = some z → z.apart y := fun j z hji hz k hk1 hk2 => by
    rcases hp k hk2 with h | h
    · exact M.sep j i z x hji hz hi k hk1 h
    · have := ((M.all j z hz).lt hk1).2
      omega
  refine ⟨hB, fun j z h => ?_, fun j l z u hjl hz hu => ?_⟩
  · rcases key j z h with ⟨hji, h'⟩ | ⟨_, rfl⟩
    · exact (M.all j z h').keep fun k hk1 => hk k ((M.all j z h').lt hk1).2 (M.sep j i z x hji h' hi k hk1)
    · exact hy
  · rcases key j z hz with ⟨hj, h1⟩ | ⟨hj, rfl⟩ <;> rcases key l u hu with ⟨hl, h2⟩ | ⟨hl, rfl⟩
    · exact M.sep j l z u hjl h1 h2
    · exact hap j z hj h1
    · exact (hap l u hl h2).symm
    · omega
theorem Mem.new (M : Mem w0 w L) {g : Nat} {t : TypeId} {cs : Array Value} (hg : w.heap.size ≤ g) (hb : Blk w1 g t cs) (hB : Below w.heap.size w w1) : Mem w0 w1 (L ++ [.blk g t cs]) :=
  M.push _ hB ⟨Nat.le_trans M.size hg, hb⟩ (fun k hk => by simp only [Ent.place] at hk; omega)
theorem Mem.blk (M : Mem w0 w L) (i : Nat) {g : Nat} {t : TypeId} {cs : Array Value} (h : L[i]? = some (.blk g t cs)) : Blk w g t cs := (M.all i _ h).2
theorem Mem.base (M : Mem w0 w L) (i : Nat) {g : Nat} {t : TypeId} {cs : Array Value} (h : L[i]? = some (.blk g t cs)) : w0.heap.size ≤ g := (M.all i _ h).1
theorem Mem.cell (M : Mem w0 w L) (i : Nat) {g : Nat} {t : TypeId} {cs : Array Value} (h : L[i]? = some (.blk g t cs)) {j : Nat} {v : Value} (hv : cs[j]? = some v) : w.cell? ⟨g, j, none⟩ = some v := (M.blk i h).cellv hv
theorem Mem.frozen (M : Mem w0 w L) (i : Nat) {g : Nat} {t : TypeId} {cs : Array Value} (h : L[i]? = some (.blk g t cs)) (j : Nat) : w.frozen? ⟨g, j, none⟩ = false := (M.blk i h).frozen j
theorem Mem.upd (M : Mem w0 w L) (i : Nat) {g : Nat} {t : TypeId} {cs cs' : Array Value} (h : L[i]? = some (.blk g t cs)) (hb : Blk w1 g t cs') (hU : Upd w w1 g) : Mem w0 w1 (L.set i (.blk g t cs')) :=
  M.change i h (below_upd M.below hU (M.base i h)) ⟨M.base i h, hb⟩ (fun k _ hne => hU.block k (fun e => hne e.symm)) (fun k hk => .inl hk)
/-- A block that was there before reads as it did. -/
theorem Mem.arg (M : Mem w0 w L) {g : Nat} {t : TypeId} {cs : Array Value} (h : Blk w0 g t cs) : Blk w g t cs := h.kept M.below
theorem Mem.argcell (M : Mem w0 w L) {a : Addr} {v : Value} (h : w0.cell? a = some v) : w.cell? a = some v :=
  (M.below.cell (World.block_lt_of_cell? w0 a h)).trans h
theorem Mem.row (M : Mem w0 w L) (i : Nat) {v : Value} {e : TypeId} {sz n : Nat} {cs : List Value} (h : L[i]? = some (.row v e sz n cs)) : w.ownsRow w0.heap.size e sz v n cs := M.all i _ h
theorem Mem.row_form (M : Mem w0 w L) (i : Nat) {v : Value} {e : TypeId} {sz n : Nat} {cs : List Value} (h : L[i]? = some (.row v e sz n cs)) (hn : 0 < n) :
    ∃ g cap, v = .slice (some ⟨g, 0, none⟩) n cap ∧ n ≤ cap := by
  rcases (M.row i h).2 with ⟨_, h0⟩ | ⟨g, cap, cur, rfl, _, _, hc, _⟩
  · omega
  · exact ⟨g, cap, rfl, hc⟩
theorem Mem.row_slice (M : Mem w0 w L) (i : Nat) {v : Value} {e : TypeId} {sz n : Nat} {cs : List Value} (h : L[i]? = some (.row v e sz n cs)) :
    ∃ A cap, v = .slice A n cap ∧ n ≤ cap ∧ cap ≤ maxLen := by
  rcases (M.row i h).2 with ⟨rfl, h0⟩ | ⟨g, cap, cur, rfl, _, _, hc, hm, _⟩
  · exact ⟨none, 0, by rw [h0], by omega, by unfold maxLen; omega⟩
  · exact ⟨_, cap, rfl, hc, hm⟩
theorem Mem.row_len (M : Mem w0 w L) (i : Nat) {v : Value} {e : TypeId} {sz n : Nat} {cs : List Value} (h : L[i]? = some (.row v e sz n cs)) : cs.length = n * sz := (M.row i h).1
theorem Mem.row_cell (M : Mem w0 w L) (i : Nat) {g cap : Nat} {e : TypeId} {sz n : Nat} {cs : List Value} (h : L[i]? = some (.row (.slice (some ⟨g, 0, none⟩) n cap) e sz n cs)) {j : Nat} {u : Value} (hu : cs[j]? = some u) :
    w.cell? ⟨g, j, none⟩ = some u := by
  have hl := M.row_len i h
  have hj : j < cs.length := (List.getElem?_eq_some_iff.1 hu).1
  rw [(M.row i h).cellAt j (by omega), hu]
theorem Mem.row_frozen (M : Mem w0 w L) (i : Nat) {g cap : Nat} {e : TypeId} {sz n : Nat} {cs : List Value} (h : L[i]? = some (.row (.slice (some ⟨g, 0, none⟩) n cap) e sz n cs)) (j : Nat) :
    w.frozen? ⟨g, j, none⟩ = false := (M.row i h).frozenAt j
theorem Mem.row_set (M : Mem w0 w L) (i : Nat) {g cap : Nat} {e : TypeId} {sz n : Nat} {cs : List Value} (h : L[i]? = some (.row (.slice (some ⟨g, 0, none⟩) n cap) e sz n cs)) (j : Nat) (u : Value) :
    Mem w0 (w.setCell ⟨g, j, none⟩ u) (L.set i (.row (.slice (some ⟨g, 0, none⟩) n cap) e sz n (cs.set j u))) := by
  have hs := (M.row i h).stored j u
  have hg : w0.heap.size ≤ g := ((M.all i _ h).lt (k := g) rfl).1
  refine M.change i h (M.below.setCell hg _) hs.1 (fun k _ hne => heap_setCell_other w ⟨g, j, none⟩ k u (fun e => hne (by rw [e]; rfl))) (fun k hk => .inl hk)
end

section
variable {w0 w w1 : World} {L K : List Ent}
theorem Ent.holds.lower {b b' : Nat} {x : Ent} (h : x.holds b w) (hb : b' ≤ b) : x.holds b' w := by
  cases x with
  | blk g t cs => exact ⟨Nat.le_trans hb h.1, h.2⟩
  | row v e sz n cs => exact row_lower h hb
  | lot rs => exact fun r hr => row_lower (h r hr) hb
/-- What a call has made, besides what was made before it. -/
theorem Mem.join (M : Mem w0 w L) (N : Mem w w1 K) : Mem w0 w1 (L ++ K) := by
  have M1 := M.kept N.below
  have key : ∀ (i : Nat) (y : Ent), (L ++ K)[i]? = some y → (i < L.length ∧ L[i]? = some y) ∨ (L.length ≤ i ∧ K[i - L.length]? = some y) := by
    intro i y h
    rcases Nat.lt_or_ge i L.length with hl | hl
    · rw [List.getElem?_append_left hl] at h; exact .inl ⟨hl, h⟩
    · rw [List.getElem?_append_right hl] at h; exact .inr ⟨hl, h⟩
  have fresh : ∀ (i j : Nat) (y z : Ent), L[i]? = some y → K[j]? = some z → y.apart z := fun i j y z hy hz k hk hk' => by
    have := ((M.all i y hy).lt hk).2
    have := ((N.all j z hz).lt hk').1
    omega
  refine ⟨M1.below, fun i y h => ?_, fun i j y z hij hy hz => ?_⟩
  · rcases key i y h with ⟨_, h'⟩ | ⟨_, h'⟩
    · exact M1.all i y h'
    · exact (N.all _ y h').lower M.size
  · rcases key i y hy with ⟨hi, h1⟩ | ⟨hi, h1⟩ <;> rcases key j z hz with ⟨hj, h2⟩ | ⟨hj, h2⟩
    · exact M.sep i j y z hij h1 h2
    · exact fresh i _ y z h1 h2
    · exact (fresh j _ z y h2 h1).symm
    · exact N.sep _ _ y z (by omega) h1 h2
/-- Only some of what has been made is of use any longer. -/
theorem Mem.only (M : Mem w0 w L) (is : List Nat) {K : List Ent} (h : is.map (fun i => L[i]?) = K.map some) (hd : is.Nodup) : Mem w0 w K := by
  have key : ∀ (i : Nat) (x : Ent), K[i]? = some x → ∃ j, is[i]? = some j ∧ L[j]? = some x := by
    intro i x hx
    have h1 : (is.map (fun i => L[i]?))[i]? = (K.map some)[i]? := by rw [h]
    simp only [List.getElem?_map, hx, Option.map_some] at h1
    cases hi : is[i]? with
    | none => simp [hi] at h1
    | some j => exact ⟨j, rfl, by simpa [hi] using h1⟩
  refine ⟨M.below, fun i x hx => ?_, fun i j x y hij hx hy => ?_⟩
  · obtain ⟨k, _, hk⟩ := key i x hx
    exact M.all k x hk
  · obtain ⟨k, hk1, hk⟩ := key i x hx
    obtain ⟨l, hl1, hl⟩ := key j y hy
    refine M.sep k l x y (fun e => hij ?_) hk hl
    subst e
    have a1 := (List.getElem?_eq_some_iff.1 hk1)
    have a2 := (List.getElem?_eq_some_iff.1 hl1)
    exact (List.getElem_inj (h₀ := a1.1) (h₁ := a2.1) hd).mp (a1.2.trans a2.2.symm)
/-- A row goes into the lot. -/
theorem Mem.absorb (M : Mem w0 w L) (i j : Nat) (hij : i ≠ j) {rs : List Rw} {v : Value} {e : TypeId} {sz n : Nat} {cs : List Value} (hi : L[i]? = some (.lot rs)) (hj : L[j]? = some (.row v e sz n cs)) :
    Mem w0 w ((L.set i (.lot (rs ++ [⟨v, e, sz, n, cs⟩]))).set j (.lot [])) := by
  have hli : i < L.length := (List.getElem?_eq_some_iff.1 hi).1
  have hlj : j < L.length := (List.getElem?_eq_some_iff.1 hj).1
  have key : ∀ (m : Nat) (x : Ent), ((L.set i (.lot (rs ++ [⟨v, e, sz, n, cs⟩]))).set j (.lot []))[m]? = some x → (m = i ∧ x = .lot (rs ++ [⟨v, e, sz, n, cs⟩])) ∨ (m = j ∧ x = .lot []) ∨ (m ≠ i ∧ m ≠ j ∧ L[m]? = some x) := by
    intro m x h
    by_cases h1 : m = j
    · subst h1
      rw [List.getElem?_set_self (by simpa using hlj)] at h
      exact .inr (.inl ⟨rfl, by simpa using h.symm⟩)
    · rw [List.getElem?_set_ne (Ne.symm h1)] at h
      by_cases h2 : m = i
      · subst h2
        rw [List.getElem?_set_self hli] at h
        exact .inl ⟨rfl, by simpa using h.symm⟩
      · rw [List.getElem?_set_ne (Ne.symm h2)] at h
        exact .inr (.inr ⟨h2, h1, h⟩)
  have no : ∀ y : Ent, y.apart (.lot []) := fun y k _ h => by
    obtain ⟨r, hr, _⟩ := h
    cases hr
  have big : ∀ (m : Nat) (y : Ent), m ≠ i → m ≠ j → L[m]? = some y → (Ent.lot (rs ++ [⟨v, e, sz, n, cs⟩])).apart y := fun m y h1 h2 hy k hk hk2 => by
    obtain ⟨r, hr, he⟩ := hk
    rcases List.mem_append.1 hr with hr | hr
    · exact M.sep i m _ y (Ne.symm h1) hi hy k ⟨r, hr, he⟩ hk2
    · simp only [List.mem_singleton] at hr
      subst hr
      exact M.sep j m _ y (Ne.symm h2) hj hy k he hk2
  refine ⟨M.below, fun m x h => ?_, fun m l x y hml hx hy => ?_⟩
  · rcases key m x h with ⟨_, rfl⟩ | ⟨_, rfl⟩ | ⟨_, _, h'⟩
    · intro r hr
      rcases List.mem_append.1 hr with hr | hr
      · exact M.all i _ hi r hr
      · simp only [List.mem_singleton] at hr
        subst hr
        exact M.all j _ hj
    · intro r hr
      cases hr
    · exact M.all m x h'
  · rcases key m x hx with ⟨h1, rfl⟩ | ⟨h1, rfl⟩ | ⟨h1, h2, hx'⟩ <;> rcases key l y hy with ⟨h3, rfl⟩ | ⟨h3, rfl⟩ | ⟨h3, h4, hy'⟩
    · omega
    · exact no _
    · exact big l y h3 h4 hy'
    · exact (no _).symm
    · omega
    · exact (no _).symm
    · exact (big m x h1 h2 hx').symm
    · exact no _
    · exact M.sep m l x y hml hx' hy'
theorem Mem.lot0 (M : Mem w0 w L) : Mem w0 w (L ++ [.lot []]) :=
  M.push _ (Below.refl _ _) (fun r hr => by cases hr) (fun k hk => by obtain ⟨r, hr, _⟩ := hk; cases hr)
theorem Mem.lots (M : Mem w0 w L) (i : Nat) {rs : List Rw} (hi : L[i]? = some (.lot rs)) {r : Rw} (hr : r ∈ rs) : w.ownsRow w0.heap.size r.e r.sz r.v r.n r.cs := M.all i _ hi r hr
end
end Go.Proofs.YtaepgjjmfopiiaaDoor
