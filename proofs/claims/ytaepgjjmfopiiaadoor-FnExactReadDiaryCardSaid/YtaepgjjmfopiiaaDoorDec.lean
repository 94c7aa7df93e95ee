/- Numerals: the reference's and the program's are the library's. -/
import Derived.Test.YtaepgjjmfopiiaaDoorLibS
import Derived.Test.YtaepgjjmfopiiaaDoorHeld3
import Derived.Laws.IdiomStrings
namespace Go.Proofs.YtaepgjjmfopiiaaDoor
set_option linter.unusedSimpArgs false
set_option linter.unusedVariables false
open Go.RowKit
attribute [local go_sem] cell?_mk frozen?_mk

section
variable {P : Program} {ops : Array Oper} {Q : Exit → Act → World → Prop} {rest : List Oper} {a : Act} {w0 w : World} {L : List Ent} {o : Oper}
/-- A row of one byte made a text. -/
theorem Mem.ev_str1 (M : Mem w0 w L) (i : Nat) {src dst e : TypeId} (x : Operand) (ho : o.op = .convert src dst x) (hgd : o.guard = none) {g : Nat} (b : UInt8) (hL : L[i]? = some (.blk g e #[.int .u8 (b.toNat : Int)])) (hs : P.underlying src = some (.slice e)) (he : P.underlying e = some (.int .u8)) (hd : P.underlying dst = some .string)
    (hx : a.eval x = .slice (some ⟨g, 0, none⟩) 1 1) (h : wpList P ops Q rest (a.put o.dst (.string ⟨#[b]⟩)) w) : wpList P ops Q (o :: rest) a w := by
  have hr := run_convert_bytes_back (P := P) w src dst e ⟨g, 0, none⟩ 1 [b] hs he hd (fun j hj => by
    obtain rfl : j = 0 := by simpa using hj
    exact M.cell i hL (j := 0) rfl)
  refine wpList_plain hgd fun K hK => ?_
  unfold Oper.wp execOp
  simp only [ho, hx, Sem.run_bind]
  rw [show ([b] : List UInt8).length = 1 from rfl] at hr
  rw [hr]
  exact hK _ _ h
end
theorem dec_small {n : Nat} (h : n < 10) : (⟨(Lib.decDigits n).toArray⟩ : ByteArray) = ⟨#[UInt8.ofNat (48 + n)]⟩ := by rw [Lib.decDigits_one h]
theorem dec_big {n : Nat} (h : ¬ n < 10) : (⟨(Lib.decDigits n).toArray⟩ : ByteArray) = ⟨(Lib.decDigits (n / 10)).toArray⟩ ++ ⟨#[UInt8.ofNat (48 + n % 10)]⟩ := by
  rw [Lib.decDigits, dif_neg h]
  apply ByteArray.ext
  simp
theorem byte_of {n : Nat} (h : n < 10) : 48 + (n : Int) = ((UInt8.ofNat (48 + n)).toNat : Int) := by
  rw [UInt8.toNat_ofNat']
  omega
theorem dec_len {n : Nat} (h : n ≤ 1000000) : (Lib.decDigits n).length ≤ 21 := by
  have := Lib.itoa_length_le (n : Int) (by omega) (by omega)
  rwa [Lib.itoa_nonneg] at this
end Go.Proofs.YtaepgjjmfopiiaaDoor
