/- Texts of a proof, laid together: Shelf, LibS, Split, Dec, DiaryT, ReadLib, ReadQ0, ReadQ, ReadD. -/
import Derived.Shelf.Strings.Builder1
import Derived.Shelf.Strings.Builder2
import Derived.Shelf.Strings.OnBuilder
import Derived.Shelf.Strings.BuilderF
import Derived.Shelf.Strings.BuilderK
import Derived.Shelf.Utf8.RuneCount
import Derived.Shelf.Strconv.Itoa0
import Derived.Shelf.Strconv.Itoa1
import Derived.Shelf.LaysM
import Derived.Shelf.Strconv.Itoa2
import Derived.Shelf.Strconv.Itoa3
import Derived.Shelf.Strconv.Itoa4
import Derived.Shelf.Strconv.ParseIntEmpty
import Derived.Shelf.Strconv.Clone
import Derived.Shelf.Strconv.SyntaxError
import Derived.Shelf.LaysC
import Derived.Shelf.Strconv.ToError
import Derived.Shelf.Strconv.Lower
import Derived.Shelf.Strconv.ParseUint10
import Derived.Shelf.Strconv.ParseUint10Empty
import Derived.Shelf.Strconv.ParseUint10Any
import Derived.Shelf.Strconv.ParseInt10
import Derived.Shelf.Strconv.RangeError
import Derived.Shelf.Strconv.ToErrorRange
import Derived.Shelf.Strconv.ParseUintEmpty
import Derived.Shelf.Strconv.ParseUint10b64
import Derived.Shelf.Strconv.ParseUint10b32
import Derived.Shelf.Strconv.ParseUint10b16
import Derived.Shelf.Strconv.ParseUint10b8
import Derived.Shelf.Strconv.ParseUint10At
import Derived.Shelf.Strconv.ParseInt10At64
import Derived.Shelf.Strconv.ParseInt10At32
import Derived.Shelf.Strconv.ParseInt10At16
import Derived.Shelf.Strconv.ParseInt10At8
import Derived.Shelf.Strconv.ParseInt10All
import Derived.Shelf.Strconv.ParseIntPublic10
import Derived.Shelf.Strconv.ErrVarParseInt
import Derived.Shelf.Strings.Search1
import Derived.Shelf.Strings.Search2
import Derived.Shelf.Strings.Search3
import Derived.Shelf.Strings.Cut
import Derived.Shelf.Strings.Count
import Derived.Shelf.Strings.Shaped
import Derived.Shelf.Strings.Split
import Derived.Shelf.Strings.SplitShaped
import Derived.Shelf.Unicode.Decode
import Derived.Shelf.Strings.RuneCount
import Derived.Shelf.Strings.Explode
import Derived.Shelf.Unicode.DecodeSlow
import Derived.Shelf.Unicode.DecodeAny
import Derived.Test.YtkomhngokcejbaaGreatDoorProg
import Derived.Test.YtkomhngokcejbaaGreatDoorZV11
import Derived.Test.YtkomhngokcejbaaGreatDoorZV03
import Derived.WalkSmall
import Derived.Lib.AppendIntMem
import Derived.Lib.ItoaLen
import Derived.Lib.ItoaMem
import Derived.Laws.Concat
import Derived.Test.YtkomhngokcejbaaGreatDoorZV02
import Derived.Test.YtkomhngokcejbaaGreatDoorZV16
import Derived.Laws.IdiomStrings
import Derived.Lib.AtoiErrMem
namespace Go.Proofs
open Go.Shelf
def Tryz.lays169_ren : Go.Shelf.Ren := ⟨fun | 169 => 140 | n => n, fun | 70 => 183 | 9 => 9 | 0 => 0 | 72 => 185 | 37 => 22 | 127 => 210 | 3 => 3 | 5 => 5 | n => n, fun | n => n⟩
def Tryz.lays156_ren : Go.Shelf.Ren := ⟨fun | 156 => 65 | 165 => 138 | 166 => 139 | 169 => 140 | 240 => 173 | 241 => 174 | 276 => 195 | 277 => 196 | n => n, fun | 31 => 92 | 9 => 9 | 3 => 3 | 4 => 4 | 0 => 0 | 20 => 20 | 72 => 185 | 76 => 187 | 70 => 183 | 37 => 22 | 75 => 179 | 127 => 210 | 164 => 231 | 5 => 5 | 80 => 189 | n => n, fun | n => n⟩
theorem Tryz.lays156 : Go.Proofs.Lays.n156 Tryz.prog Tryz.lays156_ren := {
  mixed := by kernel_rfl
  f156 := Tryz.func65.trans (congrArg some (by kernel_rfl))
  f165 := Tryz.func138.trans (congrArg some (by kernel_rfl))
  f166 := Tryz.func139.trans (congrArg some (by kernel_rfl))
  f169 := Tryz.func140.trans (congrArg some (by kernel_rfl))
  f240 := Tryz.func173.trans (congrArg some (by kernel_rfl))
  f241 := Tryz.func174.trans (congrArg some (by kernel_rfl))
  f276 := Tryz.func195.trans (congrArg some (by kernel_rfl))
  f277 := Tryz.func196.trans (congrArg some (by kernel_rfl))
  t0 := Tryz.underlying0
  a0 := Tryz.isAgg0
  z0 := Tryz.sizeOf0
  v0 := Tryz.zeroValue0
  t3 := Tryz.underlying3
  a3 := Tryz.isAgg3
  z3 := Tryz.sizeOf3
  v3 := Tryz.zeroValue3
  t4 := Tryz.underlying4
  a4 := Tryz.isAgg4
  z4 := Tryz.sizeOf4
  v4 := Tryz.zeroValue4
  t9 := Tryz.underlying9
  a9 := Tryz.isAgg9
  z9 := Tryz.sizeOf9
  v9 := Tryz.zeroValue9
  t20 := Tryz.underlying20
  a20 := Tryz.isAgg20
  z20 := Tryz.sizeOf20
  v20 := Tryz.zeroValue20
  t31 := Tryz.underlying92
  a31 := Tryz.isAgg92
  z31 := Tryz.sizeOf92
  v31 := Tryz.zeroValue92
  t37 := Tryz.underlying22
  a37 := Tryz.isAgg22
  z37 := Tryz.sizeOf22
  v37 := Tryz.zeroValue22
  t70 := Tryz.underlying183
  a70 := Tryz.isAgg183
  z70 := Tryz.sizeOf183
  v70 := Tryz.zeroValue183
  t72 := Tryz.underlying185
  a72 := Tryz.isAgg185
  z72 := Tryz.sizeOf185
  v72 := Tryz.zeroValue185
  t75 := Tryz.underlying179
  a75 := Tryz.isAgg179
  z75 := Tryz.sizeOf179
  v75 := Tryz.zeroValue179
  t76 := Tryz.underlying187
  a76 := Tryz.isAgg187
  z76 := Tryz.sizeOf187
  v76 := Tryz.zeroValue187
  t127 := Tryz.underlying210
  a127 := Tryz.isAgg210
  z127 := Tryz.sizeOf210
  v127 := Tryz.zeroValue210
  t164 := Tryz.underlying231
  a164 := Tryz.isAgg231
  z164 := Tryz.sizeOf231
  v164 := Tryz.zeroValue231 }
theorem Tryz.Builder_Extra_156 : Builder.Extra Tryz.prog Tryz.lays156_ren := {
  sizeBuilder := by kernel_rfl
  liesBuilder := by kernel_rfl
  t5 := Tryz.underlying5
  a5 := Tryz.isAgg5
  z5 := Tryz.sizeOf5
  v5 := Tryz.zeroValue5
  infoByte := by kernel_rfl
  cellsByte := by kernel_rfl
  sizeByte := by kernel_rfl
  neB5 := by decide }
open Go.RowKit in
theorem Tryz.strings_Join_none (a : Option Addr) (c : Nat) (sep : ByteArray) (w : World) :
    Calls Tryz.prog 65 #[.slice a 0 c, .string sep] w fun e w' => e = .returned (.string ⟨#[]⟩) ∧ w' = w := Any.strings_Join_none Tryz.lays156 Tryz.Builder_Extra_156 a c sep w
open Go.RowKit in
theorem Tryz.strings_Join (bk o c : Nat) (xs : List ByteArray) (sep : ByteArray) (w : World) (hcells : ∀ (j : Nat) x, xs[j]? = some x → w.cell? ⟨bk, o + j, none⟩ = some (.string x)) (hbk : bk < w.heap.size) (hN : xs.length ≤ 140737488355328) (hcap : xs.length ≤ c) (hlen : (Lib.join (xs.map (·.data.toList)) sep.data.toList).length ≤ 140737488355328) :
    Calls Tryz.prog 65 #[.slice (some ⟨bk, o, none⟩) xs.length c, .string sep] w fun e w' => e = .returned (.string ⟨(Lib.join (xs.map (·.data.toList)) sep.data.toList).toArray⟩) ∧ Below w.heap.size w w' := Any.strings_Join Tryz.lays156 Tryz.Builder_Extra_156 bk o c xs sep w hcells hbk hN hcap hlen
def Tryz.laysM173_ren : Go.Shelf.Ren := ⟨fun | 173 => 137 | 246 => 172 | 283 => 191 | 284 => 192 | 285 => 193 | 286 => 194 | 129 => 209 | 317 => 208 | 318 => 210 | 319 => 211 | 320 => 212 | 337 => 216 | 338 => 217 | n => n, fun | 2 => 2 | 3 => 3 | 9 => 9 | 4 => 4 | 171 => 227 | 0 => 0 | 53 => 38 | 37 => 22 | 5 => 5 | 173 => 229 | 212 => 242 | 51 => 243 | 20 => 20 | 213 => 244 | 46 => 146 | 232 => 257 | 233 => 258 | n => n, fun | 17 => 3 | 18 => 6 | 19 => 7 | n => n⟩
theorem Tryz.laysM173 : Go.Proofs.LaysM.n173 Tryz.prog Tryz.laysM173_ren := {
  mixed := by kernel_rfl
  f129 := Tryz.func209.trans (congrArg some (by kernel_rfl))
  f173 := Tryz.func137.trans (congrArg some (by kernel_rfl))
  f246 := Tryz.func172.trans (congrArg some (by kernel_rfl))
  f283 := Tryz.func191.trans (congrArg some (by kernel_rfl))
  f284 := Tryz.func192.trans (congrArg some (by kernel_rfl))
  f285 := Tryz.func193.trans (congrArg some (by kernel_rfl))
  f286 := Tryz.func194.trans (congrArg some (by kernel_rfl))
  f317 := Tryz.func208.trans (congrArg some (by kernel_rfl))
  f318 := Tryz.func210.trans (congrArg some (by kernel_rfl))
  f319 := Tryz.func211.trans (congrArg some (by kernel_rfl))
  f320 := Tryz.func212.trans (congrArg some (by kernel_rfl))
  f337 := Tryz.func216.trans (congrArg some (by kernel_rfl))
  f338 := Tryz.func217.trans (congrArg some (by kernel_rfl))
  t0 := Tryz.underlying0
  a0 := Tryz.isAgg0
  z0 := Tryz.sizeOf0
  v0 := Tryz.zeroValue0
  t2 := Tryz.underlying2
  a2 := Tryz.isAgg2
  z2 := Tryz.sizeOf2
  v2 := Tryz.zeroValue2
  t3 := Tryz.underlying3
  a3 := Tryz.isAgg3
  z3 := Tryz.sizeOf3
  v3 := Tryz.zeroValue3
  t4 := Tryz.underlying4
  a4 := Tryz.isAgg4
  z4 := Tryz.sizeOf4
  v4 := Tryz.zeroValue4
  t5 := Tryz.underlying5
  a5 := Tryz.isAgg5
  z5 := Tryz.sizeOf5
  v5 := Tryz.zeroValue5
  t9 := Tryz.underlying9
  a9 := Tryz.isAgg9
  z9 := Tryz.sizeOf9
  v9 := Tryz.zeroValue9
  t20 := Tryz.underlying20
  a20 := Tryz.isAgg20
  z20 := Tryz.sizeOf20
  v20 := Tryz.zeroValue20
  t37 := Tryz.underlying22
  a37 := Tryz.isAgg22
  z37 := Tryz.sizeOf22
  v37 := Tryz.zeroValue22
  t46 := Tryz.underlying146
  a46 := Tryz.isAgg146
  z46 := Tryz.sizeOf146
  v46 := Tryz.zeroValue146
  t51 := Tryz.underlying243
  a51 := Tryz.isAgg243
  z51 := Tryz.sizeOf243
  v51 := Tryz.zeroValue243
  t53 := Tryz.underlying38
  a53 := Tryz.isAgg38
  z53 := Tryz.sizeOf38
  v53 := Tryz.zeroValue38
  t171 := Tryz.underlying227
  a171 := Tryz.isAgg227
  z171 := Tryz.sizeOf227
  v171 := Tryz.zeroValue227
  t173 := Tryz.underlying229
  a173 := Tryz.isAgg229
  z173 := Tryz.sizeOf229
  v173 := Tryz.zeroValue229
  t212 := Tryz.underlying242
  a212 := Tryz.isAgg242
  z212 := Tryz.sizeOf242
  v212 := Tryz.zeroValue242
  t213 := Tryz.underlying244
  a213 := Tryz.isAgg244
  z213 := Tryz.sizeOf244
  t232 := Tryz.underlying257
  a232 := Tryz.isAgg257
  z232 := Tryz.sizeOf257
  v232 := Tryz.zeroValue257
  t233 := Tryz.underlying258
  a233 := Tryz.isAgg258
  z233 := Tryz.sizeOf258
  v233 := Tryz.zeroValue258
  g17 := by kernel_rfl
  g18 := by kernel_rfl
  g19 := by kernel_rfl
  i0 := by kernel_rfl
  i2 := by kernel_rfl
  i3 := by kernel_rfl
  i4 := by kernel_rfl
  i5 := by kernel_rfl
  i9 := by kernel_rfl
  i20 := by kernel_rfl
  i37 := by kernel_rfl
  i46 := by kernel_rfl
  i51 := by kernel_rfl
  i53 := by kernel_rfl
  i171 := by kernel_rfl
  i173 := by kernel_rfl
  i212 := by kernel_rfl
  i232 := by kernel_rfl
  i233 := by kernel_rfl
  m17 := by kernel_rfl
  m18 := by kernel_rfl
  m19 := by kernel_rfl }
open Go.RowKit Go.Sort Go.Lib in
theorem Tryz.strconv_FormatInt_10 (n : Int) (h0 : -9223372036854775808 ≤ n) (h1 : n ≤ 9223372036854775807) (w : World) (htab : Lib.TabIs Tryz.prog w "internal/strconv.uint64pow10" .u64 Lib.pow10Tab) :
    Calls Tryz.prog 137 #[.int .i64 n, .int .i64 10] w fun e w' => e = .returned (.string ⟨(Lib.itoa n).toArray⟩) ∧ ∃ k os, w' = grow (w.drewN k) os := Any.strconv_FormatInt_10 Tryz.laysM173 n h0 h1 w htab
def Tryz.laysC174_ren : Go.Shelf.Ren := ⟨fun | 174 => 136 | 247 => 170 | 245 => 171 | 287 => 186 | 279 => 187 | 280 => 188 | 281 => 189 | 282 => 190 | 321 => 203 | 322 => 204 | 316 => 205 | 171 => 207 | 205 => 206 | 243 => 215 | 246 => 172 | 283 => 191 | 284 => 192 | 285 => 193 | 286 => 194 | 129 => 209 | 317 => 208 | 318 => 210 | 319 => 211 | 320 => 212 | 337 => 216 | 338 => 217 | n => n, fun | 9 => 9 | 3 => 3 | 2 => 2 | 75 => 179 | 85 => 180 | 4 => 4 | 167 => 220 | 5 => 5 | 53 => 38 | 175 => 221 | 46 => 146 | 168 => 223 | 37 => 22 | 0 => 0 | 210 => 239 | 21 => 21 | 127 => 210 | 145 => 255 | 143 => 253 | 171 => 227 | 173 => 229 | 212 => 242 | 51 => 243 | 20 => 20 | 213 => 244 | 232 => 257 | 233 => 258 | 80 => 189 | n => n, fun | 15 => 1 | 16 => 2 | 17 => 3 | 18 => 6 | 19 => 7 | n => n⟩
theorem Tryz.laysC174 : Go.Proofs.LaysC.n174 Tryz.prog Tryz.laysC174_ren := {
  mixed := by kernel_rfl
  f129 := Tryz.func209.trans (congrArg some (by kernel_rfl))
  f171 := Tryz.func207.trans (congrArg some (by kernel_rfl))
  f174 := Tryz.func136.trans (congrArg some (by kernel_rfl))
  f205 := Tryz.func206.trans (congrArg some (by kernel_rfl))
  f243 := Tryz.func215.trans (congrArg some (by kernel_rfl))
  f245 := Tryz.func171.trans (congrArg some (by kernel_rfl))
  f246 := Tryz.func172.trans (congrArg some (by kernel_rfl))
  f247 := Tryz.func170.trans (congrArg some (by kernel_rfl))
  f279 := Tryz.func187.trans (congrArg some (by kernel_rfl))
  f280 := Tryz.func188.trans (congrArg some (by kernel_rfl))
  f281 := Tryz.func189.trans (congrArg some (by kernel_rfl))
  f282 := Tryz.func190.trans (congrArg some (by kernel_rfl))
  f283 := Tryz.func191.trans (congrArg some (by kernel_rfl))
  f284 := Tryz.func192.trans (congrArg some (by kernel_rfl))
  f285 := Tryz.func193.trans (congrArg some (by kernel_rfl))
  f286 := Tryz.func194.trans (congrArg some (by kernel_rfl))
  f287 := Tryz.func186.trans (congrArg some (by kernel_rfl))
  f316 := Tryz.func205.trans (congrArg some (by kernel_rfl))
  f317 := Tryz.func208.trans (congrArg some (by kernel_rfl))
  f318 := Tryz.func210.trans (congrArg some (by kernel_rfl))
  f319 := Tryz.func211.trans (congrArg some (by kernel_rfl))
  f320 := Tryz.func212.trans (congrArg some (by kernel_rfl))
  f321 := Tryz.func203.trans (congrArg some (by kernel_rfl))
  f322 := Tryz.func204.trans (congrArg some (by kernel_rfl))
  f337 := Tryz.func216.trans (congrArg some (by kernel_rfl))
  f338 := Tryz.func217.trans (congrArg some (by kernel_rfl))
  t0 := Tryz.underlying0
  a0 := Tryz.isAgg0
  z0 := Tryz.sizeOf0
  v0 := Tryz.zeroValue0
  t2 := Tryz.underlying2
  a2 := Tryz.isAgg2
  z2 := Tryz.sizeOf2
  v2 := Tryz.zeroValue2
  t3 := Tryz.underlying3
  a3 := Tryz.isAgg3
  z3 := Tryz.sizeOf3
  v3 := Tryz.zeroValue3
  t4 := Tryz.underlying4
  a4 := Tryz.isAgg4
  z4 := Tryz.sizeOf4
  v4 := Tryz.zeroValue4
  t5 := Tryz.underlying5
  a5 := Tryz.isAgg5
  z5 := Tryz.sizeOf5
  v5 := Tryz.zeroValue5
  t9 := Tryz.underlying9
  a9 := Tryz.isAgg9
  z9 := Tryz.sizeOf9
  v9 := Tryz.zeroValue9
  t20 := Tryz.underlying20
  a20 := Tryz.isAgg20
  z20 := Tryz.sizeOf20
  v20 := Tryz.zeroValue20
  t21 := Tryz.underlying21
  a21 := Tryz.isAgg21
  z21 := Tryz.sizeOf21
  v21 := Tryz.zeroValue21
  t37 := Tryz.underlying22
  a37 := Tryz.isAgg22
  z37 := Tryz.sizeOf22
  v37 := Tryz.zeroValue22
  t46 := Tryz.underlying146
  a46 := Tryz.isAgg146
  z46 := Tryz.sizeOf146
  v46 := Tryz.zeroValue146
  t51 := Tryz.underlying243
  a51 := Tryz.isAgg243
  z51 := Tryz.sizeOf243
  v51 := Tryz.zeroValue243
  t53 := Tryz.underlying38
  a53 := Tryz.isAgg38
  z53 := Tryz.sizeOf38
  v53 := Tryz.zeroValue38
  t75 := Tryz.underlying179
  a75 := Tryz.isAgg179
  z75 := Tryz.sizeOf179
  v75 := Tryz.zeroValue179
  t85 := Tryz.underlying180
  a85 := Tryz.isAgg180
  z85 := Tryz.sizeOf180
  v85 := Tryz.zeroValue180
  t127 := Tryz.underlying210
  a127 := Tryz.isAgg210
  z127 := Tryz.sizeOf210
  v127 := Tryz.zeroValue210
  t143 := Tryz.underlying253
  a143 := Tryz.isAgg253
  z143 := Tryz.sizeOf253
  v143 := Tryz.zeroValue253
  t145 := Tryz.underlying255
  a145 := Tryz.isAgg255
  z145 := Tryz.sizeOf255
  v145 := Tryz.zeroValue255
  t167 := Tryz.underlying220
  a167 := Tryz.isAgg220
  z167 := Tryz.sizeOf220
  v167 := Tryz.zeroValue220
  t168 := Tryz.underlying223
  a168 := Tryz.isAgg223
  z168 := Tryz.sizeOf223
  v168 := Tryz.zeroValue223
  t171 := Tryz.underlying227
  a171 := Tryz.isAgg227
  z171 := Tryz.sizeOf227
  v171 := Tryz.zeroValue227
  t173 := Tryz.underlying229
  a173 := Tryz.isAgg229
  z173 := Tryz.sizeOf229
  v173 := Tryz.zeroValue229
  t175 := Tryz.underlying221
  a175 := Tryz.isAgg221
  z175 := Tryz.sizeOf221
  v175 := Tryz.zeroValue221
  t210 := Tryz.underlying239
  a210 := Tryz.isAgg239
  z210 := Tryz.sizeOf239
  v210 := Tryz.zeroValue239
  t212 := Tryz.underlying242
  a212 := Tryz.isAgg242
  z212 := Tryz.sizeOf242
  v212 := Tryz.zeroValue242
  t213 := Tryz.underlying244
  a213 := Tryz.isAgg244
  z213 := Tryz.sizeOf244
  t232 := Tryz.underlying257
  a232 := Tryz.isAgg257
  z232 := Tryz.sizeOf257
  v232 := Tryz.zeroValue257
  t233 := Tryz.underlying258
  a233 := Tryz.isAgg258
  z233 := Tryz.sizeOf258
  v233 := Tryz.zeroValue258
  g15 := by kernel_rfl
  g16 := by kernel_rfl
  g17 := by kernel_rfl
  g18 := by kernel_rfl
  g19 := by kernel_rfl
  t80 := Tryz.underlying189
  a80 := Tryz.isAgg189
  z80 := Tryz.sizeOf189
  v80 := Tryz.zeroValue189
  i0 := by kernel_rfl
  i2 := by kernel_rfl
  i3 := by kernel_rfl
  i4 := by kernel_rfl
  i5 := by kernel_rfl
  i9 := by kernel_rfl
  i20 := by kernel_rfl
  i21 := by kernel_rfl
  i37 := by kernel_rfl
  i46 := by kernel_rfl
  i51 := by kernel_rfl
  i53 := by kernel_rfl
  i75 := by kernel_rfl
  i80 := by kernel_rfl
  i85 := by kernel_rfl
  i127 := by kernel_rfl
  i143 := by kernel_rfl
  i145 := by kernel_rfl
  i167 := by kernel_rfl
  i168 := by kernel_rfl
  i171 := by kernel_rfl
  i173 := by kernel_rfl
  i175 := by kernel_rfl
  i210 := by kernel_rfl
  i212 := by kernel_rfl
  i232 := by kernel_rfl
  i233 := by kernel_rfl
  m15 := by kernel_rfl
  m16 := by kernel_rfl
  m17 := by kernel_rfl
  m18 := by kernel_rfl
  m19 := by kernel_rfl
  c0 := by kernel_rfl
  c2 := by kernel_rfl
  c3 := by kernel_rfl
  c4 := by kernel_rfl
  c5 := by kernel_rfl
  c9 := by kernel_rfl
  c20 := by kernel_rfl
  c21 := by kernel_rfl
  c37 := by kernel_rfl
  c46 := by kernel_rfl
  c51 := by kernel_rfl
  c53 := by kernel_rfl
  c75 := by kernel_rfl
  c80 := by kernel_rfl
  c85 := by kernel_rfl
  c127 := by kernel_rfl
  c143 := by kernel_rfl
  c145 := by kernel_rfl
  c167 := by kernel_rfl
  c168 := by kernel_rfl
  c171 := by kernel_rfl
  c173 := by kernel_rfl
  c175 := by kernel_rfl
  c210 := by kernel_rfl
  c212 := by kernel_rfl
  c213 := by kernel_rfl
  c232 := by kernel_rfl
  c233 := by kernel_rfl }
open Go.RowKit in
theorem Tryz.strconv_ParseInt_10_at64_ok (s : ByteArray) (hmax : s.size ≤ 9223372036854775806) (v : Int) (h : Lib.parseIntB 64 s.data.toList = .ok v) (w : World) :
    Calls Tryz.prog 136 #[.string s, .int .i64 10, .int .i64 64] w fun e w' => e = .returned (.tuple #[.int .i64 v, .nilIface]) ∧ (w' = w ∨ ∃ t, w' = Lib.bytesWorld w 5 t) := Any.strconv_ParseInt_10_at64_ok Tryz.laysC174 s hmax v h w
open Go.RowKit in
theorem Tryz.strconv_ParseInt_10_at64_range (s : ByteArray) (hlim : s.size ≤ 281474976710656) (h : Lib.parseIntB 64 s.data.toList = .range) (ev : Value) (w : World) (hv : w.cell? ⟨2, 0, none⟩ = some ev) (hev : ev = .nilIface ∨ ∃ te pe, ev = .iface te pe) :
    Calls Tryz.prog 136 #[.string s, .int .i64 10, .int .i64 64] w fun e w' => ∃ N, e = .returned (.tuple #[.int .i64 (Lib.intSat 64 s.data.toList), .iface 223 (.pointer (some ⟨N, 0, none⟩))]) ∧ w.heap.size ≤ N ∧ w'.heap[N]? = some (.cells #[.string ⟨#[80, 97, 114, 115, 101, 73, 110, 116]⟩, .string s, ev] 239 (0, 0)) ∧ Below w.heap.size w w' := Any.strconv_ParseInt_10_at64_range Tryz.laysC174 s hlim h ev w hv hev
def Tryz.lays145_ren : Go.Shelf.Ren := ⟨fun | 145 => 118 | 220 => 164 | 219 => 182 | 217 => 198 | 225 => 199 | 224 => 200 | 267 => 201 | 266 => 213 | 314 => 214 | n => n, fun | 9 => 9 | 4 => 4 | 59 => 162 | 3 => 3 | 5 => 5 | 46 => 146 | 146 => 247 | 51 => 243 | n => n, fun | 1 => 0 | n => n⟩
def Tryz.laysM146_ren : Go.Shelf.Ren := ⟨fun | 146 => 60 | 221 => 135 | 268 => 167 | 138 => 168 | 143 => 169 | 195 => 183 | 197 => 184 | 218 => 185 | 219 => 182 | 260 => 202 | 217 => 198 | 225 => 199 | 224 => 200 | 267 => 201 | 266 => 213 | 314 => 214 | n => n, fun | 9 => 9 | 31 => 92 | 3 => 3 | 4 => 4 | 0 => 0 | 105 => 217 | 21 => 21 | 5 => 5 | 46 => 146 | 119 => 249 | 139 => 252 | 138 => 251 | 146 => 247 | 51 => 243 | n => n, fun | 1 => 0 | 3 => 4 | 4 => 5 | n => n⟩
theorem Tryz.laysM146 : Go.Proofs.LaysM.n146 Tryz.prog Tryz.laysM146_ren := {
  mixed := by kernel_rfl
  f138 := Tryz.func168.trans (congrArg some (by kernel_rfl))
  f143 := Tryz.func169.trans (congrArg some (by kernel_rfl))
  f146 := Tryz.func60.trans (congrArg some (by kernel_rfl))
  f195 := Tryz.func183.trans (congrArg some (by kernel_rfl))
  f197 := Tryz.func184.trans (congrArg some (by kernel_rfl))
  f217 := Tryz.func198.trans (congrArg some (by kernel_rfl))
  f218 := Tryz.func185.trans (congrArg some (by kernel_rfl))
  f219 := Tryz.func182.trans (congrArg some (by kernel_rfl))
  f221 := Tryz.func135.trans (congrArg some (by kernel_rfl))
  f224 := Tryz.func200.trans (congrArg some (by kernel_rfl))
  f225 := Tryz.func199.trans (congrArg some (by kernel_rfl))
  f260 := Tryz.func202.trans (congrArg some (by kernel_rfl))
  f266 := Tryz.func213.trans (congrArg some (by kernel_rfl))
  f267 := Tryz.func201.trans (congrArg some (by kernel_rfl))
  f268 := Tryz.func167.trans (congrArg some (by kernel_rfl))
  f314 := Tryz.func214.trans (congrArg some (by kernel_rfl))
  t0 := Tryz.underlying0
  a0 := Tryz.isAgg0
  z0 := Tryz.sizeOf0
  v0 := Tryz.zeroValue0
  t3 := Tryz.underlying3
  a3 := Tryz.isAgg3
  z3 := Tryz.sizeOf3
  v3 := Tryz.zeroValue3
  t4 := Tryz.underlying4
  a4 := Tryz.isAgg4
  z4 := Tryz.sizeOf4
  v4 := Tryz.zeroValue4
  t5 := Tryz.underlying5
  a5 := Tryz.isAgg5
  z5 := Tryz.sizeOf5
  v5 := Tryz.zeroValue5
  t9 := Tryz.underlying9
  a9 := Tryz.isAgg9
  z9 := Tryz.sizeOf9
  v9 := Tryz.zeroValue9
  t21 := Tryz.underlying21
  a21 := Tryz.isAgg21
  z21 := Tryz.sizeOf21
  v21 := Tryz.zeroValue21
  t31 := Tryz.underlying92
  a31 := Tryz.isAgg92
  z31 := Tryz.sizeOf92
  v31 := Tryz.zeroValue92
  t46 := Tryz.underlying146
  a46 := Tryz.isAgg146
  z46 := Tryz.sizeOf146
  v46 := Tryz.zeroValue146
  t51 := Tryz.underlying243
  a51 := Tryz.isAgg243
  z51 := Tryz.sizeOf243
  v51 := Tryz.zeroValue243
  t105 := Tryz.underlying217
  a105 := Tryz.isAgg217
  z105 := Tryz.sizeOf217
  v105 := Tryz.zeroValue217
  t119 := Tryz.underlying249
  a119 := Tryz.isAgg249
  z119 := Tryz.sizeOf249
  t138 := Tryz.underlying251
  a138 := Tryz.isAgg251
  z138 := Tryz.sizeOf251
  v138 := Tryz.zeroValue251
  t139 := Tryz.underlying252
  a139 := Tryz.isAgg252
  z139 := Tryz.sizeOf252
  v139 := Tryz.zeroValue252
  t146 := Tryz.underlying247
  a146 := Tryz.isAgg247
  z146 := Tryz.sizeOf247
  v146 := Tryz.zeroValue247
  g1 := by kernel_rfl
  g3 := by kernel_rfl
  g4 := by kernel_rfl
  i0 := by kernel_rfl
  i3 := by kernel_rfl
  i4 := by kernel_rfl
  i5 := by kernel_rfl
  i9 := by kernel_rfl
  i21 := by kernel_rfl
  i31 := by kernel_rfl
  i46 := by kernel_rfl
  i51 := by kernel_rfl
  i105 := by kernel_rfl
  i138 := by kernel_rfl
  i139 := by kernel_rfl
  i146 := by kernel_rfl
  m1 := by kernel_rfl
  s1_3 := fun w h => Go.Proofs.cell_of_shapedOpen_int (zero := #[.int .i64 0]) (t := 3) h (of_decide_eq_true (by kernel_rfl)) (by kernel_rfl) rfl (by kernel_rfl) (by kernel_rfl) Tryz.underlying3
  m3 := by kernel_rfl
  m4 := by kernel_rfl }
end Go.Proofs
namespace Go.Proofs.YtkomhngokcejbaaGreatDoor
set_option linter.unusedSimpArgs false
set_option linter.unusedVariables false
open Go.RowKit
attribute [local go_sem] cell?_mk frozen?_mk

theorem elem_string : ElemOk Tryz.prog 92 9 (.string ByteArray.empty) 1 16 := ⟨by kernel_rfl, by kernel_rfl, by kernel_rfl, by decide⟩
/-- The table that numerals want. -/
def Tab (w : World) : Prop := Lib.TabIs Tryz.prog w "internal/strconv.uint64pow10" .u64 Lib.pow10Tab
theorem Mem.tab {w0 w : World} {L : List Ent} (M : Mem w0 w L) (h : Tab w0) : Tab w := by
  unfold Tab Lib.TabIs at h ⊢
  have h' := h
  unfold World.var? at h'
  obtain ⟨g, hg, hx⟩ := Option.bind_eq_some_iff.1 h'
  have hlt : g < w0.heap.size := by
    rcases Nat.lt_or_ge g w0.heap.size with h1 | h1
    · exact h1
    · rw [Array.getElem?_eq_none h1] at hx
      cases hx
  exact var?_below M.below hg hlt h
/-- A builder of one's own, and what it holds. -/
def Bld (w0 w : World) (g : Nat) (bs : List Value) : Prop := Below w0.heap.size w0 w ∧ Lib.IsBuilderF 185 5 w0.heap.size g bs w
theorem Bld.lt {w0 w : World} {g : Nat} {bs : List Value} (h : Bld w0 w g bs) : g < w.heap.size := by
  rcases h.2 with h | h
  · exact h.lt
  · exact h.lt
theorem Bld.kept {w0 w w1 : World} {g : Nat} {bs : List Value} (h : Bld w0 w g bs) (hb : Below w.heap.size w w1) : Bld w0 w1 g bs := by
  refine ⟨below_then h.1 hb, ?_⟩
  have key : ∀ p, Lib.BuilderAtF 185 5 w0.heap.size g p bs w → Lib.BuilderAtF 185 5 w0.heap.size g p bs w1 := by
    rintro p ⟨h1, v, h2, h3, h4⟩
    have hlt : g < w.heap.size := Lib.BuilderAtF.lt ⟨h1, v, h2, h3, h4⟩
    refine ⟨h1, v, (hb.block _ hlt).trans h2, ⟨h3.1, ?_⟩, h4⟩
    rcases h3.2 with hn | ⟨k, cap, cur, fz, rfl, hk, hg, rest⟩
    · exact .inl hn
    · have hkl : k < w.heap.size := (Array.getElem?_eq_some_iff.1 hg).1
      exact .inr ⟨k, cap, cur, fz, rfl, hk, (hb.block _ hkl).trans hg, rest⟩
  exact h.2.imp (key _) (key _)
theorem Bld.mem {w0 w : World} {g : Nat} {bs : List Value} (h : Bld w0 w g bs) : Mem w0 w [] := ⟨h.1, fun i x h => by simp at h, fun i j x y _ h => by simp at h⟩
theorem Mem.of_below {w w' : World} (h : Below w.heap.size w w') : Mem w w' [] := ⟨h, fun i x h => by simp at h, fun i j x y _ h => by simp at h⟩
/-- A row of texts. -/
def oneS (x : ByteArray) : List Value := [.string x]
theorem oneS_len (x : ByteArray) : (oneS x).length = 1 := rfl
theorem Join_any {w0 w : World} {L : List Ent} (M : Mem w0 w L) (i : Nat) {A : Option Addr} {c : Nat} {xs : List ByteArray} (hL : L[i]? = some (.row (.slice A xs.length c) 9 1 xs.length (flat oneS xs))) (sep : ByteArray) (hN : xs.length ≤ 140737488355328) (hlen : (Lib.join (xs.map (·.data.toList)) sep.data.toList).length ≤ 140737488355328) :
    Calls Tryz.prog 65 #[.slice A xs.length c, .string sep] w fun e w' => e = .returned (.string ⟨(Lib.join (xs.map (·.data.toList)) sep.data.toList).toArray⟩) ∧ Mem w w' [] := by
  cases xs with
  | nil =>
    refine (Tryz.strings_Join_none A c sep w).mono ?_
    rintro e w' ⟨rfl, rfl⟩
    exact ⟨by simp [Lib.join, List.intercalate], Mem.start _⟩
  | cons x xs =>
    obtain ⟨g, cap, he, hc⟩ := M.row_form i hL (by simp)
    obtain ⟨rfl, rfl⟩ : A = some ⟨g, 0, none⟩ ∧ c = cap := by injection he with e1 _ e2; exact ⟨e1, e2⟩
    have hlt := ((M.all i _ hL).lt (k := g) rfl).2
    refine (Tryz.strings_Join g 0 c (x :: xs) sep w (fun j y hj => ?_) hlt hN (M.row_le i hL).1 hlen).mono ?_
    · rw [Nat.zero_add]
      have := M.row_cell i hL (j := j) (u := .string y) (by simpa [oneS] using flat_at oneS_len hj (j := 0) (v := .string y) rfl)
      exact this
    · rintro e w' ⟨rfl, h⟩
      exact ⟨rfl, Mem.of_below h⟩
theorem FormatInt_any (n : Int) (h0 : -9223372036854775808 ≤ n) (h1 : n ≤ 9223372036854775807) (w : World) (ht : Tab w) :
    Calls Tryz.prog 137 #[.int .i64 n, .int .i64 10] w fun e w' => e = .returned (.string ⟨(Lib.itoa n).toArray⟩) ∧ Mem w w' [] := by
  refine (Tryz.strconv_FormatInt_10 n h0 h1 w ht).mono ?_
  rintro e w' ⟨rfl, k, os, rfl⟩
  exact ⟨rfl, Mem.of_below (Lib.below_grow _ w (Nat.le_refl _) k os)⟩
section
variable {P : Program} {ops : Array Oper} {Q : Exit → Act → World → Prop} {rest : List Oper} {a : Act} {w : World} {o : Oper}
end
section
variable {P : Program} {ops : Array Oper} {S : World → Prop} {a : Act} {o : Oper}
end
section
variable {P : Program} {ops : Array Oper} {rest : List Oper} {o : Oper} {a : Act} {w0 w : World} {Q : Exit → Act → World → Prop} {L : List Ent}
end
end Go.Proofs.YtkomhngokcejbaaGreatDoor
namespace Go.Proofs.YtkomhngokcejbaaGreatDoor
set_option linter.unusedSimpArgs false
set_option linter.unusedVariables false
open Go.RowKit
attribute [local go_sem] cell?_mk frozen?_mk

/-- A row of texts, by their bytes. -/
def oneT (x : List UInt8) : List Value := [.string ⟨x.toArray⟩]
end Go.Proofs.YtkomhngokcejbaaGreatDoor
namespace Go.Proofs.YtkomhngokcejbaaGreatDoor
set_option linter.unusedSimpArgs false
set_option linter.unusedVariables false
open Go.RowKit
attribute [local go_sem] cell?_mk frozen?_mk

section
variable {P : Program} {ops : Array Oper} {Q : Exit → Act → World → Prop} {rest : List Oper} {a : Act} {w0 w : World} {L : List Ent} {o : Oper}
end
set_option maxRecDepth 100000 in
set_option maxHeartbeats 2000000 in
theorem decimal64_any (n : Int) (h0 : -9223372036854775808 ≤ n) (h1 : n ≤ 9223372036854775807) (w : World) (ht : Tab w) : Calls Tryz.prog 64 #[.int .i64 n] w fun e w' => e = .returned (.string ⟨(Lib.itoa n).toArray⟩) ∧ Mem w w' [] := by
  have M := Lib.hid (Mem.start w)
  have HT := Lib.hid ht
  have e1 : IntKind.i64.wrap n = n := IntWalk.i64_in _ (by omega)
  clear ht
  go_enter Tryz.func64, Tryz.ntmps64
  go_wp2_with (first
    | (go_at_call 137; go_must (refine (FormatInt_any _ (by omega) (by omega) _ HT.out).mono ?_); rintro e w_ ⟨rfl, N_⟩; have m := M.out.join N_; clear N_; simp only [List.cons_append, List.nil_append, List.append_nil] at m; have M := Lib.hid m; clear m)
    )
  go_ret
  exact ⟨rfl, M.out⟩
end Go.Proofs.YtkomhngokcejbaaGreatDoor
namespace Go.Proofs.YtkomhngokcejbaaGreatDoor
set_option linter.unusedSimpArgs false
set_option linter.unusedVariables false
open Go.RowKit
attribute [local go_sem] cell?_mk frozen?_mk
--ONES exact Entry.one _

def fourW : List Value := [.string ⟨#[115, 111, 119]⟩, .string ⟨#[101, 97, 116]⟩, .string ⟨#[116, 97, 107, 101]⟩, .string ⟨#[102, 97, 108, 108]⟩]
/-- The text of a diary that is told; none if one of its entries is not plain, or if there are too many. -/
def diaryT (xs : List Entry) : List UInt8 := if xs.all Entry.plain = true then if xs.length ≤ 100 then linesT xs else [] else []
end Go.Proofs.YtkomhngokcejbaaGreatDoor
namespace Go.Proofs.YtkomhngokcejbaaGreatDoor
set_option linter.unusedSimpArgs false
set_option linter.unusedVariables false
open Go.RowKit
attribute [local go_sem] cell?_mk frozen?_mk

/-- What lies in the library's own places. -/
def Tabs (w : World) : Prop :=
  (∃ m, w.cell? ⟨0, 0, none⟩ = some (.int .i64 m)) ∧ (∃ ev, w.cell? ⟨1, 0, none⟩ = some ev ∧ (ev = .nilIface ∨ ∃ te pe, ev = .iface te pe)) ∧
    (∃ ev, w.cell? ⟨2, 0, none⟩ = some ev ∧ (ev = .nilIface ∨ ∃ te pe, ev = .iface te pe)) ∧ Tab w
theorem Mem.tabs {w0 w : World} {L : List Ent} (M : Mem w0 w L) (h : Tabs w0) : Tabs w := by
  obtain ⟨⟨m, h1⟩, ⟨e1, h2, h3⟩, ⟨e2, h4, h5⟩, h6⟩ := h
  exact ⟨⟨m, M.argcell h1⟩, ⟨e1, M.argcell h2, h3⟩, ⟨e2, M.argcell h4, h5⟩, M.tab h6⟩
/-- The pieces as values. -/
def strsV (ls : List (List UInt8)) : List Value := ls.map fun s => .string ⟨s.toArray⟩
theorem strsV_at {ls : List (List UInt8)} {k : Nat} (h : k < ls.length) : (strsV ls).toArray[k]? = some (.string ⟨ls[k].toArray⟩) := by
  simp [strsV, List.getElem?_map, List.getElem?_eq_getElem h]
theorem Split_any (l : List UInt8) (c : UInt8) (hl : l.length ≤ 1048576) (w : World) (ht : Tabs w) :
    Calls Tryz.prog 60 #[.string ⟨l.toArray⟩, .string ⟨#[c]⟩] w fun e w' => ∃ g, e = .returned (.slice (some ⟨g, 0, none⟩) (pieces c l).length (pieces c l).length) ∧ Mem w w' [.blk g 9 (strsV (pieces c l)).toArray] := by
  obtain ⟨⟨m, hm⟩, _⟩ := ht
  refine (Any.strings_Split { Tryz.laysM146 with } Tryz.laysM146.i9 ⟨l.toArray⟩ ⟨#[c]⟩ m w (by show l.length < _; omega) hm (Nat.le_refl 1)).mono ?_
  rintro e w' ⟨rfl, rfl⟩
  have e0 := splitB_pieces c ⟨l.toArray⟩
  have e1 : (⟨l.toArray⟩ : ByteArray).data.toList = l := rfl
  rw [e1] at e0
  have e2 : (Lib.splitB ⟨#[c]⟩ 0 (Lib.countB ⟨l.toArray⟩ ⟨#[c]⟩) ⟨l.toArray⟩).map Value.string = strsV (pieces c l) := by
    rw [← e0, strsV, List.map_map]
    rfl
  have e3 : Lib.countB ⟨l.toArray⟩ ⟨#[c]⟩ + 1 = (pieces c l).length := by
    rw [pieces_len, ← Lib.count_one]
  rw [e2, e3]
  exact ⟨_, rfl, (Mem.start w).new (Nat.le_refl _) (Blk.new w _ _) ((Below.refl _ _).alloc (Nat.le_refl _) _)⟩
/-- A kind's number, or none. -/
def kindV (o : Option Nat) : Int := match o with | some k => (k : Int) | none => -1
set_option maxRecDepth 100000 in
theorem parsed_is {lo hi : Nat} (hh : hi < 10 ^ 9) (l : List UInt8) : (numIn lo hi l).isSome = parsed lo hi l := by
  cases h : numIn lo hi l with
  | none => rw [parsed_none hh h]; rfl
  | some n => rw [(parsed_some h).1]; rfl
theorem ParseInt_ok (l : List UInt8) (hl : l.length ≤ 1048576) (v : Int) (hp : Lib.parseIntB 64 l = .ok v) (w : World) :
    Calls Tryz.prog 136 #[.string ⟨l.toArray⟩, .int .i64 10, .int .i64 64] w fun e w2 => e = .returned (.tuple #[.int .i64 v, .nilIface]) ∧ Mem w w2 [] := by
  refine (Tryz.strconv_ParseInt_10_at64_ok ⟨l.toArray⟩ (by show l.length ≤ _; omega) v hp w).mono ?_
  rintro e w2 ⟨rfl, hw⟩
  refine ⟨rfl, ?_⟩
  rcases hw with rfl | ⟨t, rfl⟩
  · exact Mem.start _
  · exact Mem.of_below (Lib.bytesWorld_below _ _ _)
theorem ParseInt_bad (l : List UInt8) (hl : l.length ≤ 1048576) (hp : ∀ v, Lib.parseIntB 64 l ≠ .ok v) (w : World) (ht : Tabs w) :
    Calls Tryz.prog 136 #[.string ⟨l.toArray⟩, .int .i64 10, .int .i64 64] w fun e w2 => (∃ v t p, e = .returned (.tuple #[.int .i64 v, .iface t p])) ∧ Mem w w2 [] := by
  obtain ⟨_, ⟨e1, h2, h3⟩, ⟨e2, h4, h5⟩, _⟩ := ht
  cases hp2 : Lib.parseIntB 64 l with
  | ok v => exact absurd hp2 (hp v)
  | range =>
    refine (Tryz.strconv_ParseInt_10_at64_range ⟨l.toArray⟩ (by show l.length ≤ _; omega) hp2 e2 w h4 h5).mono ?_
    rintro e w2 ⟨N, rfl, _, _, hb⟩
    exact ⟨⟨_, _, _, rfl⟩, Mem.of_below hb⟩
  | _ =>
    refine (Any.strconv_ParseInt_10_at64_syntax Tryz.laysC174 ⟨l.toArray⟩ (by show l.length ≤ _; omega) hp2 e1 w h2 h3).mono ?_
    rintro e w2 ⟨N, rfl, _, _, hb⟩
    exact ⟨⟨_, _, _, rfl⟩, Mem.of_below hb⟩
set_option maxRecDepth 100000 in
set_option maxHeartbeats 2000000 in
theorem parse_any (l : List UInt8) (lo hi : Nat) (hh : hi < 10 ^ 9) (hl : l.length ≤ 1048576) (w : World) (ht : Tabs w) :
    Calls Tryz.prog 62 #[.string ⟨l.toArray⟩, .int .i64 lo, .int .i64 hi] w fun e w' => ∃ v : Int, e = .returned (.tuple #[.int .i64 v, .bool (numIn lo hi l).isSome]) ∧ (∀ n, numIn lo hi l = some n → v = n) ∧ Mem w w' [] := by
  have M := Lib.hid (Mem.start w)
  have HT := Lib.hid ht
  clear ht
  by_cases hv : ∃ v, Lib.parseIntB 64 l = .ok v
  · obtain ⟨v, hp⟩ := hv
    have PA := Lib.hid (ParseInt_ok l hl v hp)
    have PV := Lib.hid (show ∀ n, numIn lo hi l = some n → v = n from fun n h2 => by
      have := (parsed_some h2).2.1
      rw [hp] at this
      injection this)
    have PP : (numIn lo hi l).isSome = (inB v lo hi && decide (Lib.itoa v = l)) := by
      rw [parsed_is hh]
      unfold parsed
      rw [hp]
      show (decide _ && decide _ && _) = _
      congr 1
    generalize (numIn lo hi l).isSome = B at PP ⊢
    generalize numIn lo hi l = NI at PV ⊢
    clear hp
    cases hw : inB v lo hi
    · have HW := Lib.hid hw
      rw [hw, Bool.false_and] at PP
      subst PP
      clear hw
      go_enter Tryz.func62, Tryz.ntmps62
      go_wp2_with (first
        | (go_at_call 136; go_must (refine (PA.out _).mono ?_); rintro e w_ ⟨rfl, N_⟩; have m := M.out.join N_; clear N_; simp only [List.nil_append, List.append_nil] at m; have M := Lib.hid m; clear m)
        | (go_at_call 94; go_must (refine (within_any _ _ _ _).mono ?_); rintro e w' ⟨rfl, rfl⟩; rw [HW.out]))
      go_ret2
      exact ⟨v, rfl, PV.out, M.out⟩
    · have HW := Lib.hid hw
      rw [hw, Bool.true_and] at PP
      have hb := inB_iff.1 hw
      have FI := Lib.hid (fun w ht => FormatInt_any v (by omega) (by omega) w ht)
      clear hw
      by_cases he : Lib.itoa v = l
      · have e1 : (Lib.itoa v == l) = true := by rw [he]; exact beq_self_eq_true _
        rw [decide_eq_true he] at PP
        subst PP
        clear he
        generalize Lib.itoa v = T at e1 FI
        go_enter Tryz.func62, Tryz.ntmps62
        go_wp2_with (first
          | (go_at_call 136; go_must (refine (PA.out _).mono ?_); rintro e w_ ⟨rfl, N_⟩; have m := M.out.join N_; clear N_; simp only [List.nil_append, List.append_nil] at m; have M := Lib.hid m; clear m)
          | (go_at_call 94; go_must (refine (within_any _ _ _ _).mono ?_); rintro e w' ⟨rfl, rfl⟩; rw [HW.out])
          | (go_at_call 137; go_must (refine (FI.out _ (M.out.tabs HT.out).2.2.2).mono ?_); rintro e w_ ⟨rfl, N_⟩; have m := M.out.join N_; clear N_; simp only [List.nil_append, List.append_nil] at m; have M := Lib.hid m; clear m))
        go_ret2
        exact ⟨v, rfl, PV.out, M.out⟩
      · have e1 : (Lib.itoa v == l) = false := beq_eq_false_iff_ne.2 he
        rw [decide_eq_false he] at PP
        subst PP
        clear he
        generalize Lib.itoa v = T at e1 FI
        go_enter Tryz.func62, Tryz.ntmps62
        go_wp2_with (first
          | (go_at_call 136; go_must (refine (PA.out _).mono ?_); rintro e w_ ⟨rfl, N_⟩; have m := M.out.join N_; clear N_; simp only [List.nil_append, List.append_nil] at m; have M := Lib.hid m; clear m)
          | (go_at_call 94; go_must (refine (within_any _ _ _ _).mono ?_); rintro e w' ⟨rfl, rfl⟩; rw [HW.out])
          | (go_at_call 137; go_must (refine (FI.out _ (M.out.tabs HT.out).2.2.2).mono ?_); rintro e w_ ⟨rfl, N_⟩; have m := M.out.join N_; clear N_; simp only [List.nil_append, List.append_nil] at m; have M := Lib.hid m; clear m))
        go_ret2
        exact ⟨v, rfl, PV.out, M.out⟩
  · have PA := Lib.hid (ParseInt_bad l hl (fun v h => hv ⟨v, h⟩))
    have PN : numIn lo hi l = none := by
      cases hn : numIn lo hi l with
      | none => rfl
      | some n => exact absurd ⟨_, (parsed_some hn).2.1⟩ hv
    rw [PN]
    clear hv PN
    go_enter Tryz.func62, Tryz.ntmps62
    go_wp2_with (first
      | (go_at_call 136; go_must (refine (PA.out _ (M.out.tabs HT.out)).mono ?_); rintro e w_ ⟨⟨v, t_, p_, rfl⟩, N_⟩; have m := M.out.join N_; clear N_; simp only [List.nil_append, List.append_nil] at m; have M := Lib.hid m; clear m))
    go_ret2
    exact ⟨v, rfl, (fun n h => by cases h), M.out⟩
end Go.Proofs.YtkomhngokcejbaaGreatDoor
namespace Go.Proofs.YtkomhngokcejbaaGreatDoor
set_option linter.unusedSimpArgs false
set_option linter.unusedVariables false
open Go.RowKit

theorem dec_free {n : Nat} {c : UInt8} (h : c.toNat < 48 ∨ 57 < c.toNat) : c ∉ dec n := by
  rw [dec_nat]
  intro hc
  have := dec_digit n c hc
  omega
theorem pieces_join (c : UInt8) : ∀ ws : List (List UInt8), ws ≠ [] → (∀ w ∈ ws, c ∉ w) → pieces c (joinS c ws) = ws
  | [], h, _ => absurd rfl h
  | [w], _, h => by rw [joinS, pieces_miss c w (h w (by simp))]
  | w :: v :: r, _, h => by
    rw [joinS, pieces_hit c w _ (h w (by simp)), pieces_join c (v :: r) (by simp) fun x hx => h x (List.mem_cons_of_mem _ hx)]
theorem parse_dec {lo hi n : Nat} (h1 : lo ≤ n) (h2 : n ≤ hi) (hh : hi < 10 ^ 9) : numIn lo hi (dec n) = some n := by
  unfold numIn
  rw [dec_nat, numOf_dec (by omega)]
  simp [h1, h2]
end Go.Proofs.YtkomhngokcejbaaGreatDoor
namespace Go.Proofs.YtkomhngokcejbaaGreatDoor
set_option linter.unusedSimpArgs false
set_option linter.unusedVariables false
open Go.RowKit

/-- A net's word. -/
theorem Net.word_nat (a b c d : Nat) : (⟨a, b, c, d⟩ : Net).word = dec a ++ 44 :: dec b ++ 58 :: (dec c ++ 120 :: dec d) := by simp [Net.word]
theorem Net.word_free (a b c d : Nat) : (32 : UInt8) ∉ (⟨a, b, c, d⟩ : Net).word := by
  rw [Net.word_nat]
  simp only [List.mem_append, List.mem_cons, not_or]
  exact ⟨⟨dec_free (by decide), by decide, dec_free (by decide)⟩, by decide, dec_free (by decide), by decide, dec_free (by decide)⟩
/-- A flock's word. -/
theorem Flock.word_nat (a b c d e f : Nat) : (⟨a, b, c, d, e, f⟩ : Flock).word = dec a ++ 47 :: (dec b ++ 47 :: (dec c ++ 47 :: (dec d ++ 47 :: (dec e ++ 47 :: dec f)))) := by simp [Flock.word]
theorem Flock.word_free (a b c d e f : Nat) : (32 : UInt8) ∉ (⟨a, b, c, d, e, f⟩ : Flock).word := by
  rw [Flock.word_nat]
  simp only [List.mem_append, List.mem_cons, not_or]
  exact ⟨dec_free (by decide), by decide, dec_free (by decide), by decide, dec_free (by decide), by decide, dec_free (by decide), by decide, dec_free (by decide), by decide, dec_free (by decide)⟩
theorem Flock.word_pieces (a b c d e f : Nat) : pieces 47 (⟨a, b, c, d, e, f⟩ : Flock).word = [dec a, dec b, dec c, dec d, dec e, dec f] := by
  rw [Flock.word_nat, pieces_hit 47 _ _ (dec_free (by decide)), pieces_hit 47 _ _ (dec_free (by decide)), pieces_hit 47 _ _ (dec_free (by decide)), pieces_hit 47 _ _ (dec_free (by decide)), pieces_hit 47 _ _ (dec_free (by decide)), pieces_miss 47 _ (dec_free (by decide))]
end Go.Proofs.YtkomhngokcejbaaGreatDoor
namespace Go.Proofs.YtkomhngokcejbaaGreatDoor
set_option linter.unusedSimpArgs false
set_option linter.unusedVariables false
open Go.RowKit

theorem parse_dec_any (n lo hi : Nat) (h1 : lo ≤ n) (h2 : n ≤ hi) (hh : hi < 10 ^ 9) (w : World) (ht : Tabs w) :
    Calls Tryz.prog 62 #[.string ⟨(dec n).toArray⟩, .int .i64 lo, .int .i64 hi] w fun e w' => e = .returned (.tuple #[.int .i64 n, .bool true]) ∧ Mem w w' [] := by
  have hl : (dec n).length ≤ 1048576 := by
    rw [dec_nat]
    have := dec_len9 (n := n) (by omega)
    omega
  refine (parse_any (dec n) lo hi hh hl w ht).mono ?_
  rintro e w' ⟨v, rfl, hv, M⟩
  have hn := parse_dec h1 h2 hh
  obtain rfl := hv n hn
  rw [hn]
  exact ⟨rfl, M⟩
end Go.Proofs.YtkomhngokcejbaaGreatDoor
