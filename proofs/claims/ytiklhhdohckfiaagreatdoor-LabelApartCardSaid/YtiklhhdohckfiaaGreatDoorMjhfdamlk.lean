/- Texts that go together: Shelf LibBld SPlain SFix SRef02 FixP FixR FixQ SStr LibCut FixT PlA PlB PlC LawKit2 Plain04B Plain38 SRef04 PlR PlS EngG FixU FixV FixW FixX SLaw02 FixY SLaw04 PlT EngT EngH EngI EngJ EngK EngU LawKit3 ObA ObB EngX EngY SLabel SRef38 SCut LbA ObC LbB SSlc. -/
import Derived.Shelf.Strings.Builder1
import Derived.Shelf.Strings.Builder2
import Derived.Shelf.Strings.OnBuilder
import Derived.Shelf.Strings.Trim
import Derived.Shelf.Small.Utf8
import Derived.Shelf.Small.Strs
import Derived.Shelf.Small.Wraps
import Derived.Shelf.Strings.BuilderF
import Derived.Shelf.Strings.BuilderK
import Derived.Shelf.Strings.Builder2Cap
import Derived.Shelf.Strconv.Itoa0
import Derived.Shelf.Strconv.Itoa1
import Derived.Shelf.LaysM
import Derived.Shelf.Strconv.Itoa2
import Derived.Shelf.Strconv.Itoa3
import Derived.Shelf.Strconv.Itoa4
import Derived.Shelf.Strings.Search1
import Derived.Shelf.Strings.Search2
import Derived.Shelf.Strings.Search3
import Derived.Shelf.Strings.Shaped
import Derived.Shelf.Strings.Prefix
import Derived.Shelf.Unicode.Latin
import Derived.Shelf.Strings.Runes
import Derived.Shelf.Strings.AsciiSet
import Derived.Shelf.Bits.Mul64
import Derived.Shelf.Strings.Repeat
import Derived.Shelf.Unicode.DecodeSlow
import Derived.Shelf.Unicode.CaseLookup
import Derived.Shelf.Unicode.CaseConvert
import Derived.Shelf.Unicode.CaseTo
import Derived.Shelf.Unicode.CaseLaid
import Derived.Shelf.Strings.BuilderCap
import Derived.Test.YtiklhhdohckfiaaGreatDoorProg
import Derived.Test.YtiklhhdohckfiaaGreatDoorRows
import Derived.Recover
import Derived.Shelf.Strings.SlTrimAscii
import Derived.Lib.Repeat
import Derived.SliceStrings
import Derived.Lib.Case
import Derived.Laws.RangeAny
import Derived.Lib.SmallJoins
import Derived.Laws.StructEq
import Derived.Laws.CopyRow
import Derived.Lib.AppendZerosOnto
import Derived.Lib.SliceRun
import Derived.Test.YtiklhhdohckfiaaGreatDoorMjggdabcl
namespace Go.Proofs
open Go.Shelf
open Go.RowKit in
open Go.RowKit in
open Go.RowKit in
open Go.RowKit in
open Go.RowKit in
open Go.RowKit in
def Tryz.lays159_ren : Go.Shelf.Ren := ⟨fun | 159 => 89 | 165 => 143 | 166 => 51 | 167 => 52 | 169 => 53 | 230 => 144 | 204 => 145 | 240 => 104 | 241 => 196 | 197 => 197 | 118 => 198 | 168 => 199 | 270 => 200 | 262 => 201 | 276 => 171 | 277 => 235 | 260 => 236 | 242 => 237 | 313 => 238 | 278 => 264 | 274 => 265 | 275 => 266 | n => n, fun | 9 => 9 | 4 => 4 | 3 => 3 | 5 => 5 | 72 => 75 | 0 => 0 | 76 => 78 | 75 => 77 | 107 => 149 | 70 => 72 | 20 => 20 | 37 => 73 | 127 => 123 | 21 => 21 | 105 => 183 | 164 => 166 | 162 => 213 | 203 => 211 | 119 => 226 | 46 => 151 | 139 => 229 | 138 => 228 | 51 => 188 | 160 => 230 | 208 => 253 | 206 => 251 | 80 => 81 | n => n, fun | 13 => 0 | 3 => 2 | 4 => 3 | n => n⟩
theorem Tryz.lays159 : Go.Proofs.Lays.n159 Tryz.prog Tryz.lays159_ren := {
  mixed := by kernel_rfl
  f118 := Tryz.func198.trans (congrArg some (by kernel_rfl))
  f159 := Tryz.func89.trans (congrArg some (by kernel_rfl))
  f165 := Tryz.func143.trans (congrArg some (by kernel_rfl))
  f166 := Tryz.func51.trans (congrArg some (by kernel_rfl))
  f167 := Tryz.func52.trans (congrArg some (by kernel_rfl))
  f168 := Tryz.func199.trans (congrArg some (by kernel_rfl))
  f169 := Tryz.func53.trans (congrArg some (by kernel_rfl))
  f197 := Tryz.func197.trans (congrArg some (by kernel_rfl))
  f204 := Tryz.func145.trans (congrArg some (by kernel_rfl))
  f230 := Tryz.func144.trans (congrArg some (by kernel_rfl))
  f240 := Tryz.func104.trans (congrArg some (by kernel_rfl))
  f241 := Tryz.func196.trans (congrArg some (by kernel_rfl))
  f242 := Tryz.func237.trans (congrArg some (by kernel_rfl))
  f260 := Tryz.func236.trans (congrArg some (by kernel_rfl))
  f262 := Tryz.func201.trans (congrArg some (by kernel_rfl))
  f270 := Tryz.func200.trans (congrArg some (by kernel_rfl))
  f274 := Tryz.func265.trans (congrArg some (by kernel_rfl))
  f275 := Tryz.func266.trans (congrArg some (by kernel_rfl))
  f276 := Tryz.func171.trans (congrArg some (by kernel_rfl))
  f277 := Tryz.func235.trans (congrArg some (by kernel_rfl))
  f278 := Tryz.func264.trans (congrArg some (by kernel_rfl))
  f313 := Tryz.func238.trans (congrArg some (by kernel_rfl))
  t0 := Tryz.underlying0
  a0 := Tryz.isAgg0
  z0 := Tryz.sizeOf0
  v0 := Tryz.zeroValue0
  t3 := Tryz.underlying3
  a3 := Tryz.isAgg3
  z3 := Tryz.sizeOf3
  v3 := Tryz.zeroValue3
  t4 := Tryz.underlying4
  a4 := Tryz.isAgg4
  z4 := Tryz.sizeOf4
  v4 := Tryz.zeroValue4
  t5 := Tryz.underlying5
  a5 := Tryz.isAgg5
  z5 := Tryz.sizeOf5
  v5 := Tryz.zeroValue5
  t9 := Tryz.underlying9
  a9 := Tryz.isAgg9
  z9 := Tryz.sizeOf9
  v9 := Tryz.zeroValue9
  t20 := Tryz.underlying20
  a20 := Tryz.isAgg20
  z20 := Tryz.sizeOf20
  v20 := Tryz.zeroValue20
  t21 := Tryz.underlying21
  a21 := Tryz.isAgg21
  z21 := Tryz.sizeOf21
  v21 := Tryz.zeroValue21
  t37 := Tryz.underlying73
  a37 := Tryz.isAgg73
  z37 := Tryz.sizeOf73
  v37 := Tryz.zeroValue73
  t46 := Tryz.underlying151
  a46 := Tryz.isAgg151
  z46 := Tryz.sizeOf151
  v46 := Tryz.zeroValue151
  t51 := Tryz.underlying188
  a51 := Tryz.isAgg188
  z51 := Tryz.sizeOf188
  v51 := Tryz.zeroValue188
  t70 := Tryz.underlying72
  a70 := Tryz.isAgg72
  z70 := Tryz.sizeOf72
  v70 := Tryz.zeroValue72
  t72 := Tryz.underlying75
  a72 := Tryz.isAgg75
  z72 := Tryz.sizeOf75
  v72 := Tryz.zeroValue75
  t75 := Tryz.underlying77
  a75 := Tryz.isAgg77
  z75 := Tryz.sizeOf77
  v75 := Tryz.zeroValue77
  t76 := Tryz.underlying78
  a76 := Tryz.isAgg78
  z76 := Tryz.sizeOf78
  v76 := Tryz.zeroValue78
  t105 := Tryz.underlying183
  a105 := Tryz.isAgg183
  z105 := Tryz.sizeOf183
  v105 := Tryz.zeroValue183
  t107 := Tryz.underlying149
  a107 := Tryz.isAgg149
  z107 := Tryz.sizeOf149
  v107 := Tryz.zeroValue149
  t119 := Tryz.underlying226
  a119 := Tryz.isAgg226
  z119 := Tryz.sizeOf226
  t127 := Tryz.underlying123
  a127 := Tryz.isAgg123
  z127 := Tryz.sizeOf123
  v127 := Tryz.zeroValue123
  t138 := Tryz.underlying228
  a138 := Tryz.isAgg228
  z138 := Tryz.sizeOf228
  v138 := Tryz.zeroValue228
  t139 := Tryz.underlying229
  a139 := Tryz.isAgg229
  z139 := Tryz.sizeOf229
  v139 := Tryz.zeroValue229
  t160 := Tryz.underlying230
  a160 := Tryz.isAgg230
  z160 := Tryz.sizeOf230
  v160 := Tryz.zeroValue230
  t162 := Tryz.underlying213
  a162 := Tryz.isAgg213
  z162 := Tryz.sizeOf213
  v162 := Tryz.zeroValue213
  t164 := Tryz.underlying166
  a164 := Tryz.isAgg166
  z164 := Tryz.sizeOf166
  v164 := Tryz.zeroValue166
  t203 := Tryz.underlying211
  a203 := Tryz.isAgg211
  z203 := Tryz.sizeOf211
  v203 := Tryz.zeroValue211
  t206 := Tryz.underlying251
  a206 := Tryz.isAgg251
  z206 := Tryz.sizeOf251
  v206 := Tryz.zeroValue251
  t208 := Tryz.underlying253
  a208 := Tryz.isAgg253
  z208 := Tryz.sizeOf253
  v208 := Tryz.zeroValue253
  g3 := by kernel_rfl
  g4 := by kernel_rfl
  g13 := by kernel_rfl }
theorem Tryz.Builder_Extra_159 : Builder.Extra Tryz.prog Tryz.lays159_ren := {
  sizeBuilder := by kernel_rfl
  liesBuilder := by kernel_rfl
  t5 := Tryz.underlying5
  a5 := Tryz.isAgg5
  z5 := Tryz.sizeOf5
  v5 := Tryz.zeroValue5
  infoByte := by kernel_rfl
  cellsByte := by kernel_rfl
  sizeByte := by kernel_rfl
  neB5 := by decide }
open Go.RowKit in
theorem Tryz.strings_ToLower_ascii (s : ByteArray) (w : World) (hs : s.size ≤ 140737488355328) (hascii : ∀ (j : Nat) (b : UInt8), s.data.toList[j]? = some b → b.toNat < 128) :
    Calls Tryz.prog 89 #[.string s] w fun e w' => e = .returned (.string ⟨(Lib.toLowerA s.data.toList).toArray⟩) ∧ Below w.heap.size w w' := Any.strings_ToLower_ascii Tryz.lays159 Tryz.Builder_Extra_159 s w hs hascii
open Go.RowKit in
open Go.RowKit in
def Tryz.lays137_ren : Go.Shelf.Ren := ⟨fun | 137 => 162 | 217 => 209 | 266 => 242 | n => n, fun | 9 => 9 | 5 => 5 | 3 => 3 | n => n, fun | n => n⟩
theorem Tryz.lays137 : Go.Proofs.Lays.n137 Tryz.prog Tryz.lays137_ren := {
  mixed := by kernel_rfl
  f137 := Tryz.func162.trans (congrArg some (by kernel_rfl))
  f217 := Tryz.func209.trans (congrArg some (by kernel_rfl))
  f266 := Tryz.func242.trans (congrArg some (by kernel_rfl))
  t3 := Tryz.underlying3
  a3 := Tryz.isAgg3
  z3 := Tryz.sizeOf3
  v3 := Tryz.zeroValue3
  t5 := Tryz.underlying5
  a5 := Tryz.isAgg5
  z5 := Tryz.sizeOf5
  v5 := Tryz.zeroValue5
  t9 := Tryz.underlying9
  a9 := Tryz.isAgg9
  z9 := Tryz.sizeOf9
  v9 := Tryz.zeroValue9 }
open Go.RowKit in
theorem Tryz.strings_IndexByte (s : ByteArray) (c : Int) (w : World) :
    Calls Tryz.prog 162 #[.string s, .int .u8 c] w fun e w' => e = .returned (.int .i64 (Lib.indexByte s.data.toList c.toNat.toUInt8)) ∧ w' = w := Any.strings_IndexByte Tryz.lays137 s c w
open Go.RowKit in
open Go.RowKit in
open Go.RowKit in
open Go.RowKit in
open Go.RowKit in
open Go.RowKit in
open Go.RowKit in
open Go.RowKit in
open Go.RowKit in
open Go.RowKit in
open Go.RowKit in
open Go.Lib in
open Go.Lib in
open Go.Lib in
open Go.Lib in
open Go.RowKit Go.Sort Go.Lib in
open Go.RowKit Go.Sort Go.Lib in
open Go.RowKit Go.Sort Go.Lib in
def Tryz.laysM173_ren : Go.Shelf.Ren := ⟨fun | 173 => 195 | 246 => 234 | 283 => 260 | 284 => 261 | 285 => 262 | 286 => 263 | 129 => 277 | 317 => 276 | 318 => 278 | 319 => 279 | 320 => 280 | 337 => 284 | 338 => 285 | n => n, fun | 2 => 2 | 3 => 3 | 9 => 9 | 4 => 4 | 171 => 221 | 0 => 0 | 53 => 191 | 37 => 73 | 5 => 5 | 173 => 224 | 212 => 247 | 51 => 188 | 20 => 20 | 213 => 248 | 46 => 151 | 232 => 257 | 233 => 258 | n => n, fun | 17 => 4 | 18 => 5 | 19 => 6 | n => n⟩
theorem Tryz.laysM173 : Go.Proofs.LaysM.n173 Tryz.prog Tryz.laysM173_ren := {
  mixed := by kernel_rfl
  f129 := Tryz.func277.trans (congrArg some (by kernel_rfl))
  f173 := Tryz.func195.trans (congrArg some (by kernel_rfl))
  f246 := Tryz.func234.trans (congrArg some (by kernel_rfl))
  f283 := Tryz.func260.trans (congrArg some (by kernel_rfl))
  f284 := Tryz.func261.trans (congrArg some (by kernel_rfl))
  f285 := Tryz.func262.trans (congrArg some (by kernel_rfl))
  f286 := Tryz.func263.trans (congrArg some (by kernel_rfl))
  f317 := Tryz.func276.trans (congrArg some (by kernel_rfl))
  f318 := Tryz.func278.trans (congrArg some (by kernel_rfl))
  f319 := Tryz.func279.trans (congrArg some (by kernel_rfl))
  f320 := Tryz.func280.trans (congrArg some (by kernel_rfl))
  f337 := Tryz.func284.trans (congrArg some (by kernel_rfl))
  f338 := Tryz.func285.trans (congrArg some (by kernel_rfl))
  t0 := Tryz.underlying0
  a0 := Tryz.isAgg0
  z0 := Tryz.sizeOf0
  v0 := Tryz.zeroValue0
  t2 := Tryz.underlying2
  a2 := Tryz.isAgg2
  z2 := Tryz.sizeOf2
  v2 := Tryz.zeroValue2
  t3 := Tryz.underlying3
  a3 := Tryz.isAgg3
  z3 := Tryz.sizeOf3
  v3 := Tryz.zeroValue3
  t4 := Tryz.underlying4
  a4 := Tryz.isAgg4
  z4 := Tryz.sizeOf4
  v4 := Tryz.zeroValue4
  t5 := Tryz.underlying5
  a5 := Tryz.isAgg5
  z5 := Tryz.sizeOf5
  v5 := Tryz.zeroValue5
  t9 := Tryz.underlying9
  a9 := Tryz.isAgg9
  z9 := Tryz.sizeOf9
  v9 := Tryz.zeroValue9
  t20 := Tryz.underlying20
  a20 := Tryz.isAgg20
  z20 := Tryz.sizeOf20
  v20 := Tryz.zeroValue20
  t37 := Tryz.underlying73
  a37 := Tryz.isAgg73
  z37 := Tryz.sizeOf73
  v37 := Tryz.zeroValue73
  t46 := Tryz.underlying151
  a46 := Tryz.isAgg151
  z46 := Tryz.sizeOf151
  v46 := Tryz.zeroValue151
  t51 := Tryz.underlying188
  a51 := Tryz.isAgg188
  z51 := Tryz.sizeOf188
  v51 := Tryz.zeroValue188
  t53 := Tryz.underlying191
  a53 := Tryz.isAgg191
  z53 := Tryz.sizeOf191
  v53 := Tryz.zeroValue191
  t171 := Tryz.underlying221
  a171 := Tryz.isAgg221
  z171 := Tryz.sizeOf221
  v171 := Tryz.zeroValue221
  t173 := Tryz.underlying224
  a173 := Tryz.isAgg224
  z173 := Tryz.sizeOf224
  v173 := Tryz.zeroValue224
  t212 := Tryz.underlying247
  a212 := Tryz.isAgg247
  z212 := Tryz.sizeOf247
  v212 := Tryz.zeroValue247
  t213 := Tryz.underlying248
  a213 := Tryz.isAgg248
  z213 := Tryz.sizeOf248
  t232 := Tryz.underlying257
  a232 := Tryz.isAgg257
  z232 := Tryz.sizeOf257
  v232 := Tryz.zeroValue257
  t233 := Tryz.underlying258
  a233 := Tryz.isAgg258
  z233 := Tryz.sizeOf258
  v233 := Tryz.zeroValue258
  g17 := by kernel_rfl
  g18 := by kernel_rfl
  g19 := by kernel_rfl
  i0 := by kernel_rfl
  i2 := by kernel_rfl
  i3 := by kernel_rfl
  i4 := by kernel_rfl
  i5 := by kernel_rfl
  i9 := by kernel_rfl
  i20 := by kernel_rfl
  i37 := by kernel_rfl
  i46 := by kernel_rfl
  i51 := by kernel_rfl
  i53 := by kernel_rfl
  i171 := by kernel_rfl
  i173 := by kernel_rfl
  i212 := by kernel_rfl
  i232 := by kernel_rfl
  i233 := by kernel_rfl
  m17 := by kernel_rfl
  m18 := by kernel_rfl
  m19 := by kernel_rfl }
open Go.RowKit Go.Sort Go.Lib in
theorem Tryz.strconv_FormatInt_10 (n : Int) (h0 : -9223372036854775808 ≤ n) (h1 : n ≤ 9223372036854775807) (w : World) (htab : Lib.TabIs Tryz.prog w "internal/strconv.uint64pow10" .u64 Lib.pow10Tab) :
    Calls Tryz.prog 195 #[.int .i64 n, .int .i64 10] w fun e w' => e = .returned (.string ⟨(Lib.itoa n).toArray⟩) ∧ ∃ k os, w' = grow (w.drewN k) os := Any.strconv_FormatInt_10 Tryz.laysM173 n h0 h1 w htab
open Go.RowKit Go.Sort Go.Lib in
open Go.RowKit Go.Lib in
open Go.RowKit Go.Lib in
open Go.RowKit Go.Lib in
open Go.RowKit Go.Lib in
open Go.RowKit Go.Lib in
def Tryz.lays143_ren : Go.Shelf.Ren := ⟨fun | 143 => 194 | 219 => 233 | 217 => 209 | 225 => 257 | 224 => 258 | 267 => 259 | 266 => 242 | 314 => 275 | n => n, fun | 9 => 9 | 3 => 3 | 4 => 4 | 5 => 5 | 46 => 151 | 146 => 189 | 51 => 188 | n => n, fun | 1 => 1 | n => n⟩
theorem Tryz.lays143 : Go.Proofs.Lays.n143 Tryz.prog Tryz.lays143_ren := {
  mixed := by kernel_rfl
  f143 := Tryz.func194.trans (congrArg some (by kernel_rfl))
  f217 := Tryz.func209.trans (congrArg some (by kernel_rfl))
  f219 := Tryz.func233.trans (congrArg some (by kernel_rfl))
  f224 := Tryz.func258.trans (congrArg some (by kernel_rfl))
  f225 := Tryz.func257.trans (congrArg some (by kernel_rfl))
  f266 := Tryz.func242.trans (congrArg some (by kernel_rfl))
  f267 := Tryz.func259.trans (congrArg some (by kernel_rfl))
  f314 := Tryz.func275.trans (congrArg some (by kernel_rfl))
  t3 := Tryz.underlying3
  a3 := Tryz.isAgg3
  z3 := Tryz.sizeOf3
  v3 := Tryz.zeroValue3
  t4 := Tryz.underlying4
  a4 := Tryz.isAgg4
  z4 := Tryz.sizeOf4
  v4 := Tryz.zeroValue4
  t5 := Tryz.underlying5
  a5 := Tryz.isAgg5
  z5 := Tryz.sizeOf5
  v5 := Tryz.zeroValue5
  t9 := Tryz.underlying9
  a9 := Tryz.isAgg9
  z9 := Tryz.sizeOf9
  v9 := Tryz.zeroValue9
  t46 := Tryz.underlying151
  a46 := Tryz.isAgg151
  z46 := Tryz.sizeOf151
  v46 := Tryz.zeroValue151
  t51 := Tryz.underlying188
  a51 := Tryz.isAgg188
  z51 := Tryz.sizeOf188
  v51 := Tryz.zeroValue188
  t146 := Tryz.underlying189
  a146 := Tryz.isAgg189
  z146 := Tryz.sizeOf189
  v146 := Tryz.zeroValue189
  g1 := by kernel_rfl }
open Go.RowKit Go.Lib in
theorem Tryz.strings_Index_one (s : ByteArray) (c : UInt8) (w : World) :
    Calls Tryz.prog 194 #[.string s, .string ⟨#[c]⟩] w fun e w' => e = .returned (.int .i64 (Lib.indexByte s.data.toList c)) ∧ w' = w := Any.strings_Index_one Tryz.lays143 s c w
open Go.RowKit Go.Lib in
theorem Tryz.strings_Index (s sub : ByteArray) (m : Int) (w : World) (hs : s.size < 4294967281) (hm : w.cell? ⟨1, 0, none⟩ = some (.int .i64 m)) :
    Calls Tryz.prog 194 #[.string s, .string sub] w fun e w' => e = .returned (.int .i64 (Lib.index s.data.toList sub.data.toList)) ∧ w' = w := Any.strings_Index Tryz.lays143 s sub m w hs hm
open Go.RowKit Go.Lib in
open Go.RowKit Go.Lib in
open Go.RowKit Go.Lib in
open Go.RowKit Go.Lib in
open Go.RowKit Go.Lib in
open Go.RowKit Go.Lib in
def Tryz.lays105_ren : Go.Shelf.Ren := ⟨fun | 105 => 92 | 212 => 148 | 99 => 149 | 165 => 143 | 166 => 51 | 170 => 150 | 169 => 53 | 263 => 202 | 264 => 203 | 206 => 204 | 240 => 104 | 241 => 196 | 276 => 171 | 277 => 235 | n => n, fun | 9 => 9 | 3 => 3 | 4 => 4 | 20 => 20 | 0 => 0 | 46 => 151 | 109 => 152 | 5 => 5 | 72 => 75 | 76 => 78 | 51 => 188 | 146 => 189 | 53 => 191 | 148 => 192 | 70 => 72 | 37 => 73 | 75 => 77 | 127 => 123 | 164 => 166 | 80 => 81 | n => n, fun | n => n⟩
theorem Tryz.lays105 : Go.Proofs.Lays.n105 Tryz.prog Tryz.lays105_ren := {
  mixed := by kernel_rfl
  f99 := Tryz.func149.trans (congrArg some (by kernel_rfl))
  f105 := Tryz.func92.trans (congrArg some (by kernel_rfl))
  f165 := Tryz.func143.trans (congrArg some (by kernel_rfl))
  f166 := Tryz.func51.trans (congrArg some (by kernel_rfl))
  f169 := Tryz.func53.trans (congrArg some (by kernel_rfl))
  f170 := Tryz.func150.trans (congrArg some (by kernel_rfl))
  f206 := Tryz.func204.trans (congrArg some (by kernel_rfl))
  f212 := Tryz.func148.trans (congrArg some (by kernel_rfl))
  f240 := Tryz.func104.trans (congrArg some (by kernel_rfl))
  f241 := Tryz.func196.trans (congrArg some (by kernel_rfl))
  f263 := Tryz.func202.trans (congrArg some (by kernel_rfl))
  f264 := Tryz.func203.trans (congrArg some (by kernel_rfl))
  f276 := Tryz.func171.trans (congrArg some (by kernel_rfl))
  f277 := Tryz.func235.trans (congrArg some (by kernel_rfl))
  t0 := Tryz.underlying0
  a0 := Tryz.isAgg0
  z0 := Tryz.sizeOf0
  v0 := Tryz.zeroValue0
  t3 := Tryz.underlying3
  a3 := Tryz.isAgg3
  z3 := Tryz.sizeOf3
  v3 := Tryz.zeroValue3
  t4 := Tryz.underlying4
  a4 := Tryz.isAgg4
  z4 := Tryz.sizeOf4
  v4 := Tryz.zeroValue4
  t5 := Tryz.underlying5
  a5 := Tryz.isAgg5
  z5 := Tryz.sizeOf5
  v5 := Tryz.zeroValue5
  t9 := Tryz.underlying9
  a9 := Tryz.isAgg9
  z9 := Tryz.sizeOf9
  v9 := Tryz.zeroValue9
  t20 := Tryz.underlying20
  a20 := Tryz.isAgg20
  z20 := Tryz.sizeOf20
  v20 := Tryz.zeroValue20
  t37 := Tryz.underlying73
  a37 := Tryz.isAgg73
  z37 := Tryz.sizeOf73
  v37 := Tryz.zeroValue73
  t46 := Tryz.underlying151
  a46 := Tryz.isAgg151
  z46 := Tryz.sizeOf151
  v46 := Tryz.zeroValue151
  t51 := Tryz.underlying188
  a51 := Tryz.isAgg188
  z51 := Tryz.sizeOf188
  v51 := Tryz.zeroValue188
  t53 := Tryz.underlying191
  a53 := Tryz.isAgg191
  z53 := Tryz.sizeOf191
  v53 := Tryz.zeroValue191
  t70 := Tryz.underlying72
  a70 := Tryz.isAgg72
  z70 := Tryz.sizeOf72
  v70 := Tryz.zeroValue72
  t72 := Tryz.underlying75
  a72 := Tryz.isAgg75
  z72 := Tryz.sizeOf75
  v72 := Tryz.zeroValue75
  t75 := Tryz.underlying77
  a75 := Tryz.isAgg77
  z75 := Tryz.sizeOf77
  v75 := Tryz.zeroValue77
  t76 := Tryz.underlying78
  a76 := Tryz.isAgg78
  z76 := Tryz.sizeOf78
  v76 := Tryz.zeroValue78
  t109 := Tryz.underlying152
  a109 := Tryz.isAgg152
  z109 := Tryz.sizeOf152
  v109 := Tryz.zeroValue152
  t127 := Tryz.underlying123
  a127 := Tryz.isAgg123
  z127 := Tryz.sizeOf123
  v127 := Tryz.zeroValue123
  t146 := Tryz.underlying189
  a146 := Tryz.isAgg189
  z146 := Tryz.sizeOf189
  v146 := Tryz.zeroValue189
  t148 := Tryz.underlying192
  a148 := Tryz.isAgg192
  z148 := Tryz.sizeOf192
  v148 := Tryz.zeroValue192
  t164 := Tryz.underlying166
  a164 := Tryz.isAgg166
  z164 := Tryz.sizeOf166
  v164 := Tryz.zeroValue166 }
theorem Tryz.Builder_Extra_105 : Builder.Extra Tryz.prog Tryz.lays105_ren := {
  sizeBuilder := by kernel_rfl
  liesBuilder := by kernel_rfl
  t5 := Tryz.underlying5
  a5 := Tryz.isAgg5
  z5 := Tryz.sizeOf5
  v5 := Tryz.zeroValue5
  infoByte := by kernel_rfl
  cellsByte := by kernel_rfl
  sizeByte := by kernel_rfl
  neB5 := by decide }
open Go.RowKit Go.Lib in
open Go.RowKit Go.Lib in
open Go.RowKit Go.Lib in
open Go.RowKit Go.Lib in
open Go.RowKit Go.Lib in
theorem Tryz.strings_Repeat (s : ByteArray) (c : Nat) (w : World) (hc : c ≤ 9223372036854775807) (hlen : s.size * c ≤ 140737488355328) :
    Calls Tryz.prog 92 #[.string s, .int .i64 c] w fun e w' => e = .returned (.string ⟨(Lib.repeatL s.data.toList c).toArray⟩) ∧ Below w.heap.size w w' := Any.strings_Repeat Tryz.lays105 Tryz.Builder_Extra_105 s c w hc hlen
end Go.Proofs
namespace Go.Proofs.YtiklhhdohckfiaaGreatDoor
set_option linter.unusedVariables false
set_option linter.unusedSimpArgs false
set_option linter.defProp false
open Eng Go.RowKit

theorem bytesV_append (a b : List UInt8) : bytesV (a ++ b) = bytesV a ++ bytesV b := by simp [bytesV]
theorem bytesV_one (l : List UInt8) : ∀ u ∈ bytesV l, u.oneCell' = true := by
  intro u hu
  simp only [bytesV, List.mem_map] at hu
  obtain ⟨c, _, rfl⟩ := hu
  rfl
end Go.Proofs.YtiklhhdohckfiaaGreatDoor
namespace Go.Proofs.YtiklhhdohckfiaaGreatDoor
set_option linter.unusedVariables false
set_option linter.unusedSimpArgs false
set_option linter.defProp false
set_option linter.unusedVariables false
set_option maxRecDepth 20000
open Eng

def S_plain_Int (t0 : Value) (w : World) (K : Ending → World → Prop) : Prop :=
 DoX Tryz.prog (mBin .lss 2 t0 (.int .i64 (-2147483647))) w (pk K) fun t5 w =>
 GDo t5 false (fun E => E t0 w) w fun t7 w =>
 GDo t5 false (fun E => DoX Tryz.prog (mBin .gtr 2 t7 (.int .i64 2147483647)) w (pk K) E) w fun t8 w =>
 DoX Tryz.prog (mPick t5 (.bool true) t8) w (pk K) fun t9 w =>
 IfX t9 (K (.returned (.tuple #[(.string ⟨#[]⟩), (.int .i64 2)])) w) (CallX Tryz.prog 195 #[t0, (.int .i64 10)] w (pk K) fun t11 w =>
 K (.returned (.tuple #[t11, (.int .i64 0)])) w)
theorem S_plain_Int_eq (t0 : Value) (w : World) (K : Ending → World → Prop) : wpX Tryz.prog 12 [] [] none (bodyOf Tryz.f142) (topQ Tryz.prog [.tmp 2, .tmp 3] K) (startX [t0]) [] w = S_plain_Int t0 w K := by kernel_rfl
theorem S_plain_Int_ok {t0 : Value} {w : World} {K : Ending → World → Prop} (h : S_plain_Int t0 w K) : Calls Tryz.prog 142 #[t0] w K :=
  calls_of_wpX Tryz.func142 rfl rfl rfl rfl (Eq.mpr (S_plain_Int_eq t0 w K) h)

end Go.Proofs.YtiklhhdohckfiaaGreatDoor
namespace Go.Proofs.YtiklhhdohckfiaaGreatDoor
set_option linter.unusedVariables false
set_option linter.unusedSimpArgs false
set_option linter.defProp false
set_option linter.unusedVariables false
set_option maxRecDepth 20000
open Eng

end Go.Proofs.YtiklhhdohckfiaaGreatDoor
namespace Go.Proofs.YtiklhhdohckfiaaGreatDoor
set_option linter.unusedVariables false
set_option linter.unusedSimpArgs false
set_option linter.defProp false
set_option linter.unusedVariables false
set_option maxRecDepth 20000
open Eng

end Go.Proofs.YtiklhhdohckfiaaGreatDoor
namespace Go.Proofs.YtiklhhdohckfiaaGreatDoor
set_option linter.unusedVariables false
set_option linter.unusedSimpArgs false
set_option linter.defProp false
open Eng Go.RowKit
set_option linter.unusedVariables false
set_option linter.unusedSimpArgs false

end Go.Proofs.YtiklhhdohckfiaaGreatDoor
namespace Go.Proofs.YtiklhhdohckfiaaGreatDoor
set_option linter.unusedVariables false
set_option linter.unusedSimpArgs false
set_option linter.defProp false
open Eng Go.RowKit
set_option linter.unusedVariables false
set_option linter.unusedSimpArgs false

end Go.Proofs.YtiklhhdohckfiaaGreatDoor
namespace Go.Proofs.YtiklhhdohckfiaaGreatDoor
set_option linter.unusedVariables false
set_option linter.unusedSimpArgs false
set_option linter.defProp false
open Eng Go.RowKit
set_option linter.unusedVariables false
set_option linter.unusedSimpArgs false

end Go.Proofs.YtiklhhdohckfiaaGreatDoor
namespace Go.Proofs.YtiklhhdohckfiaaGreatDoor
set_option linter.unusedVariables false
set_option linter.unusedSimpArgs false
set_option linter.defProp false
set_option linter.unusedVariables false
set_option maxRecDepth 20000
open Eng

end Go.Proofs.YtiklhhdohckfiaaGreatDoor
namespace Go.Proofs.YtiklhhdohckfiaaGreatDoor
set_option linter.unusedVariables false
set_option linter.unusedSimpArgs false
set_option linter.defProp false
open Eng Go.RowKit

theorem ix_cases (c : UInt8) : ∀ l : List UInt8, (Lib.indexByte l c = -1 ∧ l.takeWhile (fun x => x != c) = l ∧ l.dropWhile (fun x => x != c) = []) ∨
    ∃ i : Nat, Lib.indexByte l c = i ∧ i < l.length ∧ l.takeWhile (fun x => x != c) = l.take i ∧ l.dropWhile (fun x => x != c) = l.drop i
  | [] => .inl ⟨rfl, rfl, rfl⟩
  | b :: l => by
    by_cases h : b = c
    · subst h
      exact .inr ⟨0, by simp [Lib.indexByte], by simp, by simp, by simp⟩
    · have hb : (b == c) = false := by simpa using h
      have hb2 : (b != c) = true := by simpa using h
      rcases ix_cases c l with ⟨h1, h2, h3⟩ | ⟨i, h1, h2, h3, h4⟩
      · exact .inl ⟨by simp [Lib.indexByte, hb, h1], by simp [hb2, h2], by simp [hb2, h3]⟩
      · refine .inr ⟨i + 1, ?_, by simp; omega, by simp [hb2, h3], by simp [hb2, h4]⟩
        have e : ((i : Int) == -1) = false := by simp
        simp only [Lib.indexByte, hb, h1, e, Bool.false_eq_true, if_false]
        omega

end Go.Proofs.YtiklhhdohckfiaaGreatDoor
namespace Go.Proofs.YtiklhhdohckfiaaGreatDoor
set_option linter.unusedVariables false
set_option linter.unusedSimpArgs false
set_option linter.defProp false
open Eng Go.RowKit
set_option linter.unusedVariables false
set_option linter.unusedSimpArgs false

def slen0 (vs : List Value) : Nat := match vs.getD 0 undef with | .string s => s.size | _ => 0
theorem slen0_mk {l : List UInt8} {t : List Value} : slen0 (.string ⟨l.toArray⟩ :: t) = l.length := by simp [slen0, str_size]

end Go.Proofs.YtiklhhdohckfiaaGreatDoor
namespace Go.Proofs.YtiklhhdohckfiaaGreatDoor
set_option linter.unusedVariables false
set_option linter.unusedSimpArgs false
set_option linter.defProp false
open Eng Go.RowKit

abbrev Tb (w : World) : Prop := Lib.TabIs Tryz.prog w "internal/strconv.uint64pow10" .u64 Lib.pow10Tab

theorem indexByte_ret (l : List UInt8) (c : UInt8) (w : World) : Ret Tryz.prog 162 #[.string ⟨l.toArray⟩, .int .u8 c.toNat] w (fun v w' => v = .int .i64 (Lib.indexByte l c) ∧ w = w') := by
  refine Calls.mono (Tryz.strings_IndexByte ⟨l.toArray⟩ c.toNat w) ?_
  rintro e w' ⟨rfl, rfl⟩
  refine retK ⟨?_, rfl⟩
  simp
theorem below_gr (w : World) (k : Nat) (os : Array Obj) : Below w.heap.size w (Go.Sort.grow (w.drewN k) os) :=
  ⟨rfl, rfl, rfl, by simp [Go.Sort.grow], fun i hi => by simp [Go.Sort.grow, Array.getElem?_append, hi]⟩
theorem itoa_len (n : Int) (h0 : -9223372036854775808 ≤ n) (h1 : n ≤ 9223372036854775807) : (Lib.itoa n).length ≤ 21 := Lib.itoa_length_le n h0 h1
theorem pint_ret (n : Int) (w : World) (ht : Tb w) : Ret Tryz.prog 142 #[.int .i64 n] w (fun v w' => v = .tuple #[.string ⟨(Pl.pInt n).1.toArray⟩, .int .i64 (Pl.pInt n).2] ∧ Below w.heap.size w w') := by
  refine ret_of fun K hK => S_plain_Int_ok ?_
  unfold S_plain_Int
  by_cases h1 : n < -2147483647
  · simp only [rs, h1, decide_true]
    exact hK _ _ ⟨by rw [Pl.pInt, if_neg (by omega)], Below.refl _ _⟩
  · simp only [rs, h1, decide_false]
    by_cases h2 : 2147483647 < n
    · simp only [rs, h2, decide_true]
      exact hK _ _ ⟨by rw [Pl.pInt, if_neg (by omega)], Below.refl _ _⟩
    · simp only [rs, h2, decide_false]
      refine c_any (Tryz.strconv_FormatInt_10 n (by omega) (by omega) w ht) ?_
      rintro e w' ⟨rfl, k, os, rfl⟩
      exact hK _ _ ⟨by rw [Pl.pInt, if_pos (by omega)], below_gr _ _ _⟩
end Go.Proofs.YtiklhhdohckfiaaGreatDoor
namespace Go.Proofs.YtiklhhdohckfiaaGreatDoor
set_option linter.unusedVariables false
set_option linter.unusedSimpArgs false
set_option linter.defProp false
open Eng Go.RowKit

end Go.Proofs.YtiklhhdohckfiaaGreatDoor
namespace Go.Proofs.YtiklhhdohckfiaaGreatDoor
set_option linter.unusedVariables false
set_option linter.unusedSimpArgs false
set_option linter.defProp false
open Eng Go.RowKit

def strV (p : List UInt8) : Value := .string ⟨p.toArray⟩
def strsV (ps : List (List UInt8)) : List Value := ps.map strV
theorem strsV_get {ps : List (List UInt8)} {i : Nat} (h : i < ps.length) : (strsV ps)[i]? = some (.string ⟨ps[i].toArray⟩) := by simp [strsV, strV, h]

end Go.Proofs.YtiklhhdohckfiaaGreatDoor
namespace Go.Proofs.YtiklhhdohckfiaaGreatDoor
set_option linter.unusedVariables false
set_option linter.unusedSimpArgs false
set_option linter.defProp false
open Eng Go.RowKit Go.ChangeShapes Go.WideShapes Go.ChangeAt
theorem laidMet_tail {P : Program} {x : String × DataW Unit} {l : List (String × DataW Unit)} {W : World} (h : laidMet P (x :: l) W) : laidMet P l W := by
  obtain ⟨ps, ⟨g, t, cs, fuel, p, q, _, _, _, _, hr, rfl⟩, hn, hc⟩ := h
  exact ⟨q, hr, (List.nodup_append.1 hn).2.1, fun b off hm => hc b off (by simp [hm])⟩
end Go.Proofs.YtiklhhdohckfiaaGreatDoor
namespace Go.Proofs.YtiklhhdohckfiaaGreatDoor
set_option linter.unusedVariables false
set_option linter.unusedSimpArgs false
set_option linter.defProp false
open Go
namespace Pl
open Oc
theorem dec_val : ∀ u : Nat, Fx.val 0 (Lib.decDigits u) = (u : Int) ∧ (Lib.decDigits u).all Fx.isDig = true := by
  intro u
  induction u using Nat.strongRecOn with
  | _ u ih =>
    have dig : ∀ k, k < 10 → Fx.isDig (UInt8.ofNat (48 + k)) = true ∧ ((UInt8.ofNat (48 + k)).toNat : Int) - 48 = (k : Int) := by
      intro k hk
      have e : (UInt8.ofNat (48 + k)).toNat = 48 + k := by rw [UInt8.toNat_ofNat']; omega
      refine ⟨?_, by omega⟩
      unfold Fx.isDig
      rw [e]
      simp only [Bool.and_eq_true, decide_eq_true_eq]
      omega
    rw [Lib.decDigits]
    split
    · rename_i h
      obtain ⟨h1, h2⟩ := dig u h
      refine ⟨?_, by rw [List.all_cons, h1]; rfl⟩
      simp only [Fx.val, List.foldl_cons, List.foldl_nil, h2]
      omega
    · rename_i h
      obtain ⟨i1, i2⟩ := ih (u / 10) (by omega)
      obtain ⟨h1, h2⟩ := dig (u % 10) (by omega)
      refine ⟨?_, by rw [List.all_append, i2, List.all_cons, h1]; rfl⟩
      rw [Fx.val_append, i1]
      simp only [Fx.val, List.foldl_cons, List.foldl_nil, h2]
      omega
theorem itoa_shape (n : Int) : (∃ u : Nat, n = u ∧ Lib.itoa n = Lib.decDigits u) ∨ (∃ u : Nat, n = -(u : Int) ∧ 0 < u ∧ Lib.itoa n = 45 :: Lib.decDigits u) := by
  unfold Lib.itoa
  by_cases h : n < 0
  · rw [if_pos h]; exact .inr ⟨n.natAbs, by omega, by omega, rfl⟩
  · rw [if_neg h]; exact .inl ⟨n.toNat, by omega, rfl⟩
theorem text_has46 {n : Int} (h : Fx.okB n = true) : (46 : UInt8) ∈ Fx.text n := by
  rw [Fx.text, if_pos h]; simp
end Pl
end Go.Proofs.YtiklhhdohckfiaaGreatDoor
namespace Go.Proofs.YtiklhhdohckfiaaGreatDoor
set_option linter.unusedVariables false
set_option linter.unusedSimpArgs false
set_option linter.defProp false
open Go
structure Lx where
  off : Int
  sty : List UInt8
  pre : List UInt8
  first : Int
 deriving DecidableEq
namespace Lb
def okSty (s : List UInt8) : Bool := decide (s = []) || decide (s = [68]) || decide (s = [82]) || decide (s = [114]) || decide (s = [65]) || decide (s = [97])
def may (x : Lx) (last : Int) : Bool := decide (last < x.off) && decide (x.off < 2048) && okSty x.sty && decide (x.pre.length ≤ 255) && decide (1 ≤ x.first) && decide (x.first ≤ 2147483647)
def chain (last : Int) : List Lx → Bool
  | [] => true
  | x :: l => may x last && chain x.off l
def check (l : List Lx) : Int := if 2048 < l.length then 6 else if chain (-1) l then 0 else 1
def signs : List (Nat × List UInt8) := [(1000, [77]), (900, [67, 77]), (500, [68]), (400, [67, 68]), (100, [67]), (90, [88, 67]), (50, [76]), (40, [88, 76]), (10, [88]), (9, [73, 88]), (5, [86]), (4, [73, 86]), (1, [73])]
def romanG : List (Nat × List UInt8) → Nat → List UInt8
  | [], _ => []
  | p :: r, n => Lib.repeatL p.2 (n / p.1) ++ romanG r (n % p.1)
def roman (n : Int) : List UInt8 := if n < 1 ∨ 3999 < n then [] else romanG signs n.toNat
def letters (n : Int) : List UInt8 := if n < 1 ∨ 676 < n then [] else Lib.repeatL [UInt8.ofNat (65 + (n.toNat - 1) % 26)] ((n.toNat - 1) / 26 + 1)
def small (s : List UInt8) : List UInt8 := s.map (· + 32)
def either (s : List UInt8) (n : Int) : List UInt8 := if s = [] then Lib.itoa n else s
def number (sty : List UInt8) (n : Int) : List UInt8 :=
  if sty = [] then [] else either (if sty = [82] then roman n else if sty = [114] then small (roman n) else if sty = [65] then letters n else if sty = [97] then small (letters n) else []) n
def pick (page : Int) : List Lx → Option Lx → Option Lx
  | [], a => a
  | x :: l, a => pick page l (if x.off ≤ page then some x else a)
def told (page : Int) : Option Lx → List UInt8
  | none => Lib.itoa (page + 1)
  | some x => x.pre ++ number x.sty (x.first + (page - x.off))
def text (l : List Lx) (page : Int) : List UInt8 := if page < 0 ∨ 2147483647 < page ∨ check l ≠ 0 then [] else told page (pick page l none)
theorem itoa_rec {n : Int} (h : 10 ≤ n) : Lib.itoa n = Lib.itoa (n / 10) ++ Lib.itoa (n % 10) := by
  obtain ⟨u, rfl⟩ : ∃ u : Nat, n = u := ⟨n.toNat, by omega⟩
  have e1 : ((u : Int) / 10) = ((u / 10 : Nat) : Int) := by omega
  have e2 : ((u : Int) % 10) = ((u % 10 : Nat) : Int) := by omega
  unfold Lib.itoa
  rw [e1, e2, if_neg (by omega), if_neg (by omega), if_neg (by omega), Int.toNat_natCast, Int.toNat_natCast, Int.toNat_natCast]
  rw [Lib.decDigits, dif_neg (by omega)]
  congr 1
  rw [Lib.decDigits, dif_pos (by omega)]
theorem itoa_one {n : Int} (h0 : 0 ≤ n) (h : n < 10) : (Lib.itoa n).length = 1 := by
  obtain ⟨u, rfl⟩ : ∃ u : Nat, n = u := ⟨n.toNat, by omega⟩
  unfold Lib.itoa
  rw [if_neg (by omega), Int.toNat_natCast, Lib.decDigits, dif_pos (by omega)]; rfl
theorem pad_one {n : Int} (h0 : 0 ≤ n) (h : n < 10) : Pl.pad n 1 = Lib.itoa n := by
  have := itoa_one h0 h
  unfold Pl.pad
  rw [if_neg (by omega), this]; rfl
theorem chain_ok : ∀ {l : List Lx} {last : Int}, chain last l = true → ∀ x ∈ l, last < x.off ∧ x.off < 2048 ∧ okSty x.sty = true ∧ x.pre.length ≤ 255 ∧ 1 ≤ x.first ∧ x.first ≤ 2147483647
  | y :: l, last, h, x, hx => by
    rw [chain, Bool.and_eq_true] at h
    obtain ⟨h1, h2⟩ := h
    simp only [may, Bool.and_eq_true, decide_eq_true_eq] at h1
    rcases List.mem_cons.1 hx with rfl | hx
    · exact ⟨h1.1.1.1.1.1, h1.1.1.1.1.2, h1.1.1.1.2, h1.1.1.2, h1.1.2, h1.2⟩
    · have := chain_ok h2 x hx
      exact ⟨by omega, this.2⟩
theorem check_ok {l : List Lx} (h : check l = 0) : ∀ x ∈ l, 0 ≤ x.off ∧ x.off < 2048 ∧ okSty x.sty = true ∧ x.pre.length ≤ 255 ∧ 1 ≤ x.first ∧ x.first ≤ 2147483647 := by
  intro x hx
  unfold check at h
  split at h
  · omega
  split at h
  · rename_i h2
    have := chain_ok h2 x hx
    exact ⟨by omega, this.2⟩
  · omega
theorem pick_mem {page : Int} : ∀ {l : List Lx} {a : Option Lx} {x : Lx}, pick page l a = some x → a = some x ∨ (x ∈ l ∧ x.off ≤ page)
  | [], a, x, h => .inl h
  | y :: l, a, x, h => by
    rw [pick] at h
    rcases pick_mem h with h1 | h1
    · split at h1
      · rename_i h2
        cases h1; exact .inr ⟨List.mem_cons_self, h2⟩
      · exact .inl h1
    · exact .inr ⟨List.mem_cons_of_mem _ h1.1, h1.2⟩
def val1 (c : UInt8) : Nat := if c = 77 then 1000 else if c = 68 then 500 else if c = 67 then 100 else if c = 76 then 50 else if c = 88 then 10 else if c = 86 then 5 else 1
def val : List UInt8 → Nat
  | [] => 0
  | [c] => val1 c
  | c :: d :: r => if val1 c < val1 d then val (d :: r) - val1 c else val1 c + val (d :: r)
def lval : List UInt8 → Nat
  | [] => 0
  | c :: r => r.length * 26 + (c.toNat - 65) + 1
set_option maxRecDepth 1000000 in
theorem roman_all : ((List.range 4000).all fun n => n == 0 || (val (romanG signs n) == n && !(romanG signs n).isEmpty && Nat.ble (romanG signs n).length 15)) = true := by decide +kernel
set_option maxRecDepth 1000000 in
theorem letters_all : ((List.range 677).all fun n => n == 0 || (lval (letters (n : Int)) == n && !(letters (n : Int)).isEmpty && Nat.ble (letters (n : Int)).length 26)) = true := by decide +kernel
theorem roman_at {n : Int} (h1 : 1 ≤ n) (h2 : n ≤ 3999) : (val (roman n) : Int) = n ∧ roman n ≠ [] ∧ (roman n).length ≤ 15 := by
  obtain ⟨u, rfl⟩ : ∃ u : Nat, n = u := ⟨n.toNat, by omega⟩
  have := List.all_eq_true.1 roman_all u (List.mem_range.2 (by omega))
  simp only [Bool.or_eq_true, Bool.and_eq_true, beq_iff_eq, Bool.not_eq_true', Nat.ble_eq] at this
  rcases this with h | ⟨⟨a, b⟩, c⟩
  · omega
  · unfold roman
    rw [if_neg (by omega), Int.toNat_natCast]
    exact ⟨by rw [a], fun e => by rw [e] at b; simp at b, c⟩
theorem letters_at {n : Int} (h1 : 1 ≤ n) (h2 : n ≤ 676) : (lval (letters n) : Int) = n ∧ letters n ≠ [] ∧ (letters n).length ≤ 26 := by
  obtain ⟨u, rfl⟩ : ∃ u : Nat, n = u := ⟨n.toNat, by omega⟩
  have := List.all_eq_true.1 letters_all u (List.mem_range.2 (by omega))
  simp only [Bool.or_eq_true, Bool.and_eq_true, beq_iff_eq, Bool.not_eq_true', Nat.ble_eq] at this
  rcases this with h | ⟨⟨a, b⟩, c⟩
  · omega
  · exact ⟨by rw [a], fun e => by rw [e] at b; simp at b, c⟩
theorem roman_out {n : Int} (h : n < 1 ∨ 3999 < n) : roman n = [] := by unfold roman; rw [if_pos h]
theorem letters_out {n : Int} (h : n < 1 ∨ 676 < n) : letters n = [] := by unfold letters; rw [if_pos h]
end Lb
end Go.Proofs.YtiklhhdohckfiaaGreatDoor
namespace Go.Proofs.YtiklhhdohckfiaaGreatDoor
set_option linter.unusedVariables false
set_option linter.unusedSimpArgs false
set_option linter.defProp false
set_option linter.unusedVariables false
set_option maxRecDepth 20000
open Eng

def S_foliantref04_Pad_0 (t1 t5 : Value) (w : World) (N1 : List Value → World → Prop) (K : Ending → World → Prop) : Prop :=
 DoX Tryz.prog (mB .len #[9] 3 #[false] #[t5]) w (pk K) fun t23 w =>
 DoX Tryz.prog (mBin .lss 3 t23 t1) w (pk K) fun t25 w =>
 IfX t25 (DoX Tryz.prog (mBin .add 9 (.string ⟨#[48]⟩) t5) w (pk K) fun t27 w =>
 N1 [t27] w) (K (.returned t5) w)
def S_foliantref04_Pad (t0 t1 : Value) (w : World) (K : Ending → World → Prop) : Prop :=
 DoX Tryz.prog (mBin .lss 3 t0 (.int .i64 0)) w (pk K) fun t7 w =>
 GDo t7 false (fun E => E t1 w) w fun t9 w =>
 GDo t7 false (fun E => DoX Tryz.prog (mBin .lss 3 t9 (.int .i64 1)) w (pk K) E) w fun t10 w =>
 DoX Tryz.prog (mPick t7 (.bool true) t10) w (pk K) fun t11 w =>
 GDo t11 false (fun E => E t1 w) w fun t13 w =>
 GDo t11 false (fun E => DoX Tryz.prog (mBin .gtr 3 t13 (.int .i64 20)) w (pk K) E) w fun t14 w =>
 DoX Tryz.prog (mPick t11 (.bool true) t14) w (pk K) fun t15 w =>
 IfX t15 (K (.returned (.string ⟨#[]⟩)) w) (CallX Tryz.prog 174 #[t0] w (pk K) fun t17 w =>
 DoX Tryz.prog (mB .len #[9] 3 #[false] #[t17]) w (pk K) fun t19 w =>
 DoX Tryz.prog (mBin .gtr 3 t19 t1) w (pk K) fun t21 w =>
 IfX t21 (K (.returned (.string ⟨#[]⟩)) w) (LoopX [t17] w (fun vs1 w N1 => ∀ _ : Sg, S_foliantref04_Pad_0 t1 (vs1.getD 0 undef) w N1 K)))
theorem S_foliantref04_Pad_eq (t0 t1 : Value) (w : World) (K : Ending → World → Prop) : wpX Tryz.prog 29 [] [(6, [5])] none (bodyOf Tryz.f146) (topQ Tryz.prog [.tmp 4] K) (startX [t0, t1]) [] w = S_foliantref04_Pad t0 t1 w K := by kernel_rfl
theorem S_foliantref04_Pad_ok {t0 t1 : Value} {w : World} {K : Ending → World → Prop} (h : S_foliantref04_Pad t0 t1 w K) : Calls Tryz.prog 146 #[t0, t1] w K :=
  calls_of_wpX Tryz.func146 rfl rfl rfl rfl (Eq.mpr (S_foliantref04_Pad_eq t0 t1 w K) h)

def S_foliantref04_digits (t0 : Value) (w : World) (K : Ending → World → Prop) : Prop :=
 DoX Tryz.prog (mBin .rem 2 t0 (.int .i64 10)) w (pk K) fun t5 w =>
 DoX Tryz.prog (mBin .rem 2 t0 (.int .i64 10)) w (pk K) fun t7 w =>
 DoX Tryz.prog (mBin .add 2 t7 (.int .i64 1)) w (pk K) fun t8 w =>
 DoX Tryz.prog (mSlice 9 (.string ⟨#[48, 49, 50, 51, 52, 53, 54, 55, 56, 57]⟩) (some t5) (some t8) none) w (pk K) fun t9 w =>
 DoX Tryz.prog (mBin .lss 2 t0 (.int .i64 10)) w (pk K) fun t11 w =>
 IfX t11 (K (.returned t9) w) (DoX Tryz.prog (mBin .quo 2 t0 (.int .i64 10)) w (pk K) fun t14 w =>
 CallX Tryz.prog 174 #[t14] w (pk K) fun t15 w =>
 DoX Tryz.prog (mBin .add 9 t15 t9) w (pk K) fun t17 w =>
 K (.returned t17) w)
theorem S_foliantref04_digits_eq (t0 : Value) (w : World) (K : Ending → World → Prop) : wpX Tryz.prog 18 [] [] none (bodyOf Tryz.f174) (topQ Tryz.prog [.tmp 2] K) (startX [t0]) [] w = S_foliantref04_digits t0 w K := by kernel_rfl
theorem S_foliantref04_digits_ok {t0 : Value} {w : World} {K : Ending → World → Prop} (h : S_foliantref04_digits t0 w K) : Calls Tryz.prog 174 #[t0] w K :=
  calls_of_wpX Tryz.func174 rfl rfl rfl rfl (Eq.mpr (S_foliantref04_digits_eq t0 w K) h)

end Go.Proofs.YtiklhhdohckfiaaGreatDoor
namespace Go.Proofs.YtiklhhdohckfiaaGreatDoor
set_option linter.unusedVariables false
set_option linter.unusedSimpArgs false
set_option linter.defProp false
open Eng Go.RowKit

abbrev BRow (v : Value) (l : List UInt8) : Ent := .row 5 1 v l.length (bytesV l)
theorem o_appB {S : Nat → Prop} {w0 w : World} {L : List Ent} {v : Value} {l m : List UInt8} {parts : Array (Nat × Value)} {n : Nat} {cs : Array Bool} {PK PK2 : List PanicEntry → World → Prop} {K : Value → World → Prop}
    (hm : ∀ w, (mBuildS 73 n parts).run Tryz.prog w = .ok (.value (.slice (some ⟨w.heap.size, 0, none⟩) m.length m.length)) (w.alloc (.cells (bytesV m).toArray 5)))
    (ho : OwnS S w0 w (BRow v l :: L)) (hb : l.length + m.length ≤ 140737488355328) (k : ∀ v' w', OwnS S w0 w' (BRow v' (l ++ m) :: L) → K v' w') :
    DoX Tryz.prog (mBuildS 73 n parts) w PK fun t w => DoX Tryz.prog (mB .append #[73, 73] 73 cs #[v, t]) w PK2 K := by
  refine o_new (fun b => .slice (some ⟨b, 0, none⟩) m.length m.length) (bytesV m) 5 hm ho fun nb w4 h4 => ?_
  refine o_append 1 Tryz.underlying73 (show elB Tryz.prog 5 1 1 = true by kernel_rfl) (by decide) h4 rfl (h4.sl 0 rfl 1 m.length m.length (by rw [bytesV_length, Nat.mul_one])) (bytesV_one _) (by omega) (by omega) fun v' w5 h5 => ?_
  refine k v' w5 ?_
  have e : BRow v' (l ++ m) = .row 5 1 v' (l.length + m.length) (bytesV l ++ bytesV m) := by
    rw [BRow, bytesV_append, List.length_append]
  rw [e]
  exact h5.tail
theorem o_strB {S : Nat → Prop} {w0 w : World} {L : List Ent} {v : Value} {l : List UInt8} {PK : List PanicEntry → World → Prop} {K : Value → World → Prop} (i : Nat) (ho : OwnS S w0 w L) (hi : L[i]? = some (BRow v l)) :
    DoX Tryz.prog (mConv 73 9 v) w PK K = K (.string ⟨l.toArray⟩) w :=
  c_bytes (l := l) Tryz.underlying73 Tryz.underlying5 Tryz.underlying9 (ho.slRow i hi)
theorem dig_piece : ∀ k : Fin 10, (([48, 49, 50, 51, 52, 53, 54, 55, 56, 57] : List UInt8).drop k.val).take (k.val + 1 - k.val) = [UInt8.ofNat (48 + k.val)] := by decide
theorem decDigits_len (u : Nat) (h : u < 18446744073709551616) : (Lib.decDigits u).length ≤ 20 := by rw [Lib.decDigits_length]; exact Lib.nDigits_le20 u h
theorem rdigits_ret : ∀ (n : Nat) (w : World), n ≤ 9223372036854775807 → Ret Tryz.prog 174 #[.int .i64 n] w (fun v w' => v = .string ⟨(Lib.decDigits n).toArray⟩ ∧ w = w') := by
  intro n
  induction n using Nat.strongRecOn with
  | _ n ih =>
    intro w hn
    refine ret_of fun K hK => S_foliantref04_digits_ok ?_
    unfold S_foliantref04_digits
    have hr : ((n : Int).tmod 10) = ((n % 10 : Nat) : Int) := by rw [Int.tmod_eq_emod_of_nonneg (by omega)]; omega
    have hq : ((n : Int).tdiv 10) = ((n / 10 : Nat) : Int) := by rw [Int.tdiv_eq_ediv_of_nonneg (by omega)]; omega
    simp only [b_rem (show (10 : Int) ≠ 0 by omega), b_quo (show (10 : Int) ≠ 0 by omega), hr, hq, rs]
    rw [wrap64_id (n := ((n % 10 : Nat) : Int) + 1) (by omega) (by omega)]
    change DoX Tryz.prog (mSlice 9 (.string ⟨([48, 49, 50, 51, 52, 53, 54, 55, 56, 57] : List UInt8).toArray⟩) _ _ _) _ _ _
    rw [s_slice Tryz.underlying9 (by omega) (by omega) (by simp only [List.length_cons, List.length_nil]; omega)]
    have hp := dig_piece ⟨n % 10, by omega⟩
    simp only at hp
    rw [show (((n % 10 : Nat) : Int) + 1).toNat = n % 10 + 1 by omega, Int.toNat_natCast, hp]
    by_cases h10 : (n : Int) < 10
    · simp only [h10, decide_true, i_t]
      refine hK _ _ ⟨?_, rfl⟩
      rw [Lib.decDigits, dif_pos (by omega), show n % 10 = n by omega]
    · simp only [h10, decide_false, i_f]
      rw [wrap64_id (by omega) (by omega)]
      refine c_eq (ih (n / 10) (by omega) w (by omega)) ?_
      have hl := decDigits_len (n / 10) (by omega)
      rw [s_add (by simp; omega)]
      refine hK _ _ ⟨?_, rfl⟩
      rw [Lib.decDigits.eq_1 n, dif_neg (by omega)]
end Go.Proofs.YtiklhhdohckfiaaGreatDoor
namespace Go.Proofs.YtiklhhdohckfiaaGreatDoor
set_option linter.unusedVariables false
set_option linter.unusedSimpArgs false
set_option linter.defProp false
open Eng Go.RowKit

theorem rpad_ret (n k : Int) (hn0 : -9223372036854775808 ≤ n) (hn1 : n ≤ 9223372036854775807) (w : World) :
    Ret Tryz.prog 146 #[.int .i64 n, .int .i64 k] w (fun v w' => v = .string ⟨(Pl.pad n k).toArray⟩ ∧ w = w') := by
  refine ret_of fun K hK => S_foliantref04_Pad_ok ?_
  unfold S_foliantref04_Pad
  by_cases h1 : n < 0
  · simp only [rs, h1, decide_true, g_un]
    exact hK _ _ ⟨by rw [Pl.pad, if_pos (by omega)], rfl⟩
  simp only [rs, h1, decide_false]
  by_cases h2 : k < 1
  · simp only [rs, h2, decide_true, g_un]
    exact hK _ _ ⟨by rw [Pl.pad, if_pos (by omega)], rfl⟩
  simp only [rs, h2, decide_false]
  by_cases h3 : 20 < k
  · simp only [rs, h3, decide_true, g_un]
    exact hK _ _ ⟨by rw [Pl.pad, if_pos (by omega)], rfl⟩
  simp only [rs, h3, decide_false]
  obtain ⟨m, rfl⟩ : ∃ m : Nat, n = m := ⟨n.toNat, by omega⟩
  refine c_eq (rdigits_ret m w (by omega)) ?_
  have hit : Lib.itoa (m : Int) = Lib.decDigits m := by rw [Lib.itoa, if_neg h1, Int.toNat_natCast]
  have hl := decDigits_len m (by omega)
  simp only [s_len Tryz.underlying9, rs]
  by_cases h4 : k < ((Lib.decDigits m).length : Int)
  · simp only [h4, decide_true, i_t]
    exact hK _ _ ⟨by rw [Pl.pad, hit, if_pos (by omega)], rfl⟩
  simp only [h4, decide_false, i_f]
  refine loop (fun vs w' => ∃ (j : Nat), vs = [.string ⟨(List.replicate j 48 ++ Lib.decDigits m).toArray⟩] ∧ ((j + (Lib.decDigits m).length : Nat) : Int) ≤ k ∧ w = w')
    (fun vs _ => 20 - slen0 vs) ⟨0, rfl, by omega, rfl⟩ ?_
  rintro vs w2 ⟨j, rfl, hj, rfl⟩ _
  simp only [S_foliantref04_Pad_0, gd, s_len Tryz.underlying9]
  rw [b_lss]
  have hjl : (List.replicate j (48 : UInt8) ++ Lib.decDigits m).length = j + (Lib.decDigits m).length := by simp
  rw [hjl]
  by_cases h5 : (((j + (Lib.decDigits m).length : Nat)) : Int) < k
  · simp only [h5, decide_true, i_t]
    change DoX Tryz.prog (mBin .add _ (.string ⟨([48] : List UInt8).toArray⟩) _) _ _ _
    rw [s_add (by rw [hjl]; simp; omega)]
    refine nextX ⟨j + 1, by rw [List.replicate_succ]; rfl, by omega, rfl⟩ (by rw [slen0_mk, slen0_mk]; simp; omega)
  · simp only [h5, decide_false, i_f]
    refine hK _ _ ⟨?_, rfl⟩
    rw [Pl.pad, hit, if_neg (by omega), show (k - ((Lib.decDigits m).length : Int)).toNat = j by omega]
end Go.Proofs.YtiklhhdohckfiaaGreatDoor
namespace Go.Proofs.YtiklhhdohckfiaaGreatDoor
set_option linter.unusedVariables false
set_option linter.unusedSimpArgs false
set_option linter.defProp false
set_option linter.unusedSimpArgs false
set_option linter.unusedVariables false
namespace Eng
open Go.RowKit

def sel (c : Bool) (x : Value) : Value := bc c x undef
theorem sel_t {x : Value} : sel true x = x := rfl
theorem sel_f {x : Value} : sel false x = undef := rfl
section
variable {P : Program} {w : World} {PK : List PanicEntry → World → Prop} {K : Value → World → Prop}
theorem g_move {v x : Value} {want : Bool} : GDo v want (fun E => E x w) w K = K (sel (wants v want) x) w := by
  refine propext ⟨fun h => ?_, fun h => ⟨?_⟩⟩
  · have := h.out
    cases hw : wants v want <;> rw [hw] at this <;> exact this
  · cases hw : wants v want <;> rw [hw] at h <;> exact h
theorem g_congr {v v' : Value} {want c : Bool} {E E' : (Value → World → Prop) → Prop} (hv : v = v') (hc : wants v' want = c) (h : c = true → ∀ K0, E K0 = E' K0) : GDo v want E w K = GDo v' want E' w K := by
  subst hv
  refine propext ⟨fun x => ⟨?_⟩, fun x => ⟨?_⟩⟩
  · have := x.out
    subst hc
    cases hw : wants v want with
    | false => rw [hw] at this; exact this
    | true => rw [hw, bc_true] at this; rw [bc_true, ← h hw]; exact this
  · have := x.out
    subst hc
    cases hw : wants v want with
    | false => rw [hw] at this; exact this
    | true => rw [hw, bc_true] at this; rw [bc_true, h hw]; exact this
theorem wants_t {b : Bool} : wants (.bool b) true = b := by cases b <;> rfl
theorem wants_f {b : Bool} : wants (.bool b) false = !b := by cases b <;> rfl
theorem wants_st {c y : Bool} : wants (sel c (.bool y)) true = (c && y) := by cases c <;> cases y <;> rfl
theorem wants_sf {c y : Bool} : wants (sel c (.bool y)) false = (c && !y) := by cases c <;> cases y <;> rfl
theorem b_tand {b : Bool} : (true && b) = b := rfl
theorem b_andt {b : Bool} : (b && true) = b := by cases b <;> rfl
theorem pick_and {b y : Bool} : DoX P (mPick (.bool b) (sel b (.bool y)) (.bool false)) w PK K = K (.bool (b && y)) w := by
  rw [p_pick]; cases b <;> rfl
theorem pick_or {b y : Bool} : DoX P (mPick (.bool b) (.bool true) (sel (!b) (.bool y))) w PK K = K (.bool (b || y)) w := by
  rw [p_pick]; cases b <;> rfl
theorem run_eq_bool {T : TypeId} {a b : Bool} (h : P.underlying T = some .bool) : (Op.equal T (.bool a) (.bool b)).run P w = .ok (a == b) w := by
  show (Op.equalIn (9999 + 1) T (.bool a) (.bool b)).run P w = _
  rw [Op.equalIn]
  simp [run_underlying h]
theorem e_bool {T : TypeId} {xo yo : Operand} {a b : Bool} (h : P.underlying T = some .bool) : DoX P (mEq .eql T xo yo (.bool a) (.bool b)) w PK K = K (.bool (a == b)) w := mv_do (by simp [eqGuard, binOp, run_eq_bool h])
theorem n_bool {T : TypeId} {xo yo : Operand} {a b : Bool} (h : P.underlying T = some .bool) : DoX P (mEq .neq T xo yo (.bool a) (.bool b)) w PK K = K (.bool (!(a == b))) w := mv_do (by simp [eqGuard, binOp, run_eq_bool h])
end
def gs := And.intro @g_move (And.intro @wants_t (And.intro @wants_f (And.intro @pick_and (And.intro @pick_or (And.intro @sel_t (And.intro @sel_f (And.intro @wants_st (And.intro @wants_sf (And.intro @b_tand @b_andt)))))))))
end Eng
end Go.Proofs.YtiklhhdohckfiaaGreatDoor
namespace Go.Proofs.YtiklhhdohckfiaaGreatDoor
set_option linter.unusedVariables false
set_option linter.unusedSimpArgs false
set_option linter.defProp false
open Eng Go.RowKit
set_option linter.unusedVariables false
set_option linter.unusedSimpArgs false

end Go.Proofs.YtiklhhdohckfiaaGreatDoor
namespace Go.Proofs.YtiklhhdohckfiaaGreatDoor
set_option linter.unusedVariables false
set_option linter.unusedSimpArgs false
set_option linter.defProp false
open Eng Go.RowKit
set_option linter.unusedVariables false
set_option linter.unusedSimpArgs false

end Go.Proofs.YtiklhhdohckfiaaGreatDoor
namespace Go.Proofs.YtiklhhdohckfiaaGreatDoor
set_option linter.unusedVariables false
set_option linter.unusedSimpArgs false
set_option linter.defProp false
open Eng Go.RowKit
set_option linter.unusedVariables false
set_option linter.unusedSimpArgs false

end Go.Proofs.YtiklhhdohckfiaaGreatDoor
namespace Go.Proofs.YtiklhhdohckfiaaGreatDoor
set_option linter.unusedVariables false
set_option linter.unusedSimpArgs false
set_option linter.defProp false
open Eng Go.RowKit
set_option linter.unusedVariables false
set_option linter.unusedSimpArgs false

end Go.Proofs.YtiklhhdohckfiaaGreatDoor
namespace Go.Proofs.YtiklhhdohckfiaaGreatDoor
set_option linter.unusedVariables false
set_option linter.unusedSimpArgs false
set_option linter.defProp false
set_option linter.unusedVariables false
set_option maxRecDepth 20000
open Eng

end Go.Proofs.YtiklhhdohckfiaaGreatDoor
namespace Go.Proofs.YtiklhhdohckfiaaGreatDoor
set_option linter.unusedVariables false
set_option linter.unusedSimpArgs false
set_option linter.defProp false
open Eng Go.RowKit
set_option linter.unusedVariables false
set_option linter.unusedSimpArgs false

theorem c_told {P : Program} {f : Nat} {args : Array Value} {w0 w : World} {L : List Ent} {PK : List PanicEntry → World → Prop} {K : Value → World → Prop} {x y : Value} (h : Ret P f args w (fun v w' => v = x ∧ Below w.heap.size w w')) (hx : x = y) (ho : Own w0 w L)
    (k : ∀ w', Own w0 w' L → K y w') : CallX P f args w PK K := by
  refine c_ret h ?_
  rintro v w' ⟨rfl, hb⟩
  rw [hx]; exact k _ (ho.grow hb)
end Go.Proofs.YtiklhhdohckfiaaGreatDoor
namespace Go.Proofs.YtiklhhdohckfiaaGreatDoor
set_option linter.unusedVariables false
set_option linter.unusedSimpArgs false
set_option linter.defProp false
set_option linter.unusedVariables false
set_option maxRecDepth 20000
open Eng

end Go.Proofs.YtiklhhdohckfiaaGreatDoor
namespace Go.Proofs.YtiklhhdohckfiaaGreatDoor
set_option linter.unusedVariables false
set_option linter.unusedSimpArgs false
set_option linter.defProp false
open Eng Go.RowKit

theorem Tb.mono {w w' : World} (h : Tb w) (hb : Below w.heap.size w w') : Tb w' :=
  Go.Joins.tab_stays (show Tryz.prog.globalNamed "internal/strconv.uint64pow10" = some 4 by kernel_rfl) h hb (Nat.le_refl _)
theorem Tb.own {w w' : World} {L : List Ent} (h : Tb w) (ho : Own w w' L) : Tb w' := h.mono ho.done
end Go.Proofs.YtiklhhdohckfiaaGreatDoor
namespace Go.Proofs.YtiklhhdohckfiaaGreatDoor
set_option linter.unusedVariables false
set_option linter.unusedSimpArgs false
set_option linter.defProp false
set_option linter.unusedSimpArgs false
set_option linter.unusedVariables false
namespace Eng
open Go.RowKit

def aggN (P : Program) (T : TypeId) : Option Nat :=
  match P.underlying T with
  | some (.struct _) | some (.array _ _) => (P.info? T).map (·.size)
  | _ => none
def AtV (P : Program) (w : World) (T : TypeId) (a : Addr) (v : Value) : Prop := (loadVar T a).run P w = .ok v w

section
variable {S : Nat → Prop} {P : Program} {w : World} {PK : List PanicEntry → World → Prop} {K : Value → World → Prop}
theorem AtV.cell {T : TypeId} (ht : notAgg P T = true) {a : Addr} {v : Value} (h : w.cell? a = some v) : AtV P w T a v := run_loadVar_cell ht h
theorem AtV.agg {T : TypeId} {n : Nat} (ht : aggN P T = some n) {b off : Nat} {cs : List Value} (hl : cs.length = n) (h : ∀ j v, cs[j]? = some v → w.cell? ⟨b, off + j, none⟩ = some v) : AtV P w T ⟨b, off, none⟩ (.agg cs.toArray) := by
  have hc := run_loadCells_list (P := P) w ⟨b, off, none⟩ cs (fun j v hj => by rw [add_none]; exact h j v hj)
  unfold aggN at ht
  subst hl
  unfold AtV
  split at ht
  · rename_i fs hu
    obtain ⟨i, hi, h1⟩ := Option.map_eq_some_iff.1 ht
    simp [loadVar, isAgg, run_underlying hu, sizeOf, typeInfo, hi, h1, hc]
  · rename_i k e hu
    obtain ⟨i, hi, h1⟩ := Option.map_eq_some_iff.1 ht
    simp [loadVar, isAgg, run_underlying hu, sizeOf, typeInfo, hi, h1, hc]
  · cases ht
theorem run_load_at {T : TypeId} {a : Addr} {v : Value} (h : AtV P w T a v) : (mLoad T (.pointer (some a))).run P w = .ok (.value v) w := by
  unfold AtV at h
  exact mv_run (by simp [Instr.loadAt, Instr.sureAddr, h])
theorem l_at {T : TypeId} {a : Addr} {v : Value} (h : AtV P w T a v) : DoX P (mLoad T (.pointer (some a))) w PK K = K v w := do_eq (run_load_at h)
theorem OwnS.agg {w0 : World} {L : List Ent} (ho : OwnS S w0 w L) (i : Nat) {b : Nat} {cs : List Value} {E T : TypeId} (hi : L[i]? = some (.cells b cs E)) (ht : aggN P T = some cs.length) : AtV P w T ⟨b, 0, none⟩ (.agg cs.toArray) :=
  AtV.agg ht rfl fun j v hj => by rw [Nat.zero_add]; exact ho.cell i hi j hj
theorem run_store_agg {T : TypeId} {b : Nat} {cs new : List Value} {E : TypeId} (hs : (P.info? T).map (·.size) = some new.length) (hv : ∀ v ∈ new, v.oneCell' = true) (hl : cs.length = new.length) (h : w.heap[b]? = some (.cells cs.toArray E (0, 0))) :
    (Instr.storeAt T (.pointer (some ⟨b, 0, none⟩)) (.agg new.toArray)).run P w = .ok () (w.setRow b new.toArray) := by
  have hst := run_storeCells_at P b 0 E new 0 cs.toArray w h (by simp; omega) hv
  obtain ⟨i, hi, h1⟩ := Option.map_eq_some_iff.1 hs
  have hd : cs.toArray.toList.drop new.length = [] := List.drop_eq_nil_of_le (by rw [← hl]; exact Nat.le_refl _)
  simp only [Nat.add_zero, Nat.zero_add, List.take_zero, List.nil_append, hd, List.append_nil] at hst
  have hc : (Value.agg new.toArray).cells = new.toArray := rfl
  simp [Instr.storeAt, Instr.sureAddr, storeVar, hc, sizeOf, typeInfo, hi, h1, hst]
theorem o_put {w0 : World} {L : List Ent} (i : Nat) {T : TypeId} {b : Nat} {cs new : List Value} {E : TypeId} (ho : OwnS S w0 w L) (hi : L[i]? = some (.cells b cs E)) (hs : (P.info? T).map (·.size) = some new.length) (hv : ∀ v ∈ new, v.oneCell' = true) (hl : cs.length = new.length)
    (k : ∀ w', OwnS S w0 w' (L.set i (.cells b new E)) → K undef w') : DoX P (mStore T (.pointer (some ⟨b, 0, none⟩)) (.agg new.toArray)) w PK K :=
  do_skip (mu_run (run_store_agg hs hv hl (ho.at_ i hi))) (k _ (setRow_own ho i hi _))
theorem ret_same {f : Nat} {args : Array Value} {v : Value} {C : World → Prop} (h : Ret P f args w (fun v' w' => v' = v ∧ w = w')) (hb : C w) : Ret P f args w (fun v' w' => v' = v ∧ C w') :=
  h.mono fun v' w' r => ⟨r.1, r.2 ▸ hb⟩
theorem ret_grew {f : Nat} {args : Array Value} {v : Value} {w1 : World} (h : Ret P f args w (fun v' w' => v' = v ∧ Below w.heap.size w w')) (hb : Below w1.heap.size w1 w) : Ret P f args w (fun v' w' => v' = v ∧ Below w1.heap.size w1 w') :=
  h.mono fun v' w' r => ⟨r.1, (((Own.start w1).grow hb).grow r.2).done⟩
theorem ret_v1 {r1 : RV} {v1 : Value} {K : Ending → World → Prop} (h1 : r1.read.run P w = .ok v1 w) (k : K (.returned v1) w) : RetX P [r1] w K :=
  ⟨_, by simp [resRun, h1], k⟩
theorem ret_v2 {r1 r2 : RV} {v1 v2 : Value} {K : Ending → World → Prop} (h1 : r1.read.run P w = .ok v1 w) (h2 : r2.read.run P w = .ok v2 w) (k : K (.returned (.tuple #[v1, v2])) w) : RetX P [r1, r2] w K :=
  ⟨_, by simp [resRun, h1, h2], k⟩
theorem rv_cell {T : TypeId} {a : Addr} {v : Value} (h : AtV P w T a v) : (RV.cell (.pointer (some a)) T).read.run P w = .ok v w := by
  unfold AtV at h
  simp [RV.read, asAddr, h]
theorem rv_val {v : Value} : (RV.val v).read.run P w = .ok v w := by simp [RV.read]
end
end Eng
end Go.Proofs.YtiklhhdohckfiaaGreatDoor
namespace Go.Proofs.YtiklhhdohckfiaaGreatDoor
set_option linter.unusedVariables false
set_option linter.unusedSimpArgs false
set_option linter.defProp false
set_option linter.unusedSimpArgs false
set_option linter.unusedVariables false
namespace Eng
open Go.RowKit

section
variable {S : Nat → Prop} {P : Program} {w w0 : World} {L : List Ent} {PK : List PanicEntry → World → Prop} {K : Value → World → Prop}
theorem OwnS.join {w' : World} {L' : List Ent} (h : OwnS S w0 w L) (k : OwnS NoB w w' L') : OwnS S w0 w' (L' ++ L) := by
  have h' := h.grow k.below
  refine ⟨h'.grew, fun e he => ?_, List.pairwise_append.2 ⟨k.apart, h'.apart, fun e he f hf b hb hb' => ?_⟩⟩
  · rcases List.mem_append.1 he with he | he
    · obtain ⟨a, b⟩ := k.all e he
      refine ⟨a, fun j hj => .inr ?_⟩
      rcases b j hj with h1 | h1
      · exact h1.elim
      · exact Nat.le_trans h.size h1
    · exact h'.all e he
  · have h2 := f.lt (h.mem hf) b hb'
    rcases (k.all e he).2 b hb with h1 | h1
    · exact h1
    · omega
theorem range {js : List (Option Code × (Nat → World → Prop))} {B : Nat → List Value → World → (Value → World → Prop) → Prop} {np f : Nat} {fa ca : Array Value} (ho : OwnS S w0 w L) (hp : plainB P f = true)
    (h : ∀ (L0 : Loop) (df lb : Nat) (w1 : World), OwnS S w0 w1 (.obj lb (lp L0 .ready none) :: .obj df (.deferred (some [])) :: L) →
      (∀ args W R, W.heap[lb]? = some (lp L0 .ready none) → args.length = np → B lb args W R → Yld P lb args W R) →
      Calls P f (fa ++ #[.func (.yield lb) #[] #[]] ++ ca) w1 fun e w3 => ∃ v st pd k, e = .returned v ∧ st ≠ .busy ∧ w3.heap[lb]? = some (lp L0 st pd) ∧ (pd, k) ∈ js ∧ k df (putO w3 lb (lp L0 .exhausted pd))) :
    RangeX P none np (.func (.func f) fa ca) w B js := by
  refine ⟨f, fa, ca, w.heap.size, w.alloc (.deferred (some [])), rfl, hp, ⟨rfl, rfl⟩, fun L0 _ hy => ?_⟩
  exact h L0 w.heap.size (w.alloc (.deferred (some []))).heap.size _ ((ho.allocObj _).allocObj _) (fun args W R h1 h2 h3 => hy _ args W R h1 h2 h3)
end
end Eng
end Go.Proofs.YtiklhhdohckfiaaGreatDoor
namespace Go.Proofs.YtiklhhdohckfiaaGreatDoor
set_option linter.unusedVariables false
set_option linter.unusedSimpArgs false
set_option linter.defProp false
set_option linter.unusedSimpArgs false
set_option linter.unusedVariables false
namespace Eng
open Go.RowKit

def eqSh (P : Program) : List Field → Option (List (Nat × Bool))
  | [] => some []
  | f :: fs =>
    if f.name == "_" then none
    else match P.underlying f.type with
      | some (.int _) => (eqSh P fs).map ((f.offset, false) :: ·)
      | some .string => (eqSh P fs).map ((f.offset, true) :: ·)
      | _ => none
def cellOk : Bool → Option Value → Option Value → Bool
  | false, some (.int k _), some (.int k' _) => decide (k = k')
  | true, some (.string _), some (.string _) => true
  | _, _, _ => false
def cellEq : Option Value → Option Value → Bool
  | some (.int _ a), some (.int _ b) => a == b
  | some (.string a), some (.string b) => a.toList == b.toList
  | _, _ => false
section
variable {P : Program} {w : World} {PK : List PanicEntry → World → Prop} {K : Value → World → Prop}
theorem run_eqSh (d : Nat) (xs ys : Array Value) : ∀ (fs : List Field) (sh : List (Nat × Bool)), eqSh P fs = some sh → (sh.all fun p => cellOk p.2 xs[p.1]? ys[p.1]?) = true →
    (Op.eqFields (d + 1) xs ys fs).run P w = .ok (sh.all fun p => cellEq xs[p.1]? ys[p.1]?) w
  | [], sh, h, _ => by
    cases h
    simp [Op.eqFields]
  | f :: fs, sh, h, hok => by
    rw [eqSh] at h
    split at h
    · cases h
    · rename_i hn
      have hn' : f.name ≠ "_" := by simpa using hn
      split at h
      · rename_i k hu
        obtain ⟨sh', h', rfl⟩ := Option.map_eq_some_iff.1 h
        simp only [List.all_cons, Bool.and_eq_true] at hok
        obtain ⟨h0, hok⟩ := hok
        have ih := run_eqSh d xs ys fs sh' h' hok
        cases hx : xs[f.offset]? with
        | none => rw [hx] at h0; cases h0
        | some a =>
          cases hy : ys[f.offset]? with
          | none => rw [hx, hy] at h0; cases a <;> cases h0
          | some b =>
            rw [hx, hy] at h0
            cases a <;> cases b <;> first | (cases h0; done) | skip
            rename_i k1 a k2 b
            simp only [cellOk, decide_eq_true_eq] at h0
            subst h0
            simp only [Op.eqFields, hn', ne_eq, not_false_eq_true, if_true, Sem.run_bind, part, isAgg, run_underlying hu, Result.andThen_ok, Sem.run_pure, Bool.false_eq_true, if_false, hx, hy, run_equalIn_int w d f.type k1 k a b hu, List.all_cons, cellEq]
            cases hab : (a == b)
            · simp
            · simp [ih]; rfl
      · rename_i hu
        obtain ⟨sh', h', rfl⟩ := Option.map_eq_some_iff.1 h
        simp only [List.all_cons, Bool.and_eq_true] at hok
        obtain ⟨h0, hok⟩ := hok
        have ih := run_eqSh d xs ys fs sh' h' hok
        cases hx : xs[f.offset]? with
        | none => rw [hx] at h0; cases h0
        | some a =>
          cases hy : ys[f.offset]? with
          | none => rw [hx, hy] at h0; cases a <;> cases h0
          | some b =>
            rw [hx, hy] at h0
            cases a <;> cases b <;> first | (cases h0; done) | skip
            rename_i a b
            simp only [Op.eqFields, hn', ne_eq, not_false_eq_true, if_true, Sem.run_bind, part, isAgg, run_underlying hu, Result.andThen_ok, Sem.run_pure, Bool.false_eq_true, if_false, hx, hy, run_equalIn_string w d f.type a b hu, List.all_cons, cellEq]
            cases hab : (a.toList == b.toList)
            · simp
            · simp [ih]; rfl
      · cases h
def eqT (P : Program) (T : TypeId) (sh : List (Nat × Bool)) : Prop :=
  P.underlying T = some (.struct (P.fieldsOf T)) ∧ P.stoodInHeld T = false ∧ P.eqGuardType P.depth T = false ∧ eqSh P (P.fieldsOf T).toList = some sh
theorem run_neq_agg {T : TypeId} {sh : List (Nat × Bool)} (h : eqT P T sh) {xo yo : Operand} {xs ys : Array Value} (hok : (sh.all fun p => cellOk p.2 xs[p.1]? ys[p.1]?) = true) :
    (mEq .neq T xo yo (.agg xs) (.agg ys)).run P w = .ok (.value (.bool (!(sh.all fun p => cellEq xs[p.1]? ys[p.1]?)))) w := by
  obtain ⟨h1, h2, h3, h4⟩ := h
  refine mv_run ?_
  rw [Sem.run_bind, run_eqGuard_agg w .neq T xo yo xs ys h3]
  simp only [Result.andThen_ok]
  rw [run_neq_struct, run_equalIn_struct w 9999 T xs ys h1 h2, run_eqSh 9998 xs ys _ sh h4 hok]
  rfl
end
end Eng
end Go.Proofs.YtiklhhdohckfiaaGreatDoor
namespace Go.Proofs.YtiklhhdohckfiaaGreatDoor
set_option linter.unusedVariables false
set_option linter.unusedSimpArgs false
set_option linter.defProp false
set_option linter.unusedSimpArgs false
set_option linter.unusedVariables false
namespace Eng
open Go.RowKit
section
variable {P : Program} {C : World → Prop} {K : Value → Prop}
theorem gq_tt {E : (Value → Prop) → Prop} : GQ (.bool true) true E K = E K := propext ⟨fun x => x.out, fun x => ⟨x⟩⟩
theorem gq_ft {E : (Value → Prop) → Prop} : GQ (.bool false) true E K = K undef := propext ⟨fun x => x.out, fun x => ⟨x⟩⟩
theorem gq_ff {E : (Value → Prop) → Prop} : GQ (.bool false) false E K = E K := propext ⟨fun x => x.out, fun x => ⟨x⟩⟩
theorem gq_tf {E : (Value → Prop) → Prop} : GQ (.bool true) false E K = K undef := propext ⟨fun x => x.out, fun x => ⟨x⟩⟩
theorem gq_un {want : Bool} {E : (Value → Prop) → Prop} : GQ undef want E K = K undef := propext ⟨fun x => x.out, fun x => ⟨x⟩⟩
def gq := And.intro @gq_tt (And.intro @gq_ft (And.intro @gq_ff (And.intro @gq_tf @gq_un)))
theorem q_add {T : TypeId} {k : IntKind} {a b : Int} (h : K (.int k (k.wrap (a + b)))) : QDo P C (mBin .add T (.int k a) (.int k b)) K := q_do _ (fun _ => r_add) h
theorem q_lss {T : TypeId} {k : IntKind} {a b : Int} (h : K (.bool (decide (a < b)))) : QDo P C (mBin .lss T (.int k a) (.int k b)) K := q_do _ (fun _ => mv_run (by simp [binOp, Op.intCmp])) h
theorem q_leq {T : TypeId} {k : IntKind} {a b : Int} (h : K (.bool (decide (a ≤ b)))) : QDo P C (mBin .leq T (.int k a) (.int k b)) K := q_do _ (fun _ => mv_run (by simp [binOp, Op.intCmp])) h
theorem q_gtr {T : TypeId} {k : IntKind} {a b : Int} (h : K (.bool (decide (b < a)))) : QDo P C (mBin .gtr T (.int k a) (.int k b)) K := q_do _ (fun _ => mv_run (by simp [binOp, Op.intCmp])) h
theorem q_ne {T : TypeId} {xo yo : Operand} {k : IntKind} {a b : Int} (h : K (.bool (decide (a ≠ b)))) : QDo P C (mEq .neq T xo yo (.int k a) (.int k b)) K := q_do _ (fun _ => mv_run (by simp [eqGuard, binOp, Op.intCmp, int_bne])) h
theorem q_pick {c : Bool} {a b : Value} (h : K (if c then a else b)) : QDo P C (mPick (.bool c) a b) K := q_do _ (fun _ => by simp [mPick, asBool]) h
theorem q_pt {a b : Value} (h : K a) : QDo P C (mPick (.bool true) a b) K := q_pick h
theorem q_pf {a b : Value} (h : K b) : QDo P C (mPick (.bool false) a b) K := q_pick h
theorem q_slen {T U : TypeId} {cs : Array Bool} {a : List UInt8} (ht : P.underlying T = some .string) (h : K (.int .i64 (a.length : Int))) : QDo P C (mB .len #[T] U cs #[.string ⟨a.toArray⟩]) K := q_do _ (fun _ => run_len ht) h
theorem q_quo {T : TypeId} {k : IntKind} {a b : Int} (hb : b ≠ 0) (h : K (.int k (k.wrap (a.tdiv b)))) : QDo P C (mBin .quo T (.int k a) (.int k b)) K := q_do _ (fun _ => r_quo hb) h
theorem q_sne {T : TypeId} {xo yo : Operand} {a b : List UInt8} (h : K (.bool (decide (a ≠ b)))) : QDo P C (mEq .neq T xo yo (.string ⟨a.toArray⟩) (.string ⟨b.toArray⟩)) K := by
  refine q_do _ (fun _ => mv_run ?_) h
  have e : (a == b) = decide (a = b) := by by_cases h : a = b <;> simp [h]
  simp [eqGuard, binOp, Op.stringOp, str_toList, e]
end
end Eng
end Go.Proofs.YtiklhhdohckfiaaGreatDoor
namespace Go.Proofs.YtiklhhdohckfiaaGreatDoor
set_option linter.unusedVariables false
set_option linter.unusedSimpArgs false
set_option linter.defProp false
set_option linter.unusedSimpArgs false
set_option linter.unusedVariables false
namespace Eng
open Go.RowKit
theorem OwnS.perm {S : Nat → Prop} {w0 w : World} {L L' : List Ent} (h : OwnS S w0 w L) (hp : L.Perm L') : OwnS S w0 w L' :=
  ⟨h.grew, fun e he => h.all e (hp.mem_iff.2 he), (hp.pairwise_iff (fun {x y} hxy k hy hx => hxy k hx hy)).1 h.apart⟩
end Eng
end Go.Proofs.YtiklhhdohckfiaaGreatDoor
namespace Go.Proofs.YtiklhhdohckfiaaGreatDoor
set_option linter.unusedVariables false
set_option linter.unusedSimpArgs false
set_option linter.defProp false
set_option linter.unusedSimpArgs false
set_option linter.unusedVariables false
namespace Eng
open Go.RowKit

def Ent.urow (T : TypeId) (sz : Nat) (v : Value) (n : Nat) (xs : List Value) : Ent :=
  ⟨fun k => v.ownBlock = some k, fun w => w.ownsRow 0 T sz v n xs, fun {w w'} h k => by
    refine ⟨h.1, ?_⟩
    rcases h.2 with hn | ⟨g, cap, cur, rfl, hb, hgg, rest⟩
    · exact .inl hn
    · exact .inr ⟨g, cap, cur, rfl, hb, (k g rfl).trans hgg, rest⟩, fun h k hk => (World.ownsRowF.lt (World.ownsRowF_of h) k hk).2⟩
section
variable {S : Nat → Prop} {P : Program} {w : World} {PK : List PanicEntry → World → Prop} {K : Value → World → Prop}
theorem urow_row {T : TypeId} {sz : Nat} {v : Value} {n : Nat} {xs : List Value} (h : (Ent.urow T sz v n xs).is w) : (Ent.row T sz v n xs).is w := World.ownsRowF_of h
theorem Sl.urow {T : TypeId} {sz : Nat} {v : Value} {n : Nat} {xs : List Value} (h : (Ent.urow T sz v n xs).is w) : Sl w v sz n xs := Sl.row (urow_row h)
theorem OwnS.settle {w0 : World} {L : List Ent} (ho : OwnS S w0 w L) (i : Nat) {T : TypeId} {sz : Nat} {v : Value} {n : Nat} {xs : List Value} (hi : L[i]? = some (.urow T sz v n xs)) : OwnS S w0 w (L.set i (.row T sz v n xs)) :=
  ho.turn i hi ⟨Grew.refl _ _, urow_row (ho.at_ i hi), fun _ hk => .inl hk⟩
theorem OwnS.nilU {w0 : World} {L : List Ent} (ho : OwnS S w0 w L) (E : TypeId) (sz : Nat) : OwnS S w0 w (.urow E sz (.slice none 0 0) 0 [] :: L) := by
  refine ⟨ho.grew, fun e he => ?_, .cons (fun f hf k hk => by simp [Ent.urow, Value.ownBlock] at hk) ho.apart⟩
  rcases List.mem_cons.1 he with rfl | he
  · exact ⟨⟨by simp, .inl ⟨rfl, rfl⟩⟩, fun k hk => by simp [Ent.urow, Value.ownBlock] at hk⟩
  · exact ho.all e he
theorem OwnS.toU {w0 : World} {L : List Ent} {b : Nat} {cs : List Value} {E : TypeId} (ho : OwnS S w0 w (.cells b cs E :: L)) (sz n cap : Nat) (hl : cs.length = cap * sz) (hn : n ≤ cap) (hc : cap ≤ 9223372036854775807) :
    OwnS S w0 w (.urow E sz (.slice (some ⟨b, 0, none⟩) n cap) n (cs.take (n * sz)) :: L) := by
  refine ⟨ho.grew, fun e he => ?_, ?_⟩
  · rcases List.mem_cons.1 he with rfl | he
    · refine ⟨⟨by rw [List.length_take, hl, Nat.min_eq_left (Nat.mul_le_mul_right _ hn)], .inr ⟨b, cap, cs.toArray, rfl, Nat.zero_le _, ho.at_ 0 rfl, hn, by simp only [maxLen]; omega, by simpa using hl, by simp⟩⟩, fun k hk => ?_⟩
      simp only [Ent.urow, Value.ownBlock, Option.some.injEq] at hk
      exact (ho.all (.cells b cs E) (by simp)).2 k hk.symm
    · exact ho.all e (by simp [he])
  · refine .cons (fun f hf k hk => ?_) (List.pairwise_cons.1 ho.apart).2
    simp only [Ent.urow, Value.ownBlock, Option.some.injEq] at hk
    exact (List.pairwise_cons.1 ho.apart).1 f hf k hk.symm
theorem run_append_anyU {T E U : TypeId} {cs : Array Bool} {v v2 : Value} {sz bytes n m : Nat} {xs news : List Value} (ht : P.underlying T = some (.slice E)) (he : elB P E sz bytes = true) (hsz : 0 < sz)
    (hown : w.ownsRow 0 E sz v n xs) (hs : Sl w v2 sz m news) (h1 : ∀ u ∈ news, u.oneCell' = true) (hb : (n + m) * bytes ≤ 140737488355328) (hb2 : n + m ≤ 140737488355328) :
    ∃ v' w', (mB .append #[T, T] U cs #[v, v2]).run P w = .ok (.value v') w' ∧ Turn (.urow E sz v n xs) (.urow E sz v' (n + m) (xs ++ news)) w w' := by
  obtain ⟨v', w', r, t⟩ := run_append_any (P := P) (U := U) (cs := cs) ht he hsz (World.ownsRowF_of hown) hs h1 hb hb2
  refine ⟨v', w', r, t.grew, ?_, t.new⟩
  obtain ⟨i, z, hi, hz, hi1, hi2, hz1⟩ := elB_spec he
  obtain ⟨hl, a, cap, rfl, hn, hc⟩ := hs
  have hmx : n + m ≤ maxLen := by simp only [maxLen]; omega
  cases a with
  | some p =>
    have hh : ∀ j u, news[j]? = some u → w.cell? (p.add j) = some u := by
      intro j u hj
      have hlt : j < news.length := (List.getElem?_eq_some_iff.1 hj).1
      have hm : 0 < m := by
        rcases Nat.eq_zero_or_pos m with h0 | h0
        · subst h0; simp at hl; rw [hl] at hlt; simp at hlt
        · exact h0
      obtain ⟨hsp, hcell⟩ := hc p rfl
      have := hsp hm
      obtain ⟨b, off, spot⟩ := p
      simp only at this hcell
      subst this
      rw [add_none]; exact hcell j u hj
    obtain ⟨v2, w2, r1, r2, r3, r4⟩ := run_append_own (P := P) w 0 T U E i z sz bytes ht hi hz hi1 hi2 hz1 hsz v n xs hown p m cap news hl hh h1 hmx hb (Nat.zero_le _)
    have : (mB .append #[T, T] U cs #[v, .slice (some p) m cap]).run P w = .ok (.value v2) w2 := by simp [mB, builtin, r1]
    rw [this] at r
    cases r
    exact r2
  | none =>
    have h0 := hn rfl
    subst h0
    have hnil : news = [] := List.eq_nil_of_length_eq_zero (by simpa using hl)
    subst hnil
    have : (mB .append #[T, T] U cs #[v, .slice none 0 cap]).run P w = .ok (.value v) w := by
      rcases hown.2 with ⟨rfl, rfl⟩ | ⟨g, cp, cur, rfl, _, _, hnc, _⟩
      · simp [mB, builtin, Builtin.append_, run_underlying ht, sizeOf, typeInfo, hi, Builtin.lenOf, Builtin.firstCells]
      · simp [mB, builtin, Builtin.append_, run_underlying ht, sizeOf, typeInfo, hi, Builtin.lenOf, Builtin.firstCells, hnc, storeCells]
    rw [this] at r
    cases r
    rw [List.append_nil]
    exact hown
theorem o_appendU {w0 : World} {L : List Ent} (i : Nat) {T E U : TypeId} {cs : Array Bool} {v v2 : Value} {sz bytes n m : Nat} {xs news : List Value} (ht : P.underlying T = some (.slice E)) (he : elB P E sz bytes = true) (hsz : 0 < sz)
    (ho : OwnS S w0 w L) (hi : L[i]? = some (.urow E sz v n xs)) (hs : Sl w v2 sz m news) (h1 : ∀ u ∈ news, u.oneCell' = true) (hb : (n + m) * bytes ≤ 140737488355328) (hb2 : n + m ≤ 140737488355328)
    (k : ∀ v' w', OwnS S w0 w' (L.set i (.urow E sz v' (n + m) (xs ++ news))) → K v' w') : DoX P (mB .append #[T, T] U cs #[v, v2]) w PK K := by
  obtain ⟨v', w', r, t⟩ := run_append_anyU (cs := cs) (U := U) ht he hsz (ho.at_ i hi) hs h1 hb hb2
  exact do_ok r (k _ _ (ho.turn i hi t))
theorem urow_open {E : TypeId} {sz n : Nat} {v : Value} {xs : List Value} (h : (Ent.urow E sz v n xs).is w) (hn : 0 < n) : ∃ g cap, v = .slice (some ⟨g, 0, none⟩) n cap := by
  rcases (show w.ownsRow 0 E sz v n xs from h).2 with ⟨_, h0⟩ | ⟨g, cap, cur, rfl, _⟩
  · omega
  · exact ⟨g, cap, rfl⟩
theorem run_store_in {T : TypeId} {g off : Nat} {cur : Array Value} {E : TypeId} {u : Value} {new : List Value} (hc : u.cells = new.toArray) (hs : (P.info? T).map (·.size) = some new.length) (h1 : ∀ x ∈ new, x.oneCell' = true)
    (hg : w.heap[g]? = some (.cells cur E (0, 0))) (hl : off + new.length ≤ cur.size) :
    (Instr.storeAt T (.pointer (some ⟨g, off, none⟩)) u).run P w = .ok () (w.setRow g (cur.toList.take off ++ new ++ cur.toList.drop (off + new.length)).toArray) := by
  have hst := run_storeCells_at P g off E new 0 cur w hg (by simpa using hl) h1
  obtain ⟨i, hi, h2⟩ := Option.map_eq_some_iff.1 hs
  simp only [Nat.add_zero] at hst
  simp [Instr.storeAt, Instr.sureAddr, storeVar, hc, sizeOf, typeInfo, hi, h2, hst]
theorem o_storeU {w0 : World} {L : List Ent} (i : Nat) {T E : TypeId} {g off n cap sz : Nat} {xs new : List Value} {u : Value} (ho : OwnS S w0 w L) (hi : L[i]? = some (.urow E sz (.slice (some ⟨g, 0, none⟩) n cap) n xs))
    (hc : u.cells = new.toArray) (hs : (P.info? T).map (·.size) = some new.length) (h1 : ∀ x ∈ new, x.oneCell' = true) (hl : off + new.length ≤ n * sz)
    (k : ∀ w', OwnS S w0 w' (L.set i (.urow E sz (.slice (some ⟨g, 0, none⟩) n cap) n (xs.take off ++ new ++ xs.drop (off + new.length)))) → K undef w') : DoX P (mStore T (.pointer (some ⟨g, off, none⟩)) u) w PK K := by
  have hown : w.ownsRow 0 E sz (.slice (some ⟨g, 0, none⟩) n cap) n xs := ho.at_ i hi
  rcases hown.2 with ⟨h0, _⟩ | ⟨g', cap', cur, he, hb, hg, hnc, hcm, hcs, htake⟩
  · cases h0
  cases he
  have hle : n * sz ≤ cur.size := by rw [hcs]; exact Nat.mul_le_mul_right _ hnc
  refine do_skip (mu_run (run_store_in hc hs h1 hg (by omega))) (k _ ?_)
  refine ho.put i hi (w' := w.setRow g _) ⟨rfl, rfl, rfl, by simp [World.setRow], fun k _ hk => setRow_other w g k _ (fun e => hk (by simp [Ent.urow, Value.ownBlock, e]))⟩ _ ?_ (fun k hk => .inl hk)
  have hxl := hown.1
  have hcl : cur.toList.length = cap * sz := by simpa using hcs
  refine ⟨by simp only [List.length_append, List.length_take, List.length_drop]; omega, .inr ⟨g, cap, _, rfl, hb, setRow_heap w g cur _ E (0, 0) hg, hnc, hcm, ?_, ?_⟩⟩
  · simp only [List.size_toArray, List.length_append, List.length_take, List.length_drop]
    omega
  · subst htake
    rw [List.take_take, Nat.min_eq_left (by omega)]
    simp only [List.append_assoc]
    rw [List.take_append, List.take_append, List.take_of_length_le (l := cur.toList.take off) (by simp; omega), List.take_of_length_le (l := new) (by simp; omega)]
    congr 2
    rw [List.length_take, Nat.min_eq_left (by omega), List.drop_take]
    congr 1
    omega
end
end Eng
end Go.Proofs.YtiklhhdohckfiaaGreatDoor
namespace Go.Proofs.YtiklhhdohckfiaaGreatDoor
set_option linter.unusedVariables false
set_option linter.unusedSimpArgs false
set_option linter.defProp false
open Eng Go.RowKit
end Go.Proofs.YtiklhhdohckfiaaGreatDoor
namespace Go.Proofs.YtiklhhdohckfiaaGreatDoor
set_option linter.unusedVariables false
set_option linter.unusedSimpArgs false
set_option linter.defProp false
open Eng Go.RowKit Go.ChangeShapes Go.WideShapes

inductive Ob where
  | mk (k n g : Int) (s : List UInt8) (keys : List (List UInt8)) (kids : List Ob)
namespace Ob
def k : Ob → Int | .mk k _ _ _ _ _ => k
def n : Ob → Int | .mk _ n _ _ _ _ => n
def g : Ob → Int | .mk _ _ g _ _ _ => g
def s : Ob → List UInt8 | .mk _ _ _ s _ _ => s
def keys : Ob → List (List UInt8) | .mk _ _ _ _ keys _ => keys
def kids : Ob → List Ob | .mk _ _ _ _ _ kids => kids
 mutual
def wt : Ob → Nat
  | .mk _ _ _ s keys kids => 6 + s.length + Pl.tot keys + wts kids
def wts : List Ob → Nat
  | [] => 0
  | o :: os => wt o + wts os
end
end Ob
def SlA (A : Nat → Prop) (w : World) (v : Value) (sz n : Nat) (cs : List Value) : Prop := Sl w v sz n cs ∧ (∀ p l c, v = .slice (some p) l c → 0 < n → A p.block) ∧ ∀ a l c, v = .slice a l c → l ≤ c
 mutual
def OV (A : Nat → Prop) (w : World) : Value → Ob → Prop
  | v, .mk k n g s keys kids => ∃ vk vc cs, v = .agg #[.int .i64 k, .int .i64 n, .int .i64 g, .string ⟨s.toArray⟩, vk, vc] ∧ SlA A w vk 1 keys.length (strsV keys) ∧ SlA A w vc 6 kids.length cs ∧ OVs A w cs kids
def OVs (A : Nat → Prop) (w : World) : List Value → List Ob → Prop
  | cs, [] => cs = []
  | cs, o :: os => ∃ (a rest : List Value), cs = a ++ rest ∧ a.length = 6 ∧ OV A w (.agg a.toArray) o ∧ OVs A w rest os
end
def Kept (A : Nat → Prop) (w w' : World) : Prop := ∀ b, A b → w'.heap[b]? = w.heap[b]?
theorem cell_kept {A : Nat → Prop} {w w' : World} (h : Kept A w w') {p : Addr} {v : Value} (hp : A p.block) (hc : w.cell? p = some v) : w'.cell? p = some v := by
  have := h p.block hp
  unfold World.cell? at hc ⊢
  rw [this]; exact hc
theorem SlA.kept {A : Nat → Prop} {w w' : World} {v : Value} {sz n : Nat} {cs : List Value} (h : SlA A w v sz n cs) (hk : Kept A w w') : SlA A w' v sz n cs := by
  obtain ⟨⟨hl, a, cap, rfl, h1, h2⟩, hA, hC⟩ := h
  refine ⟨⟨hl, a, cap, rfl, h1, fun p hp => ?_⟩, hA, hC⟩
  obtain ⟨h3, h4⟩ := h2 p hp
  refine ⟨h3, fun j u hj => ?_⟩
  have hn : 0 < n := by
    rcases Nat.eq_zero_or_pos n with h | h
    · subst h; rw [Nat.zero_mul] at hl
      have := (List.getElem?_eq_some_iff.1 hj).1
      omega
    · exact h
  exact cell_kept hk (hA p n cap (by rw [hp]) hn) (h4 j u hj)
 mutual
theorem OV.kept {A : Nat → Prop} {w w' : World} (hk : Kept A w w') : ∀ (o : Ob) (v : Value), OV A w v o → OV A w' v o
  | .mk k n g s keys kids, v, h => by
    rw [OV] at h ⊢
    obtain ⟨vk, vc, cs, hv, h1, h2, h3⟩ := h
    exact ⟨vk, vc, cs, hv, h1.kept hk, h2.kept hk, OVs.kept hk kids cs h3⟩
theorem OVs.kept {A : Nat → Prop} {w w' : World} (hk : Kept A w w') : ∀ (os : List Ob) (cs : List Value), OVs A w cs os → OVs A w' cs os
  | [], cs, h => by rw [OVs] at h ⊢; exact h
  | o :: os, cs, h => by
    rw [OVs] at h ⊢
    obtain ⟨a, rest, he, hl, h1, h2⟩ := h
    exact ⟨a, rest, he, hl, OV.kept hk o _ h1, OVs.kept hk os rest h2⟩
end
 mutual
theorem OV.mono {A B : Nat → Prop} {w : World} (hAB : ∀ b, A b → B b) : ∀ (o : Ob) (v : Value), OV A w v o → OV B w v o
  | .mk k n g s keys kids, v, h => by
    rw [OV] at h ⊢
    obtain ⟨vk, vc, cs, hv, h1, h2, h3⟩ := h
    exact ⟨vk, vc, cs, hv, ⟨h1.1, fun p l c e hn => hAB _ (h1.2.1 p l c e hn), h1.2.2⟩, ⟨h2.1, fun p l c e hn => hAB _ (h2.2.1 p l c e hn), h2.2.2⟩, OVs.mono hAB kids cs h3⟩
theorem OVs.mono {A B : Nat → Prop} {w : World} (hAB : ∀ b, A b → B b) : ∀ (os : List Ob) (cs : List Value), OVs A w cs os → OVs B w cs os
  | [], cs, h => by rw [OVs] at h ⊢; exact h
  | o :: os, cs, h => by
    rw [OVs] at h ⊢
    obtain ⟨a, rest, he, hl, h1, h2⟩ := h
    exact ⟨a, rest, he, hl, OV.mono hAB o _ h1, OVs.mono hAB os rest h2⟩
end
theorem OVs.len {A : Nat → Prop} {w : World} : ∀ (os : List Ob) (cs : List Value), OVs A w cs os → cs.length = os.length * 6
  | [], cs, h => by rw [OVs] at h; subst h; rfl
  | o :: os, cs, h => by
    rw [OVs] at h
    obtain ⟨a, rest, rfl, hl, _, h2⟩ := h
    rw [List.length_append, hl, OVs.len os rest h2, List.length_cons]; omega
theorem OVs.get {A : Nat → Prop} {w : World} : ∀ (os : List Ob) (cs : List Value) (i : Nat) (hi : i < os.length), OVs A w cs os → ∃ a : List Value, a.length = 6 ∧ OV A w (.agg a.toArray) os[i] ∧ ∀ j v, a[j]? = some v → cs[i * 6 + j]? = some v
  | [], cs, i, hi, h => by simp at hi
  | o :: os, cs, 0, hi, h => by
    rw [OVs] at h
    obtain ⟨a, rest, rfl, hl, h1, h2⟩ := h
    refine ⟨a, hl, h1, fun j v hj => ?_⟩
    rw [Nat.zero_mul, Nat.zero_add, List.getElem?_append_left (List.getElem?_eq_some_iff.1 hj).1]; exact hj
  | o :: os, cs, i + 1, hi, h => by
    rw [OVs] at h
    obtain ⟨a, rest, rfl, hl, h1, h2⟩ := h
    obtain ⟨b, hb, hv, hc⟩ := OVs.get os rest i (by simpa using hi) h2
    refine ⟨b, hb, hv, fun j v hj => ?_⟩
    rw [List.getElem?_append_right (by omega), hl, show (i + 1) * 6 + j - 6 = i * 6 + j by omega]
    exact hc j v hj
theorem OVs.nil {A : Nat → Prop} {w : World} : OVs A w [] [] := by rw [OVs]
theorem SlA.of_cells {A : Nat → Prop} {W : World} {a : Addr} {len cap sz : Nat} {cs : List Value} (hsz : 0 < sz) (hl : cs.length = len * sz) (hc : ∀ j u, cs[j]? = some u → W.cell? (a.add j) = some u) (hA : ∀ b, b < W.heap.size → A b) (hlc : len ≤ cap) : SlA A W (.slice (some a) len cap) sz len cs := by
  have plain : 0 < len → a.spot = none ∧ a.block < W.heap.size := by
    intro hn
    have h0 : 0 < cs.length := by rw [hl]; exact Nat.mul_pos hn hsz
    have h1 := hc 0 cs[0] (List.getElem?_eq_getElem h0)
    have e0 : a.add 0 = a := by simp [Addr.add]
    rw [e0] at h1
    unfold World.cell? at h1
    split at h1
    · rename_i hb
      have hlt := lt_of_get hb
      split at h1
      · cases h1
      · rename_i hh; exact ⟨by simpa using hh, hlt⟩
    · cases h1
  refine ⟨⟨hl, some a, cap, rfl, (fun h => by cases h), fun p hp => ?_⟩, fun p l c e hn => ?_, fun a' l c e => by injection e with _ e2 e3; omega⟩
  · cases hp
    refine ⟨fun h => (plain h).1, fun j u hj => ?_⟩
    have hn : 0 < len := by
      rcases Nat.eq_zero_or_pos len with h | h
      · subst h; rw [Nat.zero_mul] at hl
        have := (List.getElem?_eq_some_iff.1 hj).1
        omega
      · exact h
    have h1 := hc j u hj
    obtain ⟨b, off, spot⟩ := a
    have := (plain hn).1
    simp only at this
    subst this
    rw [show (⟨b, off, none⟩ : Addr).add j = ⟨b, off + j, none⟩ from add_none b off j] at h1
    exact h1
  · injection e with e _ _
    cases e
    exact hA _ (plain hn).2
theorem SlA.nil (A : Nat → Prop) (w : World) (sz cap : Nat) : SlA A w (.slice none 0 cap) sz 0 [] := ⟨Sl.nil w sz cap, (fun p l c e _ => by injection e with e _ _; cases e), fun a l c e => by injection e with _ e2 e3; omega⟩
end Go.Proofs.YtiklhhdohckfiaaGreatDoor
namespace Go.Proofs.YtiklhhdohckfiaaGreatDoor
set_option linter.unusedVariables false
set_option linter.unusedSimpArgs false
set_option linter.defProp false
open Eng Go.RowKit Go.ChangeShapes Go.WideShapes

theorem bulkAll_append {H : Type} : ∀ (a b : List (DataW H)), Rows.uptoBulkAll (a ++ b) = Rows.uptoBulkAll a + Rows.uptoBulkAll b
  | [], b => by simp [Rows.uptoBulkAll]
  | x :: a, b => by rw [List.cons_append, Rows.uptoBulkAll, bulkAll_append a b, Rows.uptoBulkAll]; omega
theorem bulk_strs {H : Type} : ∀ ss : List ByteArray, Rows.uptoBulkAll (strs (H := H) ss) = Pl.tot (ss.map (·.data.toList))
  | [] => by simp [strs, Rows.uptoBulkAll, Pl.tot]
  | s :: ss => by
    have := bulk_strs (H := H) ss
    rw [show strs (H := H) (s :: ss) = .lit (.string s.data.toList) :: strs ss from rfl, Rows.uptoBulkAll, this, Rows.uptoBulk]
    simp [Pl.tot]
theorem OVs.snoc {A : Nat → Prop} {w : World} {a : List Value} {o : Ob} (hl : a.length = 6) (ho : OV A w (.agg a.toArray) o) : ∀ (os : List Ob) (cs : List Value), OVs A w cs os → OVs A w (cs ++ a) (os ++ [o])
  | [], cs, h => by
    rw [OVs] at h
    subst h
    rw [List.nil_append, List.nil_append, OVs]
    exact ⟨a, [], by simp, hl, ho, OVs.nil⟩
  | p :: os, cs, h => by
    rw [OVs] at h
    obtain ⟨b, rest, rfl, hb, h1, h2⟩ := h
    rw [List.cons_append, OVs]
    exact ⟨b, rest ++ a, by simp, hb, h1, OVs.snoc hl ho os rest h2⟩
theorem wts_snoc (o : Ob) : ∀ os : List Ob, Ob.wts (os ++ [o]) = Ob.wts os + o.wt
  | [] => by simp [Ob.wts]
  | p :: os => by rw [List.cons_append, Ob.wts, wts_snoc o os, Ob.wts]; omega
theorem addr_add (a : Addr) (m n : Nat) : (a.add m).add n = a.add (m + n) := by
  unfold Addr.add
  by_cases hm : m = 0
  · subst hm; simp
  · by_cases hn : n = 0
    · subst hn; simp [hm]
    · have : ¬ (m + n = 0) := by omega
      simp [hm, hn, Nat.add_assoc]
theorem list6 {α : Type} : ∀ {l : List α}, l.length = 6 → ∃ a b c d e f, l = [a, b, c, d, e, f]
  | [a, b, c, d, e, f], _ => ⟨a, b, c, d, e, f, rfl⟩
section
variable {H : Type} {enc : TypeId × Value → H} {W : World} {sp : Nat → Bool} {held : Bool}
abbrev InW (W : World) : Nat → Prop := fun b => b < W.heap.size
theorem open_keys {fuel : Nat} {cs : List Value} {x : DataW H × List MemPlace} (h : DataW.trod enc Tryz.prog W 0 sp held fuel 22 cs = some x) :
    ∃ (v : Value) (zs : List (List UInt8)), cs = [v] ∧ SlA (InW W) W v 1 zs.length (strsV zs) ∧ Pl.tot zs + 1 ≤ Rows.uptoBulk x.1 := by
  rcases open_strings Tryz.underlying22 Tryz.underlying9 (by kernel_rfl) h with ⟨rfl, rfl⟩ | ⟨a, len, cap, ss, rfl, _, hl, hm, hz, rfl, hcell, hsz⟩
  · exact ⟨_, [], rfl, SlA.nil _ _ _ _, by simp [Pl.tot, Rows.uptoBulk]⟩
  · have hlz : len ≤ ss.length := by rw [hz]; split <;> omega
    refine ⟨_, (ss.take len).map (·.data.toList), rfl, ?_, ?_⟩
    · have hlen : ((ss.take len).map (·.data.toList)).length = len := by simp; omega
      rw [hlen]
      refine SlA.of_cells (by omega) (by simp [strsV]; omega) (fun j u hj => ?_) (fun b hb => hb) hl
      have hjl : j < len := by
        have := (List.getElem?_eq_some_iff.1 hj).1
        simp [strsV] at this; omega
      rw [hcell j (by omega), ← hj]
      simp [strsV, strV, List.getElem?_take, hjl, List.getD, List.getElem?_eq_getElem (show j < ss.length by omega)]
    · simp only [Rows.uptoBulk]
      rw [bulk_strs]; omega
set_option maxRecDepth 100000 in
theorem open_obj : ∀ (fuel : Nat) (cs : List Value) (x : DataW H × List MemPlace), DataW.trod enc Tryz.prog W 0 sp held fuel 25 cs = some x →
    ∃ o : Ob, OV (InW W) W (.agg cs.toArray) o ∧ o.wt ≤ Rows.uptoBulk x.1 ∧ cs.length = 6 := by
  intro fuel
  induction fuel using Nat.strongRecOn with
  | _ fuel ih =>
    intro cs x h
    obtain ⟨xs, n, rfl, rfl, hl, hxl, hf⟩ := DataW.trod_struct Tryz.underlying25 h
    have c6 : Tryz.prog.cellsOf 25 = 6 := by kernel_rfl
    rw [c6] at hl
    have hxl : xs.length = 6 := hxl
    obtain ⟨x0, x1, x2, x3, x4, x5, rfl⟩ := list6 hxl
    obtain ⟨v0, v1, v2, v3, v4, v5, rfl⟩ := list6 hl
    have e0 := hf 0 _ rfl
    have e1 := hf 1 _ rfl
    have e2 := hf 2 _ rfl
    have e3 := hf 3 _ rfl
    have e4 := hf 4 _ rfl
    have e5 := hf 5 _ rfl
    have k0 : Tryz.prog.cellsOf 3 = 1 := by kernel_rfl
    have k1 : Tryz.prog.cellsOf 2 = 1 := by kernel_rfl
    have k3 : Tryz.prog.cellsOf 9 = 1 := by kernel_rfl
    have k4 : Tryz.prog.cellsOf 22 = 1 := by kernel_rfl
    have k5 : Tryz.prog.cellsOf 23 = 1 := by kernel_rfl
    simp only [k0, k1, k3, k4, k5, List.drop_zero, List.drop_succ_cons, List.take_succ_cons, List.take_zero, List.getElem?_cons_zero, List.getElem?_cons_succ] at e0 e1 e2 e3 e4 e5
    obtain ⟨k, hk, rfl, _⟩ := DataW.trod_int Tryz.underlying3 e0
    obtain ⟨m, hm, rfl, _⟩ := DataW.trod_int Tryz.underlying2 e1
    obtain ⟨g, hg, rfl, _⟩ := DataW.trod_int Tryz.underlying3 e2
    obtain ⟨s, hs, rfl, _⟩ := DataW.trod_string Tryz.underlying9 e3
    obtain ⟨vk, zs, hvk, hsk, hbk⟩ := open_keys e4
    injection hk with hk _
    injection hm with hm _
    injection hg with hg _
    injection hs with hs _
    injection hvk with hvk _
    subst hk; subst hm; subst hg; subst hs; subst hvk
    have kids : ∃ (cs : List Value) (os : List Ob), SlA (InW W) W v5 6 os.length cs ∧ OVs (InW W) W cs os ∧ Ob.wts os + 1 ≤ Rows.uptoBulk x5.1 := by
      rcases DataW.trod_slice Tryz.underlying23 e5 with ⟨hc, rfl⟩ | ⟨a, len, cap, elems, rest, n', rfl, hc, rfl, _, hlc, hcm, hel, hat, _, _⟩
      · injection hc with hc _
        subst hc
        exact ⟨[], [], SlA.nil _ _ _ _, OVs.nil, by simp [Ob.wts, Rows.uptoBulk]⟩
      · injection hc with hc _
        subst hc
        rw [c6] at hat
        have step : ∀ k, k ≤ len → ∃ (cs : List Value) (os : List Ob), os.length = k ∧ OVs (InW W) W cs os ∧ (∀ j u, cs[j]? = some u → W.cell? (a.add j) = some u) ∧ Ob.wts os ≤ Rows.uptoBulkAll ((elems.take k).map (·.1)) := by
          intro k
          induction k with
          | zero => intro _; exact ⟨[], [], rfl, OVs.nil, (fun j u hj => by simp at hj), by simp [Ob.wts, Rows.uptoBulkAll]⟩
          | succ k ihk =>
            intro hk
            obtain ⟨cs, os, h1, h2, h3, h4⟩ := ihk (by omega)
            have hki : k < elems.length := by omega
            have hb := hat k (by omega)
            rw [List.getElem?_eq_getElem hki, Option.bind_eq_some_iff] at hb
            obtain ⟨ck, hck, htr⟩ := hb
            obtain ⟨o, ho, hw, hlo⟩ := ih n' (by omega) ck _ htr
            have hcsl := OVs.len os cs h2
            refine ⟨cs ++ ck, os ++ [o], by simp [h1], OVs.snoc hlo ho os cs h2, fun j u hj => ?_, ?_⟩
            · rcases Nat.lt_or_ge j cs.length with hj1 | hj1
              · rw [List.getElem?_append_left hj1] at hj; exact h3 j u hj
              · rw [List.getElem?_append_right hj1] at hj
                have hj6 : j - cs.length < 6 := by
                  have := (List.getElem?_eq_some_iff.1 hj).1
                  omega
                have := (World.cells?_some hck).2.2 (j - cs.length) hj6
                rw [← hj, ← this, addr_add, show k * 6 + (j - cs.length) = j by omega]
            · rw [wts_snoc, List.take_succ_eq_append_getElem hki, List.map_append, bulkAll_append]
              simp only [List.map_cons, List.map_nil, Rows.uptoBulkAll]
              omega
        obtain ⟨cs, os, h1, h2, h3, h4⟩ := step len (Nat.le_refl _)
        have hcsl := OVs.len os cs h2
        refine ⟨cs, os, ?_, h2, ?_⟩
        · rw [h1]
          exact SlA.of_cells (by omega) (by rw [hcsl, h1]) h3 (fun b hb => hb) hlc
        · rw [← hel, List.take_length] at h4
          simp only [Rows.uptoBulk]
          omega
    obtain ⟨cs, os, hsl, hov, hbo⟩ := kids
    refine ⟨.mk k m g s.data.toList zs os, ?_, ?_, rfl⟩
    · rw [OV]
      exact ⟨_, _, cs, rfl, hsk, hsl, hov⟩
    · simp only [Ob.wt, Rows.uptoBulk, List.map_cons, List.map_nil, Rows.uptoBulkAll]
      omega
end
end Go.Proofs.YtiklhhdohckfiaaGreatDoor
namespace Go.Proofs.YtiklhhdohckfiaaGreatDoor
set_option linter.unusedVariables false
set_option linter.unusedSimpArgs false
set_option linter.defProp false
set_option linter.unusedSimpArgs false
set_option linter.unusedVariables false
namespace Eng
open Go.RowKit
structure Mem where
  A : Nat → Prop
  w : World
  lt : ∀ b, A b → b < w.heap.size
def Mem.has (M : Mem) (w : World) : Prop := ∀ b, M.A b → w.heap[b]? = M.w.heap[b]?
structure Mem.le (M N : Mem) : Prop where
  A : ∀ b, M.A b → N.A b
  has : M.has N.w
def Mem.all (w : World) : Mem := ⟨fun b => b < w.heap.size, w, fun _ h => h⟩
theorem Mem.all_has (w : World) : (Mem.all w).has w := fun _ _ => rfl
theorem Mem.le_refl (M : Mem) : M.le M := ⟨fun _ h => h, fun _ _ => rfl⟩
theorem Mem.le_trans {M N O : Mem} (h : M.le N) (k : N.le O) : M.le O := ⟨fun b hb => k.A b (h.A b hb), fun b hb => (k.has b (h.A b hb)).trans (h.has b hb)⟩
theorem Mem.has_of {M N : Mem} {w : World} (h : M.le N) (k : N.has w) : M.has w := fun b hb => (k b (h.A b hb)).trans (h.has b hb)
theorem Mem.bd {M : Mem} {w : World} (h : M.has w) {b : Nat} (hb : M.A b) : b < w.heap.size := by
  have h1 := h b hb
  rw [Array.getElem?_eq_getElem (M.lt b hb)] at h1
  exact lt_of_get h1
theorem Mem.has_below {M : Mem} {w w' : World} (h : M.has w) (k : Below w.heap.size w w') : M.has w' := fun b hb => (k.block b (Mem.bd h hb)).trans (h b hb)
def Ent.mem (M : Mem) : Ent := ⟨M.A, M.has, fun h k b hb => (k b hb).trans (h b hb), fun h k hk => Mem.bd h hk⟩
structure Gives (M : Mem) (w w' : World) (N : Mem) : Prop where
  le : M.le N
  has : N.has w'
  new : ∀ b, N.A b → M.A b ∨ w.heap.size ≤ b
  below : Below w.heap.size w w'
theorem Gives.refl {M : Mem} {w : World} (h : M.has w) : Gives M w w M := ⟨M.le_refl, h, fun _ h => .inl h, Below.refl _ _⟩
def RetM (P : Program) (f : Nat) (args : Array Value) (M : Mem) (w : World) (R : Value → Mem → Prop) : Prop := Ret P f args w (fun v w' => ∃ N, Gives M w w' N ∧ R v N)
theorem RetM.mono {P : Program} {f : Nat} {args : Array Value} {M : Mem} {w : World} {R R' : Value → Mem → Prop} (h : RetM P f args M w R) (k : ∀ v N, M.le N → R v N → R' v N) : RetM P f args M w R' :=
  Ret.mono h fun v w' ⟨N, g, r⟩ => ⟨N, g, k v N g.le r⟩
section
variable {S : Nat → Prop} {P : Program} {w w0 : World} {L : List Ent} {PK : List PanicEntry → World → Prop} {K : Value → World → Prop}
theorem OwnS.memS {M : Mem} (h : M.has w) : OwnS M.A w w [.mem M] := OwnS.lend (e := .mem M) h
theorem OwnS.hasM {M : Mem} (ho : OwnS S w0 w L) (i : Nat) (hi : L[i]? = some (.mem M)) : M.has w := ho.at_ i hi
theorem OwnS.gives {M N : Mem} {w' : World} (ho : OwnS S w0 w L) (i : Nat) (hi : L[i]? = some (.mem M)) (g : Gives M w w' N) : OwnS S w0 w' (L.set i (.mem N)) :=
  ho.turn i hi ⟨grew_below g.below, g.has, g.new⟩
theorem OwnS.toGives {M0 N : Mem} {w' : World} (ho : OwnS M0.A w w' L) (i : Nat) (hi : L[i]? = some (.mem N)) (hle : M0.le N) (h0 : M0.has w) : Gives M0 w w' N := by
  have hm := ho.all (.mem N) (List.mem_of_getElem? hi)
  refine ⟨hle, hm.1, fun b hb => hm.2 b hb, ho.grew.os, ho.grew.tape, ho.grew.output, ho.grew.size, fun k hk => ?_⟩
  by_cases hA : M0.A k
  · rw [h0 k hA]
    have h1 : w'.heap[k]? = N.w.heap[k]? := hm.1 k (hle.A k hA)
    rw [h1]; exact hle.has k hA
  · exact ho.grew.block k hk hA
theorem retM_of {f : Nat} {args : Array Value} {M : Mem} {R : Value → Mem → Prop} (hM : M.has w)
    (h : ∀ K : Ending → World → Prop, (∀ (v : Value) (w' : World) (N : Mem) (L : List Ent) (i : Nat), OwnS M.A w w' L → L[i]? = some (.mem N) → M.le N → R v N → K (.returned v) w') → Calls P f args w K) : RetM P f args M w R :=
  ret_of fun K hK => h K fun v w' N L i ho hi hle hr => hK v w' ⟨N, ho.toGives i hi hle hM, hr⟩
theorem c_mem {f : Nat} {args : Array Value} {M : Mem} {R : Value → Mem → Prop} (ho : OwnS S w0 w L) (i : Nat) (hi : L[i]? = some (.mem M)) (h : RetM P f args M w R)
    (k : ∀ v N w', M.le N → R v N → OwnS S w0 w' (L.set i (.mem N)) → K v w') : CallX P f args w PK K :=
  c_ret h fun v w' ⟨N, g, r⟩ => k v N w' g.le r (ho.gives i hi g)
theorem OwnS.freeze {M : Mem} {e : Ent} (ho : OwnS S w0 w (e :: L)) (i : Nat) (hi : L[i]? = some (.mem M)) :
    ∃ N : Mem, M.le N ∧ N.w = w ∧ (∀ b, e.blk b → N.A b) ∧ OwnS S w0 w (L.set i (.mem N)) := by
  have he := ho.all e (by simp)
  have hM : M.has w := ho.at_ (i + 1) (by simpa using hi)
  have hlt : ∀ b, M.A b ∨ e.blk b → b < w.heap.size := fun b hb => hb.elim (fun h => Mem.bd hM h) (fun h => e.lt he.1 b h)
  let N : Mem := ⟨fun b => M.A b ∨ e.blk b, w, hlt⟩
  have hil : i < L.length := (List.getElem?_eq_some_iff.1 hi).1
  have hie : L[i] = .mem M := (List.getElem?_eq_some_iff.1 hi).2
  obtain ⟨a1, a2⟩ := List.pairwise_cons.1 ho.apart
  have hp := List.pairwise_iff_getElem.1 a2
  have bM : ∀ k, M.A k → (L[i]).blk k := fun k hk => by rw [hie]; exact hk
  refine ⟨N, ⟨fun b hb => .inl hb, hM⟩, rfl, fun b hb => .inr hb, ho.grew, ?_, ?_⟩
  · intro f hf
    obtain ⟨j, hj, rfl⟩ := List.getElem_of_mem hf
    rw [List.length_set] at hj
    rw [List.getElem_set]
    split
    · refine ⟨fun b _ => rfl, fun k hk => ?_⟩
      rcases hk with hk | hk
      · exact (ho.all (.mem M) (by rw [← hie]; exact List.mem_cons_of_mem _ (List.getElem_mem hil))).2 k hk
      · exact he.2 k hk
    · exact ho.all _ (List.mem_cons_of_mem _ (List.getElem_mem hj))
  · rw [List.pairwise_iff_getElem]
    intro a b ha hb hab k hk
    rw [List.length_set] at ha hb
    rw [List.getElem_set] at hk
    rw [List.getElem_set]
    split at hk
    · rename_i hia
      subst hia
      rw [if_neg (by omega)]
      rcases hk with hk | hk
      · exact hp i b ha hb hab k (bM k hk)
      · exact a1 _ (List.getElem_mem hb) k hk
    · split
      · rename_i hib
        subst hib
        intro hk'
        rcases hk' with hk' | hk'
        · exact hp a i ha hb hab k hk (bM k hk')
        · exact a1 _ (List.getElem_mem ha) k hk' hk
      · exact hp a b ha hb hab k hk
end
end Eng
open Eng Go.RowKit
theorem SlA.le {M N : Mem} (h : M.le N) {v : Value} {sz n : Nat} {cs : List Value} (hs : SlA M.A M.w v sz n cs) : SlA N.A N.w v sz n cs := by
  have := hs.kept (w' := N.w) h.has
  exact ⟨this.1, (fun p l c e hn => h.A _ (this.2.1 p l c e hn)), this.2.2⟩
theorem SlA.now {M : Mem} {w : World} (h : M.has w) {v : Value} {sz n : Nat} {cs : List Value} (hs : SlA M.A M.w v sz n cs) : Sl w v sz n cs := (hs.kept (w' := w) h).1
theorem OV.le {M N : Mem} (h : M.le N) {v : Value} {o : Ob} (hv : OV M.A M.w v o) : OV N.A N.w v o := OV.mono h.A o v (OV.kept h.has o v hv)
theorem OVs.le {M N : Mem} (h : M.le N) {cs : List Value} {os : List Ob} (hv : OVs M.A M.w cs os) : OVs N.A N.w cs os := OVs.mono h.A os cs (OVs.kept h.has os cs hv)
theorem OV.inw {M : Mem} {w : World} (h : M.has w) {v : Value} {o : Ob} (hv : OV M.A M.w v o) : OV (InW w) w v o := OV.mono (fun b hb => Mem.bd h hb) o v (OV.kept h o v hv)
end Go.Proofs.YtiklhhdohckfiaaGreatDoor
namespace Go.Proofs.YtiklhhdohckfiaaGreatDoor
set_option linter.unusedVariables false
set_option linter.unusedSimpArgs false
set_option linter.defProp false
set_option linter.unusedSimpArgs false
set_option linter.unusedVariables false
namespace Eng
open Go.RowKit
section
variable {S : Nat → Prop} {P : Program} {w w0 : World} {L : List Ent} {PK : List PanicEntry → World → Prop} {K : Value → World → Prop}
theorem e_nilS {T E : TypeId} {xo yo : Operand} {a : Option Addr} {n c n' c' : Nat} (h : P.underlying T = some (.slice E)) : DoX P (mEq .eql T xo yo (.slice a n c) (.slice none n' c')) w PK K = K (.bool a.isNone) w := by
  refine mv_do ?_
  simp [eqGuard, Lib.run_eql_slice_nil w T E a n c n' c' h]
theorem n_nilS {T E : TypeId} {xo yo : Operand} {a : Option Addr} {n c n' c' : Nat} (h : P.underlying T = some (.slice E)) : DoX P (mEq .neq T xo yo (.slice a n c) (.slice none n' c')) w PK K = K (.bool (!a.isNone)) w := by
  refine mv_do ?_
  have := Lib.run_equalIn_slice_nil (P := P) w 9999 T E a n c n' c' h
  simp [eqGuard, binOp, Op.equal, Op.maxDepth, this]
def subA (a : Option Addr) (l cap sz : Nat) : Option Addr := if cap = l then a else a.map (·.add (l * sz))
theorem subA_in {b off l cap sz : Nat} (h : l < cap) : subA (some ⟨b, off, none⟩) l cap sz = some ⟨b, off + l * sz, none⟩ := by
  unfold subA; rw [if_neg (by omega), Option.map_some, add_none]
theorem subA_0 {a : Addr} {cap sz : Nat} : subA (some ⟨a.block, a.off, none⟩) 0 cap sz = some ⟨a.block, a.off, none⟩ := by
  unfold subA; split
  · rfl
  · rw [Option.map_some, add_none, Nat.zero_mul, Nat.add_zero]
theorem run_sl_l {T E : TypeId} {k : IntKind} {a : Option Addr} {n cap sz : Nat} {lo : Int} (h : P.underlying T = some (.slice E)) (hsz : (P.info? E).map (·.size) = some sz) (h0 : 0 ≤ lo) (h1 : lo ≤ n) :
    (mSlice T (.slice a n cap) (some (.int k lo)) none none).run P w = .ok (.value (.slice (subA a lo.toNat cap sz) (n - lo.toNat) (cap - lo.toNat))) w := by
  obtain ⟨i, hi, h2⟩ := Option.map_eq_some_iff.1 hsz
  have he : P.elem T = E := by simp [Program.elem, h]
  have ht : P.underlying T = some (.slice (P.elem T)) := by rw [he]; exact h
  refine mv_run ?_
  rw [run_sliceAt_slice w T _ _ _ _ ht, run_slice_l w T a n cap ht k lo h0 h1]
  simp [sizeOf, typeInfo, he, hi, h2, sliced, subA]
theorem run_sl_h {T E : TypeId} {k : IntKind} {a : Option Addr} {n cap sz : Nat} {hi : Int} (h : P.underlying T = some (.slice E)) (hsz : (P.info? E).map (·.size) = some sz) (h0 : 0 ≤ hi) (h1 : hi ≤ cap) :
    (mSlice T (.slice a n cap) none (some (.int k hi)) none).run P w = .ok (.value (.slice (subA a 0 cap sz) hi.toNat cap)) w := by
  obtain ⟨i, hi', h2⟩ := Option.map_eq_some_iff.1 hsz
  have he : P.elem T = E := by simp [Program.elem, h]
  have ht : P.underlying T = some (.slice (P.elem T)) := by rw [he]; exact h
  refine mv_run ?_
  rw [run_sliceAt_slice w T _ _ _ _ ht, run_slice_h w T a n cap ht k hi h0 h1]
  simp [sizeOf, typeInfo, he, hi', h2, sliced, subA]
theorem run_sl_lh {T E : TypeId} {k k' : IntKind} {a : Option Addr} {n cap sz : Nat} {lo hi : Int} (h : P.underlying T = some (.slice E)) (hsz : (P.info? E).map (·.size) = some sz) (h0 : 0 ≤ lo) (h1 : lo ≤ hi) (h2 : hi ≤ cap) :
    (mSlice T (.slice a n cap) (some (.int k lo)) (some (.int k' hi)) none).run P w = .ok (.value (.slice (subA a lo.toNat cap sz) (hi.toNat - lo.toNat) (cap - lo.toNat))) w := by
  obtain ⟨i, hi', h3⟩ := Option.map_eq_some_iff.1 hsz
  have he : P.elem T = E := by simp [Program.elem, h]
  have ht : P.underlying T = some (.slice (P.elem T)) := by rw [he]; exact h
  refine mv_run ?_
  rw [run_sliceAt_slice w T _ _ _ _ ht, run_slice_lh w T a n cap ht k k' lo hi h0 h1 h2]
  simp [sizeOf, typeInfo, he, hi', h3, sliced, subA]
theorem run_sl_lhm {T E : TypeId} {k k' k2 : IntKind} {a : Option Addr} {n cap sz : Nat} {lo hi m : Int} (h : P.underlying T = some (.slice E)) (hsz : (P.info? E).map (·.size) = some sz) (h0 : 0 ≤ lo) (h1 : lo ≤ hi) (h2 : hi ≤ m) (h3 : m ≤ cap) :
    (mSlice T (.slice a n cap) (some (.int k lo)) (some (.int k' hi)) (some (.int k2 m))).run P w = .ok (.value (.slice (subA a lo.toNat m.toNat sz) (hi.toNat - lo.toNat) (m.toNat - lo.toNat))) w := by
  obtain ⟨i, hi', h4⟩ := Option.map_eq_some_iff.1 hsz
  have he : P.elem T = E := by simp [Program.elem, h]
  have ht : P.underlying T = some (.slice (P.elem T)) := by rw [he]; exact h
  refine mv_run ?_
  rw [run_sliceAt_slice w T _ _ _ _ ht, run_slice_lhm w T a n cap ht k k' k2 lo hi m h0 h1 h2 h3]
  simp [sizeOf, typeInfo, he, hi', h4, sliced, subA]
theorem run_len_sl {T U E : TypeId} {cb : Array Bool} {a : Option Addr} {n cap : Nat} (h : P.underlying T = some (.slice E)) : (mB .len #[T] U cb #[.slice a n cap]).run P w = .ok (.value (.int .i64 (n : Int))) w := by
  simp [mB, builtin, Builtin.len_, run_underlying h, goInt]
theorem cap_sl {T U E : TypeId} {cb : Array Bool} {a : Option Addr} {n cap : Nat} (h : P.underlying T = some (.slice E)) : DoX P (mB .cap #[T] U cb #[.slice a n cap]) w PK K = K (.int .i64 (cap : Int)) w := by
  refine do_eq ?_
  simp [mB, builtin, Builtin.cap_, run_underlying h, goInt]
theorem o_makeN {T E : TypeId} {sz bytes n : Nat} {kl kc : IntKind} (ht : P.underlying T = some (.slice E)) (he : elB P E sz bytes = true) (hb : bytes * n ≤ 281474976710656) (hn : n ≤ 281474976710656) (ho : OwnS S w0 w L)
    (k : ∀ (g : Nat) (w' : World) (zs : List Value), zs.length = n * sz → OwnS S w0 w' (.cells g zs E :: L) → K (.slice (some ⟨g, 0, none⟩) n n) w') : DoX P (mMake T (.int kl (n : Int)) (.int kc (n : Int))) w PK K := by
  obtain ⟨i, z, hi, hz, hi1, hi2, hz1⟩ := elB_spec he
  have hb' : (i.bytes : Int) * (n : Int) ≤ 281474976710656 := by rw [hi2, ← Int.natCast_mul]; omega
  have hr := run_make (P := P) w T E i z ht hi hz kl kc n n (by omega) (by omega) hb' (by omega)
  rw [Int.toNat_natCast] at hr
  refine do_ok (mv_run hr) (k _ _ (madeCells z.cells (n * i.size)).toList ?_ ?_)
  · rw [Array.length_toList, size_madeCells, hi1]
  · have := ho.alloc (madeCells z.cells (n * i.size)).toList E
    rwa [Array.toArray_toList] at this
theorem run_copyC {dT sT ty T E : TypeId} {cb : Array Bool} {g o dLen dCap sz : Nat} {a : Addr} {sLen sCap : Nat} {cur src : List Value} (hu : P.underlying dT = some (.slice E)) (hsz : (P.info? E).map (·.size) = some sz)
    (hg : w.heap[g]? = some (.cells cur.toArray T (0, 0))) (hn : src.length = Nat.min sLen dLen * sz) (hsrc : ∀ j v, src[j]? = some v → w.cell? (a.add j) = some v) (hfit : o + src.length ≤ cur.length) (h1 : ∀ v ∈ src, v.oneCell' = true) :
    (mB .copy #[dT, sT] ty cb #[.slice (some ⟨g, o, none⟩) dLen dCap, .slice (some a) sLen sCap]).run P w = .ok (.value (goInt (Nat.min sLen dLen))) (w.setRow g (cur.take o ++ src ++ cur.drop (o + src.length)).toArray) := by
  have hl := run_loadCells_list (P := P) w a src hsrc
  have hst := run_storeCells_at P g o T src 0 cur.toArray w hg (by simpa using hfit) h1
  obtain ⟨i, hi, h2⟩ := Option.map_eq_some_iff.1 hsz
  rw [hn] at hl
  simp only [Nat.add_zero] at hst
  simp [mB, builtin, Builtin.copy_, run_underlying hu, Builtin.lenOf, Builtin.firstCells, sizeOf, typeInfo, hi, h2, hl, hst]
theorem o_copyC (i : Nat) {dT sT ty T E : TypeId} {cb : Array Bool} {g o dLen dCap sz : Nat} {a : Addr} {sLen sCap : Nat} {cur src : List Value} (hu : P.underlying dT = some (.slice E)) (hsz : (P.info? E).map (·.size) = some sz)
    (ho : OwnS S w0 w L) (hi : L[i]? = some (.cells g cur T)) (hn : src.length = min sLen dLen * sz) (hsrc : ∀ j v, src[j]? = some v → w.cell? (a.add j) = some v) (hfit : o + src.length ≤ cur.length) (h1 : ∀ v ∈ src, v.oneCell' = true)
    (k : ∀ v' w', OwnS S w0 w' (L.set i (.cells g (cur.take o ++ src ++ cur.drop (o + src.length)) T)) → K v' w') :
    DoX P (mB .copy #[dT, sT] ty cb #[.slice (some ⟨g, o, none⟩) dLen dCap, .slice (some a) sLen sCap]) w PK K :=
  do_ok (run_copyC hu hsz (ho.at_ i hi) hn hsrc hfit h1) (k _ _ (setRow_own ho i hi _))
theorem o_growZ {T tn U E : TypeId} {cb : Array Bool} {kn kq : IntKind} {g n cap m sz bytes : Nat} {olds : List Value} (ht : P.underlying T = some (.slice E)) (htn : P.underlying tn = some (.int kn)) (he : elB P E sz bytes = true) (hsz : 0 < sz)
    (ho : OwnS S w0 w L) (hol : olds.length = n * sz) (hold : ∀ j u, olds[j]? = some u → w.cell? ⟨g, 0 + j, none⟩ = some u) (h0 : 0 < m) (hg : cap < n + m) (hb : (n + m) * bytes ≤ 140737488355328) (hb2 : n + m ≤ 140737488355328)
    (k : ∀ (b c : Nat) (zs : List Value) (w' : World), n + m ≤ c → c ≤ 9223372036854775807 → zs.length + n * sz = c * sz → OwnS S w0 w' (.cells b (olds ++ zs) E :: L) → K (.slice (some ⟨b, 0, none⟩) (n + m) c) w') :
    DoX P (mB .append #[T, tn] U cb #[.slice (some ⟨g, 0, none⟩) n cap, .int kq (m : Int)]) w PK K := by
  obtain ⟨i, z, hi, hz, hi1, hi2, hz1⟩ := elB_spec he
  have hold' : (Builtin.firstCells i.size n (.slice (some ⟨g, 0, none⟩) n cap)).run P w.drew = .ok olds.toArray w.drew := by
    have hl := run_loadCells_list (P := P) w.drew ⟨g, 0, none⟩ olds (fun j v hj => by rw [add_none]; exact hold j v hj)
    simp only [Builtin.firstCells, hi1, ← hol]
    exact hl
  have hge := grownCap_ge w (n + m) cap E
  have hle := grownCap_le_maxLen w (n + m) cap E (by simp only [maxLen]; omega)
  have hr := Lib.run_append_grow_zeros (P := P) w T tn U E i z kq kn ht htn hi hz (some ⟨g, 0, none⟩) n cap olds hold' m h0 (by omega) hg (by omega) (by
      rw [hi2]; have : m * bytes ≤ (n + m) * bytes := Nat.mul_le_mul_right _ (by omega)
      omega) (by rw [hi2]; exact growslice_fits hg hb)
  have hzc : ∀ x, (Builtin.zeroCells z.cells x).toList.length = x * sz := by intro x; simp [Builtin.zeroCells, hz1]
  obtain ⟨zs, hzs⟩ : ∃ zs, zs = (Builtin.zeroCells z.cells m).toList ++ (Builtin.zeroCells z.cells (grownCap w (n + m) cap E - (n + m))).toList := ⟨_, rfl⟩
  have hlen : zs.length + n * sz = grownCap w (n + m) cap E * sz := by
    rw [hzs, List.length_append, hzc, hzc, ← Nat.add_mul, ← Nat.add_mul]
    congr 1
    omega
  have key := (ho.drew).alloc (olds ++ zs) E
  have e : (olds ++ zs).toArray = olds.toArray ++ Builtin.zeroCells z.cells m ++ Builtin.zeroCells z.cells (grownCap w (n + m) cap E - (n + m)) := by
    rw [hzs]; simp
  have hr' : (mB .append #[T, tn] U cb #[.slice (some ⟨g, 0, none⟩) n cap, .int kq (m : Int)]).run P w = .ok (.value (.slice (some ⟨w.heap.size, 0, none⟩) (n + m) (grownCap w (n + m) cap E))) (w.drew.alloc (.cells (olds ++ zs).toArray E)) := by
    rw [e]
    simp [mB, builtin, hr]
  exact do_ok hr' (k w.heap.size _ zs _ hge (by simp only [maxLen] at hle; exact hle) hlen key)
theorem o_appRoomC (i : Nat) {T E U : TypeId} {cb : Array Bool} {g n cap m c sz bytes : Nat} {a : Addr} {cur news : List Value} (ht : P.underlying T = some (.slice E)) (he : elB P E sz bytes = true)
    (ho : OwnS S w0 w L) (hi : L[i]? = some (.cells g cur E)) (hl : news.length = m * sz) (hnews : ∀ j u, news[j]? = some u → w.cell? (a.add j) = some u) (h1 : ∀ u ∈ news, u.oneCell' = true) (hroom : n + m ≤ cap) (hfit : n * sz + news.length ≤ cur.length)
    (k : ∀ w', OwnS S w0 w' (L.set i (.cells g (cur.take (n * sz) ++ news ++ cur.drop (n * sz + news.length)) E)) → K (.slice (some ⟨g, 0, none⟩) (n + m) cap) w') :
    DoX P (mB .append #[T, T] U cb #[.slice (some ⟨g, 0, none⟩) n cap, .slice (some a) m c]) w PK K := by
  obtain ⟨ii, z, hii, hz, hi1, hi2, hz1⟩ := elB_spec he
  have hg : w.heap[g]? = some (.cells cur.toArray E (0, 0)) := ho.at_ i hi
  have hr := run_append_roomF (P := P) w T U E ii ht hii g n cap cur.toArray (0, 0) hg (Nat.zero_le _) a m c news (by rw [hi1]; exact hl) hnews h1 hroom (by rw [hi1]; simpa using hfit)
  rw [hi1] at hr
  have hr' : (mB .append #[T, T] U cb #[.slice (some ⟨g, 0, none⟩) n cap, .slice (some a) m c]).run P w = .ok (.value (.slice (some ⟨g, 0, none⟩) (n + m) cap)) (w.setRow g (cur.take (n * sz) ++ news ++ cur.drop (n * sz + news.length)).toArray) := by
    simp [mB, builtin, hr]
  exact do_ok hr' (k _ (setRow_own ho i hi _))
def zB (P : Program) (E : TypeId) : Bool :=
  match P.info? E with
  | some i => match i.zero with
    | some z => z.cells.toList.all (·.oneCell')
    | none => false
  | none => false
theorem o_clearC (i : Nat) {T E U : TypeId} {cb : Array Bool} {g o n c sz bytes : Nat} {cur : List Value} (ht : P.underlying T = some (.slice E)) (he : elB P E sz bytes = true) (hz : zB P E = true) (h0 : 0 < n)
    (ho : OwnS S w0 w L) (hi : L[i]? = some (.cells g cur E)) (hfit : o + n * sz ≤ cur.length)
    (k : ∀ v' w' zs, zs.length = n * sz → OwnS S w0 w' (L.set i (.cells g (cur.take o ++ zs ++ cur.drop (o + n * sz)) E)) → K v' w') :
    DoX P (mB .clear #[T] U cb #[.slice (some ⟨g, o, none⟩) n c]) w PK K := by
  obtain ⟨ii, z, hii, hz', hi1, hi2, hz1⟩ := elB_spec he
  have hg : w.heap[g]? = some (.cells cur.toArray E (0, 0)) := ho.at_ i hi
  have hone : ∀ x ∈ z.cells.toList, x.oneCell' = true := by
    unfold zB at hz
    rw [hii] at hz
    simp only [hz'] at hz
    exact List.all_eq_true.1 hz
  have hzl : (Builtin.zeroCells z.cells n).toList.length = n * sz := by simp [Builtin.zeroCells, hz1]
  have hzo : ∀ x ∈ (Builtin.zeroCells z.cells n).toList, x.oneCell' = true := by
    intro x hx
    simp only [Builtin.zeroCells, Array.toList_map, List.mem_map, Array.toList_range, List.mem_range] at hx
    obtain ⟨j, hj, rfl⟩ := hx
    have hjs : j % z.cells.size < z.cells.size := Nat.mod_lt _ (by
      rcases Nat.eq_zero_or_pos z.cells.size with h | h
      · rw [h] at hj; simp at hj
      · exact h)
    rw [getElem!_pos z.cells (j % z.cells.size) hjs]
    exact hone _ (by simp)
  have hst := run_storeCells_at P g o E (Builtin.zeroCells z.cells n).toList 0 cur.toArray w hg (by rw [hzl]; simpa using hfit) hzo
  simp only [Nat.add_zero] at hst
  obtain ⟨m, rfl⟩ : ∃ m, n = m + 1 := ⟨n - 1, by omega⟩
  have hr' : (mB .clear #[T] U cb #[.slice (some ⟨g, o, none⟩) (m + 1) c]).run P w = .ok (.value (.tuple #[])) (w.setRow g (cur.take o ++ (Builtin.zeroCells z.cells (m + 1)).toList ++ cur.drop (o + (m + 1) * sz)).toArray) := by
    simp [mB, builtin, Builtin.clear_, run_underlying ht, zeroValue, typeInfo, hii, hz', hst]
    rw [← hzl]; simp
  exact do_ok hr' (k _ _ _ hzl (setRow_own ho i hi _))
theorem sub_get {cs cs' : List Value} {off j : Nat} {v : Value} (h : (cs.drop off).take cs'.length = cs') (hj : cs'[j]? = some v) : cs[off + j]? = some v := by
  rw [← h] at hj
  rw [List.getElem?_take] at hj
  split at hj
  · rwa [List.getElem?_drop] at hj
  · cases hj
theorem OwnS.subAgg (ho : OwnS S w0 w L) (i : Nat) {b : Nat} {cs : List Value} {E T : TypeId} (hi : L[i]? = some (.cells b cs E)) (off : Nat) (cs' : List Value) (hcs : (cs.drop off).take cs'.length = cs') (ht : aggN P T = some cs'.length) : AtV P w T ⟨b, off, none⟩ (.agg cs'.toArray) :=
  AtV.agg ht rfl fun j v hj => ho.cell i hi (off + j) (sub_get hcs hj)
theorem o_putAt (i : Nat) {T : TypeId} {b off : Nat} {cs new : List Value} {E : TypeId} (ho : OwnS S w0 w L) (hi : L[i]? = some (.cells b cs E)) (hs : (P.info? T).map (·.size) = some new.length) (hv : ∀ v ∈ new, v.oneCell' = true) (hl : off + new.length ≤ cs.length)
    (k : ∀ w', OwnS S w0 w' (L.set i (.cells b (cs.take off ++ new ++ cs.drop (off + new.length)) E)) → K undef w') : DoX P (mStore T (.pointer (some ⟨b, off, none⟩)) (.agg new.toArray)) w PK K := by
  have hr := run_store_in (P := P) (T := T) (g := b) (off := off) (cur := cs.toArray) (E := E) (u := .agg new.toArray) (new := new) rfl hs hv (ho.at_ i hi) (by simpa using hl)
  refine do_skip (mu_run hr) (k _ ?_)
  have e : (cs.toArray.toList.take off ++ new ++ cs.toArray.toList.drop (off + new.length)).toArray = (cs.take off ++ new ++ cs.drop (off + new.length)).toArray := by simp
  rw [e]
  exact setRow_own ho i hi _
theorem mem_urow {M N : Mem} {T : TypeId} {sz : Nat} {v : Value} {n : Nat} {xs : List Value} (hw : N.w = w) (hb : ∀ b, (Ent.urow T sz v n xs).blk b → N.A b) (h : (Ent.urow T sz v n xs).is w) : SlA N.A N.w v sz n xs := by
  rw [hw]
  refine ⟨Sl.urow h, fun p l c e hn => hb _ ?_, fun a l c e => ?_⟩
  · rcases (show w.ownsRow 0 T sz v n xs from h).2 with ⟨rfl, h0⟩ | ⟨g, cap, cur, rfl, _⟩
    · cases e
    · injection e with e1 _ _
      injection e1 with e1
      rw [← e1]; rfl
  · rcases (show w.ownsRow 0 T sz v n xs from h).2 with ⟨rfl, h0⟩ | ⟨g, cap, cur, rfl, _, _, hnc, _⟩
    · injection e with _ e2 e3; omega
    · injection e with _ e2 e3; omega
theorem OwnS.freezeU {M : Mem} {T : TypeId} {sz : Nat} {v : Value} {n : Nat} {xs : List Value} (ho : OwnS S w0 w (.urow T sz v n xs :: L)) (i : Nat) (hi : L[i]? = some (.mem M)) :
    ∃ N : Mem, M.le N ∧ SlA N.A N.w v sz n xs ∧ OwnS S w0 w (L.set i (.mem N)) := by
  have h := ho.at_ 0 rfl
  obtain ⟨N, h1, h2, h3, h4⟩ := ho.freeze i hi
  exact ⟨N, h1, mem_urow (M := M) h2 h3 h, h4⟩
end
end Eng
end Go.Proofs.YtiklhhdohckfiaaGreatDoor
namespace Go.Proofs.YtiklhhdohckfiaaGreatDoor
set_option linter.unusedVariables false
set_option linter.unusedSimpArgs false
set_option linter.defProp false
set_option linter.unusedVariables false
set_option maxRecDepth 20000
open Eng

def S_label_may (t0 t1 : Value) (w : World) (K : Ending → World → Prop) : Prop :=
 DoX Tryz.prog (mBox 90 t0) w (pk K) fun t2 w =>
 DoX Tryz.prog (mFA 90 t2 0) w (pk K) fun t5 w =>
 DoX Tryz.prog (mLoad 3 t5) w (pk K) fun t6 w =>
 DoX Tryz.prog (mBin .gtr 3 t6 t1) w (pk K) fun t8 w =>
 GDo t8 true (fun E => DoX Tryz.prog (mFA 90 t2 0) w (pk K) E) w fun t10 w =>
 GDo t8 true (fun E => DoX Tryz.prog (mLoad 3 t10) w (pk K) E) w fun t11 w =>
 GDo t8 true (fun E => DoX Tryz.prog (mBin .lss 3 t11 (.int .i64 2048)) w (pk K) E) w fun t12 w =>
 DoX Tryz.prog (mPick t8 t12 (.bool false)) w (pk K) fun t13 w =>
 GDo t13 true (fun E => DoX Tryz.prog (mFA 90 t2 1) w (pk K) E) w fun t15 w =>
 GDo t13 true (fun E => DoX Tryz.prog (mLoad 9 t15) w (pk K) E) w fun t16 w =>
 GDo t13 true (fun E => DoX Tryz.prog (mEq .eql 9 (.tmp 16) (.const (.string ⟨#[]⟩)) t16 (.string ⟨#[]⟩)) w (pk K) E) w fun t17 w =>
 GDo t13 true (fun E => E t17 w) w fun t18 w =>
 GDo t18 false (fun E => DoX Tryz.prog (mFA 90 t2 1) w (pk K) E) w fun t19 w =>
 GDo t18 false (fun E => DoX Tryz.prog (mLoad 9 t19) w (pk K) E) w fun t20 w =>
 GDo t18 false (fun E => DoX Tryz.prog (mB .len #[9] 3 #[false] #[t20]) w (pk K) E) w fun t21 w =>
 GDo t18 false (fun E => DoX Tryz.prog (mEq .eql 3 (.tmp 21) (.const (.int .i64 1)) t21 (.int .i64 1)) w (pk K) E) w fun t22 w =>
 GDo t18 false (fun E => E t22 w) w fun t23 w =>
 GDo t23 true (fun E => DoX Tryz.prog (mFA 90 t2 1) w (pk K) E) w fun t24 w =>
 GDo t23 true (fun E => DoX Tryz.prog (mLoad 9 t24) w (pk K) E) w fun t25 w =>
 GDo t23 true (fun E => CallX Tryz.prog 141 #[(.string ⟨#[68, 82, 114, 65, 97]⟩), t25] w (pk K) E) w fun t26 w =>
 GDo t18 false (fun E => DoX Tryz.prog (mPick t23 t26 (.bool false)) w (pk K) E) w fun t27 w =>
 GDo t13 true (fun E => DoX Tryz.prog (mPick t18 (.bool true) t27) w (pk K) E) w fun t28 w =>
 DoX Tryz.prog (mPick t13 t28 (.bool false)) w (pk K) fun t29 w =>
 GDo t29 true (fun E => DoX Tryz.prog (mFA 90 t2 2) w (pk K) E) w fun t31 w =>
 GDo t29 true (fun E => DoX Tryz.prog (mLoad 9 t31) w (pk K) E) w fun t32 w =>
 GDo t29 true (fun E => DoX Tryz.prog (mB .len #[9] 3 #[false] #[t32]) w (pk K) E) w fun t33 w =>
 GDo t29 true (fun E => DoX Tryz.prog (mBin .leq 3 t33 (.int .i64 255)) w (pk K) E) w fun t34 w =>
 DoX Tryz.prog (mPick t29 t34 (.bool false)) w (pk K) fun t35 w =>
 GDo t35 true (fun E => DoX Tryz.prog (mFA 90 t2 3) w (pk K) E) w fun t37 w =>
 GDo t35 true (fun E => DoX Tryz.prog (mLoad 3 t37) w (pk K) E) w fun t38 w =>
 GDo t35 true (fun E => DoX Tryz.prog (mBin .geq 3 t38 (.int .i64 1)) w (pk K) E) w fun t39 w =>
 DoX Tryz.prog (mPick t35 t39 (.bool false)) w (pk K) fun t40 w =>
 GDo t40 true (fun E => DoX Tryz.prog (mFA 90 t2 3) w (pk K) E) w fun t42 w =>
 GDo t40 true (fun E => DoX Tryz.prog (mLoad 3 t42) w (pk K) E) w fun t43 w =>
 GDo t40 true (fun E => DoX Tryz.prog (mBin .leq 3 t43 (.int .i64 2147483647)) w (pk K) E) w fun t44 w =>
 DoX Tryz.prog (mPick t40 t44 (.bool false)) w (pk K) fun t45 w =>
 K (.returned t45) w
theorem S_label_may_eq (t0 t1 : Value) (w : World) (K : Ending → World → Prop) : wpX Tryz.prog 46 [] [] none (bodyOf Tryz.f85) (topQ Tryz.prog [.tmp 4] K) (startX [t0, t1]) [] w = S_label_may t0 t1 w K := by kernel_rfl
theorem S_label_may_ok {t0 t1 : Value} {w : World} {K : Ending → World → Prop} (h : S_label_may t0 t1 w K) : Calls Tryz.prog 85 #[t0, t1] w K :=
  calls_of_wpX Tryz.func85 rfl rfl rfl rfl (Eq.mpr (S_label_may_eq t0 t1 w K) h)

def S_label_Check_0 (t3 t9 t10 t11 : Value) (w : World) (N1 : List Value → World → Prop) (K : Ending → World → Prop) : Prop :=
 DoX Tryz.prog (mBin .lss 3 t11 t10) w (pk K) fun t12 w =>
 IfX t12 (DoX Tryz.prog (mIA 46 t9 t11) w (pk K) fun t13 w =>
 DoX Tryz.prog (mLoad 90 t13) w (pk K) fun t14 w =>
 DoX Tryz.prog (mAlloc 90) w (pk K) fun t5 w =>
 DoX Tryz.prog (mStore 90 t5 t14) w (pk K) fun _ w =>
 DoX Tryz.prog (mLoad 90 t5) w (pk K) fun t15 w =>
 CallX Tryz.prog 85 #[t15, t3] w (pk K) fun t17 w =>
 DoX Tryz.prog (mUn .not t17) w (pk K) fun t18 w =>
 IfX t18 (K (.returned (.int .i64 1)) w) (DoX Tryz.prog (mFA 90 t5 0) w (pk K) fun t19 w =>
 DoX Tryz.prog (mLoad 3 t19) w (pk K) fun t20 w =>
 DoX Tryz.prog (mBin .add 3 t11 (.int .i64 1)) w (pk K) fun t21 w =>
 N1 [t20, t21] w)) (K (.returned (.int .i64 0)) w)
def S_label_Check (t0 : Value) (w : World) (K : Ending → World → Prop) : Prop :=
 DoX Tryz.prog (mB .len #[46] 3 #[false] #[t0]) w (pk K) fun t7 w =>
 DoX Tryz.prog (mBin .gtr 3 t7 (.int .i64 2048)) w (pk K) fun t8 w =>
 IfX t8 (K (.returned (.int .i64 6)) w) (DoX Tryz.prog (mB .len #[46] 3 #[false] #[t0]) w (pk K) fun t10 w =>
 LoopX [(.int .i64 (-1)), (.int .i64 0)] w (fun vs1 w N1 => ∀ _ : Sg, S_label_Check_0 (vs1.getD 0 undef) t0 t10 (vs1.getD 1 undef) w N1 K))
theorem S_label_Check_eq (t0 : Value) (w : World) (K : Ending → World → Prop) : wpX Tryz.prog 22 [] [(5, [3, 11])] none (bodyOf Tryz.f29) (topQ Tryz.prog [.tmp 2] K) (startX [t0]) [] w = S_label_Check t0 w K := by kernel_rfl
theorem S_label_Check_ok {t0 : Value} {w : World} {K : Ending → World → Prop} (h : S_label_Check t0 w K) : Calls Tryz.prog 29 #[t0] w K :=
  calls_of_wpX Tryz.func29 rfl rfl rfl rfl (Eq.mpr (S_label_Check_eq t0 w K) h)

def S_label_field (t0 t1 t2 : Value) (w : World) (K : Ending → World → Prop) : Prop :=
 DoX Tryz.prog (mBox 25 t0) w (pk K) fun t3 w =>
 DoX Tryz.prog (mAlloc 25) w (pk K) fun t6 w =>
 DoX Tryz.prog (mLoad 25 t3) w (pk K) fun t11 w =>
 CallX Tryz.prog 75 #[t11, t1] w (pk K) fun t13 w =>
 DoX Tryz.prog (mExt t13 0) w (pk K) fun t14 w =>
 DoX Tryz.prog (mExt t13 1) w (pk K) fun t15 w =>
 DoX Tryz.prog (mAlloc 25) w (pk K) fun t8 w =>
 DoX Tryz.prog (mStore 25 t8 t14) w (pk K) fun _ w =>
 HeldX w (fun S1 w =>
 HDo Tryz.prog S1 (mLoad 25 t8) fun t16 =>
 HDo Tryz.prog (fun _ => True) (mUn .not t15) fun t18 =>
 GQ t18 false (fun E => HDo Tryz.prog (fun _ => True) (mFA 25 t8 0) E) fun t20 =>
 GQ t18 false (fun E => HDo Tryz.prog S1 (mLoad 3 t20) E) fun t21 =>
 GQ t18 false (fun E => E t2) fun t22 =>
 GQ t18 false (fun E => HDo Tryz.prog (fun _ => True) (mEq .eql 3 (.tmp 21) (.tmp 22) t21 t22) E) fun t23 =>
 HDo Tryz.prog (fun _ => True) (mPick t18 (.bool true) t23) fun t24 =>
 DoX Tryz.prog (mStore 25 t6 t16) w (pm1 (pm1 (pm1 (pm1 (pm1 (pm1 (pm1 (pm1 (pm1 (pm1 (pk K))))))))))) fun _ w =>
 S1 w ∧ (RetX Tryz.prog [.cell t6 25, .val t24] w K))
theorem S_label_field_eq (t0 t1 t2 : Value) (w : World) (K : Ending → World → Prop) : wpX Tryz.prog 25 [] [] none (bodyOf Tryz.f115) (topQ Tryz.prog [.cell 6 25, .tmp 7] K) (startX [t0, t1, t2]) [] w = S_label_field t0 t1 t2 w K := by kernel_rfl
theorem S_label_field_ok {t0 t1 t2 : Value} {w : World} {K : Ending → World → Prop} (h : S_label_field t0 t1 t2 w K) : Calls Tryz.prog 115 #[t0, t1, t2] w K :=
  calls_of_wpX Tryz.func115 rfl rfl rfl rfl (Eq.mpr (S_label_field_eq t0 t1 t2 w K) h)

def S_label_one_0 (t4 t6 t8 t10 t12 t14 t15 : Value) (w : World) (K : Ending → World → Prop) : Prop :=
 DoX Tryz.prog (mLoad 90 t15) w (pk K) fun t47 w =>
 DoX Tryz.prog (mFA 25 t4 0) w (pk K) fun t48 w =>
 DoX Tryz.prog (mLoad 3 t48) w (pk K) fun t49 w =>
 DoX Tryz.prog (mEq .eql 3 (.tmp 49) (.const (.int .i64 2)) t49 (.int .i64 2)) w (pk K) fun t50 w =>
 GDo t50 true (fun E => DoX Tryz.prog (mFA 25 t8 0) w (pk K) E) w fun t52 w =>
 GDo t50 true (fun E => DoX Tryz.prog (mLoad 3 t52) w (pk K) E) w fun t53 w =>
 GDo t50 true (fun E => DoX Tryz.prog (mEq .eql 3 (.tmp 53) (.const (.int .i64 7)) t53 (.int .i64 7)) w (pk K) E) w fun t54 w =>
 DoX Tryz.prog (mPick t50 t54 (.bool false)) w (pk K) fun t55 w =>
 GDo t55 true (fun E => E t10 w) w fun t57 w =>
 DoX Tryz.prog (mPick t55 t57 (.bool false)) w (pk K) fun t58 w =>
 GDo t58 true (fun E => E t12 w) w fun t60 w =>
 DoX Tryz.prog (mPick t58 t60 (.bool false)) w (pk K) fun t61 w =>
 GDo t61 true (fun E => E t14 w) w fun t63 w =>
 DoX Tryz.prog (mPick t61 t63 (.bool false)) w (pk K) fun t64 w =>
 DoX Tryz.prog (mStore 90 t6 t47) w (pk K) fun _ w =>
 RetX Tryz.prog [.cell t6 90, .val t64] w K
def S_label_one (t0 t1 t2 : Value) (w : World) (K : Ending → World → Prop) : Prop :=
 DoX Tryz.prog (mBox 44 t0) w (pk K) fun t3 w =>
 DoX Tryz.prog (mBox 25 t1) w (pk K) fun t4 w =>
 DoX Tryz.prog (mBox 25 t2) w (pk K) fun t5 w =>
 DoX Tryz.prog (mAlloc 90) w (pk K) fun t6 w =>
 DoX Tryz.prog (mLoad 44 t3) w (pk K) fun t16 w =>
 DoX Tryz.prog (mLoad 25 t5) w (pk K) fun t17 w =>
 CallX Tryz.prog 114 #[t16, t17] w (pk K) fun t18 w =>
 DoX Tryz.prog (mAlloc 25) w (pk K) fun t8 w =>
 DoX Tryz.prog (mStore 25 t8 t18) w (pk K) fun _ w =>
 DoX Tryz.prog (mLoad 25 t8) w (pk K) fun t20 w =>
 CallX Tryz.prog 115 #[t20, (.string ⟨#[83]⟩), (.int .i64 5)] w (pk K) fun t21 w =>
 DoX Tryz.prog (mExt t21 0) w (pk K) fun t22 w =>
 DoX Tryz.prog (mExt t21 1) w (pk K) fun t23 w =>
 DoX Tryz.prog (mAlloc 25) w (pk K) fun t9 w =>
 DoX Tryz.prog (mStore 25 t9 t22) w (pk K) fun _ w =>
 DoX Tryz.prog (mLoad 25 t8) w (pk K) fun t25 w =>
 CallX Tryz.prog 115 #[t25, (.string ⟨#[80]⟩), (.int .i64 4)] w (pk K) fun t26 w =>
 DoX Tryz.prog (mExt t26 0) w (pk K) fun t27 w =>
 DoX Tryz.prog (mExt t26 1) w (pk K) fun t28 w =>
 DoX Tryz.prog (mAlloc 25) w (pk K) fun t11 w =>
 DoX Tryz.prog (mStore 25 t11 t27) w (pk K) fun _ w =>
 DoX Tryz.prog (mLoad 25 t8) w (pk K) fun t30 w =>
 CallX Tryz.prog 115 #[t30, (.string ⟨#[83, 116]⟩), (.int .i64 2)] w (pk K) fun t31 w =>
 DoX Tryz.prog (mExt t31 0) w (pk K) fun t32 w =>
 DoX Tryz.prog (mExt t31 1) w (pk K) fun t33 w =>
 DoX Tryz.prog (mAlloc 25) w (pk K) fun t13 w =>
 DoX Tryz.prog (mStore 25 t13 t32) w (pk K) fun _ w =>
 DoX Tryz.prog (mFA 25 t4 1) w (pk K) fun t34 w =>
 DoX Tryz.prog (mLoad 2 t34) w (pk K) fun t35 w =>
 DoX Tryz.prog (mFA 25 t9 3) w (pk K) fun t36 w =>
 DoX Tryz.prog (mLoad 9 t36) w (pk K) fun t37 w =>
 DoX Tryz.prog (mFA 25 t11 3) w (pk K) fun t38 w =>
 DoX Tryz.prog (mLoad 9 t38) w (pk K) fun t39 w =>
 DoX Tryz.prog (mBuild 90 #[(0, t35), (1, t37), (2, t39), (3, (.int .i64 1))]) w (pk K) fun t40 w =>
 DoX Tryz.prog (mAlloc 90) w (pk K) fun t15 w =>
 DoX Tryz.prog (mStore 90 t15 t40) w (pk K) fun _ w =>
 JoinX (fun J1 =>
 DoX Tryz.prog (mFA 25 t13 0) w (pk K) fun t41 w =>
 DoX Tryz.prog (mLoad 3 t41) w (pk K) fun t42 w =>
 DoX Tryz.prog (mEq .eql 3 (.tmp 42) (.const (.int .i64 2)) t42 (.int .i64 2)) w (pk K) fun t43 w =>
 IfX t43 (DoX Tryz.prog (mFA 25 t13 1) w (pk K) fun t44 w =>
 DoX Tryz.prog (mLoad 2 t44) w (pk K) fun t45 w =>
 DoX Tryz.prog (mFA 90 t15 3) w (pk K) fun t46 w =>
 DoX Tryz.prog (mStore 3 t46 t45) w (pk K) fun _ w =>
 J1 [] w) (J1 [] w)) (fun vs1 w => ∀ _ : Sg, S_label_one_0 t4 t6 t8 t23 t28 t33 t15 w K)
theorem S_label_one_eq (t0 t1 t2 : Value) (w : World) (K : Ending → World → Prop) : wpX Tryz.prog 65 [(8, [])] [] none (bodyOf Tryz.f63) (topQ Tryz.prog [.cell 6 90, .tmp 7] K) (startX [t0, t1, t2]) [] w = S_label_one t0 t1 t2 w K := by kernel_rfl
theorem S_label_one_ok {t0 t1 t2 : Value} {w : World} {K : Ending → World → Prop} (h : S_label_one t0 t1 t2 w K) : Calls Tryz.prog 63 #[t0, t1, t2] w K :=
  calls_of_wpX Tryz.func63 rfl rfl rfl rfl (Eq.mpr (S_label_one_eq t0 t1 t2 w K) h)

def S_label_Read_1 (t7 t8 t9 t10 : Value) (w : World) (N1 : List Value → World → Prop) (K : Ending → World → Prop) : Prop :=
 DoX Tryz.prog (mUn .not t10) w (pk K) fun t67 w =>
 IfX t67 (K (.returned (.tuple #[(.slice none 0 0), (.int .i64 3)])) w) (DoX Tryz.prog (mLoad 90 t9) w (pk K) fun t69 w =>
 DoX Tryz.prog (mBuildS 46 1 #[(0, t69)]) w (pk K) fun t70 w =>
 DoX Tryz.prog (mB .append #[46, 46] 46 #[false, false] #[t7, t70]) w (pk K) fun t71 w =>
 DoX Tryz.prog (mBin .add 3 t8 (.int .i64 2)) w (pk K) fun t49 w =>
 N1 [t71, t49] w)
def S_label_Read_0 (t1 t6 t7 t8 : Value) (w : World) (N1 : List Value → World → Prop) (K : Ending → World → Prop) : Prop :=
 DoX Tryz.prog (mFA 25 t6 5) w (pk K) fun t44 w =>
 DoX Tryz.prog (mLoad 23 t44) w (pk K) fun t45 w =>
 DoX Tryz.prog (mB .len #[23] 3 #[false] #[t45]) w (pk K) fun t46 w =>
 DoX Tryz.prog (mBin .lss 3 t8 t46) w (pk K) fun t47 w =>
 IfX t47 (HeldX w (fun S2 w =>
 HDo Tryz.prog S2 (mLoad 44 t1) fun t51 =>
 HDo Tryz.prog (fun _ => True) (mFA 25 t6 5) fun t52 =>
 HDo Tryz.prog S2 (mLoad 23 t52) fun t53 =>
 HDo Tryz.prog (fun _ => True) (mIA 23 t53 t8) fun t55 =>
 HDo Tryz.prog S2 (mLoad 25 t55) fun t56 =>
 HDo Tryz.prog (fun _ => True) (mFA 25 t6 5) fun t57 =>
 HDo Tryz.prog S2 (mLoad 23 t57) fun t58 =>
 HDo Tryz.prog (fun _ => True) (mBin .add 3 t8 (.int .i64 1)) fun t60 =>
 HDo Tryz.prog (fun _ => True) (mIA 23 t58 t60) fun t61 =>
 HDo Tryz.prog S2 (mLoad 25 t61) fun t62 =>
 (CallX Tryz.prog 63 #[t51, t56, t62] w (pm1 (pm1 (pm1 (pm1 (pm1 (pm1 (pm1 (pm1 (pm1 (pm1 (pm1 (pm1 (pm1 (pm1 (pm1 (pm1 (pk K))))))))))))))))) fun t63 w =>
 S2 w ∧ (HDo Tryz.prog (fun _ => True) (mExt t63 0) fun t64 =>
 HDo Tryz.prog (fun _ => True) (mExt t63 1) fun t65 =>
 DoX Tryz.prog (mAlloc 90) w (pm1 (pm1 (pm1 (pm1 (pm1 (pm1 (pm1 (pm1 (pm1 (pm1 (pm1 (pm1 (pm1 (pm1 (pm1 (pm1 (pk K))))))))))))))))) fun t9 w =>
 S2 w ∧ (DoX Tryz.prog (mStore 90 t9 t64) w (pm1 (pm1 (pm1 (pm1 (pm1 (pm1 (pm1 (pm1 (pm1 (pm1 (pm1 (pm1 (pm1 (pm1 (pm1 (pm1 (pk K))))))))))))))))) fun _ w =>
 (S_label_Read_1 t7 t8 t9 t65 w N1 K)))) ∧ (DoX Tryz.prog (mAlloc 90) w (pm1 (pm1 (pm1 (pm1 (pm1 (pm1 (pm1 (pm1 (pm1 (pm1 (pm1 (pm1 (pm1 (pm1 (pm1 (pm1 (pk K))))))))))))))))) fun t9_1 w =>
 S2 w ∧ (CallX Tryz.prog 63 #[t51, t56, t62] w (pm1 (pm1 (pm1 (pm1 (pm1 (pm1 (pm1 (pm1 (pm1 (pm1 (pm1 (pm1 (pm1 (pm1 (pm1 (pm1 (pk K))))))))))))))))) fun t63_1 w =>
 S2 w ∧ (HDo Tryz.prog (fun _ => True) (mExt t63_1 0) fun t64_1 =>
 HDo Tryz.prog (fun _ => True) (mExt t63_1 1) fun t65_1 =>
 DoX Tryz.prog (mStore 90 t9_1 t64_1) w (pm1 (pm1 (pm1 (pm1 (pm1 (pm1 (pm1 (pm1 (pm1 (pm1 (pm1 (pm1 (pm1 (pm1 (pm1 (pm1 (pk K))))))))))))))))) fun _ w =>
 (S_label_Read_1 t7 t8 t9_1 t65_1 w N1 K)))))) (CallX Tryz.prog 29 #[t7] w (pk K) fun t73 w =>
 DoX Tryz.prog (mEq .neq 28 (.tmp 73) (.const (.int .i64 0)) t73 (.int .i64 0)) w (pk K) fun t74 w =>
 IfX t74 (K (.returned (.tuple #[(.slice none 0 0), (.int .i64 3)])) w) (K (.returned (.tuple #[t7, (.int .i64 0)])) w))
def S_label_Read (t0 : Value) (w : World) (K : Ending → World → Prop) : Prop :=
 DoX Tryz.prog (mBox 44 t0) w (pk K) fun t1 w =>
 DoX Tryz.prog (mLoad 44 t1) w (pk K) fun t11 w =>
 CallX Tryz.prog 61 #[t11] w (pk K) fun t12 w =>
 DoX Tryz.prog (mEq .neq 28 (.tmp 13) (.const (.int .i64 0)) t12 (.int .i64 0)) w (pk K) fun t14 w =>
 IfX t14 (K (.returned (.tuple #[(.slice none 0 0), t12])) w) (DoX Tryz.prog (mLoad 44 t1) w (pk K) fun t16 w =>
 DoX Tryz.prog (mFA 44 t1 1) w (pk K) fun t17 w =>
 DoX Tryz.prog (mLoad 25 t17) w (pk K) fun t18 w =>
 DoX Tryz.prog (mBuildS 22 2 #[(0, (.string ⟨#[82, 111, 111, 116]⟩)), (1, (.string ⟨#[80, 97, 103, 101, 76, 97, 98, 101, 108, 115]⟩))]) w (pk K) fun t19 w =>
 CallX Tryz.prog 62 #[t16, t18, t19] w (pk K) fun t20 w =>
 DoX Tryz.prog (mAlloc 25) w (pk K) fun t5 w =>
 DoX Tryz.prog (mStore 25 t5 t20) w (pk K) fun _ w =>
 DoX Tryz.prog (mFA 25 t5 0) w (pk K) fun t21 w =>
 DoX Tryz.prog (mLoad 3 t21) w (pk K) fun t22 w =>
 DoX Tryz.prog (mEq .eql 3 (.tmp 22) (.const (.int .i64 0)) t22 (.int .i64 0)) w (pk K) fun t23 w =>
 IfX t23 (K (.returned (.tuple #[(.slice none 0 0), (.int .i64 0)])) w) (DoX Tryz.prog (mLoad 44 t1) w (pk K) fun t24 w =>
 DoX Tryz.prog (mLoad 25 t5) w (pk K) fun t25 w =>
 DoX Tryz.prog (mBuildS 22 1 #[(0, (.string ⟨#[78, 117, 109, 115]⟩))]) w (pk K) fun t26 w =>
 CallX Tryz.prog 62 #[t24, t25, t26] w (pk K) fun t27 w =>
 DoX Tryz.prog (mAlloc 25) w (pk K) fun t6 w =>
 DoX Tryz.prog (mStore 25 t6 t27) w (pk K) fun _ w =>
 DoX Tryz.prog (mFA 25 t5 0) w (pk K) fun t28 w =>
 DoX Tryz.prog (mLoad 3 t28) w (pk K) fun t29 w =>
 DoX Tryz.prog (mEq .neq 3 (.tmp 29) (.const (.int .i64 7)) t29 (.int .i64 7)) w (pk K) fun t30 w =>
 GDo t30 false (fun E => DoX Tryz.prog (mFA 25 t6 0) w (pk K) E) w fun t32 w =>
 GDo t30 false (fun E => DoX Tryz.prog (mLoad 3 t32) w (pk K) E) w fun t33 w =>
 GDo t30 false (fun E => DoX Tryz.prog (mEq .neq 3 (.tmp 33) (.const (.int .i64 6)) t33 (.int .i64 6)) w (pk K) E) w fun t34 w =>
 DoX Tryz.prog (mPick t30 (.bool true) t34) w (pk K) fun t35 w =>
 GDo t35 false (fun E => DoX Tryz.prog (mFA 25 t6 5) w (pk K) E) w fun t37 w =>
 GDo t35 false (fun E => DoX Tryz.prog (mLoad 23 t37) w (pk K) E) w fun t38 w =>
 GDo t35 false (fun E => DoX Tryz.prog (mB .len #[23] 3 #[false] #[t38]) w (pk K) E) w fun t39 w =>
 GDo t35 false (fun E => DoX Tryz.prog (mBin .rem 3 t39 (.int .i64 2)) w (pk K) E) w fun t40 w =>
 GDo t35 false (fun E => DoX Tryz.prog (mEq .neq 3 (.tmp 40) (.const (.int .i64 0)) t40 (.int .i64 0)) w (pk K) E) w fun t41 w =>
 DoX Tryz.prog (mPick t35 (.bool true) t41) w (pk K) fun t42 w =>
 IfX t42 (K (.returned (.tuple #[(.slice none 0 0), (.int .i64 3)])) w) (LoopX [(.slice none 0 0), (.int .i64 0)] w (fun vs1 w N1 => ∀ _ : Sg, S_label_Read_0 t1 t6 (vs1.getD 0 undef) (vs1.getD 1 undef) w N1 K))))
theorem S_label_Read_eq (t0 : Value) (w : World) (K : Ending → World → Prop) : wpX Tryz.prog 76 [] [(12, [7, 8])] none (bodyOf Tryz.f22) (topQ Tryz.prog [.tmp 2, .tmp 3] K) (startX [t0]) [] w = S_label_Read t0 w K := by kernel_rfl
theorem S_label_Read_ok {t0 : Value} {w : World} {K : Ending → World → Prop} (h : S_label_Read t0 w K) : Calls Tryz.prog 22 #[t0] w K :=
  calls_of_wpX Tryz.func22 rfl rfl rfl rfl (Eq.mpr (S_label_Read_eq t0 w K) h)

def S_label_told_2 (t2 t3 : Value) (w : World) (K : Ending → World → Prop) : Prop :=
 CallX Tryz.prog 72 #[t3] w (pk K) fun t38 w =>
 DoX Tryz.prog (mExt t38 0) w (pk K) fun t39 w =>
 DoX Tryz.prog (mExt t38 1) w (pk K) fun t40 w =>
 DoX Tryz.prog (mAlloc 25) w (pk K) fun t4 w =>
 DoX Tryz.prog (mStore 25 t4 t39) w (pk K) fun _ w =>
 DoX Tryz.prog (mLoad 25 t4) w (pk K) fun t41 w =>
 DoX Tryz.prog (mStore 25 t2 t41) w (pk K) fun _ w =>
 RetX Tryz.prog [.cell t2 25] w K
def S_label_told_1 (t1 t2 t3 : Value) (w : World) (K : Ending → World → Prop) : Prop :=
 JoinX (fun J5 =>
 DoX Tryz.prog (mFA 90 t1 3) w (pk K) fun t26 w =>
 DoX Tryz.prog (mLoad 3 t26) w (pk K) fun t27 w =>
 DoX Tryz.prog (mEq .neq 3 (.tmp 27) (.const (.int .i64 1)) t27 (.int .i64 1)) w (pk K) fun t28 w =>
 IfX t28 (QuietX w (fun C6 =>
 QCall Tryz.prog C6 73 #[(.string ⟨#[83, 116]⟩)] fun t30 =>
 QDo Tryz.prog C6 (mFA 90 t1 3) fun t31 =>
 QDo Tryz.prog C6 (mLoad 3 t31) fun t32 =>
 QCall Tryz.prog C6 70 #[t32] fun t33 =>
 ∀ w, C6 w →
 DoX Tryz.prog (mBuildS 23 2 #[(0, t30), (1, t33)]) w (pm1 (pk K)) fun t34 w =>
 DoX Tryz.prog (mB .append #[23, 23] 23 #[false, false] #[t3, t34]) w (pm1 (pk K)) fun t35 w =>
 J5 [t35] w)) (J5 [t3] w)) (fun vs5 w => ∀ _ : Sg, S_label_told_2 t2 (vs5.getD 0 undef) w K)
def S_label_told_0 (t1 t2 t3 : Value) (w : World) (K : Ending → World → Prop) : Prop :=
 JoinX (fun J3 =>
 DoX Tryz.prog (mFA 90 t1 2) w (pk K) fun t16 w =>
 DoX Tryz.prog (mLoad 9 t16) w (pk K) fun t17 w =>
 DoX Tryz.prog (mEq .neq 9 (.tmp 17) (.const (.string ⟨#[]⟩)) t17 (.string ⟨#[]⟩)) w (pk K) fun t18 w =>
 IfX t18 (QuietX w (fun C4 =>
 QCall Tryz.prog C4 73 #[(.string ⟨#[80]⟩)] fun t20 =>
 QDo Tryz.prog C4 (mFA 90 t1 2) fun t21 =>
 QDo Tryz.prog C4 (mLoad 9 t21) fun t22 =>
 QCall Tryz.prog C4 118 #[t22] fun t23 =>
 ∀ w, C4 w →
 DoX Tryz.prog (mBuildS 23 2 #[(0, t20), (1, t23)]) w (pm1 (pk K)) fun t24 w =>
 DoX Tryz.prog (mB .append #[23, 23] 23 #[false, false] #[t3, t24]) w (pm1 (pk K)) fun t25 w =>
 J3 [t25] w)) (J3 [t3] w)) (fun vs3 w => ∀ _ : Sg, S_label_told_1 t1 t2 (vs3.getD 0 undef) w K)
def S_label_told (t0 : Value) (w : World) (K : Ending → World → Prop) : Prop :=
 DoX Tryz.prog (mBox 90 t0) w (pk K) fun t1 w =>
 DoX Tryz.prog (mAlloc 25) w (pk K) fun t2 w =>
 JoinX (fun J1 =>
 DoX Tryz.prog (mFA 90 t1 1) w (pk K) fun t6 w =>
 DoX Tryz.prog (mLoad 9 t6) w (pk K) fun t7 w =>
 DoX Tryz.prog (mEq .neq 9 (.tmp 7) (.const (.string ⟨#[]⟩)) t7 (.string ⟨#[]⟩)) w (pk K) fun t8 w =>
 IfX t8 (QuietX w (fun C2 =>
 QCall Tryz.prog C2 73 #[(.string ⟨#[83]⟩)] fun t10 =>
 QDo Tryz.prog C2 (mFA 90 t1 1) fun t11 =>
 QDo Tryz.prog C2 (mLoad 9 t11) fun t12 =>
 QCall Tryz.prog C2 73 #[t12] fun t13 =>
 ∀ w, C2 w →
 DoX Tryz.prog (mBuildS 23 2 #[(0, t10), (1, t13)]) w (pm1 (pk K)) fun t14 w =>
 DoX Tryz.prog (mB .append #[23, 23] 23 #[false, false] #[(.slice none 0 0), t14]) w (pm1 (pk K)) fun t15 w =>
 J1 [t15] w)) (J1 [(.slice none 0 0)] w)) (fun vs1 w => ∀ _ : Sg, S_label_told_0 t1 t2 (vs1.getD 0 undef) w K)
theorem S_label_told_eq (t0 : Value) (w : World) (K : Ending → World → Prop) : wpX Tryz.prog 42 [(4, [3]), (6, [3]), (8, [3])] [] none (bodyOf Tryz.f71) (topQ Tryz.prog [.cell 2 25] K) (startX [t0]) [] w = S_label_told t0 w K := by kernel_rfl
theorem S_label_told_ok {t0 : Value} {w : World} {K : Ending → World → Prop} (h : S_label_told t0 w K) : Calls Tryz.prog 71 #[t0] w K :=
  calls_of_wpX Tryz.func71 rfl rfl rfl rfl (Eq.mpr (S_label_told_eq t0 w K) h)

def S_label_Set_1 (t2 t4 t8 : Value) (w : World) (K : Ending → World → Prop) : Prop :=
 DoX Tryz.prog (mFA 44 t2 1) w (pk K) fun t58 w =>
 DoX Tryz.prog (mLoad 25 t58) w (pk K) fun t59 w =>
 CallX Tryz.prog 75 #[t59, (.string ⟨#[82, 111, 111, 116]⟩)] w (pk K) fun t60 w =>
 DoX Tryz.prog (mExt t60 0) w (pk K) fun t61 w =>
 DoX Tryz.prog (mExt t60 1) w (pk K) fun t62 w =>
 DoX Tryz.prog (mAlloc 25) w (pk K) fun t12 w =>
 DoX Tryz.prog (mStore 25 t12 t61) w (pk K) fun _ w =>
 DoX Tryz.prog (mLoad 44 t2) w (pk K) fun t64 w =>
 DoX Tryz.prog (mFA 25 t12 1) w (pk K) fun t65 w =>
 DoX Tryz.prog (mLoad 2 t65) w (pk K) fun t66 w =>
 CallX Tryz.prog 76 #[t64, t66] w (pk K) fun t67 w =>
 DoX Tryz.prog (mExt t67 0) w (pk K) fun t68 w =>
 DoX Tryz.prog (mExt t67 1) w (pk K) fun t69 w =>
 DoX Tryz.prog (mAlloc 102) w (pk K) fun t14 w =>
 DoX Tryz.prog (mStore 102 t14 t68) w (pk K) fun _ w =>
 DoX Tryz.prog (mFA 102 t14 2) w (pk K) fun t71 w =>
 DoX Tryz.prog (mLoad 25 t71) w (pk K) fun t72 w =>
 DoX Tryz.prog (mLoad 25 t8) w (pk K) fun t73 w =>
 CallX Tryz.prog 77 #[t72, (.string ⟨#[80, 97, 103, 101, 76, 97, 98, 101, 108, 115]⟩), t73] w (pk K) fun t74 w =>
 DoX Tryz.prog (mExt t74 0) w (pk K) fun t75 w =>
 DoX Tryz.prog (mExt t74 1) w (pk K) fun t76 w =>
 DoX Tryz.prog (mAlloc 25) w (pk K) fun t16 w =>
 DoX Tryz.prog (mStore 25 t16 t75) w (pk K) fun _ w =>
 DoX Tryz.prog (mEq .neq 28 (.tmp 77) (.const (.int .i64 0)) t76 (.int .i64 0)) w (pk K) fun t78 w =>
 IfX t78 (DoX Tryz.prog (mBuild 44 #[]) w (pk K) fun t79 w =>
 DoX Tryz.prog (mStore 44 t4 t79) w (pk K) fun _ w =>
 RetX Tryz.prog [.cell t4 44, .val t76] w K) (DoX Tryz.prog (mLoad 25 t16) w (pk K) fun t81 w =>
 DoX Tryz.prog (mFA 102 t14 2) w (pk K) fun t82 w =>
 DoX Tryz.prog (mStore 25 t82 t81) w (pk K) fun _ w =>
 DoX Tryz.prog (mLoad 44 t2) w (pk K) fun t83 w =>
 DoX Tryz.prog (mLoad 102 t14) w (pk K) fun t84 w =>
 CallX Tryz.prog 78 #[t83, t84] w (pk K) fun t85 w =>
 DoX Tryz.prog (mExt t85 0) w (pk K) fun t86 w =>
 DoX Tryz.prog (mExt t85 1) w (pk K) fun t87 w =>
 DoX Tryz.prog (mStore 44 t4 t86) w (pk K) fun _ w =>
 RetX Tryz.prog [.cell t4 44, .val t87] w K)
def S_label_Set_0 (t8 t9 t34 t35 t36 : Value) (w : World) (J1 N2 : List Value → World → Prop) (K : Ending → World → Prop) : Prop :=
 DoX Tryz.prog (mBin .lss 3 t36 t35) w (pk K) fun t37 w =>
 IfX t37 (DoX Tryz.prog (mIA 46 t34 t36) w (pk K) fun t38 w =>
 DoX Tryz.prog (mLoad 90 t38) w (pk K) fun t39 w =>
 DoX Tryz.prog (mAlloc 90) w (pk K) fun t11 w =>
 DoX Tryz.prog (mStore 90 t11 t39) w (pk K) fun _ w =>
 QuietX w (fun C3 =>
 QDo Tryz.prog C3 (mFA 90 t11 0) fun t41 =>
 QDo Tryz.prog C3 (mLoad 3 t41) fun t42 =>
 QCall Tryz.prog C3 70 #[t42] fun t43 =>
 QDo Tryz.prog C3 (mLoad 90 t11) fun t44 =>
 ∀ w, C3 w →
 CallX Tryz.prog 71 #[t44] w (pm1 (pk K)) fun t45 w =>
 DoX Tryz.prog (mBuildS 23 2 #[(0, t43), (1, t45)]) w (pm1 (pk K)) fun t46 w =>
 DoX Tryz.prog (mB .append #[23, 23] 23 #[false, false] #[t9, t46]) w (pm1 (pk K)) fun t47 w =>
 DoX Tryz.prog (mBin .add 3 t36 (.int .i64 1)) w (pk K) fun t48 w =>
 N2 [t47, t48] w)) (CallX Tryz.prog 73 #[(.string ⟨#[78, 117, 109, 115]⟩)] w (pk K) fun t50 w =>
 CallX Tryz.prog 74 #[t9] w (pk K) fun t52 w =>
 DoX Tryz.prog (mBuildS 23 2 #[(0, t50), (1, t52)]) w (pk K) fun t53 w =>
 CallX Tryz.prog 72 #[t53] w (pk K) fun t54 w =>
 DoX Tryz.prog (mExt t54 0) w (pk K) fun t55 w =>
 DoX Tryz.prog (mExt t54 1) w (pk K) fun t56 w =>
 DoX Tryz.prog (mStore 25 t8 t55) w (pk K) fun _ w =>
 J1 [] w)
def S_label_Set (t0 t1 : Value) (w : World) (K : Ending → World → Prop) : Prop :=
 DoX Tryz.prog (mBox 44 t0) w (pk K) fun t2 w =>
 DoX Tryz.prog (mAlloc 44) w (pk K) fun t4 w =>
 DoX Tryz.prog (mLoad 44 t2) w (pk K) fun t18 w =>
 CallX Tryz.prog 61 #[t18] w (pk K) fun t19 w =>
 DoX Tryz.prog (mEq .neq 28 (.tmp 20) (.const (.int .i64 0)) t19 (.int .i64 0)) w (pk K) fun t21 w =>
 IfX t21 (DoX Tryz.prog (mBuild 44 #[]) w (pk K) fun t22 w =>
 DoX Tryz.prog (mStore 44 t4 t22) w (pk K) fun _ w =>
 RetX Tryz.prog [.cell t4 44, .val t19] w K) (CallX Tryz.prog 29 #[t1] w (pk K) fun t25 w =>
 DoX Tryz.prog (mEq .neq 28 (.tmp 26) (.const (.int .i64 0)) t25 (.int .i64 0)) w (pk K) fun t27 w =>
 IfX t27 (DoX Tryz.prog (mBuild 44 #[]) w (pk K) fun t28 w =>
 DoX Tryz.prog (mStore 44 t4 t28) w (pk K) fun _ w =>
 RetX Tryz.prog [.cell t4 44, .val t25] w K) (CallX Tryz.prog 69 #[] w (pk K) fun t30 w =>
 DoX Tryz.prog (mAlloc 25) w (pk K) fun t8 w =>
 DoX Tryz.prog (mStore 25 t8 t30) w (pk K) fun _ w =>
 JoinX (fun J1 =>
 DoX Tryz.prog (mB .len #[46] 3 #[false] #[t1]) w (pk K) fun t32 w =>
 DoX Tryz.prog (mBin .gtr 3 t32 (.int .i64 0)) w (pk K) fun t33 w =>
 IfX t33 (DoX Tryz.prog (mB .len #[46] 3 #[false] #[t1]) w (pk K) fun t35 w =>
 LoopX [(.slice none 0 0), (.int .i64 0)] w (fun vs2 w N2 => ∀ _ : Sg, S_label_Set_0 t8 (vs2.getD 0 undef) t1 t35 (vs2.getD 1 undef) w J1 N2 K)) (J1 [] w)) (fun vs1 w => ∀ _ : Sg, S_label_Set_1 t2 t4 t8 w K)))
theorem S_label_Set_eq (t0 t1 : Value) (w : World) (K : Ending → World → Prop) : wpX Tryz.prog 88 [(16, [])] [(11, [9, 36])] none (bodyOf Tryz.f26) (topQ Tryz.prog [.cell 4 44, .tmp 5] K) (startX [t0, t1]) [] w = S_label_Set t0 t1 w K := by kernel_rfl
theorem S_label_Set_ok {t0 t1 : Value} {w : World} {K : Ending → World → Prop} (h : S_label_Set t0 t1 w K) : Calls Tryz.prog 26 #[t0, t1] w K :=
  calls_of_wpX Tryz.func26 rfl rfl rfl rfl (Eq.mpr (S_label_Set_eq t0 t1 w K) h)

def S_label_digits (t0 : Value) (w : World) (K : Ending → World → Prop) : Prop :=
 CallX Tryz.prog 142 #[t0] w (pk K) fun t7 w =>
 DoX Tryz.prog (mExt t7 0) w (pk K) fun t8 w =>
 DoX Tryz.prog (mExt t7 1) w (pk K) fun t9 w =>
 DoX Tryz.prog (mEq .eql 28 (.tmp 10) (.const (.int .i64 0)) t9 (.int .i64 0)) w (pk K) fun t11 w =>
 IfX t11 (K (.returned t8) w) (DoX Tryz.prog (mBin .quo 3 t0 (.int .i64 10)) w (pk K) fun t14 w =>
 CallX Tryz.prog 87 #[t14] w (pk K) fun t15 w =>
 DoX Tryz.prog (mBin .rem 3 t0 (.int .i64 10)) w (pk K) fun t17 w =>
 CallX Tryz.prog 87 #[t17] w (pk K) fun t18 w =>
 DoX Tryz.prog (mBin .add 9 t15 t18) w (pk K) fun t19 w =>
 K (.returned t19) w)
theorem S_label_digits_eq (t0 : Value) (w : World) (K : Ending → World → Prop) : wpX Tryz.prog 20 [] [] none (bodyOf Tryz.f87) (topQ Tryz.prog [.tmp 2] K) (startX [t0]) [] w = S_label_digits t0 w K := by kernel_rfl
theorem S_label_digits_ok {t0 : Value} {w : World} {K : Ending → World → Prop} (h : S_label_digits t0 w K) : Calls Tryz.prog 87 #[t0] w K :=
  calls_of_wpX Tryz.func87 rfl rfl rfl rfl (Eq.mpr (S_label_digits_eq t0 w K) h)

def S_label_either (t0 t1 : Value) (w : World) (K : Ending → World → Prop) : Prop :=
 DoX Tryz.prog (mEq .eql 9 (.tmp 5) (.const (.string ⟨#[]⟩)) t0 (.string ⟨#[]⟩)) w (pk K) fun t6 w =>
 IfX t6 (CallX Tryz.prog 87 #[t1] w (pk K) fun t8 w =>
 K (.returned t8) w) (K (.returned t0) w)
theorem S_label_either_eq (t0 t1 : Value) (w : World) (K : Ending → World → Prop) : wpX Tryz.prog 10 [] [] none (bodyOf Tryz.f88) (topQ Tryz.prog [.tmp 4] K) (startX [t0, t1]) [] w = S_label_either t0 t1 w K := by kernel_rfl
theorem S_label_either_ok {t0 t1 : Value} {w : World} {K : Ending → World → Prop} (h : S_label_either t0 t1 w K) : Calls Tryz.prog 88 #[t0, t1] w K :=
  calls_of_wpX Tryz.func88 rfl rfl rfl rfl (Eq.mpr (S_label_either_eq t0 t1 w K) h)

def S_label_Text_1 (t5 t23 : Value) (w : World) (N1 : List Value → World → Prop) (K : Ending → World → Prop) : Prop :=
 DoX Tryz.prog (mBin .add 3 t23 (.int .i64 1)) w (pk K) fun t33 w =>
 N1 [t5, t33] w
def S_label_Text_0 (t0 t1 t5 t21 t22 t23 : Value) (w : World) (N1 : List Value → World → Prop) (K : Ending → World → Prop) : Prop :=
 DoX Tryz.prog (mBin .lss 3 t23 t22) w (pk K) fun t24 w =>
 IfX t24 (JoinX (fun J2 =>
 DoX Tryz.prog (mIA 46 t21 t23) w (pk K) fun t26 w =>
 DoX Tryz.prog (mLoad 90 t26) w (pk K) fun t27 w =>
 DoX Tryz.prog (mAlloc 90) w (pk K) fun t7 w =>
 DoX Tryz.prog (mStore 90 t7 t27) w (pk K) fun _ w =>
 DoX Tryz.prog (mFA 90 t7 0) w (pk K) fun t28 w =>
 DoX Tryz.prog (mLoad 3 t28) w (pk K) fun t29 w =>
 DoX Tryz.prog (mBin .leq 3 t29 t1) w (pk K) fun t31 w =>
 IfX t31 (J2 [t23] w) (J2 [t5] w)) (fun vs2 w => ∀ _ : Sg, S_label_Text_1 (vs2.getD 0 undef) t23 w N1 K)) (DoX Tryz.prog (mBin .lss 3 t5 (.int .i64 0)) w (pk K) fun t35 w =>
 IfX t35 (DoX Tryz.prog (mBin .add 3 t1 (.int .i64 1)) w (pk K) fun t37 w =>
 CallX Tryz.prog 87 #[t37] w (pk K) fun t38 w =>
 K (.returned t38) w) (DoX Tryz.prog (mIA 46 t0 t5) w (pk K) fun t41 w =>
 DoX Tryz.prog (mLoad 90 t41) w (pk K) fun t42 w =>
 DoX Tryz.prog (mAlloc 90) w (pk K) fun t8 w =>
 DoX Tryz.prog (mStore 90 t8 t42) w (pk K) fun _ w =>
 DoX Tryz.prog (mFA 90 t8 3) w (pk K) fun t43 w =>
 DoX Tryz.prog (mLoad 3 t43) w (pk K) fun t44 w =>
 DoX Tryz.prog (mBin .add 3 t44 t1) w (pk K) fun t46 w =>
 DoX Tryz.prog (mFA 90 t8 0) w (pk K) fun t47 w =>
 DoX Tryz.prog (mLoad 3 t47) w (pk K) fun t48 w =>
 DoX Tryz.prog (mBin .sub 3 t46 t48) w (pk K) fun t49 w =>
 DoX Tryz.prog (mFA 90 t8 1) w (pk K) fun t50 w =>
 DoX Tryz.prog (mLoad 9 t50) w (pk K) fun t51 w =>
 DoX Tryz.prog (mEq .eql 9 (.tmp 51) (.const (.string ⟨#[68]⟩)) t51 (.string ⟨#[68]⟩)) w (pk K) fun t53 w =>
 IfX t53 (QuietX w (fun C3 =>
 QDo Tryz.prog C3 (mFA 90 t8 2) fun t54 =>
 QDo Tryz.prog C3 (mLoad 9 t54) fun t55 =>
 QCall Tryz.prog C3 87 #[t49] fun t57 =>
 QDo Tryz.prog C3 (mBin .add 9 t55 t57) fun t58 =>
 ∀ w, C3 w →
 K (.returned t58) w)) (DoX Tryz.prog (mEq .eql 9 (.tmp 51) (.const (.string ⟨#[82]⟩)) t51 (.string ⟨#[82]⟩)) w (pk K) fun t60 w =>
 IfX t60 (QuietX w (fun C4 =>
 QDo Tryz.prog C4 (mFA 90 t8 2) fun t61 =>
 QDo Tryz.prog C4 (mLoad 9 t61) fun t62 =>
 QCall Tryz.prog C4 33 #[t49] fun t64 =>
 QCall Tryz.prog C4 88 #[t64, t49] fun t66 =>
 QDo Tryz.prog C4 (mBin .add 9 t62 t66) fun t67 =>
 ∀ w, C4 w →
 K (.returned t67) w)) (DoX Tryz.prog (mEq .eql 9 (.tmp 51) (.const (.string ⟨#[114]⟩)) t51 (.string ⟨#[114]⟩)) w (pk K) fun t69 w =>
 IfX t69 (QuietX w (fun C5 =>
 QDo Tryz.prog C5 (mFA 90 t8 2) fun t70 =>
 QDo Tryz.prog C5 (mLoad 9 t70) fun t71 =>
 QCall Tryz.prog C5 33 #[t49] fun t73 =>
 QCall Tryz.prog C5 89 #[t73] fun t74 =>
 QCall Tryz.prog C5 88 #[t74, t49] fun t76 =>
 QDo Tryz.prog C5 (mBin .add 9 t71 t76) fun t77 =>
 ∀ w, C5 w →
 K (.returned t77) w)) (DoX Tryz.prog (mEq .eql 9 (.tmp 51) (.const (.string ⟨#[65]⟩)) t51 (.string ⟨#[65]⟩)) w (pk K) fun t79 w =>
 IfX t79 (QuietX w (fun C6 =>
 QDo Tryz.prog C6 (mFA 90 t8 2) fun t80 =>
 QDo Tryz.prog C6 (mLoad 9 t80) fun t81 =>
 QCall Tryz.prog C6 35 #[t49] fun t83 =>
 QCall Tryz.prog C6 88 #[t83, t49] fun t85 =>
 QDo Tryz.prog C6 (mBin .add 9 t81 t85) fun t86 =>
 ∀ w, C6 w →
 K (.returned t86) w)) (DoX Tryz.prog (mEq .eql 9 (.tmp 51) (.const (.string ⟨#[97]⟩)) t51 (.string ⟨#[97]⟩)) w (pk K) fun t88 w =>
 IfX t88 (QuietX w (fun C7 =>
 QDo Tryz.prog C7 (mFA 90 t8 2) fun t89 =>
 QDo Tryz.prog C7 (mLoad 9 t89) fun t90 =>
 QCall Tryz.prog C7 35 #[t49] fun t92 =>
 QCall Tryz.prog C7 89 #[t92] fun t93 =>
 QCall Tryz.prog C7 88 #[t93, t49] fun t95 =>
 QDo Tryz.prog C7 (mBin .add 9 t90 t95) fun t96 =>
 ∀ w, C7 w →
 K (.returned t96) w)) (DoX Tryz.prog (mFA 90 t8 2) w (pk K) fun t97 w =>
 DoX Tryz.prog (mLoad 9 t97) w (pk K) fun t98 w =>
 K (.returned t98) w)))))))
def S_label_Text (t0 t1 : Value) (w : World) (K : Ending → World → Prop) : Prop :=
 DoX Tryz.prog (mBin .lss 3 t1 (.int .i64 0)) w (pk K) fun t11 w =>
 GDo t11 false (fun E => E t1 w) w fun t13 w =>
 GDo t11 false (fun E => DoX Tryz.prog (mBin .gtr 3 t13 (.int .i64 2147483647)) w (pk K) E) w fun t14 w =>
 DoX Tryz.prog (mPick t11 (.bool true) t14) w (pk K) fun t15 w =>
 GDo t15 false (fun E => E t0 w) w fun t17 w =>
 GDo t15 false (fun E => CallX Tryz.prog 29 #[t17] w (pk K) E) w fun t18 w =>
 GDo t15 false (fun E => DoX Tryz.prog (mEq .neq 28 (.tmp 18) (.const (.int .i64 0)) t18 (.int .i64 0)) w (pk K) E) w fun t19 w =>
 DoX Tryz.prog (mPick t15 (.bool true) t19) w (pk K) fun t20 w =>
 IfX t20 (K (.returned (.string ⟨#[]⟩)) w) (DoX Tryz.prog (mB .len #[46] 3 #[false] #[t0]) w (pk K) fun t22 w =>
 LoopX [(.int .i64 (-1)), (.int .i64 0)] w (fun vs1 w N1 => ∀ _ : Sg, S_label_Text_0 t0 t1 (vs1.getD 0 undef) t0 t22 (vs1.getD 1 undef) w N1 K))
theorem S_label_Text_eq (t0 t1 : Value) (w : World) (K : Ending → World → Prop) : wpX Tryz.prog 99 [(9, [5])] [(5, [5, 23])] none (bodyOf Tryz.f31) (topQ Tryz.prog [.tmp 4] K) (startX [t0, t1]) [] w = S_label_Text t0 t1 w K := by kernel_rfl
theorem S_label_Text_ok {t0 t1 : Value} {w : World} {K : Ending → World → Prop} (h : S_label_Text t0 t1 w K) : Calls Tryz.prog 31 #[t0, t1] w K :=
  calls_of_wpX Tryz.func31 rfl rfl rfl rfl (Eq.mpr (S_label_Text_eq t0 t1 w K) h)

def S_label_Roman_0 (t0 t4 t27 t28 : Value) (w : World) (N1 : List Value → World → Prop) (K : Ending → World → Prop) : Prop :=
 DoX Tryz.prog (mBin .lss 3 t28 (.int .i64 13)) w (pk K) fun t29 w =>
 IfX t29 (DoX Tryz.prog (mIx 114 t27 t28) w (pk K) fun t30 w =>
 DoX Tryz.prog (mAlloc 113) w (pk K) fun t6 w =>
 DoX Tryz.prog (mStore 113 t6 t30) w (pk K) fun _ w =>
 QuietX w (fun C2 =>
 QDo Tryz.prog C2 (mFA 113 t6 1) fun t32 =>
 QDo Tryz.prog C2 (mLoad 9 t32) fun t33 =>
 QDo Tryz.prog C2 (mFA 113 t6 0) fun t35 =>
 QDo Tryz.prog C2 (mLoad 3 t35) fun t36 =>
 QDo Tryz.prog C2 (mBin .quo 3 t0 t36) fun t37 =>
 QCall Tryz.prog C2 92 #[t33, t37] fun t38 =>
 QDo Tryz.prog C2 (mBin .add 9 t4 t38) fun t39 =>
 ∀ w, C2 w →
 DoX Tryz.prog (mFA 113 t6 0) w (pk K) fun t41 w =>
 DoX Tryz.prog (mLoad 3 t41) w (pk K) fun t42 w =>
 DoX Tryz.prog (mBin .rem 3 t0 t42) w (pk K) fun t43 w =>
 DoX Tryz.prog (mBin .add 3 t28 (.int .i64 1)) w (pk K) fun t44 w =>
 N1 [t43, t39, t44] w)) (K (.returned t4) w)
def S_label_Roman (t0 : Value) (w : World) (K : Ending → World → Prop) : Prop :=
 DoX Tryz.prog (mBin .lss 3 t0 (.int .i64 1)) w (pk K) fun t8 w =>
 GDo t8 false (fun E => E t0 w) w fun t10 w =>
 GDo t8 false (fun E => DoX Tryz.prog (mBin .gtr 3 t10 (.int .i64 3999)) w (pk K) E) w fun t11 w =>
 DoX Tryz.prog (mPick t8 (.bool true) t11) w (pk K) fun t12 w =>
 IfX t12 (K (.returned (.string ⟨#[]⟩)) w) (DoX Tryz.prog (mBuild 113 #[(0, (.int .i64 1000)), (1, (.string ⟨#[77]⟩))]) w (pk K) fun t13 w =>
 DoX Tryz.prog (mBuild 113 #[(0, (.int .i64 900)), (1, (.string ⟨#[67, 77]⟩))]) w (pk K) fun t14 w =>
 DoX Tryz.prog (mBuild 113 #[(0, (.int .i64 500)), (1, (.string ⟨#[68]⟩))]) w (pk K) fun t15 w =>
 DoX Tryz.prog (mBuild 113 #[(0, (.int .i64 400)), (1, (.string ⟨#[67, 68]⟩))]) w (pk K) fun t16 w =>
 DoX Tryz.prog (mBuild 113 #[(0, (.int .i64 100)), (1, (.string ⟨#[67]⟩))]) w (pk K) fun t17 w =>
 DoX Tryz.prog (mBuild 113 #[(0, (.int .i64 90)), (1, (.string ⟨#[88, 67]⟩))]) w (pk K) fun t18 w =>
 DoX Tryz.prog (mBuild 113 #[(0, (.int .i64 50)), (1, (.string ⟨#[76]⟩))]) w (pk K) fun t19 w =>
 DoX Tryz.prog (mBuild 113 #[(0, (.int .i64 40)), (1, (.string ⟨#[88, 76]⟩))]) w (pk K) fun t20 w =>
 DoX Tryz.prog (mBuild 113 #[(0, (.int .i64 10)), (1, (.string ⟨#[88]⟩))]) w (pk K) fun t21 w =>
 DoX Tryz.prog (mBuild 113 #[(0, (.int .i64 9)), (1, (.string ⟨#[73, 88]⟩))]) w (pk K) fun t22 w =>
 DoX Tryz.prog (mBuild 113 #[(0, (.int .i64 5)), (1, (.string ⟨#[86]⟩))]) w (pk K) fun t23 w =>
 DoX Tryz.prog (mBuild 113 #[(0, (.int .i64 4)), (1, (.string ⟨#[73, 86]⟩))]) w (pk K) fun t24 w =>
 DoX Tryz.prog (mBuild 113 #[(0, (.int .i64 1)), (1, (.string ⟨#[73]⟩))]) w (pk K) fun t25 w =>
 DoX Tryz.prog (mBuild 114 #[(0, t13), (1, t14), (2, t15), (3, t16), (4, t17), (5, t18), (6, t19), (7, t20), (8, t21), (9, t22), (10, t23), (11, t24), (12, t25)]) w (pk K) fun t26 w =>
 DoX Tryz.prog (mAlloc 114) w (pk K) fun t3 w =>
 DoX Tryz.prog (mStore 114 t3 t26) w (pk K) fun _ w =>
 DoX Tryz.prog (mLoad 114 t3) w (pk K) fun t27 w =>
 LoopX [t0, (.string ⟨#[]⟩), (.int .i64 0)] w (fun vs1 w N1 => ∀ _ : Sg, S_label_Roman_0 (vs1.getD 0 undef) (vs1.getD 1 undef) t27 (vs1.getD 2 undef) w N1 K))
theorem S_label_Roman_eq (t0 : Value) (w : World) (K : Ending → World → Prop) : wpX Tryz.prog 46 [] [(6, [0, 4, 28])] none (bodyOf Tryz.f33) (topQ Tryz.prog [.tmp 2] K) (startX [t0]) [] w = S_label_Roman t0 w K := by kernel_rfl
theorem S_label_Roman_ok {t0 : Value} {w : World} {K : Ending → World → Prop} (h : S_label_Roman t0 w K) : Calls Tryz.prog 33 #[t0] w K :=
  calls_of_wpX Tryz.func33 rfl rfl rfl rfl (Eq.mpr (S_label_Roman_eq t0 w K) h)

def S_label_Letters (t0 : Value) (w : World) (K : Ending → World → Prop) : Prop :=
 DoX Tryz.prog (mBin .lss 3 t0 (.int .i64 1)) w (pk K) fun t4 w =>
 GDo t4 false (fun E => E t0 w) w fun t6 w =>
 GDo t4 false (fun E => DoX Tryz.prog (mBin .gtr 3 t6 (.int .i64 676)) w (pk K) E) w fun t7 w =>
 DoX Tryz.prog (mPick t4 (.bool true) t7) w (pk K) fun t8 w =>
 IfX t8 (K (.returned (.string ⟨#[]⟩)) w) (DoX Tryz.prog (mBin .sub 3 t0 (.int .i64 1)) w (pk K) fun t10 w =>
 DoX Tryz.prog (mBin .rem 3 t10 (.int .i64 26)) w (pk K) fun t11 w =>
 DoX Tryz.prog (mBin .add 3 (.int .i64 65) t11) w (pk K) fun t12 w =>
 DoX Tryz.prog (mConv 3 5 t12) w (pk K) fun t13 w =>
 DoX Tryz.prog (mBuildS 73 1 #[(0, t13)]) w (pk K) fun t14 w =>
 DoX Tryz.prog (mConv 73 9 t14) w (pk K) fun t15 w =>
 DoX Tryz.prog (mBin .sub 3 t0 (.int .i64 1)) w (pk K) fun t17 w =>
 DoX Tryz.prog (mBin .quo 3 t17 (.int .i64 26)) w (pk K) fun t18 w =>
 DoX Tryz.prog (mBin .add 3 t18 (.int .i64 1)) w (pk K) fun t19 w =>
 CallX Tryz.prog 92 #[t15, t19] w (pk K) fun t20 w =>
 K (.returned t20) w)
theorem S_label_Letters_eq (t0 : Value) (w : World) (K : Ending → World → Prop) : wpX Tryz.prog 21 [] [] none (bodyOf Tryz.f35) (topQ Tryz.prog [.tmp 2] K) (startX [t0]) [] w = S_label_Letters t0 w K := by kernel_rfl
theorem S_label_Letters_ok {t0 : Value} {w : World} {K : Ending → World → Prop} (h : S_label_Letters t0 w K) : Calls Tryz.prog 35 #[t0] w K :=
  calls_of_wpX Tryz.func35 rfl rfl rfl rfl (Eq.mpr (S_label_Letters_eq t0 w K) h)

end Go.Proofs.YtiklhhdohckfiaaGreatDoor
namespace Go.Proofs.YtiklhhdohckfiaaGreatDoor
set_option linter.unusedVariables false
set_option linter.unusedSimpArgs false
set_option linter.defProp false
set_option linter.unusedVariables false
set_option maxRecDepth 20000
open Eng

def S_foliantref38_style (t0 : Value) (w : World) (K : Ending → World → Prop) : Prop :=
 DoX Tryz.prog (mEq .eql 9 (.tmp 3) (.const (.string ⟨#[]⟩)) t0 (.string ⟨#[]⟩)) w (pk K) fun t4 w =>
 GDo t4 false (fun E => E t0 w) w fun t6 w =>
 GDo t4 false (fun E => DoX Tryz.prog (mEq .eql 9 (.tmp 6) (.const (.string ⟨#[68]⟩)) t6 (.string ⟨#[68]⟩)) w (pk K) E) w fun t7 w =>
 DoX Tryz.prog (mPick t4 (.bool true) t7) w (pk K) fun t8 w =>
 GDo t8 false (fun E => E t0 w) w fun t10 w =>
 GDo t8 false (fun E => DoX Tryz.prog (mEq .eql 9 (.tmp 10) (.const (.string ⟨#[82]⟩)) t10 (.string ⟨#[82]⟩)) w (pk K) E) w fun t11 w =>
 DoX Tryz.prog (mPick t8 (.bool true) t11) w (pk K) fun t12 w =>
 GDo t12 false (fun E => E t0 w) w fun t14 w =>
 GDo t12 false (fun E => DoX Tryz.prog (mEq .eql 9 (.tmp 14) (.const (.string ⟨#[114]⟩)) t14 (.string ⟨#[114]⟩)) w (pk K) E) w fun t15 w =>
 DoX Tryz.prog (mPick t12 (.bool true) t15) w (pk K) fun t16 w =>
 GDo t16 false (fun E => E t0 w) w fun t18 w =>
 GDo t16 false (fun E => DoX Tryz.prog (mEq .eql 9 (.tmp 18) (.const (.string ⟨#[65]⟩)) t18 (.string ⟨#[65]⟩)) w (pk K) E) w fun t19 w =>
 DoX Tryz.prog (mPick t16 (.bool true) t19) w (pk K) fun t20 w =>
 GDo t20 false (fun E => E t0 w) w fun t22 w =>
 GDo t20 false (fun E => DoX Tryz.prog (mEq .eql 9 (.tmp 22) (.const (.string ⟨#[97]⟩)) t22 (.string ⟨#[97]⟩)) w (pk K) E) w fun t23 w =>
 DoX Tryz.prog (mPick t20 (.bool true) t23) w (pk K) fun t24 w =>
 K (.returned t24) w
theorem S_foliantref38_style_eq (t0 : Value) (w : World) (K : Ending → World → Prop) : wpX Tryz.prog 25 [] [] none (bodyOf Tryz.f86) (topQ Tryz.prog [.tmp 2] K) (startX [t0]) [] w = S_foliantref38_style t0 w K := by kernel_rfl
theorem S_foliantref38_style_ok {t0 : Value} {w : World} {K : Ending → World → Prop} (h : S_foliantref38_style t0 w K) : Calls Tryz.prog 86 #[t0] w K :=
  calls_of_wpX Tryz.func86 rfl rfl rfl rfl (Eq.mpr (S_foliantref38_style_eq t0 w K) h)

def S_foliantref38_Check_0 (t0 t3 t4 : Value) (w : World) (N1 : List Value → World → Prop) (K : Ending → World → Prop) : Prop :=
 DoX Tryz.prog (mB .len #[46] 3 #[false] #[t0]) w (pk K) fun t10 w =>
 DoX Tryz.prog (mBin .lss 3 t4 t10) w (pk K) fun t11 w =>
 IfX t11 (DoX Tryz.prog (mIA 46 t0 t4) w (pk K) fun t16 w =>
 DoX Tryz.prog (mFA 90 t16 0) w (pk K) fun t17 w =>
 DoX Tryz.prog (mLoad 3 t17) w (pk K) fun t18 w =>
 DoX Tryz.prog (mBin .leq 3 t18 t3) w (pk K) fun t20 w =>
 GDo t20 false (fun E => E t0 w) w fun t22 w =>
 GDo t20 false (fun E => E t4 w) w fun t23 w =>
 GDo t20 false (fun E => DoX Tryz.prog (mIA 46 t22 t23) w (pk K) E) w fun t24 w =>
 GDo t20 false (fun E => DoX Tryz.prog (mFA 90 t24 0) w (pk K) E) w fun t25 w =>
 GDo t20 false (fun E => DoX Tryz.prog (mLoad 3 t25) w (pk K) E) w fun t26 w =>
 GDo t20 false (fun E => DoX Tryz.prog (mBin .geq 3 t26 (.int .i64 2048)) w (pk K) E) w fun t27 w =>
 DoX Tryz.prog (mPick t20 (.bool true) t27) w (pk K) fun t28 w =>
 GDo t28 false (fun E => E t0 w) w fun t30 w =>
 GDo t28 false (fun E => E t4 w) w fun t31 w =>
 GDo t28 false (fun E => DoX Tryz.prog (mIA 46 t30 t31) w (pk K) E) w fun t32 w =>
 GDo t28 false (fun E => DoX Tryz.prog (mFA 90 t32 1) w (pk K) E) w fun t33 w =>
 GDo t28 false (fun E => DoX Tryz.prog (mLoad 9 t33) w (pk K) E) w fun t34 w =>
 GDo t28 false (fun E => CallX Tryz.prog 86 #[t34] w (pk K) E) w fun t35 w =>
 GDo t28 false (fun E => DoX Tryz.prog (mUn .not t35) w (pk K) E) w fun t36 w =>
 DoX Tryz.prog (mPick t28 (.bool true) t36) w (pk K) fun t37 w =>
 GDo t37 false (fun E => E t0 w) w fun t39 w =>
 GDo t37 false (fun E => E t4 w) w fun t40 w =>
 GDo t37 false (fun E => DoX Tryz.prog (mIA 46 t39 t40) w (pk K) E) w fun t41 w =>
 GDo t37 false (fun E => DoX Tryz.prog (mFA 90 t41 2) w (pk K) E) w fun t42 w =>
 GDo t37 false (fun E => DoX Tryz.prog (mLoad 9 t42) w (pk K) E) w fun t43 w =>
 GDo t37 false (fun E => DoX Tryz.prog (mB .len #[9] 3 #[false] #[t43]) w (pk K) E) w fun t44 w =>
 GDo t37 false (fun E => DoX Tryz.prog (mBin .gtr 3 t44 (.int .i64 255)) w (pk K) E) w fun t45 w =>
 DoX Tryz.prog (mPick t37 (.bool true) t45) w (pk K) fun t46 w =>
 GDo t46 false (fun E => E t0 w) w fun t48 w =>
 GDo t46 false (fun E => E t4 w) w fun t49 w =>
 GDo t46 false (fun E => DoX Tryz.prog (mIA 46 t48 t49) w (pk K) E) w fun t50 w =>
 GDo t46 false (fun E => DoX Tryz.prog (mFA 90 t50 3) w (pk K) E) w fun t51 w =>
 GDo t46 false (fun E => DoX Tryz.prog (mLoad 3 t51) w (pk K) E) w fun t52 w =>
 GDo t46 false (fun E => DoX Tryz.prog (mBin .lss 3 t52 (.int .i64 1)) w (pk K) E) w fun t53 w =>
 DoX Tryz.prog (mPick t46 (.bool true) t53) w (pk K) fun t54 w =>
 GDo t54 false (fun E => E t0 w) w fun t56 w =>
 GDo t54 false (fun E => E t4 w) w fun t57 w =>
 GDo t54 false (fun E => DoX Tryz.prog (mIA 46 t56 t57) w (pk K) E) w fun t58 w =>
 GDo t54 false (fun E => DoX Tryz.prog (mFA 90 t58 3) w (pk K) E) w fun t59 w =>
 GDo t54 false (fun E => DoX Tryz.prog (mLoad 3 t59) w (pk K) E) w fun t60 w =>
 GDo t54 false (fun E => DoX Tryz.prog (mBin .gtr 3 t60 (.int .i64 2147483647)) w (pk K) E) w fun t61 w =>
 DoX Tryz.prog (mPick t54 (.bool true) t61) w (pk K) fun t62 w =>
 IfX t62 (K (.returned (.int .i64 1)) w) (DoX Tryz.prog (mIA 46 t0 t4) w (pk K) fun t65 w =>
 DoX Tryz.prog (mFA 90 t65 0) w (pk K) fun t66 w =>
 DoX Tryz.prog (mLoad 3 t66) w (pk K) fun t67 w =>
 DoX Tryz.prog (mBin .add 3 t4 (.int .i64 1)) w (pk K) fun t13 w =>
 N1 [t67, t13] w)) (K (.returned (.int .i64 0)) w)
def S_foliantref38_Check (t0 : Value) (w : World) (K : Ending → World → Prop) : Prop :=
 DoX Tryz.prog (mB .len #[46] 3 #[false] #[t0]) w (pk K) fun t6 w =>
 DoX Tryz.prog (mBin .gtr 3 t6 (.int .i64 2048)) w (pk K) fun t7 w =>
 IfX t7 (K (.returned (.int .i64 6)) w) (LoopX [(.int .i64 (-1)), (.int .i64 0)] w (fun vs1 w N1 => ∀ _ : Sg, S_foliantref38_Check_0 t0 (vs1.getD 0 undef) (vs1.getD 1 undef) w N1 K))
theorem S_foliantref38_Check_eq (t0 : Value) (w : World) (K : Ending → World → Prop) : wpX Tryz.prog 68 [] [(5, [3, 4])] none (bodyOf Tryz.f30) (topQ Tryz.prog [.tmp 2] K) (startX [t0]) [] w = S_foliantref38_Check t0 w K := by kernel_rfl
theorem S_foliantref38_Check_ok {t0 : Value} {w : World} {K : Ending → World → Prop} (h : S_foliantref38_Check t0 w K) : Calls Tryz.prog 30 #[t0] w K :=
  calls_of_wpX Tryz.func30 rfl rfl rfl rfl (Eq.mpr (S_foliantref38_Check_eq t0 w K) h)

def S_foliantref38_digits (t0 : Value) (w : World) (K : Ending → World → Prop) : Prop :=
 DoX Tryz.prog (mBin .lss 3 t0 (.int .i64 10)) w (pk K) fun t4 w =>
 IfX t4 (CallX Tryz.prog 146 #[t0, (.int .i64 1)] w (pk K) fun t6 w =>
 K (.returned t6) w) (DoX Tryz.prog (mBin .quo 3 t0 (.int .i64 10)) w (pk K) fun t8 w =>
 CallX Tryz.prog 90 #[t8] w (pk K) fun t9 w =>
 DoX Tryz.prog (mBin .rem 3 t0 (.int .i64 10)) w (pk K) fun t11 w =>
 CallX Tryz.prog 90 #[t11] w (pk K) fun t12 w =>
 DoX Tryz.prog (mBin .add 9 t9 t12) w (pk K) fun t13 w =>
 K (.returned t13) w)
theorem S_foliantref38_digits_eq (t0 : Value) (w : World) (K : Ending → World → Prop) : wpX Tryz.prog 14 [] [] none (bodyOf Tryz.f90) (topQ Tryz.prog [.tmp 2] K) (startX [t0]) [] w = S_foliantref38_digits t0 w K := by kernel_rfl
theorem S_foliantref38_digits_ok {t0 : Value} {w : World} {K : Ending → World → Prop} (h : S_foliantref38_digits t0 w K) : Calls Tryz.prog 90 #[t0] w K :=
  calls_of_wpX Tryz.func90 rfl rfl rfl rfl (Eq.mpr (S_foliantref38_digits_eq t0 w K) h)

def S_foliantref38_Roman_1 (t0 t3 t4 t5 t6 : Value) (w : World) (N1 N2 : List Value → World → Prop) (K : Ending → World → Prop) : Prop :=
 DoX Tryz.prog (mIA 116 t4 t6) w (pk K) fun t21 w =>
 DoX Tryz.prog (mLoad 3 t21) w (pk K) fun t22 w =>
 DoX Tryz.prog (mBin .geq 3 t0 t22) w (pk K) fun t23 w =>
 IfX t23 (DoX Tryz.prog (mIA 115 t3 t6) w (pk K) fun t26 w =>
 DoX Tryz.prog (mLoad 9 t26) w (pk K) fun t27 w =>
 DoX Tryz.prog (mBin .add 9 t5 t27) w (pk K) fun t28 w =>
 DoX Tryz.prog (mIA 116 t4 t6) w (pk K) fun t31 w =>
 DoX Tryz.prog (mLoad 3 t31) w (pk K) fun t32 w =>
 DoX Tryz.prog (mBin .sub 3 t0 t32) w (pk K) fun t33 w =>
 N2 [t33, t28] w) (DoX Tryz.prog (mBin .add 3 t6 (.int .i64 1)) w (pk K) fun t18 w =>
 N1 [t0, t5, t18] w)
def S_foliantref38_Roman_0 (t0 t3 t4 t5 t6 : Value) (w : World) (N1 : List Value → World → Prop) (K : Ending → World → Prop) : Prop :=
 DoX Tryz.prog (mBin .lss 3 t6 (.int .i64 13)) w (pk K) fun t16 w =>
 IfX t16 (LoopX [t0, t5] w (fun vs2 w N2 => ∀ _ : Sg, S_foliantref38_Roman_1 (vs2.getD 0 undef) t3 t4 (vs2.getD 1 undef) t6 w N1 N2 K)) (K (.returned t5) w)
def S_foliantref38_Roman (t0 : Value) (w : World) (K : Ending → World → Prop) : Prop :=
 DoX Tryz.prog (mBuild 115 #[(0, (.string ⟨#[77]⟩)), (1, (.string ⟨#[67, 77]⟩)), (2, (.string ⟨#[68]⟩)), (3, (.string ⟨#[67, 68]⟩)), (4, (.string ⟨#[67]⟩)), (5, (.string ⟨#[88, 67]⟩)), (6, (.string ⟨#[76]⟩)), (7, (.string ⟨#[88, 76]⟩)), (8, (.string ⟨#[88]⟩)), (9, (.string ⟨#[73, 88]⟩)), (10, (.string ⟨#[86]⟩)), (11, (.string ⟨#[73, 86]⟩)), (12, (.string ⟨#[73]⟩))]) w (pk K) fun t7 w =>
 DoX Tryz.prog (mAlloc 115) w (pk K) fun t3 w =>
 DoX Tryz.prog (mStore 115 t3 t7) w (pk K) fun _ w =>
 DoX Tryz.prog (mBuild 116 #[(0, (.int .i64 1000)), (1, (.int .i64 900)), (2, (.int .i64 500)), (3, (.int .i64 400)), (4, (.int .i64 100)), (5, (.int .i64 90)), (6, (.int .i64 50)), (7, (.int .i64 40)), (8, (.int .i64 10)), (9, (.int .i64 9)), (10, (.int .i64 5)), (11, (.int .i64 4)), (12, (.int .i64 1))]) w (pk K) fun t8 w =>
 DoX Tryz.prog (mAlloc 116) w (pk K) fun t4 w =>
 DoX Tryz.prog (mStore 116 t4 t8) w (pk K) fun _ w =>
 DoX Tryz.prog (mBin .lss 3 t0 (.int .i64 1)) w (pk K) fun t10 w =>
 GDo t10 false (fun E => E t0 w) w fun t12 w =>
 GDo t10 false (fun E => DoX Tryz.prog (mBin .gtr 3 t12 (.int .i64 3999)) w (pk K) E) w fun t13 w =>
 DoX Tryz.prog (mPick t10 (.bool true) t13) w (pk K) fun t14 w =>
 IfX t14 (K (.returned (.string ⟨#[]⟩)) w) (LoopX [t0, (.string ⟨#[]⟩), (.int .i64 0)] w (fun vs1 w N1 => ∀ _ : Sg, S_foliantref38_Roman_0 (vs1.getD 0 undef) t3 t4 (vs1.getD 1 undef) (vs1.getD 2 undef) w N1 K))
theorem S_foliantref38_Roman_eq (t0 : Value) (w : World) (K : Ending → World → Prop) : wpX Tryz.prog 35 [] [(7, [0, 5, 6]), (9, [0, 5])] none (bodyOf Tryz.f34) (topQ Tryz.prog [.tmp 2] K) (startX [t0]) [] w = S_foliantref38_Roman t0 w K := by kernel_rfl
theorem S_foliantref38_Roman_ok {t0 : Value} {w : World} {K : Ending → World → Prop} (h : S_foliantref38_Roman t0 w K) : Calls Tryz.prog 34 #[t0] w K :=
  calls_of_wpX Tryz.func34 rfl rfl rfl rfl (Eq.mpr (S_foliantref38_Roman_eq t0 w K) h)

def S_foliantref38_Letters_0 (t0 t3 t4 : Value) (w : World) (N1 : List Value → World → Prop) (K : Ending → World → Prop) : Prop :=
 DoX Tryz.prog (mBin .sub 3 t0 (.int .i64 1)) w (pk K) fun t13 w =>
 DoX Tryz.prog (mBin .quo 3 t13 (.int .i64 26)) w (pk K) fun t14 w =>
 DoX Tryz.prog (mBin .leq 3 t4 t14) w (pk K) fun t15 w =>
 IfX t15 (DoX Tryz.prog (mBin .sub 3 t0 (.int .i64 1)) w (pk K) fun t20 w =>
 DoX Tryz.prog (mBin .rem 3 t20 (.int .i64 26)) w (pk K) fun t21 w =>
 DoX Tryz.prog (mBin .add 3 (.int .i64 65) t21) w (pk K) fun t22 w =>
 DoX Tryz.prog (mConv 3 5 t22) w (pk K) fun t23 w =>
 DoX Tryz.prog (mBuildS 73 1 #[(0, t23)]) w (pk K) fun t24 w =>
 DoX Tryz.prog (mConv 73 9 t24) w (pk K) fun t25 w =>
 DoX Tryz.prog (mBin .add 9 t3 t25) w (pk K) fun t26 w =>
 DoX Tryz.prog (mBin .add 3 t4 (.int .i64 1)) w (pk K) fun t17 w =>
 N1 [t26, t17] w) (K (.returned t3) w)
def S_foliantref38_Letters (t0 : Value) (w : World) (K : Ending → World → Prop) : Prop :=
 DoX Tryz.prog (mBin .lss 3 t0 (.int .i64 1)) w (pk K) fun t6 w =>
 GDo t6 false (fun E => E t0 w) w fun t8 w =>
 GDo t6 false (fun E => DoX Tryz.prog (mBin .gtr 3 t8 (.int .i64 676)) w (pk K) E) w fun t9 w =>
 DoX Tryz.prog (mPick t6 (.bool true) t9) w (pk K) fun t10 w =>
 IfX t10 (K (.returned (.string ⟨#[]⟩)) w) (LoopX [(.string ⟨#[]⟩), (.int .i64 0)] w (fun vs1 w N1 => ∀ _ : Sg, S_foliantref38_Letters_0 t0 (vs1.getD 0 undef) (vs1.getD 1 undef) w N1 K))
theorem S_foliantref38_Letters_eq (t0 : Value) (w : World) (K : Ending → World → Prop) : wpX Tryz.prog 28 [] [(5, [3, 4])] none (bodyOf Tryz.f36) (topQ Tryz.prog [.tmp 2] K) (startX [t0]) [] w = S_foliantref38_Letters t0 w K := by kernel_rfl
theorem S_foliantref38_Letters_ok {t0 : Value} {w : World} {K : Ending → World → Prop} (h : S_foliantref38_Letters t0 w K) : Calls Tryz.prog 36 #[t0] w K :=
  calls_of_wpX Tryz.func36 rfl rfl rfl rfl (Eq.mpr (S_foliantref38_Letters_eq t0 w K) h)

def S_foliantref38_small_0 (t0 t3 t4 : Value) (w : World) (N1 : List Value → World → Prop) (K : Ending → World → Prop) : Prop :=
 DoX Tryz.prog (mB .len #[9] 3 #[false] #[t0]) w (pk K) fun t7 w =>
 DoX Tryz.prog (mBin .lss 3 t4 t7) w (pk K) fun t8 w =>
 IfX t8 (DoX Tryz.prog (mIx 9 t0 t4) w (pk K) fun t14 w =>
 DoX Tryz.prog (mBin .add 5 t14 (.int .u8 32)) w (pk K) fun t15 w =>
 DoX Tryz.prog (mBuildS 73 1 #[(0, t15)]) w (pk K) fun t16 w =>
 DoX Tryz.prog (mB .append #[73, 73] 73 #[false, false] #[t3, t16]) w (pk K) fun t17 w =>
 DoX Tryz.prog (mBin .add 3 t4 (.int .i64 1)) w (pk K) fun t10 w =>
 N1 [t17, t10] w) (DoX Tryz.prog (mConv 73 9 t3) w (pk K) fun t19 w =>
 K (.returned t19) w)
def S_foliantref38_small (t0 : Value) (w : World) (K : Ending → World → Prop) : Prop :=
 LoopX [(.slice none 0 0), (.int .i64 0)] w (fun vs1 w N1 => ∀ _ : Sg, S_foliantref38_small_0 t0 (vs1.getD 0 undef) (vs1.getD 1 undef) w N1 K)
theorem S_foliantref38_small_eq (t0 : Value) (w : World) (K : Ending → World → Prop) : wpX Tryz.prog 20 [] [(3, [3, 4])] none (bodyOf Tryz.f147) (topQ Tryz.prog [.tmp 2] K) (startX [t0]) [] w = S_foliantref38_small t0 w K := by kernel_rfl
theorem S_foliantref38_small_ok {t0 : Value} {w : World} {K : Ending → World → Prop} (h : S_foliantref38_small t0 w K) : Calls Tryz.prog 147 #[t0] w K :=
  calls_of_wpX Tryz.func147 rfl rfl rfl rfl (Eq.mpr (S_foliantref38_small_eq t0 w K) h)

def S_foliantref38_Number_0 (t1 t5 : Value) (w : World) (K : Ending → World → Prop) : Prop :=
 DoX Tryz.prog (mEq .eql 9 (.tmp 27) (.const (.string ⟨#[]⟩)) t5 (.string ⟨#[]⟩)) w (pk K) fun t28 w =>
 IfX t28 (CallX Tryz.prog 90 #[t1] w (pk K) fun t30 w =>
 K (.returned t30) w) (K (.returned t5) w)
def S_foliantref38_Number (t0 t1 : Value) (w : World) (K : Ending → World → Prop) : Prop :=
 JoinX (fun J1 =>
 DoX Tryz.prog (mEq .eql 9 (.tmp 6) (.const (.string ⟨#[]⟩)) t0 (.string ⟨#[]⟩)) w (pk K) fun t8 w =>
 IfX t8 (K (.returned (.string ⟨#[]⟩)) w) (DoX Tryz.prog (mEq .eql 9 (.tmp 6) (.const (.string ⟨#[82]⟩)) t0 (.string ⟨#[82]⟩)) w (pk K) fun t10 w =>
 IfX t10 (CallX Tryz.prog 34 #[t1] w (pk K) fun t12 w =>
 J1 [t12] w) (DoX Tryz.prog (mEq .eql 9 (.tmp 6) (.const (.string ⟨#[114]⟩)) t0 (.string ⟨#[114]⟩)) w (pk K) fun t14 w =>
 IfX t14 (CallX Tryz.prog 34 #[t1] w (pk K) fun t16 w =>
 CallX Tryz.prog 147 #[t16] w (pk K) fun t17 w =>
 J1 [t17] w) (DoX Tryz.prog (mEq .eql 9 (.tmp 6) (.const (.string ⟨#[65]⟩)) t0 (.string ⟨#[65]⟩)) w (pk K) fun t19 w =>
 IfX t19 (CallX Tryz.prog 36 #[t1] w (pk K) fun t21 w =>
 J1 [t21] w) (DoX Tryz.prog (mEq .eql 9 (.tmp 6) (.const (.string ⟨#[97]⟩)) t0 (.string ⟨#[97]⟩)) w (pk K) fun t23 w =>
 IfX t23 (CallX Tryz.prog 36 #[t1] w (pk K) fun t25 w =>
 CallX Tryz.prog 147 #[t25] w (pk K) fun t26 w =>
 J1 [t26] w) (J1 [(.string ⟨#[]⟩)] w)))))) (fun vs1 w => ∀ _ : Sg, S_foliantref38_Number_0 t1 (vs1.getD 0 undef) w K)
theorem S_foliantref38_Number_eq (t0 t1 : Value) (w : World) (K : Ending → World → Prop) : wpX Tryz.prog 32 [(13, [5])] [] none (bodyOf Tryz.f91) (topQ Tryz.prog [.tmp 4] K) (startX [t0, t1]) [] w = S_foliantref38_Number t0 t1 w K := by kernel_rfl
theorem S_foliantref38_Number_ok {t0 t1 : Value} {w : World} {K : Ending → World → Prop} (h : S_foliantref38_Number t0 t1 w K) : Calls Tryz.prog 91 #[t0, t1] w K :=
  calls_of_wpX Tryz.func91 rfl rfl rfl rfl (Eq.mpr (S_foliantref38_Number_eq t0 t1 w K) h)

def S_foliantref38_Text_1 (t5 t6 : Value) (w : World) (N1 : List Value → World → Prop) (K : Ending → World → Prop) : Prop :=
 DoX Tryz.prog (mBin .add 3 t6 (.int .i64 1)) w (pk K) fun t23 w =>
 N1 [t5, t23] w
def S_foliantref38_Text_0 (t0 t1 t5 t6 : Value) (w : World) (N1 : List Value → World → Prop) (K : Ending → World → Prop) : Prop :=
 DoX Tryz.prog (mB .len #[46] 3 #[false] #[t0]) w (pk K) fun t20 w =>
 DoX Tryz.prog (mBin .lss 3 t6 t20) w (pk K) fun t21 w =>
 IfX t21 (JoinX (fun J2 =>
 DoX Tryz.prog (mIA 46 t0 t6) w (pk K) fun t26 w =>
 DoX Tryz.prog (mFA 90 t26 0) w (pk K) fun t27 w =>
 DoX Tryz.prog (mLoad 3 t27) w (pk K) fun t28 w =>
 DoX Tryz.prog (mBin .leq 3 t28 t1) w (pk K) fun t30 w =>
 IfX t30 (J2 [t6] w) (J2 [t5] w)) (fun vs2 w => ∀ _ : Sg, S_foliantref38_Text_1 (vs2.getD 0 undef) t6 w N1 K)) (DoX Tryz.prog (mBin .lss 3 t5 (.int .i64 0)) w (pk K) fun t33 w =>
 IfX t33 (DoX Tryz.prog (mBin .add 3 t1 (.int .i64 1)) w (pk K) fun t35 w =>
 CallX Tryz.prog 90 #[t35] w (pk K) fun t36 w =>
 K (.returned t36) w) (QuietX w (fun C3 =>
 QDo Tryz.prog C3 (mIA 46 t0 t5) fun t39 =>
 QDo Tryz.prog C3 (mFA 90 t39 2) fun t40 =>
 QDo Tryz.prog C3 (mLoad 9 t40) fun t41 =>
 QDo Tryz.prog C3 (mIA 46 t0 t5) fun t44 =>
 QDo Tryz.prog C3 (mFA 90 t44 1) fun t45 =>
 QDo Tryz.prog C3 (mLoad 9 t45) fun t46 =>
 QDo Tryz.prog C3 (mIA 46 t0 t5) fun t49 =>
 QDo Tryz.prog C3 (mFA 90 t49 3) fun t50 =>
 QDo Tryz.prog C3 (mLoad 3 t50) fun t51 =>
 QDo Tryz.prog C3 (mIA 46 t0 t5) fun t55 =>
 QDo Tryz.prog C3 (mFA 90 t55 0) fun t56 =>
 QDo Tryz.prog C3 (mLoad 3 t56) fun t57 =>
 QDo Tryz.prog C3 (mBin .sub 3 t1 t57) fun t58 =>
 QDo Tryz.prog C3 (mBin .add 3 t51 t58) fun t59 =>
 QCall Tryz.prog C3 91 #[t46, t59] fun t60 =>
 QDo Tryz.prog C3 (mBin .add 9 t41 t60) fun t61 =>
 ∀ w, C3 w →
 K (.returned t61) w)))
def S_foliantref38_Text (t0 t1 : Value) (w : World) (K : Ending → World → Prop) : Prop :=
 DoX Tryz.prog (mBin .lss 3 t1 (.int .i64 0)) w (pk K) fun t8 w =>
 GDo t8 false (fun E => E t1 w) w fun t10 w =>
 GDo t8 false (fun E => DoX Tryz.prog (mBin .gtr 3 t10 (.int .i64 2147483647)) w (pk K) E) w fun t11 w =>
 DoX Tryz.prog (mPick t8 (.bool true) t11) w (pk K) fun t12 w =>
 GDo t12 false (fun E => E t0 w) w fun t14 w =>
 GDo t12 false (fun E => CallX Tryz.prog 30 #[t14] w (pk K) E) w fun t15 w =>
 GDo t12 false (fun E => DoX Tryz.prog (mEq .neq 28 (.tmp 15) (.const (.int .i64 0)) t15 (.int .i64 0)) w (pk K) E) w fun t16 w =>
 DoX Tryz.prog (mPick t12 (.bool true) t16) w (pk K) fun t17 w =>
 IfX t17 (K (.returned (.string ⟨#[]⟩)) w) (LoopX [(.int .i64 (-1)), (.int .i64 0)] w (fun vs1 w N1 => ∀ _ : Sg, S_foliantref38_Text_0 t0 t1 (vs1.getD 0 undef) (vs1.getD 1 undef) w N1 K))
theorem S_foliantref38_Text_eq (t0 t1 : Value) (w : World) (K : Ending → World → Prop) : wpX Tryz.prog 62 [(6, [5])] [(5, [5, 6])] none (bodyOf Tryz.f32) (topQ Tryz.prog [.tmp 4] K) (startX [t0, t1]) [] w = S_foliantref38_Text t0 t1 w K := by kernel_rfl
theorem S_foliantref38_Text_ok {t0 t1 : Value} {w : World} {K : Ending → World → Prop} (h : S_foliantref38_Text t0 t1 w K) : Calls Tryz.prog 32 #[t0, t1] w K :=
  calls_of_wpX Tryz.func32 rfl rfl rfl rfl (Eq.mpr (S_foliantref38_Text_eq t0 t1 w K) h)

def S_foliantref38_one_0 (t6 t9 : Value) (w : World) (K : Ending → World → Prop) : Prop :=
 DoX Tryz.prog (mLoad 90 t9) w (pk K) fun t79 w =>
 DoX Tryz.prog (mStore 90 t6 t79) w (pk K) fun _ w =>
 RetX Tryz.prog [.cell t6 90, .val (.bool true)] w K
def S_foliantref38_one (t0 t1 t2 : Value) (w : World) (K : Ending → World → Prop) : Prop :=
 DoX Tryz.prog (mBox 44 t0) w (pk K) fun t3 w =>
 DoX Tryz.prog (mBox 25 t1) w (pk K) fun t4 w =>
 DoX Tryz.prog (mBox 25 t2) w (pk K) fun t5 w =>
 DoX Tryz.prog (mAlloc 90) w (pk K) fun t6 w =>
 DoX Tryz.prog (mLoad 44 t3) w (pk K) fun t16 w =>
 DoX Tryz.prog (mLoad 25 t5) w (pk K) fun t17 w =>
 CallX Tryz.prog 67 #[t16, t17] w (pk K) fun t18 w =>
 DoX Tryz.prog (mAlloc 25) w (pk K) fun t8 w =>
 DoX Tryz.prog (mStore 25 t8 t18) w (pk K) fun _ w =>
 DoX Tryz.prog (mFA 25 t4 0) w (pk K) fun t19 w =>
 DoX Tryz.prog (mLoad 3 t19) w (pk K) fun t20 w =>
 DoX Tryz.prog (mEq .neq 3 (.tmp 20) (.const (.int .i64 2)) t20 (.int .i64 2)) w (pk K) fun t21 w =>
 GDo t21 false (fun E => DoX Tryz.prog (mFA 25 t8 0) w (pk K) E) w fun t23 w =>
 GDo t21 false (fun E => DoX Tryz.prog (mLoad 3 t23) w (pk K) E) w fun t24 w =>
 GDo t21 false (fun E => DoX Tryz.prog (mEq .neq 3 (.tmp 24) (.const (.int .i64 7)) t24 (.int .i64 7)) w (pk K) E) w fun t25 w =>
 DoX Tryz.prog (mPick t21 (.bool true) t25) w (pk K) fun t26 w =>
 IfX t26 (DoX Tryz.prog (mBuild 90 #[]) w (pk K) fun t27 w =>
 DoX Tryz.prog (mStore 90 t6 t27) w (pk K) fun _ w =>
 RetX Tryz.prog [.cell t6 90, .val (.bool false)] w K) (DoX Tryz.prog (mFA 25 t4 1) w (pk K) fun t28 w =>
 DoX Tryz.prog (mLoad 2 t28) w (pk K) fun t29 w =>
 DoX Tryz.prog (mBuild 90 #[(0, t29), (3, (.int .i64 1))]) w (pk K) fun t30 w =>
 DoX Tryz.prog (mAlloc 90) w (pk K) fun t9 w =>
 DoX Tryz.prog (mStore 90 t9 t30) w (pk K) fun _ w =>
 DoX Tryz.prog (mLoad 25 t8) w (pk K) fun t32 w =>
 CallX Tryz.prog 66 #[t32, (.string ⟨#[83]⟩)] w (pk K) fun t33 w =>
 DoX Tryz.prog (mExt t33 0) w (pk K) fun t34 w =>
 DoX Tryz.prog (mExt t33 1) w (pk K) fun t35 w =>
 DoX Tryz.prog (mAlloc 25) w (pk K) fun t10 w =>
 DoX Tryz.prog (mStore 25 t10 t34) w (pk K) fun _ w =>
 DoX Tryz.prog (mLoad 25 t8) w (pk K) fun t37 w =>
 CallX Tryz.prog 66 #[t37, (.string ⟨#[80]⟩)] w (pk K) fun t38 w =>
 DoX Tryz.prog (mExt t38 0) w (pk K) fun t39 w =>
 DoX Tryz.prog (mExt t38 1) w (pk K) fun t40 w =>
 DoX Tryz.prog (mAlloc 25) w (pk K) fun t12 w =>
 DoX Tryz.prog (mStore 25 t12 t39) w (pk K) fun _ w =>
 DoX Tryz.prog (mLoad 25 t8) w (pk K) fun t42 w =>
 CallX Tryz.prog 66 #[t42, (.string ⟨#[83, 116]⟩)] w (pk K) fun t43 w =>
 DoX Tryz.prog (mExt t43 0) w (pk K) fun t44 w =>
 DoX Tryz.prog (mExt t43 1) w (pk K) fun t45 w =>
 DoX Tryz.prog (mAlloc 25) w (pk K) fun t14 w =>
 DoX Tryz.prog (mStore 25 t14 t44) w (pk K) fun _ w =>
 GDo t35 true (fun E => DoX Tryz.prog (mFA 25 t10 0) w (pk K) E) w fun t48 w =>
 GDo t35 true (fun E => DoX Tryz.prog (mLoad 3 t48) w (pk K) E) w fun t49 w =>
 GDo t35 true (fun E => DoX Tryz.prog (mEq .neq 3 (.tmp 49) (.const (.int .i64 5)) t49 (.int .i64 5)) w (pk K) E) w fun t50 w =>
 DoX Tryz.prog (mPick t35 t50 (.bool false)) w (pk K) fun t51 w =>
 GDo t51 false (fun E => E t40 w) w fun t53 w =>
 GDo t51 false (fun E => E t53 w) w fun t54 w =>
 GDo t54 true (fun E => DoX Tryz.prog (mFA 25 t12 0) w (pk K) E) w fun t55 w =>
 GDo t54 true (fun E => DoX Tryz.prog (mLoad 3 t55) w (pk K) E) w fun t56 w =>
 GDo t54 true (fun E => DoX Tryz.prog (mEq .neq 3 (.tmp 56) (.const (.int .i64 4)) t56 (.int .i64 4)) w (pk K) E) w fun t57 w =>
 GDo t51 false (fun E => DoX Tryz.prog (mPick t54 t57 (.bool false)) w (pk K) E) w fun t58 w =>
 DoX Tryz.prog (mPick t51 (.bool true) t58) w (pk K) fun t59 w =>
 GDo t59 false (fun E => E t45 w) w fun t61 w =>
 GDo t59 false (fun E => E t61 w) w fun t62 w =>
 GDo t62 true (fun E => DoX Tryz.prog (mFA 25 t14 0) w (pk K) E) w fun t63 w =>
 GDo t62 true (fun E => DoX Tryz.prog (mLoad 3 t63) w (pk K) E) w fun t64 w =>
 GDo t62 true (fun E => DoX Tryz.prog (mEq .neq 3 (.tmp 64) (.const (.int .i64 2)) t64 (.int .i64 2)) w (pk K) E) w fun t65 w =>
 GDo t59 false (fun E => DoX Tryz.prog (mPick t62 t65 (.bool false)) w (pk K) E) w fun t66 w =>
 DoX Tryz.prog (mPick t59 (.bool true) t66) w (pk K) fun t67 w =>
 IfX t67 (DoX Tryz.prog (mBuild 90 #[]) w (pk K) fun t68 w =>
 DoX Tryz.prog (mStore 90 t6 t68) w (pk K) fun _ w =>
 RetX Tryz.prog [.cell t6 90, .val (.bool false)] w K) (DoX Tryz.prog (mFA 25 t10 3) w (pk K) fun t69 w =>
 DoX Tryz.prog (mLoad 9 t69) w (pk K) fun t70 w =>
 DoX Tryz.prog (mFA 90 t9 1) w (pk K) fun t71 w =>
 DoX Tryz.prog (mStore 9 t71 t70) w (pk K) fun _ w =>
 DoX Tryz.prog (mFA 25 t12 3) w (pk K) fun t72 w =>
 DoX Tryz.prog (mLoad 9 t72) w (pk K) fun t73 w =>
 DoX Tryz.prog (mFA 90 t9 2) w (pk K) fun t74 w =>
 DoX Tryz.prog (mStore 9 t74 t73) w (pk K) fun _ w =>
 JoinX (fun J1 =>
 IfX t45 (DoX Tryz.prog (mFA 25 t14 1) w (pk K) fun t76 w =>
 DoX Tryz.prog (mLoad 2 t76) w (pk K) fun t77 w =>
 DoX Tryz.prog (mFA 90 t9 3) w (pk K) fun t78 w =>
 DoX Tryz.prog (mStore 3 t78 t77) w (pk K) fun _ w =>
 J1 [] w) (J1 [] w)) (fun vs1 w => ∀ _ : Sg, S_foliantref38_one_0 t6 t9 w K)))
theorem S_foliantref38_one_eq (t0 t1 t2 : Value) (w : World) (K : Ending → World → Prop) : wpX Tryz.prog 80 [(14, [])] [] none (bodyOf Tryz.f68) (topQ Tryz.prog [.cell 6 90, .tmp 7] K) (startX [t0, t1, t2]) [] w = S_foliantref38_one t0 t1 t2 w K := by kernel_rfl
theorem S_foliantref38_one_ok {t0 t1 t2 : Value} {w : World} {K : Ending → World → Prop} (h : S_foliantref38_one t0 t1 t2 w K) : Calls Tryz.prog 68 #[t0, t1, t2] w K :=
  calls_of_wpX Tryz.func68 rfl rfl rfl rfl (Eq.mpr (S_foliantref38_one_eq t0 t1 t2 w K) h)

def S_foliantref38_Read_1 (t9 t10 t11 t12 : Value) (w : World) (N1 : List Value → World → Prop) (K : Ending → World → Prop) : Prop :=
 DoX Tryz.prog (mUn .not t12) w (pk K) fun t74 w =>
 IfX t74 (K (.returned (.tuple #[(.slice none 0 0), (.int .i64 3)])) w) (DoX Tryz.prog (mLoad 90 t11) w (pk K) fun t76 w =>
 DoX Tryz.prog (mBuildS 46 1 #[(0, t76)]) w (pk K) fun t77 w =>
 DoX Tryz.prog (mB .append #[46, 46] 46 #[false, false] #[t9, t77]) w (pk K) fun t78 w =>
 DoX Tryz.prog (mBin .add 3 t10 (.int .i64 2)) w (pk K) fun t56 w =>
 N1 [t78, t56] w)
def S_foliantref38_Read_0 (t1 t8 t9 t10 : Value) (w : World) (N1 : List Value → World → Prop) (K : Ending → World → Prop) : Prop :=
 DoX Tryz.prog (mBin .add 3 t10 (.int .i64 1)) w (pk K) fun t50 w =>
 DoX Tryz.prog (mFA 25 t8 5) w (pk K) fun t51 w =>
 DoX Tryz.prog (mLoad 23 t51) w (pk K) fun t52 w =>
 DoX Tryz.prog (mB .len #[23] 3 #[false] #[t52]) w (pk K) fun t53 w =>
 DoX Tryz.prog (mBin .lss 3 t50 t53) w (pk K) fun t54 w =>
 IfX t54 (HeldX w (fun S2 w =>
 HDo Tryz.prog S2 (mLoad 44 t1) fun t58 =>
 HDo Tryz.prog (fun _ => True) (mFA 25 t8 5) fun t59 =>
 HDo Tryz.prog S2 (mLoad 23 t59) fun t60 =>
 HDo Tryz.prog (fun _ => True) (mIA 23 t60 t10) fun t62 =>
 HDo Tryz.prog S2 (mLoad 25 t62) fun t63 =>
 HDo Tryz.prog (fun _ => True) (mFA 25 t8 5) fun t64 =>
 HDo Tryz.prog S2 (mLoad 23 t64) fun t65 =>
 HDo Tryz.prog (fun _ => True) (mBin .add 3 t10 (.int .i64 1)) fun t67 =>
 HDo Tryz.prog (fun _ => True) (mIA 23 t65 t67) fun t68 =>
 HDo Tryz.prog S2 (mLoad 25 t68) fun t69 =>
 (CallX Tryz.prog 68 #[t58, t63, t69] w (pm1 (pm1 (pm1 (pm1 (pm1 (pm1 (pm1 (pm1 (pm1 (pm1 (pm1 (pm1 (pm1 (pm1 (pm1 (pm1 (pk K))))))))))))))))) fun t70 w =>
 S2 w ∧ (HDo Tryz.prog (fun _ => True) (mExt t70 0) fun t71 =>
 HDo Tryz.prog (fun _ => True) (mExt t70 1) fun t72 =>
 DoX Tryz.prog (mAlloc 90) w (pm1 (pm1 (pm1 (pm1 (pm1 (pm1 (pm1 (pm1 (pm1 (pm1 (pm1 (pm1 (pm1 (pm1 (pm1 (pm1 (pk K))))))))))))))))) fun t11 w =>
 S2 w ∧ (DoX Tryz.prog (mStore 90 t11 t71) w (pm1 (pm1 (pm1 (pm1 (pm1 (pm1 (pm1 (pm1 (pm1 (pm1 (pm1 (pm1 (pm1 (pm1 (pm1 (pm1 (pk K))))))))))))))))) fun _ w =>
 (S_foliantref38_Read_1 t9 t10 t11 t72 w N1 K)))) ∧ (DoX Tryz.prog (mAlloc 90) w (pm1 (pm1 (pm1 (pm1 (pm1 (pm1 (pm1 (pm1 (pm1 (pm1 (pm1 (pm1 (pm1 (pm1 (pm1 (pm1 (pk K))))))))))))))))) fun t11_1 w =>
 S2 w ∧ (CallX Tryz.prog 68 #[t58, t63, t69] w (pm1 (pm1 (pm1 (pm1 (pm1 (pm1 (pm1 (pm1 (pm1 (pm1 (pm1 (pm1 (pm1 (pm1 (pm1 (pm1 (pk K))))))))))))))))) fun t70_1 w =>
 S2 w ∧ (HDo Tryz.prog (fun _ => True) (mExt t70_1 0) fun t71_1 =>
 HDo Tryz.prog (fun _ => True) (mExt t70_1 1) fun t72_1 =>
 DoX Tryz.prog (mStore 90 t11_1 t71_1) w (pm1 (pm1 (pm1 (pm1 (pm1 (pm1 (pm1 (pm1 (pm1 (pm1 (pm1 (pm1 (pm1 (pm1 (pm1 (pm1 (pk K))))))))))))))))) fun _ w =>
 (S_foliantref38_Read_1 t9 t10 t11_1 t72_1 w N1 K)))))) (CallX Tryz.prog 30 #[t9] w (pk K) fun t80 w =>
 DoX Tryz.prog (mEq .neq 28 (.tmp 80) (.const (.int .i64 0)) t80 (.int .i64 0)) w (pk K) fun t81 w =>
 IfX t81 (K (.returned (.tuple #[(.slice none 0 0), (.int .i64 3)])) w) (K (.returned (.tuple #[t9, (.int .i64 0)])) w))
def S_foliantref38_Read (t0 : Value) (w : World) (K : Ending → World → Prop) : Prop :=
 DoX Tryz.prog (mBox 44 t0) w (pk K) fun t1 w =>
 DoX Tryz.prog (mLoad 44 t1) w (pk K) fun t13 w =>
 CallX Tryz.prog 64 #[t13] w (pk K) fun t14 w =>
 DoX Tryz.prog (mEq .neq 28 (.tmp 15) (.const (.int .i64 0)) t14 (.int .i64 0)) w (pk K) fun t16 w =>
 IfX t16 (K (.returned (.tuple #[(.slice none 0 0), t14])) w) (DoX Tryz.prog (mLoad 44 t1) w (pk K) fun t18 w =>
 DoX Tryz.prog (mFA 44 t1 1) w (pk K) fun t19 w =>
 DoX Tryz.prog (mLoad 25 t19) w (pk K) fun t20 w =>
 DoX Tryz.prog (mBuildS 22 2 #[(0, (.string ⟨#[82, 111, 111, 116]⟩)), (1, (.string ⟨#[80, 97, 103, 101, 76, 97, 98, 101, 108, 115]⟩))]) w (pk K) fun t21 w =>
 CallX Tryz.prog 65 #[t18, t20, t21] w (pk K) fun t22 w =>
 DoX Tryz.prog (mAlloc 25) w (pk K) fun t5 w =>
 DoX Tryz.prog (mStore 25 t5 t22) w (pk K) fun _ w =>
 DoX Tryz.prog (mFA 25 t5 0) w (pk K) fun t23 w =>
 DoX Tryz.prog (mLoad 3 t23) w (pk K) fun t24 w =>
 DoX Tryz.prog (mEq .eql 3 (.tmp 24) (.const (.int .i64 0)) t24 (.int .i64 0)) w (pk K) fun t25 w =>
 IfX t25 (K (.returned (.tuple #[(.slice none 0 0), (.int .i64 0)])) w) (DoX Tryz.prog (mLoad 25 t5) w (pk K) fun t27 w =>
 CallX Tryz.prog 66 #[t27, (.string ⟨#[78, 117, 109, 115]⟩)] w (pk K) fun t28 w =>
 DoX Tryz.prog (mExt t28 0) w (pk K) fun t29 w =>
 DoX Tryz.prog (mExt t28 1) w (pk K) fun t30 w =>
 DoX Tryz.prog (mAlloc 25) w (pk K) fun t6 w =>
 DoX Tryz.prog (mStore 25 t6 t29) w (pk K) fun _ w =>
 DoX Tryz.prog (mLoad 44 t1) w (pk K) fun t31 w =>
 DoX Tryz.prog (mLoad 25 t6) w (pk K) fun t32 w =>
 CallX Tryz.prog 67 #[t31, t32] w (pk K) fun t33 w =>
 DoX Tryz.prog (mAlloc 25) w (pk K) fun t8 w =>
 DoX Tryz.prog (mStore 25 t8 t33) w (pk K) fun _ w =>
 DoX Tryz.prog (mFA 25 t5 0) w (pk K) fun t34 w =>
 DoX Tryz.prog (mLoad 3 t34) w (pk K) fun t35 w =>
 DoX Tryz.prog (mEq .neq 3 (.tmp 35) (.const (.int .i64 7)) t35 (.int .i64 7)) w (pk K) fun t36 w =>
 GDo t36 false (fun E => DoX Tryz.prog (mFA 25 t8 0) w (pk K) E) w fun t38 w =>
 GDo t36 false (fun E => DoX Tryz.prog (mLoad 3 t38) w (pk K) E) w fun t39 w =>
 GDo t36 false (fun E => DoX Tryz.prog (mEq .neq 3 (.tmp 39) (.const (.int .i64 6)) t39 (.int .i64 6)) w (pk K) E) w fun t40 w =>
 DoX Tryz.prog (mPick t36 (.bool true) t40) w (pk K) fun t41 w =>
 GDo t41 false (fun E => DoX Tryz.prog (mFA 25 t8 5) w (pk K) E) w fun t43 w =>
 GDo t41 false (fun E => DoX Tryz.prog (mLoad 23 t43) w (pk K) E) w fun t44 w =>
 GDo t41 false (fun E => DoX Tryz.prog (mB .len #[23] 3 #[false] #[t44]) w (pk K) E) w fun t45 w =>
 GDo t41 false (fun E => DoX Tryz.prog (mBin .rem 3 t45 (.int .i64 2)) w (pk K) E) w fun t46 w =>
 GDo t41 false (fun E => DoX Tryz.prog (mEq .neq 3 (.tmp 46) (.const (.int .i64 0)) t46 (.int .i64 0)) w (pk K) E) w fun t47 w =>
 DoX Tryz.prog (mPick t41 (.bool true) t47) w (pk K) fun t48 w =>
 IfX t48 (K (.returned (.tuple #[(.slice none 0 0), (.int .i64 3)])) w) (LoopX [(.slice none 0 0), (.int .i64 0)] w (fun vs1 w N1 => ∀ _ : Sg, S_foliantref38_Read_0 t1 t8 (vs1.getD 0 undef) (vs1.getD 1 undef) w N1 K))))
theorem S_foliantref38_Read_eq (t0 : Value) (w : World) (K : Ending → World → Prop) : wpX Tryz.prog 83 [] [(13, [9, 10])] none (bodyOf Tryz.f23) (topQ Tryz.prog [.tmp 2, .tmp 3] K) (startX [t0]) [] w = S_foliantref38_Read t0 w K := by kernel_rfl
theorem S_foliantref38_Read_ok {t0 : Value} {w : World} {K : Ending → World → Prop} (h : S_foliantref38_Read t0 w K) : Calls Tryz.prog 23 #[t0] w K :=
  calls_of_wpX Tryz.func23 rfl rfl rfl rfl (Eq.mpr (S_foliantref38_Read_eq t0 w K) h)

def S_foliantref38_Same_0 (t0 t1 t5 : Value) (w : World) (N1 : List Value → World → Prop) (K : Ending → World → Prop) : Prop :=
 DoX Tryz.prog (mB .len #[46] 3 #[false] #[t0]) w (pk K) fun t13 w =>
 DoX Tryz.prog (mBin .lss 3 t5 t13) w (pk K) fun t14 w =>
 GDo t14 true (fun E => E t5 w) w fun t16 w =>
 GDo t14 true (fun E => E t1 w) w fun t17 w =>
 GDo t14 true (fun E => DoX Tryz.prog (mB .len #[46] 3 #[false] #[t17]) w (pk K) E) w fun t18 w =>
 GDo t14 true (fun E => DoX Tryz.prog (mBin .lss 3 t16 t18) w (pk K) E) w fun t19 w =>
 DoX Tryz.prog (mPick t14 t19 (.bool false)) w (pk K) fun t20 w =>
 IfX t20 (QuietX w (fun C2 =>
 QDo Tryz.prog C2 (mIA 46 t0 t5) fun t25 =>
 QDo Tryz.prog C2 (mLoad 90 t25) fun t26 =>
 QDo Tryz.prog C2 (mIA 46 t1 t5) fun t29 =>
 QDo Tryz.prog C2 (mLoad 90 t29) fun t30 =>
 QDo Tryz.prog C2 (mEq .neq 90 (.tmp 26) (.tmp 30) t26 t30) fun t31 =>
 ∀ w, C2 w →
 IfX t31 (K (.returned (.bool false)) w) (DoX Tryz.prog (mBin .add 3 t5 (.int .i64 1)) w (pk K) fun t22 w =>
 N1 [t22] w))) (K (.returned (.bool true)) w)
def S_foliantref38_Same (t0 t1 : Value) (w : World) (K : Ending → World → Prop) : Prop :=
 DoX Tryz.prog (mB .len #[46] 3 #[false] #[t0]) w (pk K) fun t7 w =>
 DoX Tryz.prog (mB .len #[46] 3 #[false] #[t1]) w (pk K) fun t9 w =>
 DoX Tryz.prog (mEq .neq 3 (.tmp 7) (.tmp 9) t7 t9) w (pk K) fun t10 w =>
 IfX t10 (K (.returned (.bool false)) w) (LoopX [(.int .i64 0)] w (fun vs1 w N1 => ∀ _ : Sg, S_foliantref38_Same_0 t0 t1 (vs1.getD 0 undef) w N1 K))
theorem S_foliantref38_Same_eq (t0 t1 : Value) (w : World) (K : Ending → World → Prop) : wpX Tryz.prog 32 [] [(4, [5])] none (bodyOf Tryz.f24) (topQ Tryz.prog [.tmp 4] K) (startX [t0, t1]) [] w = S_foliantref38_Same t0 t1 w K := by kernel_rfl
theorem S_foliantref38_Same_ok {t0 t1 : Value} {w : World} {K : Ending → World → Prop} (h : S_foliantref38_Same t0 t1 w K) : Calls Tryz.prog 24 #[t0, t1] w K :=
  calls_of_wpX Tryz.func24 rfl rfl rfl rfl (Eq.mpr (S_foliantref38_Same_eq t0 t1 w K) h)

end Go.Proofs.YtiklhhdohckfiaaGreatDoor
namespace Go.Proofs.YtiklhhdohckfiaaGreatDoor
set_option linter.unusedVariables false
set_option linter.unusedSimpArgs false
set_option linter.defProp false
set_option linter.unusedVariables false
set_option maxRecDepth 20000
open Eng

def S_strings_Contains (t0 t1 : Value) (w : World) (K : Ending → World → Prop) : Prop :=
 CallX Tryz.prog 194 #[t0, t1] w (pk K) fun t7 w =>
 DoX Tryz.prog (mBin .geq 3 t7 (.int .i64 0)) w (pk K) fun t8 w =>
 K (.returned t8) w
theorem S_strings_Contains_eq (t0 t1 : Value) (w : World) (K : Ending → World → Prop) : wpX Tryz.prog 9 [] [] none (bodyOf Tryz.f141) (topQ Tryz.prog [.tmp 4] K) (startX [t0, t1]) [] w = S_strings_Contains t0 t1 w K := by kernel_rfl
theorem S_strings_Contains_ok {t0 t1 : Value} {w : World} {K : Ending → World → Prop} (h : S_strings_Contains t0 t1 w K) : Calls Tryz.prog 141 #[t0, t1] w K :=
  calls_of_wpX Tryz.func141 rfl rfl rfl rfl (Eq.mpr (S_strings_Contains_eq t0 t1 w K) h)

end Go.Proofs.YtiklhhdohckfiaaGreatDoor
namespace Go.Proofs.YtiklhhdohckfiaaGreatDoor
set_option linter.unusedVariables false
set_option linter.unusedSimpArgs false
set_option linter.defProp false
set_option maxRecDepth 20000
open Eng Go.RowKit

theorem ret_calls {f : Nat} {args : Array Value} {w : World} {v : Value} (h : Calls Tryz.prog f args w fun e w' => e = .returned v ∧ Below w.heap.size w w') : Ret Tryz.prog f args w (fun v' w' => v' = v ∧ Below w.heap.size w w') :=
  Calls.mono h fun e w' ⟨he, hb⟩ => ⟨v, he, rfl, hb⟩
theorem repeat_ret (s : List UInt8) (c : Nat) (w : World) (hl : s.length * c ≤ 100000000) (hc : c ≤ 100000000) : Ret Tryz.prog 92 #[.string ⟨s.toArray⟩, .int .i64 c] w (fun v w' => v = .string ⟨(Lib.repeatL s c).toArray⟩ ∧ Below w.heap.size w w') := by
  have := Tryz.strings_Repeat ⟨s.toArray⟩ c w (by omega) (by show s.toArray.size * c ≤ _; simp; omega)
  exact ret_calls (by simpa using this)
theorem lowerB_up (c : UInt8) (h : 65 ≤ c.toNat) (h2 : c.toNat ≤ 90) : Lib.lowerB c = c + 32 := by
  unfold Lib.lowerB Lib.isUpperB
  rw [if_pos]
  simp only [Bool.and_eq_true, decide_eq_true_eq, UInt8.le_iff_toNat_le]
  exact ⟨h, h2⟩
theorem tolower_ret (s : List UInt8) (w : World) (hl : s.length ≤ 1000000) (hu : ∀ c ∈ s, 65 ≤ c.toNat ∧ c.toNat ≤ 90) : Ret Tryz.prog 89 #[.string ⟨s.toArray⟩] w (fun v w' => v = .string ⟨(Lb.small s).toArray⟩ ∧ Below w.heap.size w w') := by
  have := Tryz.strings_ToLower_ascii ⟨s.toArray⟩ w (by show s.toArray.size ≤ _; simp; omega) (fun j b hj => by have := hu b (List.mem_of_getElem? (by simpa using hj)); omega)
  have e : Lib.toLowerA s = Lb.small s := by
    unfold Lib.toLowerA Lb.small
    exact List.map_congr_left fun c hc => lowerB_up c (hu c hc).1 (hu c hc).2
  rw [← e]
  exact ret_calls (by simpa using this)
theorem ldigits_ret (k : Nat) : ∀ (n : Int) (w : World), n.toNat ≤ k → 0 ≤ n → n ≤ 1000000000000 → Tb w → Ret Tryz.prog 87 #[.int .i64 n] w (fun v w' => v = .string ⟨(Lib.itoa n).toArray⟩ ∧ Below w.heap.size w w') := by
  induction k with
  | zero =>
    intro n w hk h0 h1 ht
    refine ret_of fun K hK => S_label_digits_ok ?_
    unfold S_label_digits
    refine c_told (pint_ret n w ht) rfl (Own.start w) fun w1 ho => ?_
    rw [Pl.pInt, if_pos (by omega)]
    simp only [ex, e_int, rs]
    simp only [decide_true, i_t]
    exact hK _ _ ⟨rfl, ho.done⟩
  | succ k ih =>
    intro n w hk h0 h1 ht
    refine ret_of fun K hK => S_label_digits_ok ?_
    unfold S_label_digits
    refine c_told (pint_ret n w ht) rfl (Own.start w) fun w1 ho => ?_
    by_cases hn : n ≤ 2147483647
    · rw [Pl.pInt, if_pos (by omega)]
      simp only [ex, rs]
      simp only [decide_true, i_t]
      exact hK _ _ ⟨rfl, ho.done⟩
    · rw [Pl.pInt, if_neg (by omega)]
      simp only [ex, rs]
      have h2 : ¬ (2 : Int) = 0 := by omega
      simp only [h2, decide_false, i_f]
      rw [b_quo (by omega), Int.tdiv_eq_ediv_of_nonneg h0, wrap64_id (by omega) (by omega)]
      refine c_told (ih (n / 10) w1 (by omega) (by omega) (by omega) (ht.own ho)) rfl ho fun w2 ho => ?_
      rw [b_rem (by omega), Int.tmod_eq_emod_of_nonneg h0]
      refine c_told (ih (n % 10) w2 (by omega) (by omega) (by omega) (ht.own ho)) rfl ho fun w3 ho => ?_
      have a1 := itoa_len (n / 10) (by omega) (by omega)
      have a2 := itoa_len (n % 10) (by omega) (by omega)
      rw [s_add (by omega)]
      exact hK _ _ ⟨by rw [← Lb.itoa_rec (by omega)], ho.done⟩
theorem rdigitsL_ret (k : Nat) : ∀ (n : Int) (w : World), n.toNat ≤ k → 0 ≤ n → n ≤ 1000000000000 → Ret Tryz.prog 90 #[.int .i64 n] w (fun v w' => v = .string ⟨(Lib.itoa n).toArray⟩ ∧ w = w') := by
  induction k with
  | zero =>
    intro n w hk h0 h1
    refine ret_of fun K hK => S_foliantref38_digits_ok ?_
    unfold S_foliantref38_digits
    have hn : n < 10 := by omega
    simp only [rs, hn, decide_true]
    refine c_eq (rpad_ret n 1 (by omega) (by omega) w) ?_
    exact hK _ _ ⟨by rw [Lb.pad_one h0 hn], rfl⟩
  | succ k ih =>
    intro n w hk h0 h1
    refine ret_of fun K hK => S_foliantref38_digits_ok ?_
    unfold S_foliantref38_digits
    by_cases hn : n < 10
    · simp only [rs, hn, decide_true]
      refine c_eq (rpad_ret n 1 (by omega) (by omega) w) ?_
      exact hK _ _ ⟨by rw [Lb.pad_one h0 hn], rfl⟩
    · simp only [rs, hn, decide_false]
      rw [b_quo (by omega), Int.tdiv_eq_ediv_of_nonneg h0, wrap64_id (by omega) (by omega)]
      refine c_eq (ih (n / 10) w (by omega) (by omega) (by omega)) ?_
      rw [b_rem (by omega), Int.tmod_eq_emod_of_nonneg h0]
      refine c_eq (ih (n % 10) w (by omega) (by omega) (by omega)) ?_
      have a1 := itoa_len (n / 10) (by omega) (by omega)
      have a2 := itoa_len (n % 10) (by omega) (by omega)
      rw [s_add (by omega)]
      exact hK _ _ ⟨by rw [← Lb.itoa_rec (by omega)], rfl⟩
theorem leither_ret (s : List UInt8) (n : Int) (w : World) (h0 : 0 ≤ n) (h1 : n ≤ 1000000000000) (ht : Tb w) : Ret Tryz.prog 88 #[.string ⟨s.toArray⟩, .int .i64 n] w (fun v w' => v = .string ⟨(Lb.either s n).toArray⟩ ∧ Below w.heap.size w w') := by
  refine ret_of fun K hK => S_label_either_ok ?_
  unfold S_label_either
  simp only [rs]
  by_cases hs : s = []
  · simp only [hs, decide_true, i_t]
    refine c_told (ldigits_ret n.toNat n w (Nat.le_refl _) h0 h1 ht) rfl (Own.start w) fun w1 ho => ?_
    exact hK _ _ ⟨by unfold Lb.either; rw [if_pos hs], ho.done⟩
  · simp only [hs, decide_false, i_f]
    exact hK _ _ ⟨by unfold Lb.either; rw [if_neg hs], (Own.start w).done⟩
theorem lb_b1 {n : Int} (w : World) (c : UInt8) (h : (c.toNat : Int) = n) : (mBuildS 73 1 #[(0, .int .u8 n)]).run Tryz.prog w = .ok (.value (.slice (some ⟨w.heap.size, 0, none⟩) [c].length [c].length)) (w.alloc (.cells (bytesV [c]).toArray 5)) := by
  subst h; kernel_rfl
theorem lb_str1 {w w0 : World} {PK : List PanicEntry → World → Prop} {K : Value → World → Prop} {S : Nat → Prop} {L : List Ent} {n : Int} (c : UInt8) (h : (c.toNat : Int) = n) (ho : OwnS S w0 w L) (k : ∀ w', OwnS S w0 w' L → K (.string ⟨#[c]⟩) w') :
    DoX Tryz.prog (mBuildS 73 1 #[(0, .int .u8 n)]) w PK (fun t w => DoX Tryz.prog (mConv 73 9 t) w PK K) := by
  refine o_new (fun b => .slice (some ⟨b, 0, none⟩) 1 1) (bytesV [c]) 5 (fun w => lb_b1 w c h) ho fun b w1 ho => ?_
  rw [c_bytes (l := [c]) Tryz.underlying73 Tryz.underlying5 Tryz.underlying9 (ho.sl 0 rfl 1 1 1 rfl)]
  exact k _ ho.tail
theorem lb_c8 {w : World} {PK : List PanicEntry → World → Prop} {K : Value → World → Prop} {n : Int} : DoX Tryz.prog (mConv 3 5 (.int .i64 n)) w PK K = K (.int .u8 (IntKind.wrap .u8 n)) w :=
  c_int (show (Tryz.prog.underlying 3).isSome = true by kernel_rfl) Tryz.underlying5
theorem lb_letter {n : Int} (h1 : 1 ≤ n) : IntKind.wrap .u8 (65 + (n - 1) % 26) = ((UInt8.ofNat (65 + (n.toNat - 1) % 26)).toNat : Int) := by
  obtain ⟨u, rfl⟩ : ∃ u : Nat, n = u := ⟨n.toNat, by omega⟩
  have e : (65 + ((u : Int) - 1) % 26) = ((65 + (u - 1) % 26 : Nat) : Int) := by omega
  rw [Int.toNat_natCast, e, wrap8_id (by omega) (by omega)]
  simp; omega
theorem lletters_ret (n : Int) (h0 : -9223372036854775808 ≤ n) (w : World) : Ret Tryz.prog 35 #[.int .i64 n] w (fun v w' => v = .string ⟨(Lb.letters n).toArray⟩ ∧ Below w.heap.size w w') := by
  refine ret_of fun K hK => S_label_Letters_ok ?_
  unfold S_label_Letters
  by_cases h1 : n < 1
  · simp only [rs, h1, decide_true, g_un]
    exact hK _ _ ⟨by rw [Lb.letters_out (.inl h1)], (Own.start w).done⟩
  simp only [rs, h1, decide_false]
  by_cases h2 : 676 < n
  · simp only [h2, decide_true, i_t]
    exact hK _ _ ⟨by rw [Lb.letters_out (.inr h2)], (Own.start w).done⟩
  simp only [h2, decide_false, i_f]
  rw [wrap64_id (by omega) (by omega), b_rem (by omega), Int.tmod_eq_emod_of_nonneg (by omega)]
  simp only [rs]
  rw [wrap64_id (by omega) (by omega), lb_c8, lb_letter (by omega)]
  refine lb_str1 _ rfl (Own.start w) fun w1 ho => ?_
  rw [b_quo (by omega), Int.tdiv_eq_ediv_of_nonneg (by omega), wrap64_id (by omega) (by omega)]
  simp only [rs]
  rw [wrap64_id (by omega) (by omega)]
  obtain ⟨u, rfl⟩ : ∃ u : Nat, n = u := ⟨n.toNat, by omega⟩
  have e : ((u : Int) - 1) / 26 + 1 = (((u - 1) / 26 + 1 : Nat) : Int) := by omega
  rw [e, Int.toNat_natCast]
  refine c_told (repeat_ret [UInt8.ofNat (65 + (u - 1) % 26)] ((u - 1) / 26 + 1) w1 (by simp; omega) (by omega)) rfl ho fun w2 ho => ?_
  refine hK _ _ ⟨?_, ho.done⟩
  unfold Lb.letters
  rw [if_neg (by omega), Int.toNat_natCast]
theorem repeatL_snoc (s : List UInt8) : ∀ c, Lib.repeatL s (c + 1) = Lib.repeatL s c ++ s
  | 0 => by simp [Lib.repeatL]
  | c + 1 => by
    have h1 : Lib.repeatL s (c + 1 + 1) = s ++ Lib.repeatL s (c + 1) := rfl
    have h2 : Lib.repeatL s (c + 1) = s ++ Lib.repeatL s c := rfl
    rw [h1, repeatL_snoc s c, ← List.append_assoc, ← h2, repeatL_snoc s c]
theorem rletters_ret (n : Int) (h0 : -9223372036854775808 ≤ n) (w : World) : Ret Tryz.prog 36 #[.int .i64 n] w (fun v w' => v = .string ⟨(Lb.letters n).toArray⟩ ∧ Below w.heap.size w w') := by
  refine ret_of fun K hK => S_foliantref38_Letters_ok ?_
  unfold S_foliantref38_Letters
  by_cases h1 : n < 1
  · simp only [rs, h1, decide_true, g_un]
    exact hK _ _ ⟨by rw [Lb.letters_out (.inl h1)], (Own.start w).done⟩
  simp only [rs, h1, decide_false]
  by_cases h2 : 676 < n
  · simp only [h2, decide_true, i_t]
    exact hK _ _ ⟨by rw [Lb.letters_out (.inr h2)], (Own.start w).done⟩
  simp only [h2, decide_false, i_f]
  refine loop (fun vs w' => ∃ i : Nat, vs = [.string ⟨(Lib.repeatL [UInt8.ofNat (65 + (n.toNat - 1) % 26)] i).toArray⟩, .int .i64 i] ∧ i ≤ (n.toNat - 1) / 26 + 1 ∧ Own w w' []) (fun vs _ => 100 - n1 vs) ⟨0, rfl, by omega, Own.start w⟩ ?_
  rintro vs w2 ⟨i, rfl, hi, ho⟩ _
  simp only [S_foliantref38_Letters_0, gd, rs]
  rw [wrap64_id (by omega) (by omega), b_quo (by omega), Int.tdiv_eq_ediv_of_nonneg (by omega), wrap64_id (by omega) (by omega)]
  simp only [rs]
  by_cases hlt : (i : Int) ≤ (n - 1) / 26
  · simp only [hlt, decide_true, i_t]
    rw [b_rem (by omega), Int.tmod_eq_emod_of_nonneg (by omega)]
    simp only [rs]
    rw [wrap64_id (by omega) (by omega), lb_c8, lb_letter (by omega)]
    refine lb_str1 _ rfl ho fun w3 ho => ?_
    have hlen := Lib.repeatL_length [UInt8.ofNat (65 + (n.toNat - 1) % 26)] i
    rw [show (⟨#[UInt8.ofNat (65 + (n.toNat - 1) % 26)]⟩ : ByteArray) = ⟨[UInt8.ofNat (65 + (n.toNat - 1) % 26)].toArray⟩ from rfl, s_add (by rw [hlen]; simp; omega), ← repeatL_snoc]
    rw [wrap64_id (by omega) (by omega)]
    exact nextX ⟨i + 1, rfl, by omega, ho⟩ (by simp [n1, intOf]; omega)
  · simp only [hlt, decide_false, i_f]
    refine hK _ _ ⟨?_, ho.done⟩
    have : i = (n.toNat - 1) / 26 + 1 := by omega
    unfold Lb.letters
    rw [if_neg (by omega), this]
theorem small_ret (s : List UInt8) (w : World) (hl : s.length ≤ 1000000) : Ret Tryz.prog 147 #[.string ⟨s.toArray⟩] w (fun v w' => v = .string ⟨(Lb.small s).toArray⟩ ∧ Below w.heap.size w w') := by
  refine ret_of fun K hK => S_foliantref38_small_ok ?_
  unfold S_foliantref38_small
  refine loop (fun vs w' => ∃ (i : Nat) (v : Value), vs = [v, .int .i64 i] ∧ i ≤ s.length ∧ Own w w' [BRow v (Lb.small (s.take i))]) (fun vs _ => s.length - n1 vs) ⟨0, _, rfl, by omega, (Own.start w).nilRow _ 1⟩ ?_
  rintro vs w2 ⟨i, v, rfl, hi, ho⟩ _
  simp only [S_foliantref38_small_0, gd, s_len Tryz.underlying9, rs]
  by_cases hlt : (i : Int) < (s.length : Int)
  · have hi' : i < s.length := by omega
    simp only [hlt, decide_true, i_t]
    rw [s_ix (c := s[i]) Tryz.underlying9 (by omega) (by rw [Int.toNat_natCast, List.getElem?_eq_getElem hi'])]
    simp only [rs]
    refine o_appB (m := [s[i] + 32]) (fun w => lb_b1 w (s[i] + 32) ?_) ho (by simp [Lb.small]; omega) fun v' w3 ho => ?_
    · have := s[i].toNat_lt
      rw [UInt8.toNat_add]
      unfold IntKind.wrap
      simp [IntKind.bits, IntKind.signed]
      try omega
    rw [wrap64_id (by omega) (by omega)]
    refine nextX ⟨i + 1, v', rfl, by omega, ?_⟩ (by simp [n1, intOf]; omega)
    have e : Lb.small (s.take (i + 1)) = Lb.small (s.take i) ++ [s[i] + 32] := by
      unfold Lb.small
      rw [List.take_succ_eq_append_getElem hi', List.map_append]; rfl
    rw [e]; exact ho
  · simp only [hlt, decide_false, i_f]
    rw [List.take_of_length_le (by omega)] at ho
    rw [o_strB 0 ho rfl]
    exact hK _ _ ⟨rfl, ho.done⟩
end Go.Proofs.YtiklhhdohckfiaaGreatDoor
namespace Go.Proofs.YtiklhhdohckfiaaGreatDoor
set_option linter.unusedVariables false
set_option linter.unusedSimpArgs false
set_option linter.defProp false
open Eng Go.RowKit

def obC (o : Ob) (vk vc : Value) : List Value := [.int .i64 o.k, .int .i64 o.n, .int .i64 o.g, .string ⟨o.s.toArray⟩, vk, vc]
def obV (o : Ob) (vk vc : Value) : Value := .agg (obC o vk vc).toArray
def obE (b : Nat) (o : Ob) (vk vc : Value) : Ent := .cells b (obC o vk vc) 25
structure ObAt (A : Nat → Prop) (w : World) (o : Ob) (vk vc : Value) (cs : List Value) : Prop where
  keys : SlA A w vk 1 o.keys.length (strsV o.keys)
  kids : SlA A w vc 6 o.kids.length cs
  all : OVs A w cs o.kids
theorem OV.open {A : Nat → Prop} {w : World} {v : Value} {o : Ob} (h : OV A w v o) : ∃ vk vc cs, v = obV o vk vc ∧ ObAt A w o vk vc cs := by
  cases o with
  | mk k n g s keys kids =>
    rw [OV] at h
    obtain ⟨vk, vc, cs, rfl, h1, h2, h3⟩ := h
    exact ⟨vk, vc, cs, rfl, h1, h2, h3⟩
theorem ObAt.ov {A : Nat → Prop} {w : World} {o : Ob} {vk vc : Value} {cs : List Value} (h : ObAt A w o vk vc cs) : OV A w (obV o vk vc) o := by
  cases o with
  | mk k n g s keys kids =>
    rw [OV]
    exact ⟨vk, vc, cs, rfl, h.keys, h.kids, h.all⟩
theorem ObAt.kept {A : Nat → Prop} {w w' : World} {o : Ob} {vk vc : Value} {cs : List Value} (h : ObAt A w o vk vc cs) (hk : Kept A w w') : ObAt A w' o vk vc cs :=
  ⟨h.keys.kept hk, h.kids.kept hk, OVs.kept hk _ _ h.all⟩
theorem kept_below {A : Nat → Prop} {w w' : World} (hA : ∀ b, A b → b < w.heap.size) (h : Below w.heap.size w w') : Kept A w w' := fun b hb => h.block b (hA b hb)
theorem OwnS.keptIn {w0 w : World} {L : List Ent} (h : Own w0 w L) : Kept (InW w0) w0 w := kept_below (fun _ h => h) h.done
theorem OV.own {w0 w : World} {L : List Ent} {v : Value} {o : Ob} (h : OV (InW w0) w0 v o) (ho : Own w0 w L) : OV (InW w0) w v o := OV.kept (OwnS.keptIn ho) o v h
theorem OV.at_ {w0 w : World} {L : List Ent} {v : Value} {o : Ob} (h : OV (InW w0) w0 v o) (ho : Own w0 w L) : OV (InW w) w v o := OV.mono (fun _ hb => Nat.lt_of_lt_of_le hb ho.size) o v (h.own ho)
theorem ObAt.own {w0 w : World} {L : List Ent} {o : Ob} {vk vc : Value} {cs : List Value} (h : ObAt (InW w0) w0 o vk vc cs) (ho : Own w0 w L) : ObAt (InW w0) w o vk vc cs := h.kept (OwnS.keptIn ho)
theorem SlA.one {A : Nat → Prop} {w : World} {v : Value} {sz n : Nat} {cs : List Value} (h : SlA A w v sz n cs) : v.oneCell' = true := by
  obtain ⟨⟨_, a, cap, rfl, _⟩, _⟩ := h
  rfl
theorem aggOb : aggN Tryz.prog 25 = some 6 := by kernel_rfl
theorem szOb : (Tryz.prog.info? 25).map (·.size) = some 6 := by kernel_rfl
theorem nSlOb : notAgg Tryz.prog 23 = true := by kernel_rfl
theorem nSlS5 : notAgg Tryz.prog 22 = true := by kernel_rfl
theorem nI65 : notAgg Tryz.prog 2 = true := by kernel_rfl
theorem nInt5 : notAgg Tryz.prog 3 = true := by kernel_rfl
theorem nStr5 : notAgg Tryz.prog 9 = true := by kernel_rfl
theorem fo_o0 : fOff Tryz.prog 25 0 = some 0 := by kernel_rfl
theorem fo_o1 : fOff Tryz.prog 25 1 = some 1 := by kernel_rfl
theorem fo_o2 : fOff Tryz.prog 25 2 = some 2 := by kernel_rfl
theorem fo_o3 : fOff Tryz.prog 25 3 = some 3 := by kernel_rfl
theorem fo_o4 : fOff Tryz.prog 25 4 = some 4 := by kernel_rfl
theorem fo_o5 : fOff Tryz.prog 25 5 = some 5 := by kernel_rfl
section
variable {w : World} {PK : List PanicEntry → World → Prop} {K : Value → World → Prop} {S : Nat → Prop} {w0 : World} {L : List Ent}
theorem fa_o0 {b off : Nat} : DoX Tryz.prog (mFA 25 (.pointer (some ⟨b, off, none⟩)) 0) w PK K = K (.pointer (some ⟨b, off, none⟩)) w := f_addr fo_o0
theorem fa_o1 {b off : Nat} : DoX Tryz.prog (mFA 25 (.pointer (some ⟨b, off, none⟩)) 1) w PK K = K (.pointer (some ⟨b, off + 1, none⟩)) w := f_addr fo_o1
theorem fa_o2 {b off : Nat} : DoX Tryz.prog (mFA 25 (.pointer (some ⟨b, off, none⟩)) 2) w PK K = K (.pointer (some ⟨b, off + 2, none⟩)) w := f_addr fo_o2
theorem fa_o3 {b off : Nat} : DoX Tryz.prog (mFA 25 (.pointer (some ⟨b, off, none⟩)) 3) w PK K = K (.pointer (some ⟨b, off + 3, none⟩)) w := f_addr fo_o3
theorem fa_o4 {b off : Nat} : DoX Tryz.prog (mFA 25 (.pointer (some ⟨b, off, none⟩)) 4) w PK K = K (.pointer (some ⟨b, off + 4, none⟩)) w := f_addr fo_o4
theorem fa_o5 {b off : Nat} : DoX Tryz.prog (mFA 25 (.pointer (some ⟨b, off, none⟩)) 5) w PK K = K (.pointer (some ⟨b, off + 5, none⟩)) w := f_addr fo_o5
theorem o_obb (o : Ob) {vk vc : Value} (hk : vk.oneCell' = true) (hc : vc.oneCell' = true) (ho : OwnS S w0 w L) (k : ∀ b w', OwnS S w0 w' (obE b o vk vc :: L) → K (.pointer (some ⟨b, 0, none⟩)) w') : DoX Tryz.prog (mBox 25 (obV o vk vc)) w PK K := by
  cases vk <;> first | (cases hk; done) | skip
  all_goals cases vc <;> first | (cases hc; done) | exact o_new (fun b => .pointer (some ⟨b, 0, none⟩)) (obC o _ _) 25 (fun _ => by kernel_rfl) ho k
def ob0 : Ob := .mk 0 0 0 [] [] []
theorem o_oba (ho : OwnS S w0 w L) (k : ∀ b w', OwnS S w0 w' (obE b ob0 (.slice none 0 0) (.slice none 0 0) :: L) → K (.pointer (some ⟨b, 0, none⟩)) w') : DoX Tryz.prog (mAlloc 25) w PK K :=
  o_new (fun b => .pointer (some ⟨b, 0, none⟩)) (obC ob0 (.slice none 0 0) (.slice none 0 0)) 25 (fun _ => by kernel_rfl) ho k
theorem obC_one (o : Ob) {vk vc : Value} (hk : vk.oneCell' = true) (hc : vc.oneCell' = true) : ∀ v ∈ obC o vk vc, v.oneCell' = true := by
  intro v hv
  simp only [obC, List.mem_cons, List.not_mem_nil, or_false] at hv
  rcases hv with rfl | rfl | rfl | rfl | rfl | rfl <;> first | rfl | assumption
theorem ob_put (i : Nat) {b : Nat} {o o' : Ob} {vk vc vk' vc' : Value} (hk : vk'.oneCell' = true) (hc : vc'.oneCell' = true) (ho : OwnS S w0 w L) (hi : L[i]? = some (obE b o vk vc)) (k : ∀ w', OwnS S w0 w' (L.set i (obE b o' vk' vc')) → K undef w') :
    DoX Tryz.prog (mStore 25 (.pointer (some ⟨b, 0, none⟩)) (obV o' vk' vc')) w PK K := o_put i ho hi (new := obC o' vk' vc') szOb (obC_one o' hk hc) rfl k
theorem ob_k (ho : OwnS S w0 w L) (i : Nat) {b : Nat} {o : Ob} {vk vc : Value} (hi : L[i]? = some (obE b o vk vc)) : DoX Tryz.prog (mLoad 3 (.pointer (some ⟨b, 0, none⟩))) w PK K = K (.int .i64 o.k) w := l_cell nInt5 (ho.cell i hi 0 rfl)
theorem ob_n (ho : OwnS S w0 w L) (i : Nat) {b : Nat} {o : Ob} {vk vc : Value} (hi : L[i]? = some (obE b o vk vc)) : DoX Tryz.prog (mLoad 2 (.pointer (some ⟨b, 0 + 1, none⟩))) w PK K = K (.int .i64 o.n) w := l_cell nI65 (ho.cell i hi 1 rfl)
theorem ob_g (ho : OwnS S w0 w L) (i : Nat) {b : Nat} {o : Ob} {vk vc : Value} (hi : L[i]? = some (obE b o vk vc)) : DoX Tryz.prog (mLoad 3 (.pointer (some ⟨b, 0 + 2, none⟩))) w PK K = K (.int .i64 o.g) w := l_cell nInt5 (ho.cell i hi 2 rfl)
theorem ob_s (ho : OwnS S w0 w L) (i : Nat) {b : Nat} {o : Ob} {vk vc : Value} (hi : L[i]? = some (obE b o vk vc)) : DoX Tryz.prog (mLoad 9 (.pointer (some ⟨b, 0 + 3, none⟩))) w PK K = K (.string ⟨o.s.toArray⟩) w := l_cell nStr5 (ho.cell i hi 3 rfl)
theorem ob_keys (ho : OwnS S w0 w L) (i : Nat) {b : Nat} {o : Ob} {vk vc : Value} (hi : L[i]? = some (obE b o vk vc)) : DoX Tryz.prog (mLoad 22 (.pointer (some ⟨b, 0 + 4, none⟩))) w PK K = K vk w := l_cell nSlS5 (ho.cell i hi 4 rfl)
theorem ob_kids (ho : OwnS S w0 w L) (i : Nat) {b : Nat} {o : Ob} {vk vc : Value} (hi : L[i]? = some (obE b o vk vc)) : DoX Tryz.prog (mLoad 23 (.pointer (some ⟨b, 0 + 5, none⟩))) w PK K = K vc w := l_cell nSlOb (ho.cell i hi 5 rfl)
theorem ob_v (ho : OwnS S w0 w L) (i : Nat) {b : Nat} {o : Ob} {vk vc : Value} (hi : L[i]? = some (obE b o vk vc)) : DoX Tryz.prog (mLoad 25 (.pointer (some ⟨b, 0, none⟩))) w PK K = K (obV o vk vc) w := l_at (ho.agg i hi aggOb)
theorem ob_ia {A : Nat → Prop} {vc : Value} {os : List Ob} {cs : List Value} {K : Value → World → Prop} {PK2 : List PanicEntry → World → Prop} (hs : Sl w vc 6 os.length cs) (hall : OVs A w cs os) {i : Nat} (hi : i < os.length)
    (k : ∀ v, OV A w v os[i] → K v w) : DoX Tryz.prog (mIA 23 vc (.int .i64 (i : Int))) w PK fun t w => DoX Tryz.prog (mLoad 25 t) w PK2 K := by
  obtain ⟨b, off, cap, rfl, hc⟩ := sl_open hs (by omega)
  refine do_eq (run_ia Tryz.underlying23 szOb (by omega) (by omega)) |>.mpr ?_
  rw [Int.toNat_natCast]
  obtain ⟨a, hl, hov, hget⟩ := OVs.get os cs i hi hall
  refine do_eq (run_load_at (v := .agg a.toArray) (AtV.agg aggOb hl fun j v hj => ?_)) |>.mpr (k _ hov)
  rw [Nat.add_assoc]
  exact hc _ _ (hget j v hj)
end
end Go.Proofs.YtiklhhdohckfiaaGreatDoor
namespace Go.Proofs.YtiklhhdohckfiaaGreatDoor
set_option linter.unusedVariables false
set_option linter.unusedSimpArgs false
set_option linter.defProp false
set_option maxRecDepth 20000
open Eng Go.RowKit

abbrev sgT : TypeId := 113
abbrev sgA : TypeId := 114
def sgC : List Value := Lb.signs.flatMap fun p => [.int .i64 (p.1 : Int), .string ⟨p.2.toArray⟩]
section
variable {w : World} {PK : List PanicEntry → World → Prop} {K : Value → World → Prop}
theorem m_sg {a : Int} {s : ByteArray} : DoX Tryz.prog (mBuild sgT #[(0, .int .i64 a), (1, .string s)]) w PK K = K (.agg #[.int .i64 a, .string s]) w := do_eq (by kernel_rfl)
theorem m_sga : DoX Tryz.prog (mBuild sgA #[(0, .agg #[.int .i64 1000, .string ⟨#[77]⟩]), (1, .agg #[.int .i64 900, .string ⟨#[67, 77]⟩]), (2, .agg #[.int .i64 500, .string ⟨#[68]⟩]), (3, .agg #[.int .i64 400, .string ⟨#[67, 68]⟩]), (4, .agg #[.int .i64 100, .string ⟨#[67]⟩]), (5, .agg #[.int .i64 90, .string ⟨#[88, 67]⟩]), (6, .agg #[.int .i64 50, .string ⟨#[76]⟩]), (7, .agg #[.int .i64 40, .string ⟨#[88, 76]⟩]), (8, .agg #[.int .i64 10, .string ⟨#[88]⟩]), (9, .agg #[.int .i64 9, .string ⟨#[73, 88]⟩]), (10, .agg #[.int .i64 5, .string ⟨#[86]⟩]), (11, .agg #[.int .i64 4, .string ⟨#[73, 86]⟩]), (12, .agg #[.int .i64 1, .string ⟨#[73]⟩])]) w PK K = K (.agg sgC.toArray) w := do_eq (by kernel_rfl)
theorem m_ss : DoX Tryz.prog (mBuild 115 #[(0, (.string ⟨#[77]⟩)), (1, (.string ⟨#[67, 77]⟩)), (2, (.string ⟨#[68]⟩)), (3, (.string ⟨#[67, 68]⟩)), (4, (.string ⟨#[67]⟩)), (5, (.string ⟨#[88, 67]⟩)), (6, (.string ⟨#[76]⟩)), (7, (.string ⟨#[88, 76]⟩)), (8, (.string ⟨#[88]⟩)), (9, (.string ⟨#[73, 88]⟩)), (10, (.string ⟨#[86]⟩)), (11, (.string ⟨#[73, 86]⟩)), (12, (.string ⟨#[73]⟩))]) w PK K = K (.agg (Lb.signs.map fun p => Value.string ⟨p.2.toArray⟩).toArray) w := do_eq (by kernel_rfl)
theorem m_si : DoX Tryz.prog (mBuild 116 #[(0, (.int .i64 1000)), (1, (.int .i64 900)), (2, (.int .i64 500)), (3, (.int .i64 400)), (4, (.int .i64 100)), (5, (.int .i64 90)), (6, (.int .i64 50)), (7, (.int .i64 40)), (8, (.int .i64 10)), (9, (.int .i64 9)), (10, (.int .i64 5)), (11, (.int .i64 4)), (12, (.int .i64 1))]) w PK K = K (.agg (Lb.signs.map fun p => Value.int .i64 (p.1 : Int)).toArray) w := do_eq (by kernel_rfl)
theorem r_sgix_0 : (mIx sgA (.agg sgC.toArray) (.int .i64 ((0 : Nat) : Int))).run Tryz.prog w = .ok (.value (.agg #[.int .i64 (Lb.signs[0].1 : Int), .string ⟨Lb.signs[0].2.toArray⟩])) w := by kernel_rfl
theorem r_ia13s_0 {b : Nat} : (mIA 115 (.pointer (some ⟨b, 0, none⟩)) (.int .i64 ((0 : Nat) : Int))).run Tryz.prog w = .ok (.value (.pointer (some ⟨b, 0, none⟩))) w := by kernel_rfl
theorem r_ia13i_0 {b : Nat} : (mIA 116 (.pointer (some ⟨b, 0, none⟩)) (.int .i64 ((0 : Nat) : Int))).run Tryz.prog w = .ok (.value (.pointer (some ⟨b, 0, none⟩))) w := by kernel_rfl
theorem r_sgix_1 : (mIx sgA (.agg sgC.toArray) (.int .i64 ((1 : Nat) : Int))).run Tryz.prog w = .ok (.value (.agg #[.int .i64 (Lb.signs[1].1 : Int), .string ⟨Lb.signs[1].2.toArray⟩])) w := by kernel_rfl
theorem r_ia13s_1 {b : Nat} : (mIA 115 (.pointer (some ⟨b, 0, none⟩)) (.int .i64 ((1 : Nat) : Int))).run Tryz.prog w = .ok (.value (.pointer (some ⟨b, 1, none⟩))) w := by kernel_rfl
theorem r_ia13i_1 {b : Nat} : (mIA 116 (.pointer (some ⟨b, 0, none⟩)) (.int .i64 ((1 : Nat) : Int))).run Tryz.prog w = .ok (.value (.pointer (some ⟨b, 1, none⟩))) w := by kernel_rfl
theorem r_sgix_2 : (mIx sgA (.agg sgC.toArray) (.int .i64 ((2 : Nat) : Int))).run Tryz.prog w = .ok (.value (.agg #[.int .i64 (Lb.signs[2].1 : Int), .string ⟨Lb.signs[2].2.toArray⟩])) w := by kernel_rfl
theorem r_ia13s_2 {b : Nat} : (mIA 115 (.pointer (some ⟨b, 0, none⟩)) (.int .i64 ((2 : Nat) : Int))).run Tryz.prog w = .ok (.value (.pointer (some ⟨b, 2, none⟩))) w := by kernel_rfl
theorem r_ia13i_2 {b : Nat} : (mIA 116 (.pointer (some ⟨b, 0, none⟩)) (.int .i64 ((2 : Nat) : Int))).run Tryz.prog w = .ok (.value (.pointer (some ⟨b, 2, none⟩))) w := by kernel_rfl
theorem r_sgix_3 : (mIx sgA (.agg sgC.toArray) (.int .i64 ((3 : Nat) : Int))).run Tryz.prog w = .ok (.value (.agg #[.int .i64 (Lb.signs[3].1 : Int), .string ⟨Lb.signs[3].2.toArray⟩])) w := by kernel_rfl
theorem r_ia13s_3 {b : Nat} : (mIA 115 (.pointer (some ⟨b, 0, none⟩)) (.int .i64 ((3 : Nat) : Int))).run Tryz.prog w = .ok (.value (.pointer (some ⟨b, 3, none⟩))) w := by kernel_rfl
theorem r_ia13i_3 {b : Nat} : (mIA 116 (.pointer (some ⟨b, 0, none⟩)) (.int .i64 ((3 : Nat) : Int))).run Tryz.prog w = .ok (.value (.pointer (some ⟨b, 3, none⟩))) w := by kernel_rfl
theorem r_sgix_4 : (mIx sgA (.agg sgC.toArray) (.int .i64 ((4 : Nat) : Int))).run Tryz.prog w = .ok (.value (.agg #[.int .i64 (Lb.signs[4].1 : Int), .string ⟨Lb.signs[4].2.toArray⟩])) w := by kernel_rfl
theorem r_ia13s_4 {b : Nat} : (mIA 115 (.pointer (some ⟨b, 0, none⟩)) (.int .i64 ((4 : Nat) : Int))).run Tryz.prog w = .ok (.value (.pointer (some ⟨b, 4, none⟩))) w := by kernel_rfl
theorem r_ia13i_4 {b : Nat} : (mIA 116 (.pointer (some ⟨b, 0, none⟩)) (.int .i64 ((4 : Nat) : Int))).run Tryz.prog w = .ok (.value (.pointer (some ⟨b, 4, none⟩))) w := by kernel_rfl
theorem r_sgix_5 : (mIx sgA (.agg sgC.toArray) (.int .i64 ((5 : Nat) : Int))).run Tryz.prog w = .ok (.value (.agg #[.int .i64 (Lb.signs[5].1 : Int), .string ⟨Lb.signs[5].2.toArray⟩])) w := by kernel_rfl
theorem r_ia13s_5 {b : Nat} : (mIA 115 (.pointer (some ⟨b, 0, none⟩)) (.int .i64 ((5 : Nat) : Int))).run Tryz.prog w = .ok (.value (.pointer (some ⟨b, 5, none⟩))) w := by kernel_rfl
theorem r_ia13i_5 {b : Nat} : (mIA 116 (.pointer (some ⟨b, 0, none⟩)) (.int .i64 ((5 : Nat) : Int))).run Tryz.prog w = .ok (.value (.pointer (some ⟨b, 5, none⟩))) w := by kernel_rfl
theorem r_sgix_6 : (mIx sgA (.agg sgC.toArray) (.int .i64 ((6 : Nat) : Int))).run Tryz.prog w = .ok (.value (.agg #[.int .i64 (Lb.signs[6].1 : Int), .string ⟨Lb.signs[6].2.toArray⟩])) w := by kernel_rfl
theorem r_ia13s_6 {b : Nat} : (mIA 115 (.pointer (some ⟨b, 0, none⟩)) (.int .i64 ((6 : Nat) : Int))).run Tryz.prog w = .ok (.value (.pointer (some ⟨b, 6, none⟩))) w := by kernel_rfl
theorem r_ia13i_6 {b : Nat} : (mIA 116 (.pointer (some ⟨b, 0, none⟩)) (.int .i64 ((6 : Nat) : Int))).run Tryz.prog w = .ok (.value (.pointer (some ⟨b, 6, none⟩))) w := by kernel_rfl
theorem r_sgix_7 : (mIx sgA (.agg sgC.toArray) (.int .i64 ((7 : Nat) : Int))).run Tryz.prog w = .ok (.value (.agg #[.int .i64 (Lb.signs[7].1 : Int), .string ⟨Lb.signs[7].2.toArray⟩])) w := by kernel_rfl
theorem r_ia13s_7 {b : Nat} : (mIA 115 (.pointer (some ⟨b, 0, none⟩)) (.int .i64 ((7 : Nat) : Int))).run Tryz.prog w = .ok (.value (.pointer (some ⟨b, 7, none⟩))) w := by kernel_rfl
theorem r_ia13i_7 {b : Nat} : (mIA 116 (.pointer (some ⟨b, 0, none⟩)) (.int .i64 ((7 : Nat) : Int))).run Tryz.prog w = .ok (.value (.pointer (some ⟨b, 7, none⟩))) w := by kernel_rfl
theorem r_sgix_8 : (mIx sgA (.agg sgC.toArray) (.int .i64 ((8 : Nat) : Int))).run Tryz.prog w = .ok (.value (.agg #[.int .i64 (Lb.signs[8].1 : Int), .string ⟨Lb.signs[8].2.toArray⟩])) w := by kernel_rfl
theorem r_ia13s_8 {b : Nat} : (mIA 115 (.pointer (some ⟨b, 0, none⟩)) (.int .i64 ((8 : Nat) : Int))).run Tryz.prog w = .ok (.value (.pointer (some ⟨b, 8, none⟩))) w := by kernel_rfl
theorem r_ia13i_8 {b : Nat} : (mIA 116 (.pointer (some ⟨b, 0, none⟩)) (.int .i64 ((8 : Nat) : Int))).run Tryz.prog w = .ok (.value (.pointer (some ⟨b, 8, none⟩))) w := by kernel_rfl
theorem r_sgix_9 : (mIx sgA (.agg sgC.toArray) (.int .i64 ((9 : Nat) : Int))).run Tryz.prog w = .ok (.value (.agg #[.int .i64 (Lb.signs[9].1 : Int), .string ⟨Lb.signs[9].2.toArray⟩])) w := by kernel_rfl
theorem r_ia13s_9 {b : Nat} : (mIA 115 (.pointer (some ⟨b, 0, none⟩)) (.int .i64 ((9 : Nat) : Int))).run Tryz.prog w = .ok (.value (.pointer (some ⟨b, 9, none⟩))) w := by kernel_rfl
theorem r_ia13i_9 {b : Nat} : (mIA 116 (.pointer (some ⟨b, 0, none⟩)) (.int .i64 ((9 : Nat) : Int))).run Tryz.prog w = .ok (.value (.pointer (some ⟨b, 9, none⟩))) w := by kernel_rfl
theorem r_sgix_10 : (mIx sgA (.agg sgC.toArray) (.int .i64 ((10 : Nat) : Int))).run Tryz.prog w = .ok (.value (.agg #[.int .i64 (Lb.signs[10].1 : Int), .string ⟨Lb.signs[10].2.toArray⟩])) w := by kernel_rfl
theorem r_ia13s_10 {b : Nat} : (mIA 115 (.pointer (some ⟨b, 0, none⟩)) (.int .i64 ((10 : Nat) : Int))).run Tryz.prog w = .ok (.value (.pointer (some ⟨b, 10, none⟩))) w := by kernel_rfl
theorem r_ia13i_10 {b : Nat} : (mIA 116 (.pointer (some ⟨b, 0, none⟩)) (.int .i64 ((10 : Nat) : Int))).run Tryz.prog w = .ok (.value (.pointer (some ⟨b, 10, none⟩))) w := by kernel_rfl
theorem r_sgix_11 : (mIx sgA (.agg sgC.toArray) (.int .i64 ((11 : Nat) : Int))).run Tryz.prog w = .ok (.value (.agg #[.int .i64 (Lb.signs[11].1 : Int), .string ⟨Lb.signs[11].2.toArray⟩])) w := by kernel_rfl
theorem r_ia13s_11 {b : Nat} : (mIA 115 (.pointer (some ⟨b, 0, none⟩)) (.int .i64 ((11 : Nat) : Int))).run Tryz.prog w = .ok (.value (.pointer (some ⟨b, 11, none⟩))) w := by kernel_rfl
theorem r_ia13i_11 {b : Nat} : (mIA 116 (.pointer (some ⟨b, 0, none⟩)) (.int .i64 ((11 : Nat) : Int))).run Tryz.prog w = .ok (.value (.pointer (some ⟨b, 11, none⟩))) w := by kernel_rfl
theorem r_sgix_12 : (mIx sgA (.agg sgC.toArray) (.int .i64 ((12 : Nat) : Int))).run Tryz.prog w = .ok (.value (.agg #[.int .i64 (Lb.signs[12].1 : Int), .string ⟨Lb.signs[12].2.toArray⟩])) w := by kernel_rfl
theorem r_ia13s_12 {b : Nat} : (mIA 115 (.pointer (some ⟨b, 0, none⟩)) (.int .i64 ((12 : Nat) : Int))).run Tryz.prog w = .ok (.value (.pointer (some ⟨b, 12, none⟩))) w := by kernel_rfl
theorem r_ia13i_12 {b : Nat} : (mIA 116 (.pointer (some ⟨b, 0, none⟩)) (.int .i64 ((12 : Nat) : Int))).run Tryz.prog w = .ok (.value (.pointer (some ⟨b, 12, none⟩))) w := by kernel_rfl
theorem r_sgix {i : Nat} (hi : i < 13) : (mIx sgA (.agg sgC.toArray) (.int .i64 (i : Int))).run Tryz.prog w = .ok (.value (.agg #[.int .i64 ((Lb.signs[i]'hi).1 : Int), .string ⟨(Lb.signs[i]'hi).2.toArray⟩])) w := by
  match i, hi with
  | 0, _ => exact r_sgix_0
  | 1, _ => exact r_sgix_1
  | 2, _ => exact r_sgix_2
  | 3, _ => exact r_sgix_3
  | 4, _ => exact r_sgix_4
  | 5, _ => exact r_sgix_5
  | 6, _ => exact r_sgix_6
  | 7, _ => exact r_sgix_7
  | 8, _ => exact r_sgix_8
  | 9, _ => exact r_sgix_9
  | 10, _ => exact r_sgix_10
  | 11, _ => exact r_sgix_11
  | 12, _ => exact r_sgix_12
theorem r_ia13s {b i : Nat} (hi : i < 13) : (mIA 115 (.pointer (some ⟨b, 0, none⟩)) (.int .i64 (i : Int))).run Tryz.prog w = .ok (.value (.pointer (some ⟨b, i, none⟩))) w := by
  match i, hi with
  | 0, _ => exact r_ia13s_0
  | 1, _ => exact r_ia13s_1
  | 2, _ => exact r_ia13s_2
  | 3, _ => exact r_ia13s_3
  | 4, _ => exact r_ia13s_4
  | 5, _ => exact r_ia13s_5
  | 6, _ => exact r_ia13s_6
  | 7, _ => exact r_ia13s_7
  | 8, _ => exact r_ia13s_8
  | 9, _ => exact r_ia13s_9
  | 10, _ => exact r_ia13s_10
  | 11, _ => exact r_ia13s_11
  | 12, _ => exact r_ia13s_12
theorem r_ia13i {b i : Nat} (hi : i < 13) : (mIA 116 (.pointer (some ⟨b, 0, none⟩)) (.int .i64 (i : Int))).run Tryz.prog w = .ok (.value (.pointer (some ⟨b, i, none⟩))) w := by
  match i, hi with
  | 0, _ => exact r_ia13i_0
  | 1, _ => exact r_ia13i_1
  | 2, _ => exact r_ia13i_2
  | 3, _ => exact r_ia13i_3
  | 4, _ => exact r_ia13i_4
  | 5, _ => exact r_ia13i_5
  | 6, _ => exact r_ia13i_6
  | 7, _ => exact r_ia13i_7
  | 8, _ => exact r_ia13i_8
  | 9, _ => exact r_ia13i_9
  | 10, _ => exact r_ia13i_10
  | 11, _ => exact r_ia13i_11
  | 12, _ => exact r_ia13i_12
end
theorem sg_fo0 : fOff Tryz.prog sgT 0 = some 0 := by kernel_rfl
theorem sg_fo1 : fOff Tryz.prog sgT 1 = some 1 := by kernel_rfl
theorem sg_sz : (Tryz.prog.info? sgT).map (·.size) = some 2 := by kernel_rfl
theorem sgA_sz : (Tryz.prog.info? sgA).map (·.size) = some 26 := by kernel_rfl
theorem sgA_agg : aggN Tryz.prog sgA = some 26 := by kernel_rfl
theorem sgA_one : ∀ v ∈ sgC, v.oneCell' = true := by
  have : (sgC.all fun v => v.oneCell') = true := by kernel_rfl
  intro v hv
  exact List.all_eq_true.1 this v hv
theorem sg_pos {i : Nat} (hi : i < Lb.signs.length) : 1 ≤ (Lb.signs[i]).1 ∧ (Lb.signs[i]).1 ≤ 1000 ∧ (Lb.signs[i]).2.length ≤ 2 := by
  have : (Lb.signs.all fun p => decide (1 ≤ p.1 ∧ p.1 ≤ 1000 ∧ p.2.length ≤ 2)) = true := by decide
  have := List.all_eq_true.1 this _ (List.getElem_mem hi)
  simpa using this
theorem q_sadd {P : Program} {C : World → Prop} {K : Value → Prop} {T : TypeId} {a b : List UInt8} (hl : a.length + b.length ≤ 9223372036854775807) (h : K (.string ⟨(a ++ b).toArray⟩)) : QDo P C (mBin .add T (.string ⟨a.toArray⟩) (.string ⟨b.toArray⟩)) K := by
  refine q_do _ (fun _ => mv_run ?_) h
  have e : IntKind.i64.max = 9223372036854775807 := rfl
  have e2 : ¬ (((⟨a.toArray⟩ : ByteArray).size + (⟨b.toArray⟩ : ByteArray).size : Nat) : Int) > IntKind.i64.max := by rw [str_size, str_size, e]; omega
  simp only [binOp, Op.stringOp, if_neg e2, str_append]
  rfl
theorem lroman_ret (n : Int) (w : World) : Ret Tryz.prog 33 #[.int .i64 n] w (fun v w' => v = .string ⟨(Lb.roman n).toArray⟩ ∧ Below w.heap.size w w') := by
  refine ret_of fun K hK => S_label_Roman_ok ?_
  unfold S_label_Roman
  by_cases h1 : n < 1
  · simp only [rs, h1, decide_true, g_un]
    exact hK _ _ ⟨by rw [Lb.roman_out (.inl h1)], (Own.start w).done⟩
  simp only [rs, h1, decide_false]
  by_cases h2 : 3999 < n
  · simp only [h2, decide_true, i_t]
    exact hK _ _ ⟨by rw [Lb.roman_out (.inr h2)], (Own.start w).done⟩
  simp only [h2, decide_false, i_f, m_sg]
  rw [m_sga]
  refine o_new (fun b => .pointer (some ⟨b, 0, none⟩)) (List.replicate 13 [Value.int .i64 0, .string ⟨#[]⟩]).flatten sgA (fun _ => by kernel_rfl) (Own.start w) fun b w1 ho => ?_
  refine o_put 0 ho rfl (new := sgC) sgA_sz sgA_one rfl fun w2 ho => ?_
  have ho : Own w w2 [.cells b sgC sgA] := ho
  rw [l_at (ho.agg 0 rfl sgA_agg)]
  have ho := ho.tail
  obtain ⟨u, rfl⟩ : ∃ u : Nat, n = u := ⟨n.toNat, by omega⟩
  have hr : Lb.roman (u : Int) = Lb.romanG Lb.signs u := by unfold Lb.roman; rw [if_neg (by omega), Int.toNat_natCast]
  refine loop (fun vs w' => ∃ (i m : Nat) (acc : List UInt8), vs = [.int .i64 m, .string ⟨acc.toArray⟩, .int .i64 i] ∧ i ≤ 13 ∧ m ≤ 3999 ∧ acc.length ≤ i * 10000 ∧ Lb.romanG Lb.signs u = acc ++ Lb.romanG (Lb.signs.drop i) m ∧ Own w w' []) (fun vs _ => 13 - n2 vs) ⟨0, u, [], rfl, by omega, by omega, by simp, rfl, ho⟩ ?_
  clear ho
  rintro vs w3 ⟨i, m, acc, rfl, hi, hm, hacc, he, ho⟩ _
  simp only [S_label_Roman_0, gd, rs]
  by_cases hlt : (i : Int) < 13
  · have hi' : i < 13 := by omega
    have hp := sg_pos (i := i) hi'
    simp only [hlt, decide_true, i_t]
    rw [List.drop_eq_getElem_cons (show i < Lb.signs.length from hi'), Lb.romanG] at he
    refine do_eq (r_sgix hi') |>.mpr ?_
    generalize Lb.signs[i] = p at *
    refine o_new (fun b => .pointer (some ⟨b, 0, none⟩)) [Value.int .i64 0, .string ⟨#[]⟩] sgT (fun _ => by kernel_rfl) ho fun b6 w4 ho => ?_
    refine o_put 0 ho rfl (new := [.int .i64 (p.1 : Int), .string ⟨p.2.toArray⟩]) sg_sz (by simp [Value.oneCell']) rfl fun w5 ho => ?_
    have ho : Own w w5 [.cells b6 [.int .i64 (p.1 : Int), .string ⟨p.2.toArray⟩] sgT] := ho
    refine quiet (q_do _ (fun _ => run_fa sg_fo1) ?_)
    refine q_at (.string ⟨p.2.toArray⟩) (fun W hW => run_load_cell nStr5 ((ho.grow hW).cell 0 rfl 1 rfl)) ?_
    refine q_do _ (fun _ => run_fa sg_fo0) ?_
    refine q_at (.int .i64 (p.1 : Int)) (fun W hW => run_load_cell nInt5 ((ho.grow hW).cell 0 rfl 0 rfl)) ?_
    refine q_quo (by omega) ?_
    have hdm : m / p.1 ≤ m := Nat.div_le_self _ _
    have hq : ((m : Int).tdiv (p.1 : Int)) = ((m / p.1 : Nat) : Int) := by rw [Int.tdiv_eq_ediv_of_nonneg (by omega), Int.natCast_ediv]
    have hml0 : p.2.length * (m / p.1) ≤ 8000 := Nat.le_trans (Nat.mul_le_mul hp.2.2 (Nat.le_trans hdm hm)) (by omega)
    generalize m / p.1 = q at *
    rw [hq, wrap64_id (by omega) (by omega)]
    refine q_call _ (fun W hW => ret_grew (repeat_ret p.2 q W (by omega) (by omega)) hW) ?_
    have hrl := Lib.repeatL_length p.2 q
    rw [Nat.mul_comm] at hrl
    refine q_sadd (by omega) ?_
    intro w6 hW
    have ho := ho.grow hW
    rw [f_addr sg_fo0, l_cell nInt5 (ho.cell 0 rfl 0 rfl), b_rem (by omega), Int.tmod_eq_emod_of_nonneg (by omega), ← Int.natCast_emod]
    rw [wrap64_id (by omega) (by omega)]
    have hmm : m % p.1 < p.1 := Nat.mod_lt _ (by omega)
    refine nextX ⟨i + 1, m % p.1, _, rfl, by omega, by omega, ?_, ?_, ho.tail⟩ (by simp [n2, intOf]; omega)
    · rw [List.length_append]; omega
    · rw [List.append_assoc]; exact he
  · simp only [hlt, decide_false, i_f]
    have : i = 13 := by omega
    subst this
    rw [show Lb.signs.drop 13 = [] from rfl, Lb.romanG, List.append_nil] at he
    exact hK _ _ ⟨by rw [hr, he], ho.done⟩
theorem rroman_ret (n : Int) (w : World) : Ret Tryz.prog 34 #[.int .i64 n] w (fun v w' => v = .string ⟨(Lb.roman n).toArray⟩ ∧ Below w.heap.size w w') := by
  refine ret_of fun K hK => S_foliantref38_Roman_ok ?_
  unfold S_foliantref38_Roman
  rw [m_ss]
  refine o_new (fun b => .pointer (some ⟨b, 0, none⟩)) (List.replicate 13 (.string ⟨#[]⟩)) 115 (fun _ => by kernel_rfl) (Own.start w) fun b3 w1 ho => ?_
  refine o_put 0 ho rfl (new := Lb.signs.map fun p => Value.string ⟨p.2.toArray⟩) (by kernel_rfl) (by intro v hv; obtain ⟨p, _, rfl⟩ := List.mem_map.1 hv; rfl) rfl fun w2 ho => ?_
  rw [m_si]
  refine o_new (fun b => .pointer (some ⟨b, 0, none⟩)) (List.replicate 13 (.int .i64 0)) 116 (fun _ => by kernel_rfl) ho fun b4 w3 ho => ?_
  refine o_put 0 ho rfl (new := Lb.signs.map fun p => Value.int .i64 (p.1 : Int)) (by kernel_rfl) (by intro v hv; obtain ⟨p, _, rfl⟩ := List.mem_map.1 hv; rfl) rfl fun w4 ho => ?_
  have ho : Own w w4 [.cells b4 (Lb.signs.map fun p => Value.int .i64 (p.1 : Int)) 116, .cells b3 (Lb.signs.map fun p => Value.string ⟨p.2.toArray⟩) 115] := ho
  by_cases h1 : n < 1
  · simp only [rs, h1, decide_true, g_un]
    exact hK _ _ ⟨by rw [Lb.roman_out (.inl h1)], ho.done⟩
  simp only [rs, h1, decide_false]
  by_cases h2 : 3999 < n
  · simp only [h2, decide_true, i_t]
    exact hK _ _ ⟨by rw [Lb.roman_out (.inr h2)], ho.done⟩
  simp only [h2, decide_false, i_f]
  obtain ⟨u, rfl⟩ : ∃ u : Nat, n = u := ⟨n.toNat, by omega⟩
  have hr : Lb.roman (u : Int) = Lb.romanG Lb.signs u := by unfold Lb.roman; rw [if_neg (by omega), Int.toNat_natCast]
  have gi : ∀ {i : Nat} (hi : i < Lb.signs.length), (Lb.signs.map fun p => Value.int .i64 (p.1 : Int))[i]? = some (.int .i64 ((Lb.signs[i]).1 : Int)) := fun hi => by rw [List.getElem?_map, List.getElem?_eq_getElem hi]; rfl
  have gs : ∀ {i : Nat} (hi : i < Lb.signs.length), (Lb.signs.map fun p => Value.string ⟨p.2.toArray⟩)[i]? = some (.string ⟨(Lb.signs[i]).2.toArray⟩) := fun hi => by rw [List.getElem?_map, List.getElem?_eq_getElem hi]; rfl
  refine loop (fun vs w' => ∃ (i m : Nat) (acc : List UInt8), vs = [.int .i64 m, .string ⟨acc.toArray⟩, .int .i64 i] ∧ i ≤ 13 ∧ m ≤ 3999 ∧ acc.length + 2 * m ≤ 10000 ∧ Lb.romanG Lb.signs u = acc ++ Lb.romanG (Lb.signs.drop i) m ∧ Own w w' [.cells b4 (Lb.signs.map fun p => Value.int .i64 (p.1 : Int)) 116, .cells b3 (Lb.signs.map fun p => Value.string ⟨p.2.toArray⟩) 115]) (fun vs _ => 13 - n2 vs) ⟨0, u, [], rfl, by omega, by omega, by simp; omega, rfl, ho⟩ ?_
  clear ho
  rintro vs w5 ⟨i, m, acc, rfl, hi, hm, hacc, he, ho⟩ _
  simp only [S_foliantref38_Roman_0, gd, rs]
  by_cases hlt : (i : Int) < 13
  · have hi' : i < Lb.signs.length := by show i < 13; omega
    have hp := sg_pos (i := i) hi'
    simp only [hlt, decide_true, i_t]
    refine loop (fun vs w' => ∃ (m : Nat) (acc : List UInt8), vs = [.int .i64 m, .string ⟨acc.toArray⟩] ∧ m ≤ 3999 ∧ acc.length + 2 * m ≤ 10000 ∧ Lb.romanG Lb.signs u = acc ++ Lb.romanG (Lb.signs.drop i) m ∧ Own w w' [.cells b4 (Lb.signs.map fun p => Value.int .i64 (p.1 : Int)) 116, .cells b3 (Lb.signs.map fun p => Value.string ⟨p.2.toArray⟩) 115]) (fun vs _ => n0 vs) ⟨m, acc, rfl, hm, hacc, he, ho⟩ ?_
    clear ho he hacc hm
    rintro vs w6 ⟨m, acc, rfl, hm, hacc, he, ho⟩ _
    simp only [S_foliantref38_Roman_1, gd, rs]
    have he2 := he
    rw [List.drop_eq_getElem_cons hi', Lb.romanG] at he2
    refine do_eq (r_ia13i hi') |>.mpr ?_
    rw [l_cell nInt5 (ho.cell 0 rfl i (gi hi'))]
    simp only [rs]
    by_cases hge : ((Lb.signs[i]).1 : Int) ≤ (m : Int)
    · simp only [hge, decide_true, i_t]
      refine do_eq (r_ia13s hi') |>.mpr ?_
      rw [l_cell nStr5 (ho.cell 1 rfl i (gs hi')), s_add (by omega)]
      refine do_eq (r_ia13i hi') |>.mpr ?_
      rw [l_cell nInt5 (ho.cell 0 rfl i (gi hi'))]
      simp only [rs]
      have e : (m : Int) - ((Lb.signs[i]).1 : Int) = ((m - (Lb.signs[i]).1 : Nat) : Int) := by omega
      rw [wrap64_id (by omega) (by omega), e]
      refine nextX ⟨m - (Lb.signs[i]).1, acc ++ (Lb.signs[i]).2, rfl, by omega, by rw [List.length_append]; omega, ?_, ho⟩ (by simp [n0, intOf]; omega)
      rw [List.drop_eq_getElem_cons hi', Lb.romanG, he2]
      have hd : m / (Lb.signs[i]).1 = (m - (Lb.signs[i]).1) / (Lb.signs[i]).1 + 1 := by rw [Nat.div_eq_sub_div (by omega) (by omega)]
      have hmo : m % (Lb.signs[i]).1 = (m - (Lb.signs[i]).1) % (Lb.signs[i]).1 := by rw [Nat.mod_eq_sub_mod (by omega)]
      rw [hd, hmo, Lib.repeatL]
      simp
    · simp only [hge, decide_false, i_f]
      rw [wrap64_id (by omega) (by omega)]
      refine nextX ⟨i + 1, m, acc, rfl, by omega, hm, hacc, ?_, ho⟩ (by simp [n2, intOf]; omega)
      rw [Nat.div_eq_of_lt (by omega), Nat.mod_eq_of_lt (by omega), Lib.repeatL, List.nil_append] at he2
      exact he2
  · simp only [hlt, decide_false, i_f]
    have : i = 13 := by omega
    subst this
    rw [show Lb.signs.drop 13 = [] from rfl, Lb.romanG, List.append_nil] at he
    exact hK _ _ ⟨by rw [hr, he], ho.done⟩
end Go.Proofs.YtiklhhdohckfiaaGreatDoor
namespace Go.Proofs.YtiklhhdohckfiaaGreatDoor
set_option linter.unusedVariables false
set_option linter.unusedSimpArgs false
set_option linter.defProp false
set_option linter.unusedVariables false
set_option maxRecDepth 20000
open Eng

def S_slices_Clone_string_string (t0 : Value) (w : World) (K : Ending → World → Prop) : Prop :=
 DoX Tryz.prog (mEq .eql 22 (.tmp 3) (.const (.slice none 0 0)) t0 (.slice none 0 0)) w (pk K) fun t4 w =>
 IfX t4 (K (.returned (.slice none 0 0)) w) (DoX Tryz.prog (mBuildS 22 0 #[]) w (pk K) fun t5 w =>
 DoX Tryz.prog (mB .append #[22, 22] 22 #[false, false] #[t5, t0]) w (pk K) fun t7 w =>
 K (.returned t7) w)
theorem S_slices_Clone_string_string_eq (t0 : Value) (w : World) (K : Ending → World → Prop) : wpX Tryz.prog 8 [] [] none (bodyOf Tryz.f183) (topQ Tryz.prog [.tmp 2] K) (startX [t0]) [] w = S_slices_Clone_string_string t0 w K := by kernel_rfl
theorem S_slices_Clone_string_string_ok {t0 : Value} {w : World} {K : Ending → World → Prop} (h : S_slices_Clone_string_string t0 w K) : Calls Tryz.prog 183 #[t0] w K :=
  calls_of_wpX Tryz.func183 rfl rfl rfl rfl (Eq.mpr (S_slices_Clone_string_string_eq t0 w K) h)

def S_slices_Clone_foliant_api_Object_foliant_api_Object (t0 : Value) (w : World) (K : Ending → World → Prop) : Prop :=
 DoX Tryz.prog (mEq .eql 23 (.tmp 3) (.const (.slice none 0 0)) t0 (.slice none 0 0)) w (pk K) fun t4 w =>
 IfX t4 (K (.returned (.slice none 0 0)) w) (DoX Tryz.prog (mBuildS 23 0 #[]) w (pk K) fun t5 w =>
 DoX Tryz.prog (mB .append #[23, 23] 23 #[false, false] #[t5, t0]) w (pk K) fun t7 w =>
 K (.returned t7) w)
theorem S_slices_Clone_foliant_api_Object_foliant_api_Object_eq (t0 : Value) (w : World) (K : Ending → World → Prop) : wpX Tryz.prog 8 [] [] none (bodyOf Tryz.f184) (topQ Tryz.prog [.tmp 2] K) (startX [t0]) [] w = S_slices_Clone_foliant_api_Object_foliant_api_Object t0 w K := by kernel_rfl
theorem S_slices_Clone_foliant_api_Object_foliant_api_Object_ok {t0 : Value} {w : World} {K : Ending → World → Prop} (h : S_slices_Clone_foliant_api_Object_foliant_api_Object t0 w K) : Calls Tryz.prog 184 #[t0] w K :=
  calls_of_wpX Tryz.func184 rfl rfl rfl rfl (Eq.mpr (S_slices_Clone_foliant_api_Object_foliant_api_Object_eq t0 w K) h)

def S_slices_Insert_string_string (t0 t1 t2 : Value) (w : World) (K : Ending → World → Prop) : Prop :=
 DoX Tryz.prog (mSlice 22 t0 (some t1) none none) w (pk K) fun t12 w =>
 DoX Tryz.prog (mB .len #[22] 3 #[false] #[t2]) w (pk K) fun t14 w =>
 DoX Tryz.prog (mEq .eql 3 (.tmp 15) (.const (.int .i64 0)) t14 (.int .i64 0)) w (pk K) fun t16 w =>
 IfX t16 (K (.returned t0) w) (DoX Tryz.prog (mB .len #[22] 3 #[false] #[t0]) w (pk K) fun t19 w =>
 DoX Tryz.prog (mEq .eql 3 (.tmp 20) (.tmp 21) t1 t19) w (pk K) fun t22 w =>
 IfX t22 (DoX Tryz.prog (mB .append #[22, 22] 22 #[false, false] #[t0, t2]) w (pk K) fun t25 w =>
 K (.returned t25) w) (DoX Tryz.prog (mBin .add 3 t19 t14) w (pk K) fun t28 w =>
 DoX Tryz.prog (mB .cap #[22] 3 #[false] #[t0]) w (pk K) fun t30 w =>
 DoX Tryz.prog (mBin .gtr 3 t28 t30) w (pk K) fun t31 w =>
 IfX t31 (DoX Tryz.prog (mSlice 22 t0 none (some t1) none) w (pk K) fun t34 w =>
 DoX Tryz.prog (mBin .add 3 t19 t14) w (pk K) fun t37 w =>
 DoX Tryz.prog (mBin .sub 3 t37 t1) w (pk K) fun t39 w =>
 DoX Tryz.prog (mB .append #[22, 3] 22 #[false, false] #[t34, t39]) w (pk K) fun t40 w =>
 DoX Tryz.prog (mSlice 22 t40 (some t1) none none) w (pk K) fun t43 w =>
 DoX Tryz.prog (mB .copy #[22, 22] 3 #[false, false] #[t43, t2]) w (pk K) fun t45 w =>
 QuietX w (fun C1 =>
 QDo Tryz.prog C1 (mBin .add 3 t1 t14) fun t49 =>
 QDo Tryz.prog C1 (mSlice 22 t40 (some t49) none none) fun t50 =>
 QDo Tryz.prog C1 (mSlice 22 t0 (some t1) none none) fun t53 =>
 ∀ w, C1 w →
 DoX Tryz.prog (mB .copy #[22, 22] 3 #[false, false] #[t50, t53]) w (pk K) fun t54 w =>
 K (.returned t40) w)) (DoX Tryz.prog (mBin .add 3 t19 t14) w (pk K) fun t59 w =>
 DoX Tryz.prog (mSlice 22 t0 none (some t59) none) w (pk K) fun t60 w =>
 DoX Tryz.prog (mBin .add 3 t1 t14) w (pk K) fun t65 w =>
 DoX Tryz.prog (mSlice 22 t60 (some t65) none none) w (pk K) fun t66 w =>
 DoX Tryz.prog (mCallV (.func (.func 224) #[] #[]) #[t2, t66]) w (pk K) fun t67 w =>
 DoX Tryz.prog (mUn .not t67) w (pk K) fun t68 w =>
 IfX t68 (QuietX w (fun C2 =>
 QDo Tryz.prog C2 (mBin .add 3 t1 t14) fun t72 =>
 QDo Tryz.prog C2 (mSlice 22 t60 (some t72) none none) fun t73 =>
 QDo Tryz.prog C2 (mSlice 22 t60 (some t1) none none) fun t76 =>
 ∀ w, C2 w →
 DoX Tryz.prog (mB .copy #[22, 22] 3 #[false, false] #[t73, t76]) w (pk K) fun t77 w =>
 DoX Tryz.prog (mSlice 22 t60 (some t1) none none) w (pk K) fun t80 w =>
 DoX Tryz.prog (mB .copy #[22, 22] 3 #[false, false] #[t80, t2]) w (pk K) fun t82 w =>
 K (.returned t60) w)) (DoX Tryz.prog (mSlice 22 t60 (some t19) none none) w (pk K) fun t86 w =>
 DoX Tryz.prog (mB .copy #[22, 22] 3 #[false, false] #[t86, t2]) w (pk K) fun t88 w =>
 DoX Tryz.prog (mSlice 22 t60 (some t1) none none) w (pk K) fun t91 w =>
 CallX Tryz.prog 225 #[t91, t14] w (pk K) fun t93 w =>
 K (.returned t60) w))))
theorem S_slices_Insert_string_string_eq (t0 t1 t2 : Value) (w : World) (K : Ending → World → Prop) : wpX Tryz.prog 95 [] [] none (bodyOf Tryz.f185) (topQ Tryz.prog [.tmp 6] K) (startX [t0, t1, t2]) [] w = S_slices_Insert_string_string t0 t1 t2 w K := by kernel_rfl
theorem S_slices_Insert_string_string_ok {t0 t1 t2 : Value} {w : World} {K : Ending → World → Prop} (h : S_slices_Insert_string_string t0 t1 t2 w K) : Calls Tryz.prog 185 #[t0, t1, t2] w K :=
  calls_of_wpX Tryz.func185 rfl rfl rfl rfl (Eq.mpr (S_slices_Insert_string_string_eq t0 t1 t2 w K) h)

def S_slices_Insert_foliant_api_Object_foliant_api_Object (t0 t1 t2 : Value) (w : World) (K : Ending → World → Prop) : Prop :=
 DoX Tryz.prog (mSlice 23 t0 (some t1) none none) w (pk K) fun t12 w =>
 DoX Tryz.prog (mB .len #[23] 3 #[false] #[t2]) w (pk K) fun t14 w =>
 DoX Tryz.prog (mEq .eql 3 (.tmp 15) (.const (.int .i64 0)) t14 (.int .i64 0)) w (pk K) fun t16 w =>
 IfX t16 (K (.returned t0) w) (DoX Tryz.prog (mB .len #[23] 3 #[false] #[t0]) w (pk K) fun t19 w =>
 DoX Tryz.prog (mEq .eql 3 (.tmp 20) (.tmp 21) t1 t19) w (pk K) fun t22 w =>
 IfX t22 (DoX Tryz.prog (mB .append #[23, 23] 23 #[false, false] #[t0, t2]) w (pk K) fun t25 w =>
 K (.returned t25) w) (DoX Tryz.prog (mBin .add 3 t19 t14) w (pk K) fun t28 w =>
 DoX Tryz.prog (mB .cap #[23] 3 #[false] #[t0]) w (pk K) fun t30 w =>
 DoX Tryz.prog (mBin .gtr 3 t28 t30) w (pk K) fun t31 w =>
 IfX t31 (DoX Tryz.prog (mSlice 23 t0 none (some t1) none) w (pk K) fun t34 w =>
 DoX Tryz.prog (mBin .add 3 t19 t14) w (pk K) fun t37 w =>
 DoX Tryz.prog (mBin .sub 3 t37 t1) w (pk K) fun t39 w =>
 DoX Tryz.prog (mB .append #[23, 3] 23 #[false, false] #[t34, t39]) w (pk K) fun t40 w =>
 DoX Tryz.prog (mSlice 23 t40 (some t1) none none) w (pk K) fun t43 w =>
 DoX Tryz.prog (mB .copy #[23, 23] 3 #[false, false] #[t43, t2]) w (pk K) fun t45 w =>
 QuietX w (fun C1 =>
 QDo Tryz.prog C1 (mBin .add 3 t1 t14) fun t49 =>
 QDo Tryz.prog C1 (mSlice 23 t40 (some t49) none none) fun t50 =>
 QDo Tryz.prog C1 (mSlice 23 t0 (some t1) none none) fun t53 =>
 ∀ w, C1 w →
 DoX Tryz.prog (mB .copy #[23, 23] 3 #[false, false] #[t50, t53]) w (pk K) fun t54 w =>
 K (.returned t40) w)) (DoX Tryz.prog (mBin .add 3 t19 t14) w (pk K) fun t59 w =>
 DoX Tryz.prog (mSlice 23 t0 none (some t59) none) w (pk K) fun t60 w =>
 DoX Tryz.prog (mBin .add 3 t1 t14) w (pk K) fun t65 w =>
 DoX Tryz.prog (mSlice 23 t60 (some t65) none none) w (pk K) fun t66 w =>
 DoX Tryz.prog (mCallV (.func (.func 226) #[] #[]) #[t2, t66]) w (pk K) fun t67 w =>
 DoX Tryz.prog (mUn .not t67) w (pk K) fun t68 w =>
 IfX t68 (QuietX w (fun C2 =>
 QDo Tryz.prog C2 (mBin .add 3 t1 t14) fun t72 =>
 QDo Tryz.prog C2 (mSlice 23 t60 (some t72) none none) fun t73 =>
 QDo Tryz.prog C2 (mSlice 23 t60 (some t1) none none) fun t76 =>
 ∀ w, C2 w →
 DoX Tryz.prog (mB .copy #[23, 23] 3 #[false, false] #[t73, t76]) w (pk K) fun t77 w =>
 DoX Tryz.prog (mSlice 23 t60 (some t1) none none) w (pk K) fun t80 w =>
 DoX Tryz.prog (mB .copy #[23, 23] 3 #[false, false] #[t80, t2]) w (pk K) fun t82 w =>
 K (.returned t60) w)) (DoX Tryz.prog (mSlice 23 t60 (some t19) none none) w (pk K) fun t86 w =>
 DoX Tryz.prog (mB .copy #[23, 23] 3 #[false, false] #[t86, t2]) w (pk K) fun t88 w =>
 DoX Tryz.prog (mSlice 23 t60 (some t1) none none) w (pk K) fun t91 w =>
 CallX Tryz.prog 227 #[t91, t14] w (pk K) fun t93 w =>
 K (.returned t60) w))))
theorem S_slices_Insert_foliant_api_Object_foliant_api_Object_eq (t0 t1 t2 : Value) (w : World) (K : Ending → World → Prop) : wpX Tryz.prog 95 [] [] none (bodyOf Tryz.f186) (topQ Tryz.prog [.tmp 6] K) (startX [t0, t1, t2]) [] w = S_slices_Insert_foliant_api_Object_foliant_api_Object t0 t1 t2 w K := by kernel_rfl
theorem S_slices_Insert_foliant_api_Object_foliant_api_Object_ok {t0 t1 t2 : Value} {w : World} {K : Ending → World → Prop} (h : S_slices_Insert_foliant_api_Object_foliant_api_Object t0 t1 t2 w K) : Calls Tryz.prog 186 #[t0, t1, t2] w K :=
  calls_of_wpX Tryz.func186 rfl rfl rfl rfl (Eq.mpr (S_slices_Insert_foliant_api_Object_foliant_api_Object_eq t0 t1 t2 w K) h)

def S_slices_Delete_string_string (t0 t1 t2 : Value) (w : World) (K : Ending → World → Prop) : Prop :=
 DoX Tryz.prog (mB .len #[22] 3 #[false] #[t0]) w (pk K) fun t12 w =>
 DoX Tryz.prog (mSlice 22 t0 (some t1) (some t2) (some t12)) w (pk K) fun t13 w =>
 DoX Tryz.prog (mEq .eql 3 (.tmp 14) (.tmp 15) t1 t2) w (pk K) fun t16 w =>
 IfX t16 (K (.returned t0) w) (DoX Tryz.prog (mB .len #[22] 3 #[false] #[t0]) w (pk K) fun t19 w =>
 QuietX w (fun C1 =>
 QDo Tryz.prog C1 (mSlice 22 t0 none (some t1) none) fun t22 =>
 QDo Tryz.prog C1 (mSlice 22 t0 (some t2) none none) fun t25 =>
 ∀ w, C1 w →
 DoX Tryz.prog (mB .append #[22, 22] 22 #[false, false] #[t22, t25]) w (pk K) fun t26 w =>
 DoX Tryz.prog (mB .len #[22] 3 #[false] #[t26]) w (pk K) fun t29 w =>
 DoX Tryz.prog (mSlice 22 t26 (some t29) (some t19) none) w (pk K) fun t31 w =>
 DoX Tryz.prog (mB .clear #[22] 0 #[false] #[t31]) w (pk K) fun _ w =>
 K (.returned t26) w))
theorem S_slices_Delete_string_string_eq (t0 t1 t2 : Value) (w : World) (K : Ending → World → Prop) : wpX Tryz.prog 33 [] [] none (bodyOf Tryz.f228) (topQ Tryz.prog [.tmp 6] K) (startX [t0, t1, t2]) [] w = S_slices_Delete_string_string t0 t1 t2 w K := by kernel_rfl
theorem S_slices_Delete_string_string_ok {t0 t1 t2 : Value} {w : World} {K : Ending → World → Prop} (h : S_slices_Delete_string_string t0 t1 t2 w K) : Calls Tryz.prog 228 #[t0, t1, t2] w K :=
  calls_of_wpX Tryz.func228 rfl rfl rfl rfl (Eq.mpr (S_slices_Delete_string_string_eq t0 t1 t2 w K) h)

def S_slices_Delete_foliant_api_Object_foliant_api_Object (t0 t1 t2 : Value) (w : World) (K : Ending → World → Prop) : Prop :=
 DoX Tryz.prog (mB .len #[23] 3 #[false] #[t0]) w (pk K) fun t12 w =>
 DoX Tryz.prog (mSlice 23 t0 (some t1) (some t2) (some t12)) w (pk K) fun t13 w =>
 DoX Tryz.prog (mEq .eql 3 (.tmp 14) (.tmp 15) t1 t2) w (pk K) fun t16 w =>
 IfX t16 (K (.returned t0) w) (DoX Tryz.prog (mB .len #[23] 3 #[false] #[t0]) w (pk K) fun t19 w =>
 QuietX w (fun C1 =>
 QDo Tryz.prog C1 (mSlice 23 t0 none (some t1) none) fun t22 =>
 QDo Tryz.prog C1 (mSlice 23 t0 (some t2) none none) fun t25 =>
 ∀ w, C1 w →
 DoX Tryz.prog (mB .append #[23, 23] 23 #[false, false] #[t22, t25]) w (pk K) fun t26 w =>
 DoX Tryz.prog (mB .len #[23] 3 #[false] #[t26]) w (pk K) fun t29 w =>
 DoX Tryz.prog (mSlice 23 t26 (some t29) (some t19) none) w (pk K) fun t31 w =>
 DoX Tryz.prog (mB .clear #[23] 0 #[false] #[t31]) w (pk K) fun _ w =>
 K (.returned t26) w))
theorem S_slices_Delete_foliant_api_Object_foliant_api_Object_eq (t0 t1 t2 : Value) (w : World) (K : Ending → World → Prop) : wpX Tryz.prog 33 [] [] none (bodyOf Tryz.f229) (topQ Tryz.prog [.tmp 6] K) (startX [t0, t1, t2]) [] w = S_slices_Delete_foliant_api_Object_foliant_api_Object t0 t1 t2 w K := by kernel_rfl
theorem S_slices_Delete_foliant_api_Object_foliant_api_Object_ok {t0 t1 t2 : Value} {w : World} {K : Ending → World → Prop} (h : S_slices_Delete_foliant_api_Object_foliant_api_Object t0 t1 t2 w K) : Calls Tryz.prog 229 #[t0, t1, t2] w K :=
  calls_of_wpX Tryz.func229 rfl rfl rfl rfl (Eq.mpr (S_slices_Delete_foliant_api_Object_foliant_api_Object_eq t0 t1 t2 w K) h)

def S_slices_BinarySearch_string_string_0 (t0 t1 t6 t7 t8 : Value) (w : World) (N1 : List Value → World → Prop) (K : Ending → World → Prop) : Prop :=
 DoX Tryz.prog (mBin .lss 3 t7 t8) w (pk K) fun t15 w =>
 IfX t15 (DoX Tryz.prog (mBin .add 3 t7 t8) w (pk K) fun t18 w =>
 DoX Tryz.prog (mConv 3 151 t18) w (pk K) fun t19 w =>
 DoX Tryz.prog (mBin .shr 151 t19 (.int .u64 1)) w (pk K) fun t20 w =>
 DoX Tryz.prog (mConv 151 3 t20) w (pk K) fun t21 w =>
 DoX Tryz.prog (mIA 22 t0 t21) w (pk K) fun t24 w =>
 DoX Tryz.prog (mLoad 9 t24) w (pk K) fun t25 w =>
 CallX Tryz.prog 222 #[t25, t1] w (pk K) fun t27 w =>
 IfX t27 (DoX Tryz.prog (mBin .add 3 t21 (.int .i64 1)) w (pk K) fun t29 w =>
 N1 [t29, t8] w) (N1 [t7, t21] w)) (DoX Tryz.prog (mBin .lss 3 t7 t6) w (pk K) fun t34 w =>
 GDo t34 true (fun E => E t0 w) w fun t36 w =>
 GDo t34 true (fun E => E t7 w) w fun t37 w =>
 GDo t34 true (fun E => DoX Tryz.prog (mIA 22 t36 t37) w (pk K) E) w fun t38 w =>
 GDo t34 true (fun E => DoX Tryz.prog (mLoad 9 t38) w (pk K) E) w fun t39 w =>
 GDo t34 true (fun E => E t1 w) w fun t40 w =>
 GDo t34 true (fun E => DoX Tryz.prog (mEq .eql 9 (.tmp 39) (.tmp 40) t39 t40) w (pk K) E) w fun t41 w =>
 GDo t34 true (fun E => E t41 w) w fun t42 w =>
 GDo t42 false (fun E => E t0 w) w fun t43 w =>
 GDo t42 false (fun E => E t7 w) w fun t44 w =>
 GDo t42 false (fun E => DoX Tryz.prog (mIA 22 t43 t44) w (pk K) E) w fun t45 w =>
 GDo t42 false (fun E => DoX Tryz.prog (mLoad 9 t45) w (pk K) E) w fun t46 w =>
 GDo t42 false (fun E => CallX Tryz.prog 223 #[t46] w (pk K) E) w fun t47 w =>
 GDo t42 false (fun E => E t47 w) w fun t48 w =>
 GDo t48 true (fun E => E t1 w) w fun t49 w =>
 GDo t48 true (fun E => CallX Tryz.prog 223 #[t49] w (pk K) E) w fun t50 w =>
 GDo t42 false (fun E => DoX Tryz.prog (mPick t48 t50 (.bool false)) w (pk K) E) w fun t51 w =>
 GDo t34 true (fun E => DoX Tryz.prog (mPick t42 (.bool true) t51) w (pk K) E) w fun t52 w =>
 DoX Tryz.prog (mPick t34 t52 (.bool false)) w (pk K) fun t53 w =>
 K (.returned (.tuple #[t7, t53])) w)
def S_slices_BinarySearch_string_string (t0 t1 : Value) (w : World) (K : Ending → World → Prop) : Prop :=
 DoX Tryz.prog (mB .len #[22] 3 #[false] #[t0]) w (pk K) fun t11 w =>
 LoopX [(.int .i64 0), t11] w (fun vs1 w N1 => ∀ _ : Sg, S_slices_BinarySearch_string_string_0 t0 t1 t11 (vs1.getD 0 undef) (vs1.getD 1 undef) w N1 K)
theorem S_slices_BinarySearch_string_string_eq (t0 t1 : Value) (w : World) (K : Ending → World → Prop) : wpX Tryz.prog 54 [] [(3, [7, 8])] none (bodyOf Tryz.f182) (topQ Tryz.prog [.tmp 4, .tmp 5] K) (startX [t0, t1]) [] w = S_slices_BinarySearch_string_string t0 t1 w K := by kernel_rfl
theorem S_slices_BinarySearch_string_string_ok {t0 t1 : Value} {w : World} {K : Ending → World → Prop} (h : S_slices_BinarySearch_string_string t0 t1 w K) : Calls Tryz.prog 182 #[t0, t1] w K :=
  calls_of_wpX Tryz.func182 rfl rfl rfl rfl (Eq.mpr (S_slices_BinarySearch_string_string_eq t0 t1 w K) h)

def S_slices_Contains_string_string (t0 t1 : Value) (w : World) (K : Ending → World → Prop) : Prop :=
 CallX Tryz.prog 123 #[t0, t1] w (pk K) fun t7 w =>
 DoX Tryz.prog (mBin .geq 3 t7 (.int .i64 0)) w (pk K) fun t8 w =>
 K (.returned t8) w
theorem S_slices_Contains_string_string_eq (t0 t1 : Value) (w : World) (K : Ending → World → Prop) : wpX Tryz.prog 9 [] [] none (bodyOf Tryz.f178) (topQ Tryz.prog [.tmp 4] K) (startX [t0, t1]) [] w = S_slices_Contains_string_string t0 t1 w K := by kernel_rfl
theorem S_slices_Contains_string_string_ok {t0 t1 : Value} {w : World} {K : Ending → World → Prop} (h : S_slices_Contains_string_string t0 t1 w K) : Calls Tryz.prog 178 #[t0, t1] w K :=
  calls_of_wpX Tryz.func178 rfl rfl rfl rfl (Eq.mpr (S_slices_Contains_string_string_eq t0 t1 w K) h)

def S_cmp_Less_string (t0 t1 : Value) (w : World) (K : Ending → World → Prop) : Prop :=
 CallX Tryz.prog 252 #[t0] w (pk K) fun t6 w =>
 GDo t6 true (fun E => E t1 w) w fun t8 w =>
 GDo t6 true (fun E => CallX Tryz.prog 252 #[t8] w (pk K) E) w fun t9 w =>
 GDo t6 true (fun E => DoX Tryz.prog (mUn .not t9) w (pk K) E) w fun t10 w =>
 DoX Tryz.prog (mPick t6 t10 (.bool false)) w (pk K) fun t11 w =>
 GDo t11 false (fun E => E t0 w) w fun t13 w =>
 GDo t11 false (fun E => E t1 w) w fun t14 w =>
 GDo t11 false (fun E => DoX Tryz.prog (mBin .lss 9 t13 t14) w (pk K) E) w fun t15 w =>
 DoX Tryz.prog (mPick t11 (.bool true) t15) w (pk K) fun t16 w =>
 K (.returned t16) w
theorem S_cmp_Less_string_eq (t0 t1 : Value) (w : World) (K : Ending → World → Prop) : wpX Tryz.prog 17 [] [] none (bodyOf Tryz.f222) (topQ Tryz.prog [.tmp 4] K) (startX [t0, t1]) [] w = S_cmp_Less_string t0 t1 w K := by kernel_rfl
theorem S_cmp_Less_string_ok {t0 t1 : Value} {w : World} {K : Ending → World → Prop} (h : S_cmp_Less_string t0 t1 w K) : Calls Tryz.prog 222 #[t0, t1] w K :=
  calls_of_wpX Tryz.func222 rfl rfl rfl rfl (Eq.mpr (S_cmp_Less_string_eq t0 t1 w K) h)

def S_cmp_isNaN_string (t0 : Value) (w : World) (K : Ending → World → Prop) : Prop :=
 DoX Tryz.prog (mEq .neq 9 (.tmp 3) (.tmp 4) t0 t0) w (pk K) fun t5 w =>
 K (.returned t5) w
theorem S_cmp_isNaN_string_eq (t0 : Value) (w : World) (K : Ending → World → Prop) : wpX Tryz.prog 6 [] [] none (bodyOf Tryz.f252) (topQ Tryz.prog [.tmp 2] K) (startX [t0]) [] w = S_cmp_isNaN_string t0 w K := by kernel_rfl
theorem S_cmp_isNaN_string_ok {t0 : Value} {w : World} {K : Ending → World → Prop} (h : S_cmp_isNaN_string t0 w K) : Calls Tryz.prog 252 #[t0] w K :=
  calls_of_wpX Tryz.func252 rfl rfl rfl rfl (Eq.mpr (S_cmp_isNaN_string_eq t0 w K) h)

def S_slices_isNaN_string (t0 : Value) (w : World) (K : Ending → World → Prop) : Prop :=
 DoX Tryz.prog (mEq .neq 9 (.tmp 3) (.tmp 4) t0 t0) w (pk K) fun t5 w =>
 K (.returned t5) w
theorem S_slices_isNaN_string_eq (t0 : Value) (w : World) (K : Ending → World → Prop) : wpX Tryz.prog 6 [] [] none (bodyOf Tryz.f223) (topQ Tryz.prog [.tmp 2] K) (startX [t0]) [] w = S_slices_isNaN_string t0 w K := by kernel_rfl
theorem S_slices_isNaN_string_ok {t0 : Value} {w : World} {K : Ending → World → Prop} (h : S_slices_isNaN_string t0 w K) : Calls Tryz.prog 223 #[t0] w K :=
  calls_of_wpX Tryz.func223 rfl rfl rfl rfl (Eq.mpr (S_slices_isNaN_string_eq t0 w K) h)

end Go.Proofs.YtiklhhdohckfiaaGreatDoor
