/- A claim's texts, in the order of what they need: Shelf, LexMem, NumPure, NumRead, LexPure, LexGap, Pwordx0, Pwordx1, LexWord, LexGaps, LexTook, LexNumP, NumParse, LexNumber, LexBuilder, LexText. -/
import Derived.Test.YtafndkgoeabehaaDoorBLexOwn2
import Derived.Shelf.Strings.Builder1
import Derived.Shelf.Strings.Trim
import Derived.Shelf.Small.Utf8
import Derived.Shelf.Small.Strs
import Derived.Shelf.Strings.BuilderF
import Derived.Shelf.Strings.BuilderK
import Derived.Shelf.Strconv.Atoi
import Derived.Shelf.Strconv.Itoa0
import Derived.Shelf.Strconv.Itoa1
import Derived.Shelf.LaysM
import Derived.Shelf.Strconv.Itoa2
import Derived.Shelf.Strconv.Itoa3
import Derived.Shelf.Strconv.AtoiErrFast
import Derived.Shelf.Strconv.ParseIntEmpty
import Derived.Shelf.Strconv.AtoiFail
import Derived.Shelf.Strconv.Clone
import Derived.Shelf.Strconv.SyntaxError
import Derived.Shelf.LaysC
import Derived.Shelf.Strconv.ToError
import Derived.Shelf.Strconv.Lower
import Derived.Shelf.Strconv.ParseUint10
import Derived.Shelf.Strconv.ParseUint10Empty
import Derived.Shelf.Strconv.ParseUint10Any
import Derived.Shelf.Strconv.ParseInt10
import Derived.Shelf.Strconv.AtoiLong
import Derived.Shelf.Strconv.AtoiInnerAll
import Derived.Shelf.Strconv.RangeError
import Derived.Shelf.Strconv.ToErrorRange
import Derived.Shelf.Strconv.AtoiAll
import Derived.Shelf.Strconv.ErrVarAll
import Derived.Shelf.Strings.Search1
import Derived.Shelf.Strings.Search2
import Derived.Shelf.Strings.Search3
import Derived.Shelf.Strings.Shaped
import Derived.Shelf.Strings.Prefix
import Derived.Shelf.Unicode.Decode
import Derived.Shelf.Strings.Runes
import Derived.Shelf.Strings.AsciiSet
import Derived.Shelf.Unicode.DecodeSlow
import Derived.Shelf.Unicode.DecodeAny
import Derived.Shelf.Unicode.DecodeLast
import Derived.Test.YtafndkgoeabehaaDoorProg
import Derived.RegionTactic
import Derived.WalkSmall
import Derived.Laws.Entries
import Derived.Lib.Mul64
import Derived.Laws.Bits64b
import Derived.Shelf.Bits.Mul64
import Derived.Lib.AtoiAll
import Derived.Lib.ItoaNum
import Derived.Lib.SlTrimSet
import Derived.Lib.Strings
import Derived.Lib.IndexMore
import Derived.Lib.IndexLaws
import Derived.ScopeJumps
import Derived.WalkMore
import Derived.Lib.IndexBytes
import Derived.Lib.Hide
import Derived.Outline
import Derived.Shelf.Strings.SlTrimAscii
import Derived.Lib.SmallJoins
import Derived.Stop.LaidErr
import Derived.MakeChecks
import Derived.Lib.AtoiErrMem
import Derived.Shelf.Strings.BuilderX
import Derived.Lib.Slices
import Derived.Lib.Walk
import Derived.Lib.Builder
import Derived.Lib.UnsafeStr
import Derived.Laws.Externs
namespace Go.Proofs
open Go.Shelf
def Tryd.lays169_ren : Go.Shelf.Ren := ⟨fun | 169 => 44 | n => n, fun | 70 => 55 | 9 => 9 | 0 => 0 | 72 => 57 | 37 => 52 | 127 => 68 | 3 => 3 | 5 => 5 | n => n, fun | n => n⟩
theorem Tryd.lays169 : Go.Proofs.Lays.n169 Tryd.prog Tryd.lays169_ren := {
  mixed := by kernel_rfl
  f169 := Tryd.func44.trans (congrArg some (by kernel_rfl))
  t0 := Tryd.underlying0
  a0 := Tryd.isAgg0
  z0 := Tryd.sizeOf0
  v0 := Tryd.zeroValue0
  t3 := Tryd.underlying3
  a3 := Tryd.isAgg3
  z3 := Tryd.sizeOf3
  v3 := Tryd.zeroValue3
  t9 := Tryd.underlying9
  a9 := Tryd.isAgg9
  z9 := Tryd.sizeOf9
  v9 := Tryd.zeroValue9
  t37 := Tryd.underlying52
  a37 := Tryd.isAgg52
  z37 := Tryd.sizeOf52
  v37 := Tryd.zeroValue52
  t70 := Tryd.underlying55
  a70 := Tryd.isAgg55
  z70 := Tryd.sizeOf55
  v70 := Tryd.zeroValue55
  t72 := Tryd.underlying57
  a72 := Tryd.isAgg57
  z72 := Tryd.sizeOf57
  v72 := Tryd.zeroValue57
  t127 := Tryd.underlying68
  a127 := Tryd.isAgg68
  z127 := Tryd.sizeOf68
  v127 := Tryd.zeroValue68 }
theorem Tryd.Builder_Extra_169 : Builder.Extra Tryd.prog Tryd.lays169_ren := {
  sizeBuilder := by kernel_rfl
  liesBuilder := by kernel_rfl
  t5 := Tryd.underlying5
  a5 := Tryd.isAgg5
  z5 := Tryd.sizeOf5
  v5 := Tryd.zeroValue5
  infoByte := by kernel_rfl
  cellsByte := by kernel_rfl
  sizeByte := by kernel_rfl
  neB5 := by decide }
open Go.RowKit in
/-- (*strings.Builder).String: "String returns the accumulated string.": WHATEVER THE BUILDER HOLDS. (LAID: no walk: one application.) -/
theorem Tryd.Builder_String_any (B b : Nat) (l : List UInt8) (w : World) (h : Lib.IsBuilder 57 5 B b (Lib.byteCells l) w) (hBw : B ≤ w.heap.size) :
    Calls Tryd.prog 44 #[.pointer (some ⟨b, 0, none⟩)] w fun e w' => e = .returned (.string ⟨l.toArray⟩) ∧ Below B w w' := Any.Builder_String_any Tryd.lays169 Tryd.Builder_Extra_169 B b l w h hBw
def Tryd.lays160_ren : Go.Shelf.Ren := ⟨fun | 160 => 52 | 232 => 58 | 231 => 57 | 227 => 59 | 234 => 61 | 233 => 60 | 236 => 63 | 235 => 62 | 228 => 67 | 271 => 70 | 151 => 69 | 197 => 68 | 120 => 78 | 152 => 77 | 260 => 76 | 137 => 28 | 119 => 83 | 224 => 49 | 225 => 48 | 217 => 40 | 266 => 47 | n => n, fun | 9 => 9 | 4 => 4 | 3 => 3 | 5 => 5 | 117 => 75 | 116 => 74 | 0 => 0 | 124 => 78 | 21 => 21 | 105 => 82 | 46 => 64 | 119 => 100 | 139 => 103 | 138 => 102 | n => n, fun | 3 => 3 | 4 => 4 | n => n⟩
theorem Tryd.lays160 : Go.Proofs.Lays.n160 Tryd.prog Tryd.lays160_ren := {
  mixed := by kernel_rfl
  f119 := Tryd.func83.trans (congrArg some (by kernel_rfl))
  f120 := Tryd.func78.trans (congrArg some (by kernel_rfl))
  f137 := Tryd.func28.trans (congrArg some (by kernel_rfl))
  f151 := Tryd.func69.trans (congrArg some (by kernel_rfl))
  f152 := Tryd.func77.trans (congrArg some (by kernel_rfl))
  f160 := Tryd.func52.trans (congrArg some (by kernel_rfl))
  f197 := Tryd.func68.trans (congrArg some (by kernel_rfl))
  f217 := Tryd.func40.trans (congrArg some (by kernel_rfl))
  f224 := Tryd.func49.trans (congrArg some (by kernel_rfl))
  f225 := Tryd.func48.trans (congrArg some (by kernel_rfl))
  f227 := Tryd.func59.trans (congrArg some (by kernel_rfl))
  f228 := Tryd.func67.trans (congrArg some (by kernel_rfl))
  f231 := Tryd.func57.trans (congrArg some (by kernel_rfl))
  f232 := Tryd.func58.trans (congrArg some (by kernel_rfl))
  f233 := Tryd.func60.trans (congrArg some (by kernel_rfl))
  f234 := Tryd.func61.trans (congrArg some (by kernel_rfl))
  f235 := Tryd.func62.trans (congrArg some (by kernel_rfl))
  f236 := Tryd.func63.trans (congrArg some (by kernel_rfl))
  f260 := Tryd.func76.trans (congrArg some (by kernel_rfl))
  f266 := Tryd.func47.trans (congrArg some (by kernel_rfl))
  f271 := Tryd.func70.trans (congrArg some (by kernel_rfl))
  t0 := Tryd.underlying0
  a0 := Tryd.isAgg0
  z0 := Tryd.sizeOf0
  v0 := Tryd.zeroValue0
  t3 := Tryd.underlying3
  a3 := Tryd.isAgg3
  z3 := Tryd.sizeOf3
  v3 := Tryd.zeroValue3
  t4 := Tryd.underlying4
  a4 := Tryd.isAgg4
  z4 := Tryd.sizeOf4
  v4 := Tryd.zeroValue4
  t5 := Tryd.underlying5
  a5 := Tryd.isAgg5
  z5 := Tryd.sizeOf5
  v5 := Tryd.zeroValue5
  t9 := Tryd.underlying9
  a9 := Tryd.isAgg9
  z9 := Tryd.sizeOf9
  v9 := Tryd.zeroValue9
  t21 := Tryd.underlying21
  a21 := Tryd.isAgg21
  z21 := Tryd.sizeOf21
  v21 := Tryd.zeroValue21
  t46 := Tryd.underlying64
  a46 := Tryd.isAgg64
  z46 := Tryd.sizeOf64
  v46 := Tryd.zeroValue64
  t105 := Tryd.underlying82
  a105 := Tryd.isAgg82
  z105 := Tryd.sizeOf82
  v105 := Tryd.zeroValue82
  t116 := Tryd.underlying74
  a116 := Tryd.isAgg74
  z116 := Tryd.sizeOf74
  t117 := Tryd.underlying75
  a117 := Tryd.isAgg75
  z117 := Tryd.sizeOf75
  v117 := Tryd.zeroValue75
  t119 := Tryd.underlying100
  a119 := Tryd.isAgg100
  z119 := Tryd.sizeOf100
  t124 := Tryd.underlying78
  a124 := Tryd.isAgg78
  z124 := Tryd.sizeOf78
  v124 := Tryd.zeroValue78
  t138 := Tryd.underlying102
  a138 := Tryd.isAgg102
  z138 := Tryd.sizeOf102
  v138 := Tryd.zeroValue102
  t139 := Tryd.underlying103
  a139 := Tryd.isAgg103
  z139 := Tryd.sizeOf103
  v139 := Tryd.zeroValue103
  g3 := by kernel_rfl
  g4 := by kernel_rfl }
def Tryd.lays137_ren : Go.Shelf.Ren := ⟨fun | 137 => 28 | 217 => 40 | 266 => 47 | n => n, fun | 9 => 9 | 5 => 5 | 3 => 3 | n => n, fun | n => n⟩
theorem Tryd.lays137 : Go.Proofs.Lays.n137 Tryd.prog Tryd.lays137_ren := {
  mixed := by kernel_rfl
  f137 := Tryd.func28.trans (congrArg some (by kernel_rfl))
  f217 := Tryd.func40.trans (congrArg some (by kernel_rfl))
  f266 := Tryd.func47.trans (congrArg some (by kernel_rfl))
  t3 := Tryd.underlying3
  a3 := Tryd.isAgg3
  z3 := Tryd.sizeOf3
  v3 := Tryd.zeroValue3
  t5 := Tryd.underlying5
  a5 := Tryd.isAgg5
  z5 := Tryd.sizeOf5
  v5 := Tryd.zeroValue5
  t9 := Tryd.underlying9
  a9 := Tryd.isAgg9
  z9 := Tryd.sizeOf9
  v9 := Tryd.zeroValue9 }
open Go.RowKit in
/-- strings.IndexByte: "IndexByte returns the index of the first instance of c in s, or -1 if c is not present in s.": IT RETURNS 'Lib.indexByte s c'; the world is as it was. (LAID: no walk: one application.) -/
theorem Tryd.strings_IndexByte (s : ByteArray) (c : Int) (w : World) :
    Calls Tryd.prog 28 #[.string s, .int .u8 c] w fun e w' => e = .returned (.int .i64 (Lib.indexByte s.data.toList c.toNat.toUInt8)) ∧ w' = w := Any.strings_IndexByte Tryd.lays137 s c w
def Tryd.laysC172_ren : Go.Shelf.Ren := ⟨fun | 172 => 53 | 244 => 64 | 245 => 65 | 247 => 71 | 279 => 72 | 280 => 73 | 281 => 74 | 282 => 75 | 287 => 79 | 316 => 80 | 171 => 82 | 205 => 81 | 321 => 84 | 322 => 85 | 243 => 86 | 246 => 87 | 283 => 88 | 284 => 89 | 285 => 90 | 286 => 91 | 129 => 93 | 317 => 92 | 318 => 94 | 319 => 95 | 320 => 96 | 337 => 97 | 338 => 98 | n => n, fun | 9 => 9 | 3 => 3 | 75 => 60 | 76 => 66 | 4 => 4 | 5 => 5 | 167 => 85 | 37 => 52 | 0 => 0 | 85 => 86 | 2 => 2 | 168 => 88 | 53 => 92 | 175 => 93 | 46 => 64 | 210 => 97 | 127 => 68 | 145 => 108 | 143 => 106 | 21 => 21 | 171 => 110 | 173 => 113 | 212 => 116 | 51 => 69 | 20 => 20 | 213 => 117 | 232 => 121 | 233 => 122 | 80 => 58 | n => n, fun | 15 => 1 | 16 => 2 | 17 => 5 | 18 => 6 | 19 => 7 | n => n⟩
theorem Tryd.laysC172 : Go.Proofs.LaysC.n172 Tryd.prog Tryd.laysC172_ren := {
  mixed := by kernel_rfl
  f129 := Tryd.func93.trans (congrArg some (by kernel_rfl))
  f171 := Tryd.func82.trans (congrArg some (by kernel_rfl))
  f172 := Tryd.func53.trans (congrArg some (by kernel_rfl))
  f205 := Tryd.func81.trans (congrArg some (by kernel_rfl))
  f243 := Tryd.func86.trans (congrArg some (by kernel_rfl))
  f244 := Tryd.func64.trans (congrArg some (by kernel_rfl))
  f245 := Tryd.func65.trans (congrArg some (by kernel_rfl))
  f246 := Tryd.func87.trans (congrArg some (by kernel_rfl))
  f247 := Tryd.func71.trans (congrArg some (by kernel_rfl))
  f279 := Tryd.func72.trans (congrArg some (by kernel_rfl))
  f280 := Tryd.func73.trans (congrArg some (by kernel_rfl))
  f281 := Tryd.func74.trans (congrArg some (by kernel_rfl))
  f282 := Tryd.func75.trans (congrArg some (by kernel_rfl))
  f283 := Tryd.func88.trans (congrArg some (by kernel_rfl))
  f284 := Tryd.func89.trans (congrArg some (by kernel_rfl))
  f285 := Tryd.func90.trans (congrArg some (by kernel_rfl))
  f286 := Tryd.func91.trans (congrArg some (by kernel_rfl))
  f287 := Tryd.func79.trans (congrArg some (by kernel_rfl))
  f316 := Tryd.func80.trans (congrArg some (by kernel_rfl))
  f317 := Tryd.func92.trans (congrArg some (by kernel_rfl))
  f318 := Tryd.func94.trans (congrArg some (by kernel_rfl))
  f319 := Tryd.func95.trans (congrArg some (by kernel_rfl))
  f320 := Tryd.func96.trans (congrArg some (by kernel_rfl))
  f321 := Tryd.func84.trans (congrArg some (by kernel_rfl))
  f322 := Tryd.func85.trans (congrArg some (by kernel_rfl))
  f337 := Tryd.func97.trans (congrArg some (by kernel_rfl))
  f338 := Tryd.func98.trans (congrArg some (by kernel_rfl))
  t0 := Tryd.underlying0
  a0 := Tryd.isAgg0
  z0 := Tryd.sizeOf0
  v0 := Tryd.zeroValue0
  t2 := Tryd.underlying2
  a2 := Tryd.isAgg2
  z2 := Tryd.sizeOf2
  v2 := Tryd.zeroValue2
  t3 := Tryd.underlying3
  a3 := Tryd.isAgg3
  z3 := Tryd.sizeOf3
  v3 := Tryd.zeroValue3
  t4 := Tryd.underlying4
  a4 := Tryd.isAgg4
  z4 := Tryd.sizeOf4
  v4 := Tryd.zeroValue4
  t5 := Tryd.underlying5
  a5 := Tryd.isAgg5
  z5 := Tryd.sizeOf5
  v5 := Tryd.zeroValue5
  t9 := Tryd.underlying9
  a9 := Tryd.isAgg9
  z9 := Tryd.sizeOf9
  v9 := Tryd.zeroValue9
  t20 := Tryd.underlying20
  a20 := Tryd.isAgg20
  z20 := Tryd.sizeOf20
  v20 := Tryd.zeroValue20
  t21 := Tryd.underlying21
  a21 := Tryd.isAgg21
  z21 := Tryd.sizeOf21
  v21 := Tryd.zeroValue21
  t37 := Tryd.underlying52
  a37 := Tryd.isAgg52
  z37 := Tryd.sizeOf52
  v37 := Tryd.zeroValue52
  t46 := Tryd.underlying64
  a46 := Tryd.isAgg64
  z46 := Tryd.sizeOf64
  v46 := Tryd.zeroValue64
  t51 := Tryd.underlying69
  a51 := Tryd.isAgg69
  z51 := Tryd.sizeOf69
  v51 := Tryd.zeroValue69
  t53 := Tryd.underlying92
  a53 := Tryd.isAgg92
  z53 := Tryd.sizeOf92
  v53 := Tryd.zeroValue92
  t75 := Tryd.underlying60
  a75 := Tryd.isAgg60
  z75 := Tryd.sizeOf60
  v75 := Tryd.zeroValue60
  t76 := Tryd.underlying66
  a76 := Tryd.isAgg66
  z76 := Tryd.sizeOf66
  v76 := Tryd.zeroValue66
  t85 := Tryd.underlying86
  a85 := Tryd.isAgg86
  z85 := Tryd.sizeOf86
  v85 := Tryd.zeroValue86
  t127 := Tryd.underlying68
  a127 := Tryd.isAgg68
  z127 := Tryd.sizeOf68
  v127 := Tryd.zeroValue68
  t143 := Tryd.underlying106
  a143 := Tryd.isAgg106
  z143 := Tryd.sizeOf106
  v143 := Tryd.zeroValue106
  t145 := Tryd.underlying108
  a145 := Tryd.isAgg108
  z145 := Tryd.sizeOf108
  v145 := Tryd.zeroValue108
  t167 := Tryd.underlying85
  a167 := Tryd.isAgg85
  z167 := Tryd.sizeOf85
  v167 := Tryd.zeroValue85
  t168 := Tryd.underlying88
  a168 := Tryd.isAgg88
  z168 := Tryd.sizeOf88
  v168 := Tryd.zeroValue88
  t171 := Tryd.underlying110
  a171 := Tryd.isAgg110
  z171 := Tryd.sizeOf110
  v171 := Tryd.zeroValue110
  t173 := Tryd.underlying113
  a173 := Tryd.isAgg113
  z173 := Tryd.sizeOf113
  v173 := Tryd.zeroValue113
  t175 := Tryd.underlying93
  a175 := Tryd.isAgg93
  z175 := Tryd.sizeOf93
  v175 := Tryd.zeroValue93
  t210 := Tryd.underlying97
  a210 := Tryd.isAgg97
  z210 := Tryd.sizeOf97
  v210 := Tryd.zeroValue97
  t212 := Tryd.underlying116
  a212 := Tryd.isAgg116
  z212 := Tryd.sizeOf116
  v212 := Tryd.zeroValue116
  t213 := Tryd.underlying117
  a213 := Tryd.isAgg117
  z213 := Tryd.sizeOf117
  t232 := Tryd.underlying121
  a232 := Tryd.isAgg121
  z232 := Tryd.sizeOf121
  v232 := Tryd.zeroValue121
  t233 := Tryd.underlying122
  a233 := Tryd.isAgg122
  z233 := Tryd.sizeOf122
  v233 := Tryd.zeroValue122
  g15 := by kernel_rfl
  g16 := by kernel_rfl
  g17 := by kernel_rfl
  g18 := by kernel_rfl
  g19 := by kernel_rfl
  t80 := Tryd.underlying58
  a80 := Tryd.isAgg58
  z80 := Tryd.sizeOf58
  v80 := Tryd.zeroValue58
  i0 := by kernel_rfl
  i2 := by kernel_rfl
  i3 := by kernel_rfl
  i4 := by kernel_rfl
  i5 := by kernel_rfl
  i9 := by kernel_rfl
  i20 := by kernel_rfl
  i21 := by kernel_rfl
  i37 := by kernel_rfl
  i46 := by kernel_rfl
  i51 := by kernel_rfl
  i53 := by kernel_rfl
  i75 := by kernel_rfl
  i76 := by kernel_rfl
  i80 := by kernel_rfl
  i85 := by kernel_rfl
  i127 := by kernel_rfl
  i143 := by kernel_rfl
  i145 := by kernel_rfl
  i167 := by kernel_rfl
  i168 := by kernel_rfl
  i171 := by kernel_rfl
  i173 := by kernel_rfl
  i175 := by kernel_rfl
  i210 := by kernel_rfl
  i212 := by kernel_rfl
  i232 := by kernel_rfl
  i233 := by kernel_rfl
  m15 := by kernel_rfl
  m16 := by kernel_rfl
  m17 := by kernel_rfl
  m18 := by kernel_rfl
  m19 := by kernel_rfl
  c0 := by kernel_rfl
  c2 := by kernel_rfl
  c3 := by kernel_rfl
  c4 := by kernel_rfl
  c5 := by kernel_rfl
  c9 := by kernel_rfl
  c20 := by kernel_rfl
  c21 := by kernel_rfl
  c37 := by kernel_rfl
  c46 := by kernel_rfl
  c51 := by kernel_rfl
  c53 := by kernel_rfl
  c75 := by kernel_rfl
  c76 := by kernel_rfl
  c80 := by kernel_rfl
  c85 := by kernel_rfl
  c127 := by kernel_rfl
  c143 := by kernel_rfl
  c145 := by kernel_rfl
  c167 := by kernel_rfl
  c168 := by kernel_rfl
  c171 := by kernel_rfl
  c173 := by kernel_rfl
  c175 := by kernel_rfl
  c210 := by kernel_rfl
  c212 := by kernel_rfl
  c213 := by kernel_rfl
  c232 := by kernel_rfl
  c233 := by kernel_rfl }
open Go.RowKit in
/-- strconv.Atoi, AT EVERY STRING THAT SPELLS AN int ('Lib.atoiAll .. = .ok v'; of whatever length: leading zeros count): v, AND NO ERROR. The world: as it was, or with the one new row that '[]byte(..)' lays. (LAID: no walk: one application.) -/
theorem Tryd.strconv_Atoi_ok (s : ByteArray) (hmax : s.size ≤ 9223372036854775806) (v : Int) (h : Lib.atoiAll s.data.toList = .ok v) (w : World) :
    Calls Tryd.prog 53 #[.string s] w fun e w' => e = .returned (.tuple #[.int .i64 v, .nilIface]) ∧ (w' = w ∨ ∃ t, w' = Lib.bytesWorld w 5 t) := Any.strconv_Atoi_ok Tryd.laysC172 s hmax v h w
open Go.RowKit in
/-- strconv.Atoi, AT EVERY NUMERAL THAT NO int HOLDS ('.range'): THE GREATEST OR THE LEAST int, BY THE SIGN ('Lib.atoiSat'), AND AN ERROR THAT IS NOT nil: a *NumError in a new block N: {Func: "Atoi", Num: s's bytes, Err: what the variable ErrRange holds}. Of what was there nothing has turned. (LAID: no walk: one application.) -/
theorem Tryd.strconv_Atoi_range (s : ByteArray) (hlim : s.size ≤ 281474976710656) (h : Lib.atoiAll s.data.toList = .range) (ev : Value) (w : World) (hv : w.cell? ⟨2, 0, none⟩ = some ev) (hev : ev = .nilIface ∨ ∃ te pe, ev = .iface te pe) :
    Calls Tryd.prog 53 #[.string s] w fun e w' => ∃ N, e = .returned (.tuple #[.int .i64 (Lib.atoiSat s.data.toList), .iface 88 (.pointer (some ⟨N, 0, none⟩))]) ∧ w.heap.size ≤ N ∧ w'.heap[N]? = some (.cells #[.string ⟨#[65, 116, 111, 105]⟩, .string s, ev] 97 (0, 0)) ∧ Below w.heap.size w w' := Any.strconv_Atoi_range Tryd.laysC172 s hlim h ev w hv hev
def Tryd.lays143_ren : Go.Shelf.Ren := ⟨fun | 143 => 30 | 219 => 42 | 217 => 40 | 225 => 48 | 224 => 49 | 267 => 50 | 266 => 47 | 314 => 55 | n => n, fun | 9 => 9 | 3 => 3 | 4 => 4 | 5 => 5 | 46 => 64 | 146 => 70 | 51 => 69 | n => n, fun | 1 => 0 | n => n⟩
theorem Tryd.lays143 : Go.Proofs.Lays.n143 Tryd.prog Tryd.lays143_ren := {
  mixed := by kernel_rfl
  f143 := Tryd.func30.trans (congrArg some (by kernel_rfl))
  f217 := Tryd.func40.trans (congrArg some (by kernel_rfl))
  f219 := Tryd.func42.trans (congrArg some (by kernel_rfl))
  f224 := Tryd.func49.trans (congrArg some (by kernel_rfl))
  f225 := Tryd.func48.trans (congrArg some (by kernel_rfl))
  f266 := Tryd.func47.trans (congrArg some (by kernel_rfl))
  f267 := Tryd.func50.trans (congrArg some (by kernel_rfl))
  f314 := Tryd.func55.trans (congrArg some (by kernel_rfl))
  t3 := Tryd.underlying3
  a3 := Tryd.isAgg3
  z3 := Tryd.sizeOf3
  v3 := Tryd.zeroValue3
  t4 := Tryd.underlying4
  a4 := Tryd.isAgg4
  z4 := Tryd.sizeOf4
  v4 := Tryd.zeroValue4
  t5 := Tryd.underlying5
  a5 := Tryd.isAgg5
  z5 := Tryd.sizeOf5
  v5 := Tryd.zeroValue5
  t9 := Tryd.underlying9
  a9 := Tryd.isAgg9
  z9 := Tryd.sizeOf9
  v9 := Tryd.zeroValue9
  t46 := Tryd.underlying64
  a46 := Tryd.isAgg64
  z46 := Tryd.sizeOf64
  v46 := Tryd.zeroValue64
  t51 := Tryd.underlying69
  a51 := Tryd.isAgg69
  z51 := Tryd.sizeOf69
  v51 := Tryd.zeroValue69
  t146 := Tryd.underlying70
  a146 := Tryd.isAgg70
  z146 := Tryd.sizeOf70
  v146 := Tryd.zeroValue70
  g1 := by kernel_rfl }
open Go.RowKit Go.Lib in
/-- strings.Index: "Index returns the index of the first instance of substr in s, or -1 if substr is not present in s.": IT RETURNS 'Lib.index s substr'; the world is as it was. (LAID: no walk: one application.) -/
theorem Tryd.strings_Index (s sub : ByteArray) (m : Int) (w : World) (hs : s.size < 4294967281) (hm : w.cell? ⟨0, 0, none⟩ = some (.int .i64 m)) :
    Calls Tryd.prog 30 #[.string s, .string sub] w fun e w' => e = .returned (.int .i64 (Lib.index s.data.toList sub.data.toList)) ∧ w' = w := Any.strings_Index Tryd.lays143 s sub m w hs hm
def Tryd.lays144_ren : Go.Shelf.Ren := ⟨fun | 144 => 46 | 143 => 30 | 219 => 42 | 217 => 40 | 225 => 48 | 224 => 49 | 267 => 50 | 266 => 47 | 314 => 55 | n => n, fun | 9 => 9 | 4 => 4 | 3 => 3 | 5 => 5 | 46 => 64 | 146 => 70 | 51 => 69 | n => n, fun | 1 => 0 | n => n⟩
theorem Tryd.lays144 : Go.Proofs.Lays.n144 Tryd.prog Tryd.lays144_ren := {
  mixed := by kernel_rfl
  f143 := Tryd.func30.trans (congrArg some (by kernel_rfl))
  f144 := Tryd.func46.trans (congrArg some (by kernel_rfl))
  f217 := Tryd.func40.trans (congrArg some (by kernel_rfl))
  f219 := Tryd.func42.trans (congrArg some (by kernel_rfl))
  f224 := Tryd.func49.trans (congrArg some (by kernel_rfl))
  f225 := Tryd.func48.trans (congrArg some (by kernel_rfl))
  f266 := Tryd.func47.trans (congrArg some (by kernel_rfl))
  f267 := Tryd.func50.trans (congrArg some (by kernel_rfl))
  f314 := Tryd.func55.trans (congrArg some (by kernel_rfl))
  t3 := Tryd.underlying3
  a3 := Tryd.isAgg3
  z3 := Tryd.sizeOf3
  v3 := Tryd.zeroValue3
  t4 := Tryd.underlying4
  a4 := Tryd.isAgg4
  z4 := Tryd.sizeOf4
  v4 := Tryd.zeroValue4
  t5 := Tryd.underlying5
  a5 := Tryd.isAgg5
  z5 := Tryd.sizeOf5
  v5 := Tryd.zeroValue5
  t9 := Tryd.underlying9
  a9 := Tryd.isAgg9
  z9 := Tryd.sizeOf9
  v9 := Tryd.zeroValue9
  t46 := Tryd.underlying64
  a46 := Tryd.isAgg64
  z46 := Tryd.sizeOf64
  v46 := Tryd.zeroValue64
  t51 := Tryd.underlying69
  a51 := Tryd.isAgg69
  z51 := Tryd.sizeOf69
  v51 := Tryd.zeroValue69
  t146 := Tryd.underlying70
  a146 := Tryd.isAgg70
  z146 := Tryd.sizeOf70
  v146 := Tryd.zeroValue70
  g1 := by kernel_rfl }
open Go.RowKit Go.Lib in
/-- strings.Contains: "Contains reports whether substr is within s.": IT RETURNS 'Lib.contains s substr'; the world is as it was. (LAID: no walk: one application.) -/
theorem Tryd.strings_Contains (s sub : ByteArray) (m : Int) (w : World) (hs : s.size < 4294967281) (hm : w.cell? ⟨0, 0, none⟩ = some (.int .i64 m)) :
    Calls Tryd.prog 46 #[.string s, .string sub] w fun e w' => e = .returned (.bool (Lib.contains s.data.toList sub.data.toList)) ∧ w' = w := Any.strings_Contains Tryd.lays144 s sub m w hs hm
def Tryd.lays99_ren : Go.Shelf.Ren := ⟨fun | 99 => 29 | 206 => 41 | n => n, fun | 9 => 9 | 4 => 4 | 3 => 3 | n => n, fun | n => n⟩
theorem Tryd.lays99 : Go.Proofs.Lays.n99 Tryd.prog Tryd.lays99_ren := {
  mixed := by kernel_rfl
  f99 := Tryd.func29.trans (congrArg some (by kernel_rfl))
  f206 := Tryd.func41.trans (congrArg some (by kernel_rfl))
  t3 := Tryd.underlying3
  a3 := Tryd.isAgg3
  z3 := Tryd.sizeOf3
  v3 := Tryd.zeroValue3
  t4 := Tryd.underlying4
  a4 := Tryd.isAgg4
  z4 := Tryd.sizeOf4
  v4 := Tryd.zeroValue4
  t9 := Tryd.underlying9
  a9 := Tryd.isAgg9
  z9 := Tryd.sizeOf9
  v9 := Tryd.zeroValue9 }
open Go.RowKit Go.Lib in
/-- strings.HasPrefix: "HasPrefix reports whether the string s begins with prefix.": IT RETURNS 'Lib.hasPrefix s prefix'; the world is as it was. (LAID: no walk: one application.) -/
theorem Tryd.strings_HasPrefix (s p : ByteArray) (w : World) :
    Calls Tryd.prog 29 #[.string s, .string p] w fun e w' => e = .returned (.bool (Lib.hasPrefix s.data.toList p.data.toList)) ∧ w' = w := Any.strings_HasPrefix Tryd.lays99 s p w
def Tryd.lays101_ren : Go.Shelf.Ren := ⟨fun | 101 => 51 | 208 => 56 | 206 => 41 | n => n, fun | 9 => 9 | 4 => 4 | 3 => 3 | n => n, fun | n => n⟩
theorem Tryd.lays101 : Go.Proofs.Lays.n101 Tryd.prog Tryd.lays101_ren := {
  mixed := by kernel_rfl
  f101 := Tryd.func51.trans (congrArg some (by kernel_rfl))
  f206 := Tryd.func41.trans (congrArg some (by kernel_rfl))
  f208 := Tryd.func56.trans (congrArg some (by kernel_rfl))
  t3 := Tryd.underlying3
  a3 := Tryd.isAgg3
  z3 := Tryd.sizeOf3
  v3 := Tryd.zeroValue3
  t4 := Tryd.underlying4
  a4 := Tryd.isAgg4
  z4 := Tryd.sizeOf4
  v4 := Tryd.zeroValue4
  t9 := Tryd.underlying9
  a9 := Tryd.isAgg9
  z9 := Tryd.sizeOf9
  v9 := Tryd.zeroValue9 }
open Go.RowKit Go.Lib in
/-- strings.TrimPrefix: "TrimPrefix returns s without the provided leading prefix string. If s doesn't start with prefix, s is returned unchanged.": IT RETURNS 'Lib.trimPrefix s prefix'; the world is as it was. (LAID: no walk: one application.) -/
theorem Tryd.strings_TrimPrefix (s p : ByteArray) (w : World) :
    Calls Tryd.prog 51 #[.string s, .string p] w fun e w' => e = .returned (.string ⟨(Lib.trimPrefix s.data.toList p.data.toList).toArray⟩) ∧ w' = w := Any.strings_TrimPrefix Tryd.lays101 s p w
end Go.Proofs
namespace Go.Proofs.YtafndkgoeabehaaDoor.LexMem
open Go Go.RowKit
/-- a token, as the engine holds it -/
structure Tk where
  kind : Int
  text : List UInt8
  n : Int
  at_ : Int
  deriving DecidableEq
def Tk.cells (t : Tk) : List Value := [.int .i64 t.kind, .string ⟨t.text.toArray⟩, .int .i64 t.n, .int .i64 t.at_]
def cellsOf (l : List Tk) : List Value := l.flatMap Tk.cells
theorem cellsOf_append (l r : List Tk) : cellsOf (l ++ r) = cellsOf l ++ cellsOf r := List.flatMap_append
def Blk (w : World) (g : Nat) (t : TypeId) (cs : Array Value) : Prop := w.heap[g]? = some (.cells cs t (0, 0))
section
variable {w w' : World} {g : Nat} {t : TypeId} {cs : Array Value}
theorem Blk.lt (h : Blk w g t cs) : g < w.heap.size := by
  rcases Nat.lt_or_ge g w.heap.size with hlt | hge
  · exact hlt
  · unfold Blk at h; rw [Array.getElem?_eq_none hge] at h; cases h
theorem Blk.cell (h : Blk w g t cs) (i : Nat) : w.cell? ⟨g, i, none⟩ = cs[i]? := cell_of_row w g i cs t (0, 0) h
theorem Blk.frozen (h : Blk w g t cs) (i : Nat) : w.frozen? ⟨g, i, none⟩ = false := by
  unfold Blk at h
  simp [World.frozen?, h]
theorem Blk.new (w : World) (t : TypeId) (cs : Array Value) : Blk (w.alloc (.cells cs t)) w.heap.size t cs := heap_alloc_new w _
theorem Blk.drewN (h : Blk w g t cs) (n : Nat) : Blk (w.drewN n) g t cs := h
theorem Blk.alloc (h : Blk w g t cs) (o : Obj) : Blk (w.alloc o) g t cs := (Below.heap_alloc w o g h.lt).trans h
theorem Blk.set_ (h : Blk w g t cs) (i : Nat) (u : Value) : Blk (w.setCell ⟨g, i, none⟩ u) g t (cs.setIfInBounds i u) := by
  unfold Blk at h ⊢
  simp [World.setCell, Array.getElem?_modify, h]
theorem Blk.far (h : Blk w g t cs) {p : Addr} (hp : g ≠ p.block) (u : Value) : Blk (w.setCell p u) g t cs := (Below.heap_setCell w p u g hp).trans h
theorem Blk.below {B : Nat} (h : Blk w g t cs) (hb : Below B w w') (hg : g < B) : Blk w' g t cs := (hb.block g hg).trans h
theorem Blk.grown {row : Option Nat} (h : Blk w g t cs) (hb : w.grownBy w' row) (hg : some g ≠ row) : Blk w' g t cs := (hb.block g h.lt hg).trans h
theorem Blk.ne_ {g' : Nat} {t' : TypeId} {cs' : Array Value} (h : Blk w g t cs) (h' : Blk w g' t' cs') (hne : t ≠ t') : g ≠ g' := by
  rintro rfl
  unfold Blk at h h'
  rw [h] at h'
  injection h' with h'
  injection h' with _ ht
  exact hne ht
theorem own_blk_ne {base : Nat} {e : TypeId} {size n : Nat} {v : Value} {xs : List Value} (h : w.ownsRow base e size v n xs) (hg : Blk w g t cs) (hne : e ≠ t) : v.ownBlock ≠ some g := by
  rcases h.2 with ⟨rfl, _⟩ | ⟨g', cap, cur, rfl, _, hh, _⟩
  · simp [Value.ownBlock]
  · intro he
    have : g' = g := by simpa [Value.ownBlock] using he
    subst this
    exact Blk.ne_ (t := e) hh hg hne rfl
end
theorem own_below {w w' : World} {base : Nat} {e : TypeId} {size n : Nat} {v : Value} {xs : List Value} (h : w.ownsRow base e size v n xs) (hb : Below w.heap.size w w') : w'.ownsRow base e size v n xs :=
  h.kept (row := none) ⟨hb.os, hb.tape, hb.output, hb.size, fun i hi _ => hb.block i hi⟩ (by cases v.ownBlock with | none => exact .inl rfl | some _ => exact .inr (by simp))
theorem own_set {w : World} {base : Nat} {e : TypeId} {size n : Nat} {v : Value} {xs : List Value} (h : w.ownsRow base e size v n xs) {a : Addr} (ha : v.ownBlock ≠ some a.block) (u : Value) : (w.setCell a u).ownsRow base e size v n xs :=
  h.kept (row := some a.block) ⟨rfl, rfl, rfl, by simp, fun i _ hi => Below.heap_setCell w a u i (fun x => hi (by rw [x]))⟩ (.inr ha)
/-- the reader behind the pointer to block b: the text, where it is, the tokens (a row of its own from B on), the fault -/
def RS (w : World) (B b : Nat) (s : ByteArray) (p : Int) (l : List Tk) (why fat : Int) : Prop :=
  B ≤ b ∧ ∃ v, Blk w b 38 #[.string s, .int .i64 p, v, .int .i64 why, .int .i64 fat] ∧ w.ownsRow B 30 4 v l.length (cellsOf l)
section
variable {w w' : World} {B b : Nat} {s : ByteArray} {p : Int} {l : List Tk} {why fat : Int}
theorem RS.drewN (h : RS w B b s p l why fat) (n : Nat) : RS (w.drewN n) B b s p l why fat := h
theorem RS.lt (h : RS w B b s p l why fat) : b < w.heap.size := by obtain ⟨_, v, hb, _⟩ := h; exact hb.lt
theorem RS.alloc (h : RS w B b s p l why fat) (o : Obj) : RS (w.alloc o) B b s p l why fat := by
  obtain ⟨h0, v, hb, ho⟩ := h
  exact ⟨h0, v, hb.alloc o, ho.alloc o⟩
theorem RS.below (h : RS w B b s p l why fat) (hb : Below w.heap.size w w') : RS w' B b s p l why fat := by
  obtain ⟨h0, v, hk, ho⟩ := h
  exact ⟨h0, v, hk.below hb hk.lt, own_below ho hb⟩
end
theorem RS.set_ {w : World} {B b : Nat} {s : ByteArray} {v : Value} {p why fat : Int} {l : List Tk} {cs : Array Value} (i : Nat) (u : Value) (h0 : B ≤ b) (hb : Blk w b 38 cs) (ho : w.ownsRow B 30 4 v l.length (cellsOf l)) (hc : cs.setIfInBounds i u = #[.string s, .int .i64 p, v, .int .i64 why, .int .i64 fat]) :
    RS (w.setCell ⟨b, i, none⟩ u) B b s p l why fat :=
  ⟨h0, v, hc ▸ hb.set_ i u, own_set ho (a := ⟨b, i, none⟩) (own_blk_ne ho hb (by decide)) u⟩
set_option maxRecDepth 100000 in
theorem fail_any (w : World) (B b : Nat) (s : ByteArray) (p : Int) (l : List Tk) (why fat e a : Int) (h : RS w B b s p l why fat) :
    Calls Tryd.prog 31 #[.pointer (some ⟨b, 0, none⟩), .int .i64 e, .int .i64 a] w fun x w' => x = .returned (.bool false) ∧ RS w' B b s p l e a ∧ Below B w w' := by
  obtain ⟨h0, v, hb, ho⟩ := h
  have c3 := hb.cell 3
  have c4 := hb.cell 4
  have f3 := hb.frozen 3
  have f4 := hb.frozen 4
  have HB := Lib.hid hb
  have HO := Lib.hid ho
  clear hb ho
  simp at c3 c4
  go_enter Tryd.func31, Tryd.ntmps31
  go_wp2
  go_ret
  refine ⟨rfl, ?_, ((Below.refl _ _).setCell (p := ⟨b, 3, none⟩) h0 _).setCell (p := ⟨b, 4, none⟩) h0 _⟩
  exact RS.set_ 4 _ h0 (HB.out.set_ 3 _) (own_set HO.out (a := ⟨b, 3, none⟩) (own_blk_ne HO.out HB.out (by decide)) _) rfl
theorem tokInfo : (Tryd.prog.info? 30).map (fun i => (i.zero, i.size, i.bytes)) = some (some (.agg #[.int .i64 0, .string ByteArray.empty, .int .i64 0, .int .i64 0]), 4, 40) := by kernel_rfl
theorem cells_one (t : Tk) : cellsOf [t] = t.cells := by show t.cells ++ [] = _; rw [List.append_nil]
/-- append of one token, the token in a block of its own: at a step of a region that draws its order -/
theorem step_tok {ops : Array Oper} {o : Oper} {a : Act} {K : Act → World → Prop} {Q : Exit → Act → World → Prop} {E : Prop} (w : World) (s x : Operand) (hgd : o.guard = none)
    (ho : o.op = .call { callee := .builtin .append, args := #[s, x], argTypes := #[22, 22] })
    (B : Nat) (v : Value) (l : List Tk) (hown : w.ownsRow B 30 4 v l.length (cellsOf l)) (g : Nat) (t : Tk) (hs : a.eval s = v) (hx : a.eval x = .slice (some ⟨g, 0, none⟩) 1 1)
    (hg : Blk w g 30 #[.int .i64 t.kind, .string ⟨t.text.toArray⟩, .int .i64 t.n, .int .i64 t.at_]) (hl : l.length ≤ 65536) (hB : B ≤ w.heap.size)
    (b : Nat) (q0 q1 q3 q4 : Value) (hb : Blk w b 38 #[q0, q1, v, q3, q4])
    (h : ∀ gg cap w', Hid (w'.ownsRow B 30 4 (.slice (some ⟨gg, 0, none⟩) (l.length + 1) cap) (l ++ [t]).length (cellsOf (l ++ [t]))) → Hid (Below B w w') → Hid (Blk w' b 38 #[q0, q1, v, q3, q4]) → w'.cell? ⟨b, 1, none⟩ = some q1 → w'.cell? ⟨b, 2, none⟩ = some v → w'.frozen? ⟨b, 1, none⟩ = false → w'.frozen? ⟨b, 2, none⟩ = false → K (a.put o.dst (.slice (some ⟨gg, 0, none⟩) (l.length + 1) cap)) w') :
    if Region.wanted o (yielded ops a.tmps) = true then Oper.wp Tryd.prog o a w K Q else E := by
  obtain ⟨i0, hi0, hz0, hz1, hz2⟩ := info_parts tokInfo
  refine step_append_lies w hgd s x 22 ho B 30 i0 _ 4 40 Tryd.underlying22 hi0 hz0 hz1 hz2 rfl (by decide) v l.length (cellsOf l) hs hown ⟨g, 0, none⟩ 1 1 t.cells hx rfl ?_ ?_ (by decide) (by unfold maxLen; omega) (by omega) hB _ rfl ?_
  · exact World.news_of_block hg
  · intro u hu
    simp [Tk.cells] at hu
    rcases hu with rfl | rfl | rfl | rfl <;> rfl
  · intro gg cap w' h1 h2 _ _
    have hb' : Blk w' b 38 #[q0, q1, v, q3, q4] := hb.grown h2 (fun e => own_blk_ne hown hb (by decide) e.symm)
    refine h gg cap w' ?_ ?_ hb' (hb'.cell 1) (hb'.cell 2) (hb'.frozen 1) (hb'.frozen 2)
    · show w'.ownsRow _ _ _ _ _ _
      rw [cellsOf_append, cells_one, List.length_append]
      exact h1
    · exact (Below.refl _ _).grown h2 hB (fun k hk => (hown.lt k hk).1)
set_option maxRecDepth 100000 in
theorem add_any (w : World) (B b : Nat) (s : ByteArray) (p : Int) (l : List Tk) (why fat : Int) (kd : Int) (tx : ByteArray) (nn a0 n : Int) (h : RS w B b s p l why fat) (hl : l.length ≤ 65536)
    (hp : 0 ≤ p) (hp2 : p ≤ 65536) (hn : 0 ≤ n) (hn2 : n ≤ 65536) (hBw : B ≤ w.heap.size) :
    Calls Tryd.prog 32 #[.pointer (some ⟨b, 0, none⟩), .agg #[.int .i64 kd, .string tx, .int .i64 nn, .int .i64 a0], .int .i64 n] w fun x w' => x = .returned (.bool true) ∧ RS w' B b s (p + n) (l ++ [⟨kd, tx.data.toList, nn, p⟩]) why fat ∧ Below B w w' := by
  obtain ⟨h0, v, hb, ho⟩ := h
  obtain ⟨i0, hi0, hz0, hz1, hz2⟩ := info_parts tokInfo
  have c1 := hb.cell 1
  have c2 := hb.cell 2
  have f1 := hb.frozen 1
  have f2 := hb.frozen 2
  have hlt := hb.lt
  have HB := Lib.hid hb
  have HO := Lib.hid ho
  clear hb ho
  simp at c1 c2
  go_enter Tryd.func32, Tryd.ntmps32
  go_wp2
  -- the world behind the argument's own block, under one name
  have HB1 := Lib.hid (HB.out.alloc (.cells #[.int .i64 kd, .string tx, .int .i64 nn, .int .i64 p] 30))
  have HO1 := Lib.hid (HO.out.alloc (.cells #[.int .i64 kd, .string tx, .int .i64 nn, .int .i64 p] 30))
  have HT := Lib.hid (Blk.new w 30 #[.int .i64 kd, .string tx, .int .i64 nn, .int .i64 p])
  have hs1 : w.heap.size + 1 ≤ (w.alloc (.cells #[.int .i64 kd, .string tx, .int .i64 nn, .int .i64 p] 30)).heap.size := by simp
  have BW := Lib.hid ((Below.refl B w).alloc hBw (.cells #[.int .i64 kd, .string tx, .int .i64 nn, .int .i64 p] 30))
  clear HB HO c1 c2 f1 f2
  generalize hw1 : w.alloc (.cells #[.int .i64 kd, .string tx, .int .i64 nn, .int .i64 p] 30) = w1 at *
  clear hw1
  have c1 := HB1.out.cell 1
  have c2 := HB1.out.cell 2
  have f1 := HB1.out.frozen 1
  have f2 := HB1.out.frozen 2
  have t0 := HT.out.cell 0
  have t1 := HT.out.cell 1
  have t2 := HT.out.cell 2
  have t3 := HT.out.cell 3
  simp at c1 c2 t0 t1 t2 t3
  have hbs := Lib.hid (show B ≤ w1.heap.size by have := hBw; omega)
  have hls := Lib.hid hl
  clear hl hBw hs1
  have hlt1 : b < w1.heap.size := HB1.out.lt
  go_region_law (refine step_tok _ (.tmp 16) (.tmp 18) rfl rfl B v l (HO1.out.alloc _) w1.heap.size ⟨kd, tx.data.toList, nn, p⟩ rfl rfl (Blk.new _ _ _) hls.out (Nat.le_trans hbs.out (Nat.le_of_lt (Blk.new _ _ _).lt)) b _ _ _ _ (HB1.out.alloc _) ?_; intro g cap w2 HO2 BW2 HB2 d1 d2 e1 e2)
  all_goals go_wp2
  all_goals go_ret
  all_goals refine ⟨rfl, ?_, ?_⟩
  all_goals first
    | exact RS.set_ 1 _ h0 (HB2.out.set_ 2 _) (own_set HO2.out (a := ⟨b, 2, none⟩) (own_blk_ne HO2.out HB2.out (by decide)) _) rfl
    | exact (((BW.out.alloc hbs.out _).drew.trans BW2.out).setCell (p := ⟨b, 2, none⟩) h0 _).setCell (p := ⟨b, 1, none⟩) h0 _
    | exact (((BW.out.alloc hbs.out _).trans BW2.out).setCell (p := ⟨b, 2, none⟩) h0 _).setCell (p := ⟨b, 1, none⟩) h0 _
end Go.Proofs.YtafndkgoeabehaaDoor.LexMem
namespace Go.Proofs.YtafndkgoeabehaaDoor.NumPure
open Go Go.RowKit
/-- is a number one of 64 bits? -/
def In (x : Int) : Prop := -9223372036854775808 ≤ x ∧ x ≤ 9223372036854775807
instance (x : Int) : Decidable (In x) := inferInstanceAs (Decidable (_ ∧ _))
def told (x : Int) : Int × Int := if In x then (x, 0) else (0, 8)
theorem wrap_in {x : Int} (h : In x) : wrap64 x = x := by unfold In at h; unfold wrap64; omega
end Go.Proofs.YtafndkgoeabehaaDoor.NumPure
namespace Go.Proofs.YtafndkgoeabehaaDoor.NumRead
open Go Go.RowKit Go.Proofs.YtafndkgoeabehaaDoor.NumPure
def dig (c : UInt8) : Bool := decide (48 ≤ c.toNat ∧ c.toNat ≤ 57)
def val (a : Nat) (l : List UInt8) : Nat := l.foldl (fun x c => x * 10 + (c.toNat - 48)) a
theorem val_nil (a : Nat) : val a [] = a := by unfold val; rw [List.foldl_nil]
theorem val_cons (a : Nat) (c : UInt8) (r : List UInt8) : val a (c :: r) = val (a * 10 + (c.toNat - 48)) r := by unfold val; rw [List.foldl_cons]
theorem val_ge (l : List UInt8) : ∀ a : Nat, a ≤ val a l := by
  induction l with
  | nil => intro a; rw [val_nil]; exact Nat.le_refl _
  | cons c r ih => intro a; rw [val_cons]; have := ih (a * 10 + (c.toNat - 48)); omega
def signed (m : Bool) (v : Nat) : Int := if m = true then -(v : Int) else v
def Bad (l d : List UInt8) : Prop := d = [] ∨ d.all dig = false ∨ (d.head? = some 48 ∧ l ≠ [48])
instance (l d : List UInt8) : Decidable (Bad l d) := inferInstanceAs (Decidable (_ ∨ _ ∨ _))
def core (l : List UInt8) (m : Bool) (d : List UInt8) : Int × Int := if Bad l d then (0, 7) else told (signed m (val 0 d))
/-- what a text is read as -/
def parseS (l : List UInt8) : Int × Int := if l.head? = some 45 then core l true l.tail else core l false l
theorem uint10 (l : List UInt8) : ∀ a : Nat, l.all dig = true → Lib.parseUint10 a l = if (val a l < 18446744073709551616 ∧ a < 18446744073709551616) ∨ l = [] then .ok (val a l) else .range := by
  induction l with
  | nil => intro a _; rw [if_pos (.inr rfl), val_nil]; rfl
  | cons c r ih =>
    intro a h
    simp only [List.all_cons, Bool.and_eq_true] at h
    have hc : 48 ≤ c.toNat ∧ c.toNat ≤ 57 := by simpa [dig] using h.1
    have hv := val_ge r (a * 10 + (c.toNat - 48))
    have e : Lib.parseUint10 a (c :: r) = if 1844674407370955162 ≤ a then .range else if 18446744073709551616 ≤ a * 10 + (c.toNat - 48) then .range else Lib.parseUint10 (a * 10 + (c.toNat - 48)) r := by
      rw [Lib.parseUint10, if_pos hc]
    rw [e, val_cons]
    have hne : ¬ (c :: r = []) := by simp
    obtain ⟨b, hb⟩ : ∃ b, a * 10 + (c.toNat - 48) = b := ⟨_, rfl⟩
    rw [hb] at hv ⊢
    by_cases h1 : 1844674407370955162 ≤ a
    · rw [if_pos h1, if_neg (by simp only [hne, or_false]; omega)]
    · rw [if_neg h1]
      by_cases h2 : 18446744073709551616 ≤ b
      · rw [if_pos h2, if_neg (by simp only [hne, or_false]; omega)]
      · rw [if_neg h2, ih _ h.2]
        by_cases h4 : val b r < 18446744073709551616
        · rw [if_pos (.inl ⟨h4, by omega⟩), if_pos (.inl ⟨h4, by omega⟩)]
        · have h3 : r ≠ [] := by rintro rfl; rw [val_nil] at h4; omega
          rw [if_neg (by simp only [h3, or_false, h4, false_and, not_false_eq_true]), if_neg (by simp only [hne, or_false, h4, false_and, not_false_eq_true])]
theorem mag (l : List UInt8) (hn : l ≠ []) (h : l.all dig = true) : Lib.parseMag l = if val 0 l < 18446744073709551616 then .ok (val 0 l) else .range := by
  unfold Lib.parseMag
  rw [if_neg hn, uint10 l 0 h]
  by_cases c : val 0 l < 18446744073709551616
  · rw [if_pos c, if_pos (.inl ⟨c, by decide⟩)]
  · rw [if_neg c, if_neg (by simp [hn]; omega)]
/-- where a text has digits behind at most one minus, Atoi's end is its number, or that the number has left the bits -/
theorem atoi_digits (l : List UInt8) (m : Bool) (d : List UInt8) (hl : l = if m = true then 45 :: d else d) (hd : d ≠ []) (h : d.all dig = true) :
    Lib.atoiAll l = if In (signed m (val 0 d)) then .ok (signed m (val 0 d)) else .range := by
  obtain ⟨c, r, rfl⟩ : ∃ c r, d = c :: r := by cases d with | nil => exact absurd rfl hd | cons c r => exact ⟨c, r, rfl⟩
  have hc : 48 ≤ c.toNat ∧ c.toNat ≤ 57 := by simp only [List.all_cons, Bool.and_eq_true] at h; simpa [dig] using h.1
  cases m
  · simp only [Bool.false_eq_true, if_false] at hl
    subst hl
    unfold Lib.atoiAll
    simp only []
    rw [if_neg (show ¬ (c.toNat = 43 ∨ c.toNat = 45) by omega), mag _ hd h]
    have n45 : ¬ c.toNat = 45 := by omega
    simp only [signed, Bool.false_eq_true, if_false, n45, not_false_eq_true, true_and, false_and]
    by_cases h1 : val 0 (c :: r) < 18446744073709551616
    · rw [if_pos h1]
      simp only []
      by_cases h2 : 9223372036854775808 ≤ val 0 (c :: r)
      · rw [if_pos h2, if_neg (by unfold In; omega)]
      · rw [if_neg h2, if_pos (by unfold In; omega)]
    · rw [if_neg h1]
      simp only []
      rw [if_neg (by unfold In; omega)]
  · simp only [if_true] at hl
    subst hl
    unfold Lib.atoiAll
    have e45 : (45 : UInt8).toNat = 45 := rfl
    simp only [e45, or_true, if_true, not_true_eq_false, false_and, if_false, true_and]
    rw [mag _ hd h]
    simp only [signed, if_true]
    by_cases h1 : val 0 (c :: r) < 18446744073709551616
    · rw [if_pos h1]
      simp only []
      by_cases h2 : 9223372036854775808 < val 0 (c :: r)
      · rw [if_pos h2, if_neg (by unfold In; omega)]
      · rw [if_neg h2, if_pos (by unfold In; omega)]
    · rw [if_neg h1]
      simp only []
      rw [if_neg (by unfold In; omega)]
def cs10 : List UInt8 := [48, 49, 50, 51, 52, 53, 54, 55, 56, 57]
theorem cs10_dig (c : UInt8) : cs10.contains c = dig c := by
  have h : ∀ n : Fin 256, cs10.contains (UInt8.ofNat n.val) = dig (UInt8.ofNat n.val) := by decide +kernel
  have := h ⟨c.toNat, c.toNat_lt⟩
  simpa using this
theorem dropWhile_nil {p : UInt8 → Bool} : ∀ l : List UInt8, l.dropWhile p = [] ↔ l.all p = true
  | [] => by simp
  | c :: r => by
    by_cases h : p c = true
    · simp [h, dropWhile_nil r]
    · simp [h]
/-- Trim at the digits leaves nothing just where there are digits alone -/
theorem trim_nil (l : List UInt8) : Lib.trimS l cs10 = [] ↔ l.all dig = true := by
  have e : (fun c : UInt8 => cs10.contains c) = dig := funext cs10_dig
  unfold Lib.trimS Lib.trimLeftS Lib.trimRightS
  simp only [e]
  rw [dropWhile_nil, List.all_reverse]
  constructor
  · intro h
    have h1 : (l.reverse.dropWhile dig).all dig = true := by simpa using h
    have h2 : l.reverse.dropWhile dig = [] := by
      cases hh : l.reverse.dropWhile dig with
      | nil => rfl
      | cons c r =>
        have h3 : dig c = true := by rw [hh] at h1; simp only [List.all_cons, Bool.and_eq_true] at h1; exact h1.1
        have h4 := List.head?_dropWhile_not dig l.reverse
        rw [hh] at h4
        simp only [List.head?_cons] at h4
        rw [h3] at h4
        exact absurd h4 (by simp)
    have := (dropWhile_nil l.reverse).1 h2
    simpa using this
  · intro h
    have : l.reverse.dropWhile dig = [] := (dropWhile_nil _).2 (by simpa using h)
    rw [this]; rfl
end Go.Proofs.YtafndkgoeabehaaDoor.NumRead
namespace Go.Proofs.YtafndkgoeabehaaDoor.LexPure
open Go Go.RowKit Go.Proofs.YtafndkgoeabehaaDoor.NumPure Go.Proofs.YtafndkgoeabehaaDoor.NumRead
def letter (c : UInt8) : Bool := c == 95 || (decide (97 ≤ c.toNat) && decide (c.toNat ≤ 122)) || (decide (65 ≤ c.toNat) && decide (c.toNat ≤ 90))
/-- may a byte stand in a word, at its begin, or behind it? -/
def inWord (k : Bool) (c : UInt8) : Bool := letter c || (k && dig c)
def wd : Bool → List UInt8 → Nat
  | _, [] => 0
  | k, c :: r => if inWord k c = true then wd true r + 1 else 0
def word (l : List UInt8) : Nat := wd false l
def more : Nat → List UInt8 → Nat
  | 0, _ => 0
  | _ + 1, [] => 0
  | f + 1, c :: r => if c = 46 ∧ 0 < word r then 1 + word r + more f (r.drop (word r)) else 0
def name (l : List UInt8) : Nat := if word l = 0 then 0 else word l + more l.length (l.drop (word l))
def blank (c : UInt8) : Bool := c == 32 || c == 9 || c == 10 || c == 13
/-- up to the end of the line -/
def eol : List UInt8 → Nat
  | [] => 0
  | c :: r => if c = 10 then 0 else eol r + 1
/-- up to behind the next star and slash -/
def close : List UInt8 → Option Nat
  | [] => none
  | c :: r => if [42, 47].isPrefixOf (c :: r) = true then some 2 else (close r).map (· + 1)
/-- one gap: its length; 0: none; below 0: it does not end -/
def gap1 : List UInt8 → Int
  | [] => 0
  | c :: r => if blank c = true then 1 else if [47, 47].isPrefixOf (c :: r) = true then (eol (c :: r) : Int) else if [47, 42].isPrefixOf (c :: r) = true then (match close (r.drop 1) with | none => -1 | some n => ((n + 2 : Nat) : Int)) else 0
def gaps : Nat → List UInt8 → Nat × Bool
  | 0, _ => (0, true)
  | f + 1, l => if gap1 l = 0 then (0, true) else if gap1 l < 0 then (0, false) else ((gap1 l).toNat + (gaps f (l.drop (gap1 l).toNat)).1, (gaps f (l.drop (gap1 l).toNat)).2)
/-- what stands at a token's begin: a token, or a fault so many bytes on -/
inductive Out where
  | tok (kind : Int) (text : List UInt8) (n : Int) (len : Nat)
  | bad (why : Int) (off : Nat)
  deriving DecidableEq
def run (l : List UInt8) : Nat := (l.takeWhile dig).length
def numLen (l : List UInt8) : Nat := if l.head? = some 48 then 1 else 1 + run l.tail
def stands (l : List UInt8) : Bool := match l with | [] => false | c :: _ => dig c || letter c
def number (l : List UInt8) : Out :=
  if stands (l.drop (numLen l)) = true then .bad 7 (numLen l) else if (parseS (l.take (numLen l))).2 = 0 then .tok 2 [] (parseS (l.take (numLen l))).1 (numLen l) else .bad (parseS (l.take (numLen l))).2 0
/-- what a byte behind a backslash means -/
def esc (c : UInt8) : Option UInt8 := if c = 34 then some 34 else if c = 92 then some 92 else if c = 110 then some 10 else if c = 116 then some 9 else none
def text (b : List UInt8) (i : Nat) : List UInt8 → Out
  | [] => .bad 7 0
  | c :: r => if c = 34 then .tok 3 b 0 (i + 1) else if c = 10 then .bad 7 i else if c = 92 then (match r with | [] => .bad 7 i | d :: r' => match esc d with | none => .bad 7 i | some e => text (b ++ [e]) (i + 2) r') else text (b ++ [c]) (i + 1) r
def heads : List (List UInt8) := [[46, 100, 101, 99, 108], [46, 116, 121, 112, 101], [46, 99, 111, 109, 112], [46, 105, 110, 105, 116]]
def twos : List (List UInt8) := [[58, 45], [60, 58], [60, 61], [62, 61], [33, 61]]
def ones : List UInt8 := [40, 41, 123, 125, 44, 46, 58, 124, 33, 61, 60, 62, 43, 45, 42, 47, 37, 36]
/-- how many bytes of a sign; 0: none -/
def signLen (l : List UInt8) : Nat :=
  if l.head? = some 46 ∧ heads.contains (l.take (1 + word l.tail)) = true then 1 + word l.tail
  else if twos.contains (l.take 2) = true then 2
  else match l with | [] => 0 | c :: _ => if ones.contains c = true then 1 else 0
def sign (l : List UInt8) : Out := if signLen l = 0 then .bad 7 0 else .tok 4 (l.take (signLen l)) 0 (signLen l)
def token (l : List UInt8) : Out :=
  if 64 < name l then .bad 2 0 else if 0 < name l then .tok 1 (l.take (name l)) 0 (name l) else match l with | [] => sign l | c :: r => if dig c = true then number l else if c = 34 then text [] 1 r else sign l
structure T where
  kind : Int
  text : List UInt8
  n : Int
  at_ : Nat
  deriving DecidableEq
/-- the tokens from a byte on, behind those that are there -/
def toks : Nat → Nat → List UInt8 → List T → List T × Int × Int
  | 0, _, _, acc => (acc, 0, 0)
  | f + 1, p, l, acc =>
    if (gaps l.length l).2 = true then
      (match l.drop (gaps l.length l).1 with
        | [] => (acc, 0, 0)
        | c :: r => match token (c :: r) with
          | .bad why off => ([], why, ((p + (gaps l.length l).1 + off : Nat) : Int))
          | .tok kind tx n len => toks f (p + (gaps l.length l).1 + len) ((c :: r).drop len) (acc ++ [⟨kind, tx, n, p + (gaps l.length l).1⟩]))
    else ([], 7, ((p + (gaps l.length l).1 : Nat) : Int))
def lex (l : List UInt8) : List T × Int × Int := if 65536 < l.length then ([], 2, 0) else toks (l.length + 1) 0 l []
theorem wd_le (l : List UInt8) : ∀ k, wd k l ≤ l.length := by
  induction l with
  | nil => intro k; exact Nat.le_refl _
  | cons c r ih => intro k; unfold wd; split
                   · have := ih true; simp; omega
                   · simp
theorem word_le (l : List UInt8) : word l ≤ l.length := wd_le l false
theorem more_le : ∀ (f : Nat) (l : List UInt8), more f l ≤ l.length := by
  intro f
  induction f with
  | zero => intro l; simp [more]
  | succ f ih =>
    intro l
    cases l with
    | nil => simp [more]
    | cons c r =>
      unfold more
      split
      · have h1 := word_le r
        have h2 := ih (r.drop (word r))
        rw [List.length_drop] at h2
        simp; omega
      · simp
theorem name_le (l : List UInt8) : name l ≤ l.length := by
  unfold name
  split
  · omega
  · have h1 := word_le l
    have h2 := more_le l.length (l.drop (word l))
    rw [List.length_drop] at h2
    omega
theorem eol_le (l : List UInt8) : eol l ≤ l.length := by
  induction l with
  | nil => simp [eol]
  | cons c r ih => unfold eol; split <;> simp; omega
theorem close_le (l : List UInt8) : ∀ n, close l = some n → 2 ≤ n ∧ n ≤ l.length := by
  induction l with
  | nil => intro n h; simp [close] at h
  | cons c r ih =>
    intro n h
    unfold close at h
    split at h
    · rename_i hp
      simp only [Option.some.injEq] at h
      have := List.IsPrefix.length_le (List.isPrefixOf_iff_prefix.1 hp)
      simp at this ⊢; omega
    · cases hc : close r with
      | none => rw [hc] at h; simp at h
      | some m => rw [hc] at h; simp at h; have := ih m hc; simp; omega
theorem gap1_cons (c : UInt8) (r : List UInt8) : gap1 (c :: r) = if blank c = true then 1 else if [47, 47].isPrefixOf (c :: r) = true then (eol (c :: r) : Int) else if [47, 42].isPrefixOf (c :: r) = true then (match close (r.drop 1) with | none => -1 | some n => ((n + 2 : Nat) : Int)) else 0 := rfl
theorem gap1_le (l : List UInt8) : -1 ≤ gap1 l ∧ gap1 l ≤ l.length := by
  cases l with
  | nil => exact ⟨by simp [gap1], by simp [gap1]⟩
  | cons c r =>
    rw [gap1_cons]
    by_cases h1 : blank c = true
    · rw [if_pos h1, List.length_cons]; omega
    · rw [if_neg h1]
      by_cases h2 : [47, 47].isPrefixOf (c :: r) = true
      · rw [if_pos h2]; have := eol_le (c :: r); omega
      · rw [if_neg h2]
        by_cases h3 : [47, 42].isPrefixOf (c :: r) = true
        · rw [if_pos h3]
          cases hc : close (r.drop 1) with
          | none => simp only []; omega
          | some n =>
            have h4 := close_le _ n hc
            rw [List.length_drop] at h4
            have h5 := List.IsPrefix.length_le (List.isPrefixOf_iff_prefix.1 h3)
            simp only [List.length_cons, List.length_nil] at h5 ⊢
            omega
        · rw [if_neg h3]; omega
theorem gaps_le : ∀ (f : Nat) (l : List UInt8), (gaps f l).1 ≤ l.length := by
  intro f
  induction f with
  | zero => intro l; simp [gaps]
  | succ f ih =>
    intro l
    have h1 := gap1_le l
    unfold gaps
    split
    · simp
    · split
      · simp
      · have h2 := ih (l.drop (gap1 l).toNat)
        rw [List.length_drop] at h2
        simp only; omega
end Go.Proofs.YtafndkgoeabehaaDoor.LexPure
namespace Go.Proofs.YtafndkgoeabehaaDoor.LexGap
open Go Go.RowKit Go.Proofs.YtafndkgoeabehaaDoor.LexPure
theorem gaps_rounds : ∀ (f g : Nat) (l : List UInt8), l.length ≤ f → l.length ≤ g → gaps f l = gaps g l := by
  intro f
  induction f with
  | zero =>
    intro g l hf hg
    obtain rfl : l = [] := List.eq_nil_of_length_eq_zero (by omega)
    cases g with
    | zero => rfl
    | succ g => simp [gaps, gap1]
  | succ f ih =>
    intro g l hf hg
    cases g with
    | zero =>
      obtain rfl : l = [] := List.eq_nil_of_length_eq_zero (by omega)
      simp [gaps, gap1]
    | succ g =>
      have h1 := gap1_le l
      simp only [gaps]
      by_cases h0 : gap1 l = 0
      · rw [if_pos h0, if_pos h0]
      · by_cases h2 : gap1 l < 0
        · rw [if_neg h0, if_neg h0, if_pos h2, if_pos h2]
        · have hl : (l.drop (gap1 l).toNat).length ≤ l.length - 1 := by rw [List.length_drop]; omega
          rw [ih g (l.drop (gap1 l).toNat) (by omega) (by omega)]
/-- the gaps at a text's begin: their length; do they end? -/
def G (l : List UInt8) : Nat × Bool := gaps l.length l
theorem G_le (l : List UInt8) : (G l).1 ≤ l.length := gaps_le _ l
theorem G_none {l : List UInt8} (h : gap1 l = 0) : G l = (0, true) := by
  unfold G
  cases hl : l.length with
  | zero => rfl
  | succ f => simp only [gaps]; rw [if_pos h]
theorem G_open {l : List UInt8} (h : gap1 l < 0) : G l = (0, false) := by
  unfold G
  cases hl : l.length with
  | zero => obtain rfl : l = [] := List.eq_nil_of_length_eq_zero hl
            simp [gap1] at h
  | succ f => simp only [gaps]; rw [if_neg (by omega), if_pos h]
theorem G_some {l : List UInt8} {n : Nat} (h : gap1 l = n) (hn : 0 < n) : G l = (n + (G (l.drop n)).1, (G (l.drop n)).2) := by
  have h1 := gap1_le l
  unfold G
  cases hl : l.length with
  | zero => omega
  | succ f =>
    have hd : (l.drop n).length ≤ f := by rw [List.length_drop]; omega
    simp only [gaps]
    rw [if_neg (by omega), if_neg (by omega), h, Int.toNat_natCast, gaps_rounds f (l.drop n).length (l.drop n) hd (Nat.le_refl _)]
theorem blank_index (c : UInt8) : decide (0 ≤ Lib.indexByte [32, 9, 10, 13] c) = LexPure.blank c := by
  have h : ∀ n : Fin 256, decide (0 ≤ Lib.indexByte [32, 9, 10, 13] (UInt8.ofNat n.val)) = LexPure.blank (UInt8.ofNat n.val) := by decide +kernel
  have := h ⟨c.toNat, c.toNat_lt⟩
  simpa using this
theorem eol_index (l : List UInt8) : (Lib.indexByte l 10 < 0 → eol l = l.length) ∧ (¬ Lib.indexByte l 10 < 0 → Lib.indexByte l 10 = eol l) := by
  induction l with
  | nil => simp [Lib.indexByte, eol]
  | cons c r ih =>
    unfold Lib.indexByte eol
    have hg := Lib.indexByte_ge r 10
    by_cases hc : c = 10
    · subst hc; simp
    · rw [if_neg (by simpa using hc), if_neg hc]
      by_cases h1 : Lib.indexByte r 10 = -1
      · have : (Lib.indexByte r 10 == -1) = true := by rw [h1]; rfl
        rw [if_pos this]
        have := ih.1 (by omega)
        simp [this]
      · have : ¬ (Lib.indexByte r 10 == -1) = true := by simpa using h1
        rw [if_neg this]
        have := ih.2 (by omega)
        constructor
        · intro; omega
        · intro; push_cast; omega
theorem close_index (l : List UInt8) : (Lib.index l [42, 47] < 0 → close l = none) ∧ (¬ Lib.index l [42, 47] < 0 → ∃ n : Nat, Lib.index l [42, 47] = n ∧ close l = some (n + 2)) := by
  induction l with
  | nil => simp [Lib.index, close]
  | cons c r ih =>
    unfold Lib.index close
    have hg := Lib.index_ge r [42, 47]
    by_cases hp : [42, 47].isPrefixOf (c :: r) = true
    · rw [if_pos hp, if_pos hp]
      exact ⟨fun h => absurd h (by omega), fun _ => ⟨0, rfl, rfl⟩⟩
    · rw [if_neg hp, if_neg hp]
      by_cases h1 : Lib.index r [42, 47] = -1
      · have : (Lib.index r [42, 47] == -1) = true := by rw [h1]; rfl
        rw [if_pos this]
        refine ⟨fun _ => by rw [ih.1 (by omega)]; rfl, fun h => absurd h (by omega)⟩
      · have : ¬ (Lib.index r [42, 47] == -1) = true := by simpa using h1
        rw [if_neg this]
        obtain ⟨n, h2, h3⟩ := ih.2 (by omega)
        refine ⟨fun h => absurd h (by omega), fun _ => ⟨n + 1, by rw [h2]; push_cast; rfl, by rw [h3]; rfl⟩⟩
end Go.Proofs.YtafndkgoeabehaaDoor.LexGap
namespace Go.Proofs.YtafndkgoeabehaaDoor.Pword
open Go.RowKit Go.Proofs.YtafndkgoeabehaaDoorW.PrintWords Go.Proofs.YtafndkgoeabehaaDoorW.PrintLast Go.Proofs.YtafndkgoeabehaaDoorW.PrintMore
attribute [local go_sem] max2_int min2_int max_two min_two max_three min_three max_four min_four   -- for this text's walks alone
set_option linter.unusedVariables false
set_option linter.unusedSimpArgs false
def errW : Option Int → Value
  | none => .nilIface
  | some c => .iface 0 (.int .i64 c)
theorem errW_none : errW none = .nilIface := rfl
theorem errW_some (c : Int) : errW (some c) = .iface 0 (.int .i64 c) := rfl
end Go.Proofs.YtafndkgoeabehaaDoor.Pword
namespace Go.Proofs.YtafndkgoeabehaaDoor.Pword
open Go.RowKit Go.Proofs.YtafndkgoeabehaaDoorW.PrintWords Go.Proofs.YtafndkgoeabehaaDoorW.PrintLast Go.Proofs.YtafndkgoeabehaaDoorW.PrintMore
attribute [local go_sem] max2_int min2_int max_two min_two max_three min_three max_four min_four   -- for this text's walks alone
set_option linter.unusedVariables false
set_option linter.unusedSimpArgs false
def lex_digit.f (a0 : Int) : Option (Bool) := if a0 ≥ 48 then (some (decide (a0 ≤ 57))) else (some false)
set_option maxHeartbeats 8000000 in
set_option maxRecDepth 100000 in
theorem lex_digit.calls (a0 : Int) (r : Bool) (w : World) (h : lex_digit.f a0 = some r) :
    Calls Tryd.prog 33 #[.int .u8 a0] w fun e w' => e = .returned (.bool r) ∧ Drawn0 w w' := by
  have H : (if a0 ≥ 48 then (some (decide (a0 ≤ 57))) else (some false)) = some r := h
  clear h
  by_cases c2 : a0 ≥ 48
  · rw [if_pos c2] at H
    have c2b0 : decide (48 ≤ a0) = true := decide_eq_true c2
    clear c2
    obtain rfl := Option.some.inj H
    go_enter Tryd.func33, Tryd.ntmps33
    go_wp2
    go_ret
    exact ⟨by first | rfl | (simp; done) | (simp [*]; done), by repeat (first | exact Drawn0.refl _ | apply Drawn0.step)⟩
  · rw [if_neg c2] at H
    have c2b0 : decide (48 ≤ a0) = false := decide_eq_false c2
    clear c2
    obtain rfl := Option.some.inj H
    go_enter Tryd.func33, Tryd.ntmps33
    go_wp2
    go_ret
    exact ⟨by first | rfl | (simp; done) | (simp [*]; done), by repeat (first | exact Drawn0.refl _ | apply Drawn0.step)⟩
def lex_letter.f (a0 : Int) : Option (Bool) := if a0 = 95 then (some true) else (if a0 ≥ 97 then (if a0 ≤ 122 then (some true) else (if a0 ≥ 65 then (some (decide (a0 ≤ 90))) else (some false))) else (if a0 ≥ 65 then (some (decide (a0 ≤ 90))) else (some false)))
set_option maxHeartbeats 8000000 in
set_option maxRecDepth 100000 in
theorem lex_letter.calls (a0 : Int) (r : Bool) (w : World) (h : lex_letter.f a0 = some r) :
    Calls Tryd.prog 39 #[.int .u8 a0] w fun e w' => e = .returned (.bool r) ∧ Drawn0 w w' := by
  have H : (if a0 = 95 then (some true) else (if a0 ≥ 97 then (if a0 ≤ 122 then (some true) else (if a0 ≥ 65 then (some (decide (a0 ≤ 90))) else (some false))) else (if a0 ≥ 65 then (some (decide (a0 ≤ 90))) else (some false)))) = some r := h
  clear h
  by_cases c2 : a0 = 95
  · rw [if_pos c2] at H
    have c2b0 : (a0 == 95) = true := beq_iff_eq.mpr c2
    have c2b1 : (a0 != 95) = false := bne_eq_false_iff_eq.mpr c2
    clear c2
    obtain rfl := Option.some.inj H
    go_enter Tryd.func39, Tryd.ntmps39
    go_wp2
    go_ret
    exact ⟨by first | rfl | (simp; done) | (simp [*]; done), by repeat (first | exact Drawn0.refl _ | apply Drawn0.step)⟩
  · rw [if_neg c2] at H
    have c2b0 : (a0 == 95) = false := beq_eq_false_iff_ne.mpr c2
    have c2b1 : (a0 != 95) = true := bne_iff_ne.mpr c2
    by_cases c3 : a0 ≥ 97
    · rw [if_pos c3] at H
      have c3b0 : decide (97 ≤ a0) = true := decide_eq_true c3
      clear c3
      by_cases c4 : a0 ≤ 122
      · rw [if_pos c4] at H
        have c4b0 : decide (a0 ≤ 122) = true := decide_eq_true c4
        clear c4
        obtain rfl := Option.some.inj H
        go_enter Tryd.func39, Tryd.ntmps39
        go_wp2
        go_ret
        exact ⟨by first | rfl | (simp; done) | (simp [*]; done), by repeat (first | exact Drawn0.refl _ | apply Drawn0.step)⟩
      · rw [if_neg c4] at H
        have c4b0 : decide (a0 ≤ 122) = false := decide_eq_false c4
        clear c4
        by_cases c5 : a0 ≥ 65
        · rw [if_pos c5] at H
          have c5b0 : decide (65 ≤ a0) = true := decide_eq_true c5
          clear c5
          obtain rfl := Option.some.inj H
          go_enter Tryd.func39, Tryd.ntmps39
          go_wp2
          go_ret
          exact ⟨by first | rfl | (simp; done) | (simp [*]; done), by repeat (first | exact Drawn0.refl _ | apply Drawn0.step)⟩
        · rw [if_neg c5] at H
          have c5b0 : decide (65 ≤ a0) = false := decide_eq_false c5
          clear c5
          obtain rfl := Option.some.inj H
          go_enter Tryd.func39, Tryd.ntmps39
          go_wp2
          go_ret
          exact ⟨by first | rfl | (simp; done) | (simp [*]; done), by repeat (first | exact Drawn0.refl _ | apply Drawn0.step)⟩
    · rw [if_neg c3] at H
      have c3b0 : decide (97 ≤ a0) = false := decide_eq_false c3
      clear c3
      by_cases c6 : a0 ≥ 65
      · rw [if_pos c6] at H
        have c6b0 : decide (65 ≤ a0) = true := decide_eq_true c6
        clear c6
        obtain rfl := Option.some.inj H
        go_enter Tryd.func39, Tryd.ntmps39
        go_wp2
        go_ret
        exact ⟨by first | rfl | (simp; done) | (simp [*]; done), by repeat (first | exact Drawn0.refl _ | apply Drawn0.step)⟩
      · rw [if_neg c6] at H
        have c6b0 : decide (65 ≤ a0) = false := decide_eq_false c6
        clear c6
        obtain rfl := Option.some.inj H
        go_enter Tryd.func39, Tryd.ntmps39
        go_wp2
        go_ret
        exact ⟨by first | rfl | (simp; done) | (simp [*]; done), by repeat (first | exact Drawn0.refl _ | apply Drawn0.step)⟩
def lex_word.l0 : Nat → ByteArray → Int → Option (Int)
  | 0, _, _ => none
  | k + 1, x0, x3 => if x3 < (x0.size : Int) then (if 0 ≤ x3 then ((lex_letter.f (bt x0 x3)).bind fun t101 => (if t101 = true then (lex_word.l0 k x0 (wrap64 (x3 + 1))) else (if x3 > 0 then ((lex_digit.f (bt x0 x3)).bind fun t102 => (if t102 = true then (lex_word.l0 k x0 (wrap64 (x3 + 1))) else (some x3))) else (some x3)))) else (none)) else (some x3)
def lex_word.f (k : Nat) (a0 : ByteArray) : Option (Int) := lex_word.l0 k a0 0
theorem lex_word.mono_l : ∀ k, (∀ y0 y1, LeO (lex_word.l0 k y0 y1) (lex_word.l0 (k + 1) y0 y1))
  | 0 => fun _ _ r h => by simp [lex_word.l0] at h
  | k + 1 => by
    have ih0 := lex_word.mono_l k
    · intro y0 y1
      unfold lex_word.l0
      repeat' first
      | (with_reducible exact ih0 _ _)
      | (with_reducible exact LeO.refl _)
      | (with_reducible exact LeO.none _)
      | (with_reducible refine LeO.ite ?_ ?_)
      | (with_reducible refine LeO.bind ?_ (fun _ => ?_))
      | exact ih0 _ _
      | exact LeO.none _
      | refine LeO.ite ?_ ?_
      | refine LeO.bind ?_ (fun _ => ?_)
theorem lex_word.mono : ∀ a0 k, LeO (lex_word.f k a0) (lex_word.f (k + 1) a0) := by
  intro a0 k
  have ih0 := lex_word.mono_l k
  unfold lex_word.f
  repeat' first
      | (with_reducible exact ih0 _ _)
      | (with_reducible exact LeO.refl _)
      | (with_reducible exact LeO.none _)
      | (with_reducible refine LeO.ite ?_ ?_)
      | (with_reducible refine LeO.bind ?_ (fun _ => ?_))
      | exact ih0 _ _
      | exact LeO.none _
      | refine LeO.ite ?_ ?_
      | refine LeO.bind ?_ (fun _ => ?_)
set_option maxHeartbeats 8000000 in
set_option maxRecDepth 100000 in
theorem lex_word.calls (k : Nat) (a0 : ByteArray) (r : Int) (w : World) (h : lex_word.f k a0 = some r) :
    Calls Tryd.prog 25 #[.string a0] w fun e w' => e = .returned (.int .i64 r) ∧ Drawn0 w w' := by
  have H : (lex_word.l0 k a0 0) = some r := h
  clear h
  have H' := Aside0.mk H
  clear H
  go_enter Tryd.func25, Tryd.ntmps25
  go_wp2
  go_loopg [3] k (fun kq v3 w' => ∃ (x3_1 : Int), v3 = .int .i64 x3_1 ∧ Aside0 (lex_word.l0 kq a0 x3_1 = some r) ∧ Aside0 (kq ≤ k) ∧ Drawn0 w w')
  case atStart => exact ⟨(0), (by first | rfl | (simp; done) | (simp [*]; done)), H', ⟨Nat.le_refl _⟩, by repeat (first | exact Drawn0.refl _ | apply Drawn0.step)⟩
  case round =>
    clear H'
    obtain ⟨x3_1, rfl, HA, HK1, ⟨m1, rfl⟩⟩ := hrel
    cases gk with
    | zero => exact absurd HA.out (by simp [lex_word.l0])
    | succ k1 =>
      have H := HA.out
      clear HA
      simp only [lex_word.l0] at H
      by_cases c2 : x3_1 < (a0.size : Int)
      · rw [if_pos c2] at H
        have c2b0 : decide (x3_1 < (a0.size : Int)) = true := decide_eq_true c2
        clear c2
        by_cases c3 : 0 ≤ x3_1
        · rw [if_pos c3] at H
          have c3b0 : decide (0 ≤ x3_1) = true := decide_eq_true c3
          clear c3
          replace H := Option.bind_eq_some_iff.mp H
          obtain ⟨t101, A50, H⟩ := H
          replace H : (if t101 = true then (lex_word.l0 k1 a0 (wrap64 (x3_1 + 1))) else (if x3_1 > 0 then ((lex_digit.f (bt a0 x3_1)).bind fun t102 => (if t102 = true then (lex_word.l0 k1 a0 (wrap64 (x3_1 + 1))) else (some x3_1))) else (some x3_1))) = some r := H
          have A5 := Aside0.mk A50
          clear A50
          by_cases c6 : t101 = true
          · subst c6
            have H1 : (lex_word.l0 k1 a0 (wrap64 (x3_1 + 1))) = some r := by rw [if_pos rfl] at H; exact H
            clear H
            have H := H1
            clear H1
            have H' := Aside0.mk H
            clear H
            have p4 : 0 ≤ (x3_1 : Int) := of_decide_eq_true (by first | (with_reducible assumption) | assumption)
            have q4 : x3_1 < (a0.size : Int) := of_decide_eq_true (by first | (with_reducible assumption) | assumption)
            have hx4 := bt_at a0 x3_1
            replace p4 := eq_true p4
            replace q4 := eq_true q4
            go_wp2_with (first | (go_at_call 39; (with_reducible refine (lex_letter.calls (bt a0 x3_1) true _ A5.out).mono ?_); rintro e w' ⟨rfl, ⟨nd, rfl⟩⟩))
            go_roundg k1
            case measure => have := HK1.out; omega
            case rel => exact ⟨(wrap64 (x3_1 + 1)), (by first | rfl | (simp; done) | (simp [*]; done)), H', ⟨by have := HK1.out; omega⟩, by repeat (first | exact Drawn0.refl _ | apply Drawn0.step)⟩
          · replace c6 := Bool.eq_false_iff.mpr c6
            subst c6
            have H1 : (if x3_1 > 0 then ((lex_digit.f (bt a0 x3_1)).bind fun t102 => (if t102 = true then (lex_word.l0 k1 a0 (wrap64 (x3_1 + 1))) else (some x3_1))) else (some x3_1)) = some r := by rw [if_neg (show ¬ (false = true) by decide)] at H; exact H
            clear H
            have H := H1
            clear H1
            by_cases c7 : x3_1 > 0
            · rw [if_pos c7] at H
              have c7b0 : decide (0 < x3_1) = true := decide_eq_true c7
              clear c7
              replace H := Option.bind_eq_some_iff.mp H
              obtain ⟨t102, A90, H⟩ := H
              replace H : (if t102 = true then (lex_word.l0 k1 a0 (wrap64 (x3_1 + 1))) else (some x3_1)) = some r := H
              have A9 := Aside0.mk A90
              clear A90
              by_cases c10 : t102 = true
              · subst c10
                have H1 : (lex_word.l0 k1 a0 (wrap64 (x3_1 + 1))) = some r := by rw [if_pos rfl] at H; exact H
                clear H
                have H := H1
                clear H1
                have H' := Aside0.mk H
                clear H
                have p4 : 0 ≤ (x3_1 : Int) := of_decide_eq_true (by first | (with_reducible assumption) | assumption)
                have q4 : x3_1 < (a0.size : Int) := of_decide_eq_true (by first | (with_reducible assumption) | assumption)
                have hx4 := bt_at a0 x3_1
                replace p4 := eq_true p4
                replace q4 := eq_true q4
                go_wp2_with (first | (go_at_call 39; (with_reducible refine (lex_letter.calls (bt a0 x3_1) false _ A5.out).mono ?_); rintro e w' ⟨rfl, ⟨nd, rfl⟩⟩; have p8 : 0 ≤ (x3_1 : Int) := of_decide_eq_true (by first | (with_reducible assumption) | assumption); have q8 : x3_1 < (a0.size : Int) := of_decide_eq_true (by first | (with_reducible assumption) | assumption); have hx8 := bt_at a0 x3_1; replace p8 := eq_true p8; replace q8 := eq_true q8) | (go_at_call 33; (with_reducible refine (lex_digit.calls (bt a0 x3_1) true _ A9.out).mono ?_); rintro e w' ⟨rfl, ⟨nd, rfl⟩⟩))
                go_roundg k1
                case measure => have := HK1.out; omega
                case rel => exact ⟨(wrap64 (x3_1 + 1)), (by first | rfl | (simp; done) | (simp [*]; done)), H', ⟨by have := HK1.out; omega⟩, by repeat (first | exact Drawn0.refl _ | apply Drawn0.step)⟩
              · replace c10 := Bool.eq_false_iff.mpr c10
                subst c10
                have H1 : (some x3_1) = some r := by rw [if_neg (show ¬ (false = true) by decide)] at H; exact H
                clear H
                have H := H1
                clear H1
                obtain rfl := Option.some.inj H
                have p4 : 0 ≤ (x3_1 : Int) := of_decide_eq_true (by first | (with_reducible assumption) | assumption)
                have q4 : x3_1 < (a0.size : Int) := of_decide_eq_true (by first | (with_reducible assumption) | assumption)
                have hx4 := bt_at a0 x3_1
                replace p4 := eq_true p4
                replace q4 := eq_true q4
                go_wp2_with (first | (go_at_call 39; (with_reducible refine (lex_letter.calls (bt a0 x3_1) false _ A5.out).mono ?_); rintro e w' ⟨rfl, ⟨nd, rfl⟩⟩; have p8 : 0 ≤ (x3_1 : Int) := of_decide_eq_true (by first | (with_reducible assumption) | assumption); have q8 : x3_1 < (a0.size : Int) := of_decide_eq_true (by first | (with_reducible assumption) | assumption); have hx8 := bt_at a0 x3_1; replace p8 := eq_true p8; replace q8 := eq_true q8) | (go_at_call 33; (with_reducible refine (lex_digit.calls (bt a0 x3_1) false _ A9.out).mono ?_); rintro e w' ⟨rfl, ⟨nd, rfl⟩⟩))
                go_ret
                exact ⟨by first | rfl | (simp; done) | (simp [*]; done), by repeat (first | exact Drawn0.refl _ | apply Drawn0.step)⟩
            · rw [if_neg c7] at H
              have c7b0 : decide (0 < x3_1) = false := decide_eq_false c7
              clear c7
              obtain rfl := Option.some.inj H
              have p4 : 0 ≤ (x3_1 : Int) := of_decide_eq_true (by first | (with_reducible assumption) | assumption)
              have q4 : x3_1 < (a0.size : Int) := of_decide_eq_true (by first | (with_reducible assumption) | assumption)
              have hx4 := bt_at a0 x3_1
              replace p4 := eq_true p4
              replace q4 := eq_true q4
              go_wp2_with (first | (go_at_call 39; (with_reducible refine (lex_letter.calls (bt a0 x3_1) false _ A5.out).mono ?_); rintro e w' ⟨rfl, ⟨nd, rfl⟩⟩))
              go_ret
              exact ⟨by first | rfl | (simp; done) | (simp [*]; done), by repeat (first | exact Drawn0.refl _ | apply Drawn0.step)⟩
        · rw [if_neg c3] at H
          exact absurd H (by simp)
      · rw [if_neg c2] at H
        have c2b0 : decide (x3_1 < (a0.size : Int)) = false := decide_eq_false c2
        clear c2
        obtain rfl := Option.some.inj H
        go_wp2
        go_ret
        exact ⟨by first | rfl | (simp; done) | (simp [*]; done), by repeat (first | exact Drawn0.refl _ | apply Drawn0.step)⟩
end Go.Proofs.YtafndkgoeabehaaDoor.Pword
namespace Go.Proofs.YtafndkgoeabehaaDoor.LexWord
open Go Go.RowKit Go.Proofs.YtafndkgoeabehaaDoor.NumPure Go.Proofs.YtafndkgoeabehaaDoor.NumRead Go.Proofs.YtafndkgoeabehaaDoor.LexPure Go.Proofs.YtafndkgoeabehaaDoor.Pword Go.Proofs.YtafndkgoeabehaaDoorW.PrintWords Go.Proofs.YtafndkgoeabehaaDoorW.PrintLast
theorem bt_of (x : ByteArray) (i : Nat) (c : UInt8) (r : List UInt8) (h : x.data.toList.drop i = c :: r) : bt x (i : Int) = c.toNat ∧ (i : Int) < (x.size : Int) ∧ x.data.toList.drop (i + 1) = r := by
  have hl : i < x.data.toList.length := by
    rcases Nat.lt_or_ge i x.data.toList.length with h1 | h1
    · exact h1
    · rw [List.drop_eq_nil_of_le h1] at h; cases h
  rw [List.drop_eq_getElem_cons hl] at h
  simp only [List.cons.injEq] at h
  have hs : x.size = x.data.toList.length := Lib.size_eq x
  refine ⟨?_, by omega, h.2⟩
  unfold bt
  rw [dif_pos (by simp; omega)]
  rw [← h.1]
  simp
  rfl
theorem letter_is (c : UInt8) : lex_letter.f (c.toNat : Int) = some (letter c) := by
  have e : (c == 95) = decide ((c.toNat : Int) = 95) := by
    by_cases h : c = 95
    · subst h; rfl
    · rw [beq_eq_false_iff_ne.mpr h, decide_eq_false]
      intro x
      exact h (UInt8.toNat_inj.mp (by have e9 : (95 : UInt8).toNat = 95 := rfl; omega))
  unfold lex_letter.f letter
  rw [e]
  have hc := c.toNat_lt
  repeat' split
  all_goals (refine congrArg some (Bool.eq_iff_iff.2 ?_); simp only [Bool.or_eq_true, Bool.and_eq_true, decide_eq_true_eq, true_iff, Bool.false_eq_true, false_iff]; omega)
theorem digit_is (c : UInt8) : lex_digit.f (c.toNat : Int) = some (dig c) := by
  unfold lex_digit.f dig
  split
  all_goals (refine congrArg some (Bool.eq_iff_iff.2 ?_); simp only [decide_eq_true_eq, Bool.false_eq_true, false_iff]; omega)
theorem word_l0 (s : ByteArray) (hs : s.size ≤ 140737488351232) (k : Nat) : ∀ (r : List UInt8) (i : Nat), s.data.toList.drop i = r →
    lex_word.l0 (r.length + 1 + k) s i = some ((i + wd (decide (0 < i)) r : Nat) : Int) := by
  intro r
  have hz : s.size = s.data.toList.length := Lib.size_eq s
  induction r with
  | nil =>
    intro i h
    have hi : s.size ≤ i := by rw [hz]; exact List.drop_eq_nil_iff.1 h
    rw [List.length_nil, Nat.zero_add, Nat.add_comm 1 k, lex_word.l0, if_neg (by omega)]
    simp [wd]
  | cons c r ih =>
    intro i h
    obtain ⟨h1, h2, h3⟩ := bt_of s i c r h
    have hw : wrap64 ((i : Int) + 1) = ((i + 1 : Nat) : Int) := by unfold wrap64; omega
    have ih1 := ih (i + 1) h3
    rw [decide_eq_true (show 0 < i + 1 by omega)] at ih1
    rw [show (c :: r).length + 1 + k = (r.length + 1 + k) + 1 by rw [List.length_cons]; omega, lex_word.l0, if_pos h2, if_pos (by omega), h1, letter_is]
    simp only [Option.bind_some]
    unfold wd inWord
    by_cases hl : letter c = true
    · rw [if_pos hl, hw, ih1, hl]
      simp; omega
    · rw [if_neg hl]
      have hl' : letter c = false := by simpa using hl
      rw [hl', digit_is]
      simp only [Option.bind_some]
      by_cases h0 : 0 < i
      · rw [if_pos (by omega), decide_eq_true h0]
        by_cases hd : dig c = true
        · rw [if_pos hd, hw, ih1, hd]
          simp; omega
        · rw [if_neg hd]
          have hd' : dig c = false := by simpa using hd
          rw [hd']
          simp
      · rw [if_neg (by omega), decide_eq_false h0]
        simp
theorem word_any (s : ByteArray) (hs : s.size ≤ 140737488351232) (w : World) :
    Calls Tryd.prog 25 #[.string s] w fun e w' => e = .returned (.int .i64 (word s.data.toList : Int)) ∧ Drawn0 w w' := by
  have h := word_l0 s hs 0 s.data.toList 0 rfl
  have e : ((0 + wd (decide (0 < 0)) s.data.toList : Nat) : Int) = (word s.data.toList : Int) := by unfold word; simp
  rw [e] at h
  exact lex_word.calls _ s _ w h
theorem drop_data (s : ByteArray) (n : Nat) : (s.extract n s.size).data.toList = s.data.toList.drop n := Lib.extract_to_end s n
/-- more does not hang on its rounds -/
theorem more_rounds : ∀ (f g : Nat) (l : List UInt8), l.length ≤ f → l.length ≤ g → more f l = more g l := by
  intro f
  induction f with
  | zero =>
    intro g l hf hg
    have : l = [] := List.eq_nil_of_length_eq_zero (by omega)
    subst this
    cases g <;> rfl
  | succ f ih =>
    intro g l hf hg
    cases l with
    | nil => cases g <;> rfl
    | cons c r =>
      cases g with
      | zero => simp at hg
      | succ g =>
        simp only [more]
        have h1 : (r.drop (word r)).length ≤ r.length := by rw [List.length_drop]; omega
        simp only [List.length_cons] at hf hg
        rw [ih g _ (by omega) (by omega)]
/-- what is left of a name behind n bytes -/
theorem name_step (l : List UInt8) (n : Nat) :
    more (l.drop n).length (l.drop n) = match l.drop n with | [] => 0 | c :: r => if c = 46 ∧ 0 < word r then 1 + word r + more (l.drop (n + (1 + word r))).length (l.drop (n + (1 + word r))) else 0 := by
  cases h : l.drop n with
  | nil => rfl
  | cons c r =>
    have hr : l.drop (n + 1) = r := by rw [← List.drop_drop, h]; rfl
    have hd : l.drop (n + (1 + word r)) = r.drop (word r) := by rw [← Nat.add_assoc, ← List.drop_drop, hr]
    show more (r.length + 1) (c :: r) = _
    simp only [more]
    split
    · rw [hd, more_rounds r.length (r.drop (word r)).length (r.drop (word r)) (by rw [List.length_drop]; omega) (Nat.le_refl _)]
    · rfl
def Fr (s : ByteArray) (n : Nat) (a : Act) : Prop :=
  ∃ (u1 u4 u5 u6 u7 u8 u9 u10 u11 u12 u13 u14 u15 u16 u17 u18 u19 u20 u21 u22 u23 u24 u25 u26 u27 u28 u29 u30 : Value), a = { tmps := #[.string s, u1, .int .i64 0, .int .i64 (n : Int), u4, u5, u6, u7, u8, u9, u10, u11, u12, u13, u14, u15, u16, u17, u18, u19, u20, u21, u22, u23, u24, u25, u26, u27, u28, u29, u30], defers := [] }
set_option maxRecDepth 100000 in
set_option maxHeartbeats 1000000 in
theorem name_any (s : ByteArray) (hs : s.size ≤ 140737488351232) (w : World) :
    Calls Tryd.prog 27 #[.string s] w fun e w' => e = .returned (.int .i64 (name s.data.toList : Int)) ∧ Drawn0 w w' := by
  have hz : s.size = s.data.toList.length := Lib.size_eq s
  have hwl := word_le s.data.toList
  have HW := Lib.hid (word_any s hs)
  by_cases h0 : word s.data.toList = 0
  · have hn : name s.data.toList = 0 := by unfold name; rw [if_pos h0]
    have HN := Lib.hid hn
    rw [h0] at HW
    clear hn h0 hs hz hwl
    go_enter Tryd.func27, Tryd.ntmps27
    go_wp2
    go_step3
    go_wp2_with (go_at_call 25; (with_reducible refine (HW.out _).mono ?_); rintro e w' ⟨rfl, ⟨nd, rfl⟩⟩)
    rw [Exit.noGoto_ret]
    go_ret
    exact ⟨by rw [HN.out]; rfl, Drawn0.step (Drawn0.refl _) _⟩
  · have h1 : ((word s.data.toList : Int) == 0) = false := beq_eq_false_iff_ne.mpr (by omega)
    have hname : word s.data.toList + more (s.data.toList.drop (word s.data.toList)).length (s.data.toList.drop (word s.data.toList)) = name s.data.toList := by
      unfold name
      rw [if_neg h0, more_rounds _ s.data.toList.length _ (Nat.le_refl _) (by rw [List.length_drop]; omega)]
    have HN := Lib.hid hname
    have HZ := Lib.hid hz
    have HS := Lib.hid hs
    have HL := Lib.hid hwl
    have HP := Lib.hid h0
    clear hname hz hs hwl h0
    go_enter Tryd.func27, Tryd.ntmps27
    go_wp2
    refine wp_scope_jumps 0 (fun a' w' => Drawn0 w w' ∧ ∃ n : Nat, n ≤ s.size ∧ Fr s n a' ∧ n + more (s.data.toList.drop n).length (s.data.toList.drop n) = name s.data.toList) (fun a' _ => s.size - (intOf (a'.tmps.getD 3 undef)).toNat) rfl ?_ ?_
    · go_wp2_with (go_at_call 25; (with_reducible refine (HW.out _).mono ?_); rintro e w' ⟨rfl, ⟨nd, rfl⟩⟩)
      go_step3
      obtain ⟨n, hwn⟩ : ∃ n, word s.data.toList = n := ⟨_, rfl⟩
      have hm : n + more (s.data.toList.drop n).length (s.data.toList.drop n) = name s.data.toList := by rw [← hwn]; exact HN.out
      have hn : n ≤ s.size := by rw [HZ.out, ← hwn]; exact HL.out
      rw [hwn]
      clear h1 HN HL HP HW hwn
      have hstep := name_step s.data.toList n
      cases hdr : s.data.toList.drop n with
      | nil =>
        rw [hdr] at hstep hm
        have hm' : n = name s.data.toList := by rw [← hm]; simp [more]
        have hge : s.size ≤ n := by rw [HZ.out]; exact List.drop_eq_nil_iff.1 hdr
        have hlt : decide (n < s.size) = false := decide_eq_false (by omega)
        have HM := Lib.hid hm'
        clear hm' hm hstep hge hdr
        go_wp2
        (try simp only [Exit.jump])
        go_ret
        exact ⟨by rw [← HM.out]; rfl, by repeat (first | exact Drawn0.refl _ | apply Drawn0.step)⟩
      | cons c r =>
        obtain ⟨b1, b2, b3⟩ := bt_of s n c r hdr
        have hlt : decide (n < s.size) = true := decide_eq_true (by omega)
        have hx : ∀ h : n < s.size, ((s[n]'h).toNat : Int) = bt s n := bt_at s n
        have hnb : (n : Int) + 1 ≤ 140737488351232 := by have := HS.out; omega
        have hwr := word_any (s.extract (n + 1) s.size) (by rw [Lib.size_eq, drop_data, List.length_drop, ← HZ.out]; have := HS.out; omega)
        rw [drop_data, b3] at hwr
        have hrl : r.length = s.size - (n + 1) := by rw [← b3, List.length_drop, ← HZ.out]
        have hwl := word_le r
        rw [hdr] at hstep
        have hstep : more (c :: r).length (c :: r) = if c = 46 ∧ 0 < word r then 1 + word r + more (s.data.toList.drop (n + (1 + word r))).length (s.data.toList.drop (n + (1 + word r))) else 0 := hstep
        by_cases hc : c = 46
        · have hc' : (bt s n == 46) = true := by rw [b1, hc]; rfl
          by_cases hp : 0 < word r
          · have hp' : decide (0 < word r) = true := decide_eq_true hp
            have HWR := Lib.hid hwr
            have hnew : (n + (1 + word r)) + more (s.data.toList.drop (n + (1 + word r))).length (s.data.toList.drop (n + (1 + word r))) = name s.data.toList := by
              rw [if_pos ⟨hc, hp⟩] at hstep
              rw [hdr, hstep] at hm
              omega
            have HNEW := Lib.hid hnew
            have HRL := Lib.hid hrl
            have HWL := Lib.hid hwl
            have hwb : (word r : Int) ≤ 140737488351232 := by have := HS.out; omega
            have hsum : (n : Int) + (1 + (word r : Int)) ≤ 140737488351232 := by have := HS.out; omega
            clear hnew hm hstep hdr b1 b3 hwr hrl hwl hc hp
            go_wp2_with (go_at_call 25; (with_reducible refine (HWR.out _).mono ?_); rintro e w' ⟨rfl, ⟨nd2, rfl⟩⟩)
            go_step3
            exact ⟨rfl, by repeat (first | exact Drawn0.refl _ | apply Drawn0.step), n + (1 + word r), (by have := HRL.out; have := HWL.out; omega), ⟨_, _, _, _, _, _, _, _, _, _, _, _, _, _, _, _, _, _, _, _, _, _, _, _, _, _, _, _, by push_cast; rfl⟩, HNEW.out⟩
          · have hp' : decide (0 < word r) = false := decide_eq_false hp
            have HWR := Lib.hid hwr
            have hm' : n = name s.data.toList := by
              rw [if_neg (fun x => hp x.2)] at hstep
              rw [hdr, hstep] at hm
              omega
            have HM := Lib.hid hm'
            clear hm' hm hstep hdr b1 b3 hwr hrl hwl hc hp
            go_wp2_with (go_at_call 25; (with_reducible refine (HWR.out _).mono ?_); rintro e w' ⟨rfl, ⟨nd2, rfl⟩⟩)
            (try simp only [Exit.jump])
            go_ret
            exact ⟨by rw [← HM.out]; rfl, by repeat (first | exact Drawn0.refl _ | apply Drawn0.step)⟩
        · have hc' : (bt s n == 46) = false := by rw [b1]; exact beq_eq_false_iff_ne.mpr (fun x => hc (UInt8.toNat_inj.mp (by have e : (46 : UInt8).toNat = 46 := rfl; omega)))
          have hm' : n = name s.data.toList := by
            rw [if_neg (fun x => hc x.1)] at hstep
            rw [hdr, hstep] at hm
            omega
          have HM := Lib.hid hm'
          clear hm' hm hstep hdr b1 b3 hwr hrl hwl hc
          go_wp2
          (try simp only [Exit.jump])
          go_ret
          exact ⟨by rw [← HM.out]; rfl, by repeat (first | exact Drawn0.refl _ | apply Drawn0.step)⟩
    · rintro a' w' ⟨hd, n, hn, ⟨u1, u4, u5, u6, u7, u8, u9, u10, u11, u12, u13, u14, u15, u16, u17, u18, u19, u20, u21, u22, u23, u24, u25, u26, u27, u28, u29, u30, rfl⟩, hm⟩
      have hstep := name_step s.data.toList n
      cases hdr : s.data.toList.drop n with
      | nil =>
        rw [hdr] at hstep hm
        have hm' : n = name s.data.toList := by rw [← hm]; simp [more]
        have hge : s.size ≤ n := by rw [HZ.out]; exact List.drop_eq_nil_iff.1 hdr
        have hlt : decide (n < s.size) = false := decide_eq_false (by omega)
        have HM := Lib.hid hm'
        clear hm' hm hstep hge hdr
        go_wp2
        (try simp only [Exit.jump])
        go_ret
        exact ⟨by rw [← HM.out]; rfl, by repeat (first | exact hd | apply Drawn0.step)⟩
      | cons c r =>
        obtain ⟨b1, b2, b3⟩ := bt_of s n c r hdr
        have hlt : decide (n < s.size) = true := decide_eq_true (by omega)
        have hx : ∀ h : n < s.size, ((s[n]'h).toNat : Int) = bt s n := bt_at s n
        have hnb : (n : Int) + 1 ≤ 140737488351232 := by have := HS.out; omega
        have hwr := word_any (s.extract (n + 1) s.size) (by rw [Lib.size_eq, drop_data, List.length_drop, ← HZ.out]; have := HS.out; omega)
        rw [drop_data, b3] at hwr
        have hrl : r.length = s.size - (n + 1) := by rw [← b3, List.length_drop, ← HZ.out]
        have hwl := word_le r
        rw [hdr] at hstep
        have hstep : more (c :: r).length (c :: r) = if c = 46 ∧ 0 < word r then 1 + word r + more (s.data.toList.drop (n + (1 + word r))).length (s.data.toList.drop (n + (1 + word r))) else 0 := hstep
        by_cases hc : c = 46
        · have hc' : (bt s n == 46) = true := by rw [b1, hc]; rfl
          by_cases hp : 0 < word r
          · have hp' : decide (0 < word r) = true := decide_eq_true hp
            have HWR := Lib.hid hwr
            have hnew : (n + (1 + word r)) + more (s.data.toList.drop (n + (1 + word r))).length (s.data.toList.drop (n + (1 + word r))) = name s.data.toList := by
              rw [if_pos ⟨hc, hp⟩] at hstep
              rw [hdr, hstep] at hm
              omega
            have HNEW := Lib.hid hnew
            have HRL := Lib.hid hrl
            have HWL := Lib.hid hwl
            have hwb : (word r : Int) ≤ 140737488351232 := by have := HS.out; omega
            have hsum : (n : Int) + (1 + (word r : Int)) ≤ 140737488351232 := by have := HS.out; omega
            clear hnew hm hstep hdr b1 b3 hwr hrl hwl hc hp
            go_wp2_with (go_at_call 25; (with_reducible refine (HWR.out _).mono ?_); rintro e w' ⟨rfl, ⟨nd2, rfl⟩⟩)
            go_step3
            exact ⟨rfl, ⟨by repeat (first | exact hd | apply Drawn0.step), n + (1 + word r), (by have := HRL.out; have := HWL.out; omega), ⟨_, _, _, _, _, _, _, _, _, _, _, _, _, _, _, _, _, _, _, _, _, _, _, _, _, _, _, _, by push_cast; rfl⟩, HNEW.out⟩, by have := HRL.out; have := HWL.out; simp [intOf]; omega⟩
          · have hp' : decide (0 < word r) = false := decide_eq_false hp
            have HWR := Lib.hid hwr
            have hm' : n = name s.data.toList := by
              rw [if_neg (fun x => hp x.2)] at hstep
              rw [hdr, hstep] at hm
              omega
            have HM := Lib.hid hm'
            clear hm' hm hstep hdr b1 b3 hwr hrl hwl hc hp
            go_wp2_with (go_at_call 25; (with_reducible refine (HWR.out _).mono ?_); rintro e w' ⟨rfl, ⟨nd2, rfl⟩⟩)
            (try simp only [Exit.jump])
            go_ret
            exact ⟨by rw [← HM.out]; rfl, by repeat (first | exact hd | apply Drawn0.step)⟩
        · have hc' : (bt s n == 46) = false := by rw [b1]; exact beq_eq_false_iff_ne.mpr (fun x => hc (UInt8.toNat_inj.mp (by have e : (46 : UInt8).toNat = 46 := rfl; omega)))
          have hm' : n = name s.data.toList := by
            rw [if_neg (fun x => hc x.1)] at hstep
            rw [hdr, hstep] at hm
            omega
          have HM := Lib.hid hm'
          clear hm' hm hstep hdr b1 b3 hwr hrl hwl hc
          go_wp2
          (try simp only [Exit.jump])
          go_ret
          exact ⟨by rw [← HM.out]; rfl, by repeat (first | exact hd | apply Drawn0.step)⟩
end Go.Proofs.YtafndkgoeabehaaDoor.LexWord
namespace Go.Proofs.YtafndkgoeabehaaDoor.LexGaps
open Go Go.RowKit Go.Proofs.YtafndkgoeabehaaDoor.LexPure Go.Proofs.YtafndkgoeabehaaDoor.LexGap Go.Proofs.YtafndkgoeabehaaDoor.LexMem Go.Proofs.YtafndkgoeabehaaDoor.LexWord Go.Proofs.YtafndkgoeabehaaDoorW.PrintWords
def MaxVar (w : World) : Prop := ∃ m, w.cell? ⟨0, 0, none⟩ = some (.int .i64 m)
theorem max_below {B : Nat} {w w' : World} (h : Below B w w') (hB : 0 < B) (t : MaxVar w) : MaxVar w' := by
  obtain ⟨m, hm⟩ := t
  exact ⟨m, (h.cell (p := ⟨0, 0, none⟩) hB).trans hm⟩
def Fr (b : Nat) (a : Act) : Prop :=
  ∃ (u1 u3 u4 u5 u6 u7 u8 u9 u10 u11 u12 u13 u14 u15 u16 u17 u18 u19 u20 u21 u22 u23 u24 u25 u26 u27 u28 u29 u30 u31 u32 u33 u34 u35 u36 u37 u38 u39 u40 u41 u42 u43 u44 u45 u46 u47 u48 u49 u50 u51 u52 u53 u54 u55 u56 u57 u58 u59 u60 u61 u62 u63 u64 u65 u66 u67 u68 u69 : Value), a = { tmps := #[.pointer (some ⟨b, 0, none⟩), u1, .bool false, u3, u4, u5, u6, u7, u8, u9, u10, u11, u12, u13, u14, u15, u16, u17, u18, u19, u20, u21, u22, u23, u24, u25, u26, u27, u28, u29, u30, u31, u32, u33, u34, u35, u36, u37, u38, u39, u40, u41, u42, u43, u44, u45, u46, u47, u48, u49, u50, u51, u52, u53, u54, u55, u56, u57, u58, u59, u60, u61, u62, u63, u64, u65, u66, u67, u68, u69], defers := [] }
/-- what the reader is behind its gaps -/
def After (w' : World) (B b : Nat) (s : ByteArray) (q : Nat) (l : List Tk) (why fat : Int) (g : Nat × Bool) : Prop :=
  (g.2 = true → RS w' B b s ((q + g.1 : Nat) : Int) l why fat) ∧ (g.2 = false → RS w' B b s ((q + g.1 : Nat) : Int) l 7 ((q + g.1 : Nat) : Int))
section
variable {w : World} {B b : Nat} {s : ByteArray} {p q n : Nat} {l : List Tk} {why fat : Int} {L M : List UInt8} {nq : Nat}
theorem done_ok (h : RS w B b s (p : Int) l why fat) (hG : G L = (p - q + (G M).1, (G M).2)) (hN : G M = (0, true)) (hp : q ≤ p) : After (w.drewN nq) B b s q l why fat (G L) := by
  rw [hG, hN]
  have e : q + (p - q + 0) = p := by omega
  exact ⟨fun _ => (by rw [e]; exact h.drewN nq), fun x => (by cases x)⟩
theorem done_bad (h : RS w B b s (p : Int) l 7 (p : Int)) (hG : G L = (p - q + (G M).1, (G M).2)) (hN : G M = (0, false)) (hp : q ≤ p) : After w B b s q l why fat (G L) := by
  rw [hG, hN]
  have e : q + (p - q + 0) = p := by omega
  exact ⟨fun x => (by cases x), fun _ => (by rw [e]; exact h)⟩
theorem jump_G {K : List UInt8} (hG : G L = (p - q + (G (K.drop p)).1, (G (K.drop p)).2)) (hN : G (K.drop p) = (n + (G ((K.drop p).drop n)).1, (G ((K.drop p).drop n)).2)) (hp : q ≤ p) : G L = (p + n - q + (G (K.drop (p + n))).1, (G (K.drop (p + n))).2) := by
  rw [List.drop_drop] at hN
  rw [hG, hN]
  simp only [Prod.mk.injEq, and_true]
  omega
theorem RS_at {v : Value} {x : Int} (h0 : B ≤ b) (hb : Blk w b 38 #[.string s, .int .i64 (p : Int), v, .int .i64 why, .int .i64 fat]) (ho : w.ownsRow B 30 4 v l.length (cellsOf l)) (hx : ((p + n : Nat) : Int) = x) :
    RS ((w.drewN nq).setCell ⟨b, 1, none⟩ (.int .i64 x)) B b s ((p + n : Nat) : Int) l why fat := by
  rw [hx]
  exact RS.set_ 1 _ h0 (hb.drewN nq) ho rfl
def mu (s : ByteArray) (b : Nat) (w : World) : Nat := s.size - (match w.cell? ⟨b, 1, none⟩ with | some v => (intOf v).toNat | none => 0)
theorem mu_RS (h : RS w B b s (p : Int) l why fat) : mu s b w = s.size - p := by
  obtain ⟨_, v, hb, _⟩ := h
  have := hb.cell 1
  simp at this
  unfold mu
  rw [this]
  simp [intOf]
theorem mu_lt {w' : World} (h : RS w B b s (p : Int) l why fat) (h' : RS w' B b s ((p + n : Nat) : Int) l why fat) (hle : p + n ≤ s.size) (hn : 0 < n) : mu s b w' < mu s b w := by
  rw [mu_RS h, mu_RS h']
  omega
end
set_option maxRecDepth 100000 in
set_option maxHeartbeats 4000000 in
theorem gaps_any (w : World) (B b : Nat) (s : ByteArray) (q : Nat) (l : List Tk) (why fat : Int) (h : RS w B b s (q : Int) l why fat) (hq : q ≤ s.size) (hs : s.size ≤ 65536) (hB : 0 < B) (hm : MaxVar w) :
    Calls Tryd.prog 16 #[.pointer (some ⟨b, 0, none⟩)] w fun e w' => e = .returned (.bool (G (s.data.toList.drop q)).2) ∧ Below B w w' ∧ After w' B b s q l why fat (G (s.data.toList.drop q)) := by
  have hz : s.size = s.data.toList.length := Lib.size_eq s
  have HZ := Lib.hid hz
  have HS := Lib.hid hs
  have HB := Lib.hid hB
  have HM := Lib.hid hm
  have HR := Lib.hid h
  have HQ := Lib.hid hq
  clear hz hs hB hm h hq
  go_enter Tryd.func16, Tryd.ntmps16
  go_wp2
  refine wp_scope_jumps 0 (fun a' w' => Below B w w' ∧ Fr b a' ∧ ∃ p : Nat, q ≤ p ∧ p ≤ s.size ∧ RS w' B b s (p : Int) l why fat ∧ G (s.data.toList.drop q) = (p - q + (G (s.data.toList.drop p)).1, (G (s.data.toList.drop p)).2)) (fun _ w' => mu s b w') rfl ?_ ?_
  · have bel : Below B w w := Below.refl _ _
    have hR := HR.out
    obtain ⟨p, hpq⟩ : ∃ p, q = p := ⟨_, rfl⟩
    have hp1 : q ≤ p := by omega
    have hp2 : p ≤ s.size := by have := HQ.out; omega
    have hG : G (s.data.toList.drop q) = (p - q + (G (s.data.toList.drop p)).1, (G (s.data.toList.drop p)).2) := by rw [hpq]; simp
    rw [hpq] at hR
    clear HR HQ hpq
    go_wp2
    go_step3
    obtain ⟨h0, v, hb, ho⟩ := id hR
    have c0 := hb.cell 0
    have c1 := hb.cell 1
    have f1 := hb.frozen 1
    have HRp := Lib.hid hR
    have HBL := Lib.hid bel
    have HG := Lib.hid hG
    have HBk := Lib.hid hb
    have HOw := Lib.hid ho
    obtain ⟨m, hm⟩ := max_below bel HB.out HM.out
    simp at c0 c1
    clear hR bel hG hb ho
    obtain ⟨t, ht⟩ : ∃ t, s.extract p s.size = t := ⟨_, rfl⟩
    have htl : t.data.toList = s.data.toList.drop p := by rw [← ht]; exact drop_data s p
    have htz : t.size = s.size - p := by rw [Lib.size_eq, htl, List.length_drop, ← HZ.out]
    have hs16 := HS.out
    have htb : t.size ≤ 65536 := by omega
    have HTL := Lib.hid htl
    have HTZ := Lib.hid htz
    cases hl : s.data.toList.drop p with
    | nil =>
      have e1 : t.toList.isEmpty = true := by rw [Lib.toList_data, htl, hl]; rfl
      have HN := Lib.hid (G_none (l := s.data.toList.drop p) (by rw [hl]; rfl))
      clear htz htl hl
      go_wp2
      go_quiet (fail)
      go_wp2
      (try simp only [Exit.jump])
      go_ret
      exact ⟨by rw [HG.out, HN.out]; rfl, pw_below_drewN HBL.out _, done_ok HRp.out HG.out HN.out hp1⟩
    | cons c r =>
      rw [hl] at htl
      have hg1 := gap1_cons c r
      have e1 : t.toList.isEmpty = false := by rw [Lib.toList_data, htl]; rfl
      have hb0 := (bt_of t 0 c r (by rw [htl]; rfl)).1
      have hx : ∀ h : 0 < t.size, ((t[0]'h).toNat : Int) = bt t 0 := bt_at t 0
      have hz0 : 0 < t.size := by rw [Lib.size_eq, htl]; simp
      have hI : ∀ w, Calls Tryd.prog 28 #[.string ⟨#[32, 9, 10, 13]⟩, .int .u8 (bt t 0)] w fun e w' => e = .returned (.int .i64 (Lib.indexByte [32, 9, 10, 13] c)) ∧ w' = w := fun w => by
        have := Tryd.strings_IndexByte ⟨#[32, 9, 10, 13]⟩ (bt t 0) w
        have hc : (bt t 0).toNat.toUInt8 = c := by have h : bt t 0 = c.toNat := hb0; rw [h, Int.toNat_natCast]; exact UInt8.ofNat_toNat
        rw [hc] at this
        exact this
      obtain ⟨I, hIv⟩ : ∃ I, Lib.indexByte [32, 9, 10, 13] c = I := ⟨_, rfl⟩
      have hbl := blank_index c
      rw [hIv] at hI hbl
      have HI := Lib.hid hI
      clear hI hIv
      by_cases hbk : LexPure.blank c = true
      · rw [hbk] at hbl
        have HN := Lib.hid (G_some (l := s.data.toList.drop p) (n := 1) (by rw [hl, hg1, if_pos hbk]; rfl) (by decide))
        have HLE := Lib.hid (show p + 1 ≤ s.size by omega)
        clear htz htl hl hg1 hb0 hbk
        go_wp2
        go_quiet (fail)
        go_wp2_with (first
      | (go_at_call 28; (with_reducible refine (HI.out _).mono ?_); rintro e w2 ⟨rfl, rfl⟩)
      | (go_at_call 28; (with_reducible refine (HI2.out _).mono ?_); rintro e w2 ⟨rfl, rfl⟩)
      | (go_at_call 29; (with_reducible refine (HP1.out _).mono ?_); rintro e w2 ⟨rfl, rfl⟩)
      | (go_at_call 29; (with_reducible refine (HP2.out _).mono ?_); rintro e w2 ⟨rfl, rfl⟩)
      | (go_at_call 30; (with_reducible refine (HI3.out _).mono ?_); rintro e w2 ⟨rfl, rfl⟩)
      | (go_at_call 31; refine (fail_any _ B b s (p : Int) l why fat 7 (p : Int) (HRp.out.drewN _)).mono ?_; rintro e w3 ⟨rfl, hr3, hb3⟩))
        go_step3
        exact ⟨rfl, ⟨(pw_below_drewN HBL.out _).setCell (p := ⟨b, 1, none⟩) h0 _, ⟨_, _, _, _, _, _, _, _, _, _, _, _, _, _, _, _, _, _, _, _, _, _, _, _, _, _, _, _, _, _, _, _, _, _, _, _, _, _, _, _, _, _, _, _, _, _, _, _, _, _, _, _, _, _, _, _, _, _, _, _, _, _, _, _, _, _, _, _, rfl⟩, p + 1, by omega, (by have := HLE.out; have := HTZ.out; omega), RS_at (n := 1) h0 HBk.out HOw.out (by push_cast; rfl), jump_G HG.out HN.out hp1⟩⟩
      · have hbf : LexPure.blank c = false := by simpa using hbk
        rw [hbf] at hbl
        rw [if_neg hbk] at hg1
        have hP1 : ∀ w, Calls Tryd.prog 29 #[.string t, .string ⟨#[47, 47]⟩] w fun e w' => e = .returned (.bool ([47, 47].isPrefixOf (c :: r))) ∧ w' = w := fun w => by
          have := Tryd.strings_HasPrefix t ⟨#[47, 47]⟩ w
          rw [htl] at this
          exact this
        by_cases hp47 : [47, 47].isPrefixOf (c :: r) = true
        · rw [hp47] at hP1
          rw [if_pos hp47] at hg1
          have HP1 := Lib.hid hP1
          have hI2 : ∀ w, Calls Tryd.prog 28 #[.string t, .int .u8 10] w fun e w' => e = .returned (.int .i64 (Lib.indexByte (c :: r) 10)) ∧ w' = w := fun w => by
            have := Tryd.strings_IndexByte t 10 w
            rw [htl] at this
            exact this
          have he := eol_index (c :: r)
          have hel := eol_le (c :: r)
          have hpos : 0 < eol (c :: r) := by
            have : c = 47 := by
              have := List.isPrefixOf_iff_prefix.1 hp47
              obtain ⟨u, hu⟩ := this
              simp at hu
              exact hu.1.symm
            subst this
            unfold eol
            rw [if_neg (by decide)]
            omega
          have htz2 : (c :: r).length = t.size := by rw [Lib.size_eq, htl]
          obtain ⟨n, hn⟩ : ∃ n, eol (c :: r) = n := ⟨_, rfl⟩
          rw [hn] at he hel hpos hg1
          have HN := Lib.hid (G_some (l := s.data.toList.drop p) (n := n) (by rw [hl]; exact hg1) hpos)
          have HLE := Lib.hid (show p + n ≤ s.size by omega)
          obtain ⟨I2, hI2v⟩ : ∃ I, Lib.indexByte (c :: r) 10 = I := ⟨_, rfl⟩
          rw [hI2v] at hI2 he
          have HI2 := Lib.hid hI2
          by_cases hlt : I2 < 0
          · have hn2 : n = t.size := by rw [← htz2]; exact he.1 hlt
            subst hn2
            have hltb : decide (I2 < 0) = true := decide_eq_true hlt
            clear hI2 he hel hpos hg1 htz htl hl hb0 hbk hp47 hP1 htz2 hn hI2v
            go_wp2
            go_quiet (fail)
            go_wp2_with (first
      | (go_at_call 28; (with_reducible refine (HI.out _).mono ?_); rintro e w2 ⟨rfl, rfl⟩)
      | (go_at_call 28; (with_reducible refine (HI2.out _).mono ?_); rintro e w2 ⟨rfl, rfl⟩)
      | (go_at_call 29; (with_reducible refine (HP1.out _).mono ?_); rintro e w2 ⟨rfl, rfl⟩)
      | (go_at_call 29; (with_reducible refine (HP2.out _).mono ?_); rintro e w2 ⟨rfl, rfl⟩)
      | (go_at_call 30; (with_reducible refine (HI3.out _).mono ?_); rintro e w2 ⟨rfl, rfl⟩)
      | (go_at_call 31; refine (fail_any _ B b s (p : Int) l why fat 7 (p : Int) (HRp.out.drewN _)).mono ?_; rintro e w3 ⟨rfl, hr3, hb3⟩))
            go_step3
            exact ⟨rfl, ⟨(pw_below_drewN HBL.out _).setCell (p := ⟨b, 1, none⟩) h0 _, ⟨_, _, _, _, _, _, _, _, _, _, _, _, _, _, _, _, _, _, _, _, _, _, _, _, _, _, _, _, _, _, _, _, _, _, _, _, _, _, _, _, _, _, _, _, _, _, _, _, _, _, _, _, _, _, _, _, _, _, _, _, _, _, _, _, _, _, _, _, rfl⟩, p + t.size, by omega, (by have := HLE.out; have := HTZ.out; omega), RS_at (n := t.size) h0 HBk.out HOw.out (by push_cast; rfl), jump_G HG.out HN.out hp1⟩⟩
          · have hn2 : I2 = (n : Int) := he.2 hlt
            subst hn2
            have hltb : decide ((n : Int) < 0) = false := decide_eq_false hlt
            have hn65 : (n : Int) ≤ 65536 := by omega
            clear hI2 he hel hg1 htz htl hl hb0 hbk hp47 hP1 htz2 hn hI2v
            go_wp2
            go_quiet (fail)
            go_wp2_with (first
      | (go_at_call 28; (with_reducible refine (HI.out _).mono ?_); rintro e w2 ⟨rfl, rfl⟩)
      | (go_at_call 28; (with_reducible refine (HI2.out _).mono ?_); rintro e w2 ⟨rfl, rfl⟩)
      | (go_at_call 29; (with_reducible refine (HP1.out _).mono ?_); rintro e w2 ⟨rfl, rfl⟩)
      | (go_at_call 29; (with_reducible refine (HP2.out _).mono ?_); rintro e w2 ⟨rfl, rfl⟩)
      | (go_at_call 30; (with_reducible refine (HI3.out _).mono ?_); rintro e w2 ⟨rfl, rfl⟩)
      | (go_at_call 31; refine (fail_any _ B b s (p : Int) l why fat 7 (p : Int) (HRp.out.drewN _)).mono ?_; rintro e w3 ⟨rfl, hr3, hb3⟩))
            go_step3
            exact ⟨rfl, ⟨(pw_below_drewN HBL.out _).setCell (p := ⟨b, 1, none⟩) h0 _, ⟨_, _, _, _, _, _, _, _, _, _, _, _, _, _, _, _, _, _, _, _, _, _, _, _, _, _, _, _, _, _, _, _, _, _, _, _, _, _, _, _, _, _, _, _, _, _, _, _, _, _, _, _, _, _, _, _, _, _, _, _, _, _, _, _, _, _, _, _, rfl⟩, p + n, by omega, (by have := HLE.out; have := HTZ.out; omega), RS_at (n := n) h0 HBk.out HOw.out (by push_cast; rfl), jump_G HG.out HN.out hp1⟩⟩
        · have hp47f : [47, 47].isPrefixOf (c :: r) = false := Bool.eq_false_iff.2 hp47
          rw [hp47f] at hP1
          rw [if_neg hp47] at hg1
          have HP1 := Lib.hid hP1
          have hP2 : ∀ w, Calls Tryd.prog 29 #[.string t, .string ⟨#[47, 42]⟩] w fun e w' => e = .returned (.bool ([47, 42].isPrefixOf (c :: r))) ∧ w' = w := fun w => by
            have := Tryd.strings_HasPrefix t ⟨#[47, 42]⟩ w
            rw [htl] at this
            exact this
          by_cases hp42 : [47, 42].isPrefixOf (c :: r) = true
          · rw [hp42] at hP2
            rw [if_pos hp42] at hg1
            have HP2 := Lib.hid hP2
            have hlen : 2 ≤ t.size := by
              have h5 := List.IsPrefix.length_le (List.isPrefixOf_iff_prefix.1 hp42)
              rw [Lib.size_eq, htl]; exact h5
            have hd2 : (t.extract 2 t.size).data.toList = r.drop 1 := by rw [drop_data, htl]; rfl
            have hI3 : ∀ n, Calls Tryd.prog 30 #[.string (t.extract 2 t.size), .string ⟨#[42, 47]⟩] (w.drewN n) fun e w2 => e = .returned (.int .i64 (Lib.index (r.drop 1) [42, 47])) ∧ w2 = w.drewN n := fun n => by
              have := Tryd.strings_Index (t.extract 2 t.size) ⟨#[42, 47]⟩ m (w.drewN n) (by rw [Lib.size_eq, drop_data, List.length_drop, ← Lib.size_eq]; omega) hm
              rw [hd2] at this
              exact this
            have hci := close_index (r.drop 1)
            obtain ⟨I3, hI3v⟩ : ∃ I, Lib.index (r.drop 1) [42, 47] = I := ⟨_, rfl⟩
            rw [hI3v] at hI3 hci
            have HI3 := Lib.hid hI3
            by_cases hlt : I3 < 0
            · have hltb : decide (I3 < 0) = true := decide_eq_true hlt
              have HN := Lib.hid (G_open (l := s.data.toList.drop p) (by rw [hl, hg1, hci.1 hlt]; decide))
              clear hI3 hci hg1 htz htl hl hb0 hbk hp47 hp42 hP1 hP2 hd2 hlt hI3v
              go_wp2
              go_quiet (fail)
              go_wp2_with (first
      | (go_at_call 28; (with_reducible refine (HI.out _).mono ?_); rintro e w2 ⟨rfl, rfl⟩)
      | (go_at_call 28; (with_reducible refine (HI2.out _).mono ?_); rintro e w2 ⟨rfl, rfl⟩)
      | (go_at_call 29; (with_reducible refine (HP1.out _).mono ?_); rintro e w2 ⟨rfl, rfl⟩)
      | (go_at_call 29; (with_reducible refine (HP2.out _).mono ?_); rintro e w2 ⟨rfl, rfl⟩)
      | (go_at_call 30; (with_reducible refine (HI3.out _).mono ?_); rintro e w2 ⟨rfl, rfl⟩)
      | (go_at_call 31; refine (fail_any _ B b s (p : Int) l why fat 7 (p : Int) (HRp.out.drewN _)).mono ?_; rintro e w3 ⟨rfl, hr3, hb3⟩))
              (try simp only [Exit.jump])
              go_ret
              exact ⟨by rw [HG.out, HN.out]; rfl, (pw_below_drewN HBL.out _).trans hb3, done_bad hr3 HG.out HN.out hp1⟩
            · obtain ⟨n, hn1, hn2⟩ := hci.2 hlt
              subst hn1
              have hcl := close_le _ _ hn2
              have hlr : (r.drop 1).length + 2 = t.size := by rw [List.length_drop, Lib.size_eq, htl]; have := hlen; rw [Lib.size_eq, htl] at this; simp at this ⊢; omega
              have hltb : decide ((n : Int) < 0) = false := decide_eq_false hlt
              have hn65 : (n : Int) ≤ 65536 := by omega
              have HN := Lib.hid (G_some (l := s.data.toList.drop p) (n := n + 4) (by rw [hl, hg1, hn2]) (by omega))
              have HLE := Lib.hid (show p + (n + 4) ≤ s.size by omega)
              clear hI3 hci hg1 htz htl hl hb0 hbk hp47 hp42 hP1 hP2 hd2 hlt hI3v hn2 hcl hlr
              go_wp2
              go_quiet (fail)
              go_wp2_with (first
      | (go_at_call 28; (with_reducible refine (HI.out _).mono ?_); rintro e w2 ⟨rfl, rfl⟩)
      | (go_at_call 28; (with_reducible refine (HI2.out _).mono ?_); rintro e w2 ⟨rfl, rfl⟩)
      | (go_at_call 29; (with_reducible refine (HP1.out _).mono ?_); rintro e w2 ⟨rfl, rfl⟩)
      | (go_at_call 29; (with_reducible refine (HP2.out _).mono ?_); rintro e w2 ⟨rfl, rfl⟩)
      | (go_at_call 30; (with_reducible refine (HI3.out _).mono ?_); rintro e w2 ⟨rfl, rfl⟩)
      | (go_at_call 31; refine (fail_any _ B b s (p : Int) l why fat 7 (p : Int) (HRp.out.drewN _)).mono ?_; rintro e w3 ⟨rfl, hr3, hb3⟩))
              go_step3
              exact ⟨rfl, ⟨(pw_below_drewN HBL.out _).setCell (p := ⟨b, 1, none⟩) h0 _, ⟨_, _, _, _, _, _, _, _, _, _, _, _, _, _, _, _, _, _, _, _, _, _, _, _, _, _, _, _, _, _, _, _, _, _, _, _, _, _, _, _, _, _, _, _, _, _, _, _, _, _, _, _, _, _, _, _, _, _, _, _, _, _, _, _, _, _, _, _, rfl⟩, p + (n + 4), by omega, (by have := HLE.out; have := HTZ.out; omega), RS_at (n := (n + 4)) h0 HBk.out HOw.out (by push_cast; rfl), jump_G HG.out HN.out hp1⟩⟩
          · have hp42f : [47, 42].isPrefixOf (c :: r) = false := Bool.eq_false_iff.2 hp42
            rw [hp42f] at hP2
            rw [if_neg hp42] at hg1
            have HP2 := Lib.hid hP2
            have HN := Lib.hid (G_none (l := s.data.toList.drop p) (by rw [hl]; exact hg1))
            clear hg1 htz htl hl hb0 hbk hp47 hp42 hP1 hP2
            go_wp2
            go_quiet (fail)
            go_wp2_with (first
      | (go_at_call 28; (with_reducible refine (HI.out _).mono ?_); rintro e w2 ⟨rfl, rfl⟩)
      | (go_at_call 28; (with_reducible refine (HI2.out _).mono ?_); rintro e w2 ⟨rfl, rfl⟩)
      | (go_at_call 29; (with_reducible refine (HP1.out _).mono ?_); rintro e w2 ⟨rfl, rfl⟩)
      | (go_at_call 29; (with_reducible refine (HP2.out _).mono ?_); rintro e w2 ⟨rfl, rfl⟩)
      | (go_at_call 30; (with_reducible refine (HI3.out _).mono ?_); rintro e w2 ⟨rfl, rfl⟩)
      | (go_at_call 31; refine (fail_any _ B b s (p : Int) l why fat 7 (p : Int) (HRp.out.drewN _)).mono ?_; rintro e w3 ⟨rfl, hr3, hb3⟩))
            (try simp only [Exit.jump])
            go_ret
            exact ⟨by rw [HG.out, HN.out]; rfl, pw_below_drewN HBL.out _, done_ok HRp.out HG.out HN.out hp1⟩
  · rintro a' w' ⟨bel, ⟨u1, u3, u4, u5, u6, u7, u8, u9, u10, u11, u12, u13, u14, u15, u16, u17, u18, u19, u20, u21, u22, u23, u24, u25, u26, u27, u28, u29, u30, u31, u32, u33, u34, u35, u36, u37, u38, u39, u40, u41, u42, u43, u44, u45, u46, u47, u48, u49, u50, u51, u52, u53, u54, u55, u56, u57, u58, u59, u60, u61, u62, u63, u64, u65, u66, u67, u68, u69, rfl⟩, p, hp1, hp2, hR, hG⟩
    clear HR HQ
    obtain ⟨h0, v, hb, ho⟩ := id hR
    have c0 := hb.cell 0
    have c1 := hb.cell 1
    have f1 := hb.frozen 1
    have HRp := Lib.hid hR
    have HBL := Lib.hid bel
    have HG := Lib.hid hG
    have HBk := Lib.hid hb
    have HOw := Lib.hid ho
    obtain ⟨m, hm⟩ := max_below bel HB.out HM.out
    simp at c0 c1
    clear hR bel hG hb ho
    obtain ⟨t, ht⟩ : ∃ t, s.extract p s.size = t := ⟨_, rfl⟩
    have htl : t.data.toList = s.data.toList.drop p := by rw [← ht]; exact drop_data s p
    have htz : t.size = s.size - p := by rw [Lib.size_eq, htl, List.length_drop, ← HZ.out]
    have hs16 := HS.out
    have htb : t.size ≤ 65536 := by omega
    have HTL := Lib.hid htl
    have HTZ := Lib.hid htz
    cases hl : s.data.toList.drop p with
    | nil =>
      have e1 : t.toList.isEmpty = true := by rw [Lib.toList_data, htl, hl]; rfl
      have HN := Lib.hid (G_none (l := s.data.toList.drop p) (by rw [hl]; rfl))
      clear htz htl hl
      go_wp2
      go_quiet (fail)
      go_wp2
      (try simp only [Exit.jump])
      go_ret
      exact ⟨by rw [HG.out, HN.out]; rfl, pw_below_drewN HBL.out _, done_ok HRp.out HG.out HN.out hp1⟩
    | cons c r =>
      rw [hl] at htl
      have hg1 := gap1_cons c r
      have e1 : t.toList.isEmpty = false := by rw [Lib.toList_data, htl]; rfl
      have hb0 := (bt_of t 0 c r (by rw [htl]; rfl)).1
      have hx : ∀ h : 0 < t.size, ((t[0]'h).toNat : Int) = bt t 0 := bt_at t 0
      have hz0 : 0 < t.size := by rw [Lib.size_eq, htl]; simp
      have hI : ∀ w, Calls Tryd.prog 28 #[.string ⟨#[32, 9, 10, 13]⟩, .int .u8 (bt t 0)] w fun e w' => e = .returned (.int .i64 (Lib.indexByte [32, 9, 10, 13] c)) ∧ w' = w := fun w => by
        have := Tryd.strings_IndexByte ⟨#[32, 9, 10, 13]⟩ (bt t 0) w
        have hc : (bt t 0).toNat.toUInt8 = c := by have h : bt t 0 = c.toNat := hb0; rw [h, Int.toNat_natCast]; exact UInt8.ofNat_toNat
        rw [hc] at this
        exact this
      obtain ⟨I, hIv⟩ : ∃ I, Lib.indexByte [32, 9, 10, 13] c = I := ⟨_, rfl⟩
      have hbl := blank_index c
      rw [hIv] at hI hbl
      have HI := Lib.hid hI
      clear hI hIv
      by_cases hbk : LexPure.blank c = true
      · rw [hbk] at hbl
        have HN := Lib.hid (G_some (l := s.data.toList.drop p) (n := 1) (by rw [hl, hg1, if_pos hbk]; rfl) (by decide))
        have HLE := Lib.hid (show p + 1 ≤ s.size by omega)
        clear htz htl hl hg1 hb0 hbk
        go_wp2
        go_quiet (fail)
        go_wp2_with (first
      | (go_at_call 28; (with_reducible refine (HI.out _).mono ?_); rintro e w2 ⟨rfl, rfl⟩)
      | (go_at_call 28; (with_reducible refine (HI2.out _).mono ?_); rintro e w2 ⟨rfl, rfl⟩)
      | (go_at_call 29; (with_reducible refine (HP1.out _).mono ?_); rintro e w2 ⟨rfl, rfl⟩)
      | (go_at_call 29; (with_reducible refine (HP2.out _).mono ?_); rintro e w2 ⟨rfl, rfl⟩)
      | (go_at_call 30; (with_reducible refine (HI3.out _).mono ?_); rintro e w2 ⟨rfl, rfl⟩)
      | (go_at_call 31; refine (fail_any _ B b s (p : Int) l why fat 7 (p : Int) (HRp.out.drewN _)).mono ?_; rintro e w3 ⟨rfl, hr3, hb3⟩))
        go_step3
        exact ⟨rfl, ⟨(pw_below_drewN HBL.out _).setCell (p := ⟨b, 1, none⟩) h0 _, ⟨_, _, _, _, _, _, _, _, _, _, _, _, _, _, _, _, _, _, _, _, _, _, _, _, _, _, _, _, _, _, _, _, _, _, _, _, _, _, _, _, _, _, _, _, _, _, _, _, _, _, _, _, _, _, _, _, _, _, _, _, _, _, _, _, _, _, _, _, rfl⟩, p + 1, by omega, (by have := HLE.out; have := HTZ.out; omega), RS_at (n := 1) h0 HBk.out HOw.out (by push_cast; rfl), jump_G HG.out HN.out hp1⟩, mu_lt HRp.out (RS_at (n := 1) h0 HBk.out HOw.out (by push_cast; rfl)) (by have := HLE.out; have := HTZ.out; omega) (by omega)⟩
      · have hbf : LexPure.blank c = false := by simpa using hbk
        rw [hbf] at hbl
        rw [if_neg hbk] at hg1
        have hP1 : ∀ w, Calls Tryd.prog 29 #[.string t, .string ⟨#[47, 47]⟩] w fun e w' => e = .returned (.bool ([47, 47].isPrefixOf (c :: r))) ∧ w' = w := fun w => by
          have := Tryd.strings_HasPrefix t ⟨#[47, 47]⟩ w
          rw [htl] at this
          exact this
        by_cases hp47 : [47, 47].isPrefixOf (c :: r) = true
        · rw [hp47] at hP1
          rw [if_pos hp47] at hg1
          have HP1 := Lib.hid hP1
          have hI2 : ∀ w, Calls Tryd.prog 28 #[.string t, .int .u8 10] w fun e w' => e = .returned (.int .i64 (Lib.indexByte (c :: r) 10)) ∧ w' = w := fun w => by
            have := Tryd.strings_IndexByte t 10 w
            rw [htl] at this
            exact this
          have he := eol_index (c :: r)
          have hel := eol_le (c :: r)
          have hpos : 0 < eol (c :: r) := by
            have : c = 47 := by
              have := List.isPrefixOf_iff_prefix.1 hp47
              obtain ⟨u, hu⟩ := this
              simp at hu
              exact hu.1.symm
            subst this
            unfold eol
            rw [if_neg (by decide)]
            omega
          have htz2 : (c :: r).length = t.size := by rw [Lib.size_eq, htl]
          obtain ⟨n, hn⟩ : ∃ n, eol (c :: r) = n := ⟨_, rfl⟩
          rw [hn] at he hel hpos hg1
          have HN := Lib.hid (G_some (l := s.data.toList.drop p) (n := n) (by rw [hl]; exact hg1) hpos)
          have HLE := Lib.hid (show p + n ≤ s.size by omega)
          obtain ⟨I2, hI2v⟩ : ∃ I, Lib.indexByte (c :: r) 10 = I := ⟨_, rfl⟩
          rw [hI2v] at hI2 he
          have HI2 := Lib.hid hI2
          by_cases hlt : I2 < 0
          · have hn2 : n = t.size := by rw [← htz2]; exact he.1 hlt
            subst hn2
            have hltb : decide (I2 < 0) = true := decide_eq_true hlt
            clear hI2 he hel hpos hg1 htz htl hl hb0 hbk hp47 hP1 htz2 hn hI2v
            go_wp2
            go_quiet (fail)
            go_wp2_with (first
      | (go_at_call 28; (with_reducible refine (HI.out _).mono ?_); rintro e w2 ⟨rfl, rfl⟩)
      | (go_at_call 28; (with_reducible refine (HI2.out _).mono ?_); rintro e w2 ⟨rfl, rfl⟩)
      | (go_at_call 29; (with_reducible refine (HP1.out _).mono ?_); rintro e w2 ⟨rfl, rfl⟩)
      | (go_at_call 29; (with_reducible refine (HP2.out _).mono ?_); rintro e w2 ⟨rfl, rfl⟩)
      | (go_at_call 30; (with_reducible refine (HI3.out _).mono ?_); rintro e w2 ⟨rfl, rfl⟩)
      | (go_at_call 31; refine (fail_any _ B b s (p : Int) l why fat 7 (p : Int) (HRp.out.drewN _)).mono ?_; rintro e w3 ⟨rfl, hr3, hb3⟩))
            go_step3
            exact ⟨rfl, ⟨(pw_below_drewN HBL.out _).setCell (p := ⟨b, 1, none⟩) h0 _, ⟨_, _, _, _, _, _, _, _, _, _, _, _, _, _, _, _, _, _, _, _, _, _, _, _, _, _, _, _, _, _, _, _, _, _, _, _, _, _, _, _, _, _, _, _, _, _, _, _, _, _, _, _, _, _, _, _, _, _, _, _, _, _, _, _, _, _, _, _, rfl⟩, p + t.size, by omega, (by have := HLE.out; have := HTZ.out; omega), RS_at (n := t.size) h0 HBk.out HOw.out (by push_cast; rfl), jump_G HG.out HN.out hp1⟩, mu_lt HRp.out (RS_at (n := t.size) h0 HBk.out HOw.out (by push_cast; rfl)) (by have := HLE.out; have := HTZ.out; omega) (by omega)⟩
          · have hn2 : I2 = (n : Int) := he.2 hlt
            subst hn2
            have hltb : decide ((n : Int) < 0) = false := decide_eq_false hlt
            have hn65 : (n : Int) ≤ 65536 := by omega
            clear hI2 he hel hg1 htz htl hl hb0 hbk hp47 hP1 htz2 hn hI2v
            go_wp2
            go_quiet (fail)
            go_wp2_with (first
      | (go_at_call 28; (with_reducible refine (HI.out _).mono ?_); rintro e w2 ⟨rfl, rfl⟩)
      | (go_at_call 28; (with_reducible refine (HI2.out _).mono ?_); rintro e w2 ⟨rfl, rfl⟩)
      | (go_at_call 29; (with_reducible refine (HP1.out _).mono ?_); rintro e w2 ⟨rfl, rfl⟩)
      | (go_at_call 29; (with_reducible refine (HP2.out _).mono ?_); rintro e w2 ⟨rfl, rfl⟩)
      | (go_at_call 30; (with_reducible refine (HI3.out _).mono ?_); rintro e w2 ⟨rfl, rfl⟩)
      | (go_at_call 31; refine (fail_any _ B b s (p : Int) l why fat 7 (p : Int) (HRp.out.drewN _)).mono ?_; rintro e w3 ⟨rfl, hr3, hb3⟩))
            go_step3
            exact ⟨rfl, ⟨(pw_below_drewN HBL.out _).setCell (p := ⟨b, 1, none⟩) h0 _, ⟨_, _, _, _, _, _, _, _, _, _, _, _, _, _, _, _, _, _, _, _, _, _, _, _, _, _, _, _, _, _, _, _, _, _, _, _, _, _, _, _, _, _, _, _, _, _, _, _, _, _, _, _, _, _, _, _, _, _, _, _, _, _, _, _, _, _, _, _, rfl⟩, p + n, by omega, (by have := HLE.out; have := HTZ.out; omega), RS_at (n := n) h0 HBk.out HOw.out (by push_cast; rfl), jump_G HG.out HN.out hp1⟩, mu_lt HRp.out (RS_at (n := n) h0 HBk.out HOw.out (by push_cast; rfl)) (by have := HLE.out; have := HTZ.out; omega) (by omega)⟩
        · have hp47f : [47, 47].isPrefixOf (c :: r) = false := Bool.eq_false_iff.2 hp47
          rw [hp47f] at hP1
          rw [if_neg hp47] at hg1
          have HP1 := Lib.hid hP1
          have hP2 : ∀ w, Calls Tryd.prog 29 #[.string t, .string ⟨#[47, 42]⟩] w fun e w' => e = .returned (.bool ([47, 42].isPrefixOf (c :: r))) ∧ w' = w := fun w => by
            have := Tryd.strings_HasPrefix t ⟨#[47, 42]⟩ w
            rw [htl] at this
            exact this
          by_cases hp42 : [47, 42].isPrefixOf (c :: r) = true
          · rw [hp42] at hP2
            rw [if_pos hp42] at hg1
            have HP2 := Lib.hid hP2
            have hlen : 2 ≤ t.size := by
              have h5 := List.IsPrefix.length_le (List.isPrefixOf_iff_prefix.1 hp42)
              rw [Lib.size_eq, htl]; exact h5
            have hd2 : (t.extract 2 t.size).data.toList = r.drop 1 := by rw [drop_data, htl]; rfl
            have hI3 : ∀ n, Calls Tryd.prog 30 #[.string (t.extract 2 t.size), .string ⟨#[42, 47]⟩] (w'.drewN n) fun e w2 => e = .returned (.int .i64 (Lib.index (r.drop 1) [42, 47])) ∧ w2 = w'.drewN n := fun n => by
              have := Tryd.strings_Index (t.extract 2 t.size) ⟨#[42, 47]⟩ m (w'.drewN n) (by rw [Lib.size_eq, drop_data, List.length_drop, ← Lib.size_eq]; omega) hm
              rw [hd2] at this
              exact this
            have hci := close_index (r.drop 1)
            obtain ⟨I3, hI3v⟩ : ∃ I, Lib.index (r.drop 1) [42, 47] = I := ⟨_, rfl⟩
            rw [hI3v] at hI3 hci
            have HI3 := Lib.hid hI3
            by_cases hlt : I3 < 0
            · have hltb : decide (I3 < 0) = true := decide_eq_true hlt
              have HN := Lib.hid (G_open (l := s.data.toList.drop p) (by rw [hl, hg1, hci.1 hlt]; decide))
              clear hI3 hci hg1 htz htl hl hb0 hbk hp47 hp42 hP1 hP2 hd2 hlt hI3v
              go_wp2
              go_quiet (fail)
              go_wp2_with (first
      | (go_at_call 28; (with_reducible refine (HI.out _).mono ?_); rintro e w2 ⟨rfl, rfl⟩)
      | (go_at_call 28; (with_reducible refine (HI2.out _).mono ?_); rintro e w2 ⟨rfl, rfl⟩)
      | (go_at_call 29; (with_reducible refine (HP1.out _).mono ?_); rintro e w2 ⟨rfl, rfl⟩)
      | (go_at_call 29; (with_reducible refine (HP2.out _).mono ?_); rintro e w2 ⟨rfl, rfl⟩)
      | (go_at_call 30; (with_reducible refine (HI3.out _).mono ?_); rintro e w2 ⟨rfl, rfl⟩)
      | (go_at_call 31; refine (fail_any _ B b s (p : Int) l why fat 7 (p : Int) (HRp.out.drewN _)).mono ?_; rintro e w3 ⟨rfl, hr3, hb3⟩))
              (try simp only [Exit.jump])
              go_ret
              exact ⟨by rw [HG.out, HN.out]; rfl, (pw_below_drewN HBL.out _).trans hb3, done_bad hr3 HG.out HN.out hp1⟩
            · obtain ⟨n, hn1, hn2⟩ := hci.2 hlt
              subst hn1
              have hcl := close_le _ _ hn2
              have hlr : (r.drop 1).length + 2 = t.size := by rw [List.length_drop, Lib.size_eq, htl]; have := hlen; rw [Lib.size_eq, htl] at this; simp at this ⊢; omega
              have hltb : decide ((n : Int) < 0) = false := decide_eq_false hlt
              have hn65 : (n : Int) ≤ 65536 := by omega
              have HN := Lib.hid (G_some (l := s.data.toList.drop p) (n := n + 4) (by rw [hl, hg1, hn2]) (by omega))
              have HLE := Lib.hid (show p + (n + 4) ≤ s.size by omega)
              clear hI3 hci hg1 htz htl hl hb0 hbk hp47 hp42 hP1 hP2 hd2 hlt hI3v hn2 hcl hlr
              go_wp2
              go_quiet (fail)
              go_wp2_with (first
      | (go_at_call 28; (with_reducible refine (HI.out _).mono ?_); rintro e w2 ⟨rfl, rfl⟩)
      | (go_at_call 28; (with_reducible refine (HI2.out _).mono ?_); rintro e w2 ⟨rfl, rfl⟩)
      | (go_at_call 29; (with_reducible refine (HP1.out _).mono ?_); rintro e w2 ⟨rfl, rfl⟩)
      | (go_at_call 29; (with_reducible refine (HP2.out _).mono ?_); rintro e w2 ⟨rfl, rfl⟩)
      | (go_at_call 30; (with_reducible refine (HI3.out _).mono ?_); rintro e w2 ⟨rfl, rfl⟩)
      | (go_at_call 31; refine (fail_any _ B b s (p : Int) l why fat 7 (p : Int) (HRp.out.drewN _)).mono ?_; rintro e w3 ⟨rfl, hr3, hb3⟩))
              go_step3
              exact ⟨rfl, ⟨(pw_below_drewN HBL.out _).setCell (p := ⟨b, 1, none⟩) h0 _, ⟨_, _, _, _, _, _, _, _, _, _, _, _, _, _, _, _, _, _, _, _, _, _, _, _, _, _, _, _, _, _, _, _, _, _, _, _, _, _, _, _, _, _, _, _, _, _, _, _, _, _, _, _, _, _, _, _, _, _, _, _, _, _, _, _, _, _, _, _, rfl⟩, p + (n + 4), by omega, (by have := HLE.out; have := HTZ.out; omega), RS_at (n := (n + 4)) h0 HBk.out HOw.out (by push_cast; rfl), jump_G HG.out HN.out hp1⟩, mu_lt HRp.out (RS_at (n := (n + 4)) h0 HBk.out HOw.out (by push_cast; rfl)) (by have := HLE.out; have := HTZ.out; omega) (by omega)⟩
          · have hp42f : [47, 42].isPrefixOf (c :: r) = false := Bool.eq_false_iff.2 hp42
            rw [hp42f] at hP2
            rw [if_neg hp42] at hg1
            have HP2 := Lib.hid hP2
            have HN := Lib.hid (G_none (l := s.data.toList.drop p) (by rw [hl]; exact hg1))
            clear hg1 htz htl hl hb0 hbk hp47 hp42 hP1 hP2
            go_wp2
            go_quiet (fail)
            go_wp2_with (first
      | (go_at_call 28; (with_reducible refine (HI.out _).mono ?_); rintro e w2 ⟨rfl, rfl⟩)
      | (go_at_call 28; (with_reducible refine (HI2.out _).mono ?_); rintro e w2 ⟨rfl, rfl⟩)
      | (go_at_call 29; (with_reducible refine (HP1.out _).mono ?_); rintro e w2 ⟨rfl, rfl⟩)
      | (go_at_call 29; (with_reducible refine (HP2.out _).mono ?_); rintro e w2 ⟨rfl, rfl⟩)
      | (go_at_call 30; (with_reducible refine (HI3.out _).mono ?_); rintro e w2 ⟨rfl, rfl⟩)
      | (go_at_call 31; refine (fail_any _ B b s (p : Int) l why fat 7 (p : Int) (HRp.out.drewN _)).mono ?_; rintro e w3 ⟨rfl, hr3, hb3⟩))
            (try simp only [Exit.jump])
            go_ret
            exact ⟨by rw [HG.out, HN.out]; rfl, pw_below_drewN HBL.out _, done_ok HRp.out HG.out HN.out hp1⟩
end Go.Proofs.YtafndkgoeabehaaDoor.LexGaps
namespace Go.Proofs.YtafndkgoeabehaaDoor.LexTook
open Go Go.RowKit Go.Proofs.YtafndkgoeabehaaDoor.LexPure Go.Proofs.YtafndkgoeabehaaDoor.LexMem Go.Proofs.YtafndkgoeabehaaDoor.LexWord
/-- what a reader's method leaves: a token more, or a fault -/
def Took (w' : World) (e : Ending) (B b : Nat) (s : ByteArray) (q : Nat) (l : List Tk) (why fat : Int) : Out → Prop
  | .tok kd tx n len => e = .returned (.bool true) ∧ RS w' B b s ((q + len : Nat) : Int) (l ++ [⟨kd, tx, n, q⟩]) why fat
  | .bad y off => e = .returned (.bool false) ∧ RS w' B b s (q : Int) l y ((q + off : Nat) : Int)
theorem below_draws {B : Nat} {w : World} (_h : B ≤ w.heap.size) {n : Nat} : Below B w (w.drewN n) := below_drewN (Below.refl _ _) n
theorem cell1_below {w w' : World} {B b : Nat} {s : ByteArray} {p : Int} {l : List Tk} {why fat : Int} (h : RS w B b s p l why fat) (hb : Below w.heap.size w w') : w'.cell? ⟨b, 1, none⟩ = some (.int .i64 p) := by
  obtain ⟨_, v, hk, _⟩ := h.below hb
  have := hk.cell 1
  simpa using this
theorem take_data (s : ByteArray) (n : Nat) : (s.extract 0 n).data.toList = s.data.toList.take n := by rw [Lib.extract_data]; simp
end Go.Proofs.YtafndkgoeabehaaDoor.LexTook
namespace Go.Proofs.YtafndkgoeabehaaDoor.LexNumP
open Go Go.RowKit Go.Proofs.YtafndkgoeabehaaDoor.NumRead Go.Proofs.YtafndkgoeabehaaDoor.LexPure
theorem run_nil : run [] = 0 := rfl
theorem run_cons (c : UInt8) (r : List UInt8) : run (c :: r) = if dig c = true then run r + 1 else 0 := by
  unfold run
  rw [List.takeWhile_cons]
  split <;> simp
theorem run_le (l : List UInt8) : run l ≤ l.length := by
  induction l with
  | nil => simp [run_nil]
  | cons c r ih => rw [run_cons]; split <;> simp; omega
theorem run_at : ∀ (l : List UInt8) (n : Nat), n ≤ run l → (n < run l ↔ ∃ d, l[n]? = some d ∧ dig d = true) := by
  intro l
  induction l with
  | nil => intro n h; simp [run_nil]
  | cons c r ih =>
    intro n h
    rw [run_cons] at h ⊢
    by_cases hc : dig c = true
    · rw [if_pos hc] at h ⊢
      cases n with
      | zero => exact ⟨fun _ => ⟨c, rfl, hc⟩, fun _ => by omega⟩
      | succ n =>
        rw [List.getElem?_cons_succ, ← ih n (by omega)]
        omega
    · rw [if_neg hc] at h ⊢
      obtain rfl : n = 0 := by omega
      refine ⟨fun h => absurd h (by omega), ?_⟩
      rintro ⟨d, h1, h2⟩
      simp at h1
      rw [h1] at hc
      exact absurd h2 hc
theorem numLen_le (c : UInt8) (r : List UInt8) : 1 ≤ numLen (c :: r) ∧ numLen (c :: r) ≤ (c :: r).length := by
  unfold numLen
  split
  · simp
  · have := run_le r
    rw [List.tail_cons, List.length_cons]; omega
theorem numLen_zero (r : List UInt8) : numLen (48 :: r) = 1 := rfl
theorem numLen_at (c : UInt8) (r : List UInt8) (hc : c ≠ 48) (n : Nat) (h1 : 1 ≤ n) (h2 : n ≤ numLen (c :: r)) : n < numLen (c :: r) ↔ ∃ d, (c :: r)[n]? = some d ∧ dig d = true := by
  unfold numLen at h2 ⊢
  rw [if_neg (by simpa using hc), List.tail_cons] at h2 ⊢
  obtain ⟨k, rfl⟩ : ∃ k, n = k + 1 := ⟨n - 1, by omega⟩
  rw [List.getElem?_cons_succ, ← run_at r k (by omega)]
  omega
/-- all bytes of a number are digits -/
theorem take_run : ∀ (l : List UInt8), (l.take (run l)).all dig = true := by
  intro l
  induction l with
  | nil => rfl
  | cons c r ih =>
    rw [run_cons]
    by_cases hc : dig c = true
    · rw [if_pos hc, List.take_succ_cons, List.all_cons, hc, ih]; rfl
    · rw [if_neg hc]; rfl
end Go.Proofs.YtafndkgoeabehaaDoor.LexNumP
namespace Go.Proofs.YtafndkgoeabehaaDoor.NumParse
open Go Go.RowKit Go.Proofs.YtafndkgoeabehaaDoor.NumPure Go.Proofs.YtafndkgoeabehaaDoor.NumRead Go.Proofs.YtafndkgoeabehaaDoorW.PrintWords
/-- the variable ErrRange holds an error -/
def ErrVar (w : World) : Prop := ∃ te pe, w.cell? ⟨2, 0, none⟩ = some (.iface te pe)
theorem err_below {w w' : World} (h : Below w.heap.size w w') (t : ErrVar w) : ErrVar w' := by
  obtain ⟨te, pe, hc⟩ := t
  exact ⟨te, pe, (h.cell (World.block_lt_of_cell? w _ hc)).trans hc⟩
theorem star : "*" ++ "errors.errorString" = "*errors.errorString" := by decide
theorem rowErr (u : TypeId) (h : Tryd.prog.typeName? 3 u = some "*errors.errorString") : u = 106 :=
  typeName_ptr_named (nm := "errors.errorString") (by rw [star]; kernel_rfl) (by kernel_rfl) (by decide) u (by rw [star]; exact h)
/-- the row's condition, where ErrRange is the fifth on its list -/
theorem err_of_laid {a b c d : String × DataW Unit} {r : List (String × DataW Unit)} {w : World} {text : List UInt8} (h : laidMet Tryd.prog (a :: b :: c :: d :: ("strconv.ErrRange", .iface "*errors.errorString" (.ptr (.agg [.lit (.string text)]))) :: r) w) : ErrVar w := by
  have g : Tryd.prog.globalNamed "strconv.ErrRange" = some 2 := by kernel_rfl
  obtain ⟨a0, s0, hv, _⟩ := laid_sentinel h.tail.tail.tail.tail (g := 2) (ti := 60) (tp := 106) (te := 108) (ts := 9) g (by kernel_rfl) Tryd.underlying60 rowErr Tryd.underlying106 Tryd.underlying108 rfl rfl Tryd.underlying9 (by kernel_rfl) (by kernel_rfl)
  have := World.var?_cell g hv 0
  exact ⟨_, _, by simpa using this⟩
theorem trim_calls (s : ByteArray) (w : World) (hs : s.size ≤ 140737488351232) :
    Calls Tryd.prog 52 #[.string s, .string ⟨#[48, 49, 50, 51, 52, 53, 54, 55, 56, 57]⟩] w fun e w' => e = .returned (.string ⟨(Lib.trimS s.data.toList cs10).toArray⟩) ∧ Below w.heap.size w w' :=
  Any.strings_Trim_laid Tryd.lays160 (by kernel_rfl) s _ w (by omega) (by decide) (ascii_of_all (by decide))
/-- how Atoi ends, as far as Parse looks: its number, or an error that is not nil -/
theorem atoi_calls (s : ByteArray) (v : Int) (w : World) (hs : s.size ≤ 140737488351232) (t : ErrVar w) (h : Lib.atoiAll s.data.toList = if In v then .ok v else .range) :
    Calls Tryd.prog 53 #[.string s] w fun e w' => (if In v then e = .returned (.tuple #[.int .i64 v, .nilIface]) else ∃ (x : Int) (u : TypeId) (p : Value), e = .returned (.tuple #[.int .i64 x, .iface u p])) ∧ Below w.heap.size w w' := by
  by_cases hv : In v
  · rw [if_pos hv] at h
    refine (Tryd.strconv_Atoi_ok s (by omega) v h w).mono ?_
    rintro e w' ⟨rfl, hw⟩
    refine ⟨by rw [if_pos hv], ?_⟩
    rcases hw with rfl | ⟨t, rfl⟩
    · exact Below.refl _ _
    · exact Lib.bytesWorld_below _ _ _
  · rw [if_neg hv] at h
    obtain ⟨te, pe, hc⟩ := t
    refine (Tryd.strconv_Atoi_range s (by omega) h _ w hc (.inr ⟨te, pe, rfl⟩)).mono ?_
    rintro e w' ⟨N, rfl, _, _, hb⟩
    exact ⟨by rw [if_neg hv]; exact ⟨_, _, _, rfl⟩, hb⟩
section
variable (s d tr : ByteArray) (w : World)
  (hp : ∀ w, Calls Tryd.prog 51 #[.string s, .string ⟨#[45]⟩] w fun e w' => e = .returned (.string d) ∧ w' = w)
  (ht : ∀ w, Calls Tryd.prog 52 #[.string d, .string ⟨#[48, 49, 50, 51, 52, 53, 54, 55, 56, 57]⟩] w fun e w' => e = .returned (.string tr) ∧ Below w.heap.size w w')
include hp ht
set_option linter.unusedSectionVars false
set_option maxRecDepth 100000 in
theorem parse_empty (hd : d.toList = []) :
    Calls Tryd.prog 43 #[.string s] w fun e w' => e = .returned (.tuple #[.int .i64 0, .int .i64 7]) ∧ Below w.heap.size w w' := by
  have HP := Lib.hid hp
  clear hp ht
  have h1 : d.toList.isEmpty = true := by rw [hd]; rfl
  go_enter Tryd.func43, Tryd.ntmps43
  go_wp2_with (go_at_call 51; (with_reducible refine (HP.out _).mono ?_); rintro e w' ⟨rfl, rfl⟩)
  go_ret2
  exact ⟨rfl, Below.refl _ _⟩
set_option maxRecDepth 100000 in
theorem parse_trim (hd : ¬ d.toList = []) (hr : ¬ tr.toList = []) :
    Calls Tryd.prog 43 #[.string s] w fun e w' => e = .returned (.tuple #[.int .i64 0, .int .i64 7]) ∧ Below w.heap.size w w' := by
  have HP := Lib.hid hp
  have HT := Lib.hid ht
  clear hp ht
  have h1 : d.toList.isEmpty = false := by simpa using hd
  have h2 : tr.toList.isEmpty = false := by simpa using hr
  clear hd hr
  go_enter Tryd.func43, Tryd.ntmps43
  go_wp2_with (first | (go_at_call 51; (with_reducible refine (HP.out _).mono ?_); rintro e w' ⟨rfl, rfl⟩) | (go_at_call 52; (with_reducible refine (HT.out _).mono ?_); rintro e w' ⟨rfl, hb⟩))
  go_ret2
  exact ⟨rfl, hb⟩
set_option maxRecDepth 100000 in
theorem parse_zero (hd : ¬ d.toList = []) (hr : tr.toList = []) (hz : 0 < d.size) (h48 : bt d 0 = 48) (h0 : ¬ s.toList = [48]) :
    Calls Tryd.prog 43 #[.string s] w fun e w' => e = .returned (.tuple #[.int .i64 0, .int .i64 7]) ∧ Below w.heap.size w w' := by
  have HP := Lib.hid hp
  have HT := Lib.hid ht
  clear hp ht
  have h1 : d.toList.isEmpty = false := by simpa using hd
  have h2 : tr.toList.isEmpty = true := by rw [hr]; rfl
  have h3 : ((bt d 0) == 48) = true := beq_iff_eq.mpr h48
  have h4 : (s.toList == ([48] : List UInt8)) = false := beq_eq_false_iff_ne.mpr h0
  clear hd hr h48 h0
  have hx : ∀ h : 0 < d.size, ((d[0]'h).toNat : Int) = bt d 0 := bt_at d 0
  go_enter Tryd.func43, Tryd.ntmps43
  go_wp2_with (first | (go_at_call 51; (with_reducible refine (HP.out _).mono ?_); rintro e w' ⟨rfl, rfl⟩) | (go_at_call 52; (with_reducible refine (HT.out _).mono ?_); rintro e w' ⟨rfl, hb⟩))
  go_ret2
  exact ⟨rfl, hb⟩
/-- behind the tests: Atoi decides -/
theorem parse_num (t : ErrVar w) (v : Int) (hd : ¬ d.toList = []) (hr : tr.toList = []) (hz : 0 < d.size) (h48 : bt d 0 = 48 → s.toList = [48])
    (ha : ∀ w, ErrVar w → Calls Tryd.prog 53 #[.string s] w fun e w' => (if In v then e = .returned (.tuple #[.int .i64 v, .nilIface]) else ∃ (x : Int) (u : TypeId) (p : Value), e = .returned (.tuple #[.int .i64 x, .iface u p])) ∧ Below w.heap.size w w') :
    Calls Tryd.prog 43 #[.string s] w fun e w' => e = .returned (.tuple #[.int .i64 (told v).1, .int .i64 (told v).2]) ∧ Below w.heap.size w w' := by
  have T := Lib.hid t
  have HP := Lib.hid hp
  have HT := Lib.hid ht
  clear hp ht t
  have h1 : d.toList.isEmpty = false := by simpa using hd
  have h2 : tr.toList.isEmpty = true := by rw [hr]; rfl
  clear hd hr
  have hx : ∀ h : 0 < d.size, ((d[0]'h).toNat : Int) = bt d 0 := bt_at d 0
  unfold told
  by_cases hv : In v
  · rw [if_pos hv]
    simp only [if_pos hv] at ha
    have HA := Lib.hid ha
    clear ha hv
    by_cases c : bt d 0 = 48
    · have h3 : ((bt d 0) == 48) = true := beq_iff_eq.mpr c
      have h4 : (s.toList == ([48] : List UInt8)) = true := beq_iff_eq.mpr (h48 c)
      clear c h48
      go_enter Tryd.func43, Tryd.ntmps43
      go_wp2_with (first | (go_at_call 51; (with_reducible refine (HP.out _).mono ?_); rintro e w' ⟨rfl, rfl⟩) | (go_at_call 52; (with_reducible refine (HT.out _).mono ?_); rintro e w' ⟨rfl, hb⟩) | (go_at_call 53; (with_reducible refine (HA.out _ (err_below hb T.out)).mono ?_); rintro e w2 ⟨rfl, hb2⟩))
      go_ret2
      exact ⟨rfl, hb.trans (hb2.mono hb.size)⟩
    · have h3 : ((bt d 0) == 48) = false := beq_eq_false_iff_ne.mpr c
      clear c h48
      go_enter Tryd.func43, Tryd.ntmps43
      go_wp2_with (first | (go_at_call 51; (with_reducible refine (HP.out _).mono ?_); rintro e w' ⟨rfl, rfl⟩) | (go_at_call 52; (with_reducible refine (HT.out _).mono ?_); rintro e w' ⟨rfl, hb⟩) | (go_at_call 53; (with_reducible refine (HA.out _ (err_below hb T.out)).mono ?_); rintro e w2 ⟨rfl, hb2⟩))
      go_ret2
      exact ⟨rfl, hb.trans (hb2.mono hb.size)⟩
  · rw [if_neg hv]
    simp only [if_neg hv] at ha
    have HA := Lib.hid ha
    clear ha hv
    by_cases c : bt d 0 = 48
    · have h3 : ((bt d 0) == 48) = true := beq_iff_eq.mpr c
      have h4 : (s.toList == ([48] : List UInt8)) = true := beq_iff_eq.mpr (h48 c)
      clear c h48
      go_enter Tryd.func43, Tryd.ntmps43
      go_wp2_with (first | (go_at_call 51; (with_reducible refine (HP.out _).mono ?_); rintro e w' ⟨rfl, rfl⟩) | (go_at_call 52; (with_reducible refine (HT.out _).mono ?_); rintro e w' ⟨rfl, hb⟩) | (go_at_call 53; (with_reducible refine (HA.out _ (err_below hb T.out)).mono ?_); rintro e w2 ⟨⟨x, u, p, rfl⟩, hb2⟩))
      go_ret2
      exact ⟨rfl, hb.trans (hb2.mono hb.size)⟩
    · have h3 : ((bt d 0) == 48) = false := beq_eq_false_iff_ne.mpr c
      clear c h48
      go_enter Tryd.func43, Tryd.ntmps43
      go_wp2_with (first | (go_at_call 51; (with_reducible refine (HP.out _).mono ?_); rintro e w' ⟨rfl, rfl⟩) | (go_at_call 52; (with_reducible refine (HT.out _).mono ?_); rintro e w' ⟨rfl, hb⟩) | (go_at_call 53; (with_reducible refine (HA.out _ (err_below hb T.out)).mono ?_); rintro e w2 ⟨⟨x, u, p, rfl⟩, hb2⟩))
      go_ret2
      exact ⟨rfl, hb.trans (hb2.mono hb.size)⟩
end
theorem bt_head (l : List UInt8) (c : UInt8) (r : List UInt8) (h : l = c :: r) : bt (⟨l.toArray⟩ : ByteArray) 0 = c.toNat := by
  subst h
  unfold bt
  rw [dif_pos (by simp [ByteArray.size])]
  rfl
theorem parse_any (s : ByteArray) (w : World) (hs : s.size ≤ 140737488351232) (t : ErrVar w) :
    Calls Tryd.prog 43 #[.string s] w fun e w' => e = .returned (.tuple #[.int .i64 (parseS s.data.toList).1, .int .i64 (parseS s.data.toList).2]) ∧ Below w.heap.size w w' := by
  have hsl : s.toList = s.data.toList := Lib.toList_data s
  -- the text without its minus
  obtain ⟨m, d, hl, hpre, hpar⟩ : ∃ (m : Bool) (d : List UInt8), (s.data.toList = if m = true then 45 :: d else d) ∧ Lib.trimPrefix s.data.toList [45] = d ∧ parseS s.data.toList = core s.data.toList m d := by
    unfold parseS
    cases hh : s.data.toList with
    | nil => exact ⟨false, [], rfl, rfl, rfl⟩
    | cons c r =>
      by_cases hc : c = 45
      · subst hc
        exact ⟨true, r, rfl, by simp [Lib.trimPrefix, Lib.hasPrefix], by rw [if_pos (show (45 :: r : List UInt8).head? = some 45 from rfl)]; rfl⟩
      · refine ⟨false, c :: r, rfl, ?_, by rw [if_neg (by simpa using hc)]⟩
        have : Lib.hasPrefix (c :: r) [45] = false := by
          have h45 : ((45 : UInt8) == c) = false := beq_eq_false_iff_ne.mpr (fun x => hc x.symm)
          simp [Lib.hasPrefix, List.isPrefixOf, h45]
        simp [Lib.trimPrefix, this]
  rw [hpar]
  have hdl : (⟨d.toArray⟩ : ByteArray).toList = d := by rw [Lib.toList_data]
  have hsz : (⟨d.toArray⟩ : ByteArray).size = d.length := by simp [ByteArray.size]
  have hdz : d.length ≤ s.size := by
    rw [Lib.size_eq, hl]
    cases m <;> simp
  have hp : ∀ w, Calls Tryd.prog 51 #[.string s, .string ⟨#[45]⟩] w fun e w' => e = .returned (.string ⟨d.toArray⟩) ∧ w' = w := fun w => by
    have := Tryd.strings_TrimPrefix s ⟨#[45]⟩ w
    rw [show (⟨#[45]⟩ : ByteArray).data.toList = [45] from rfl, hpre] at this
    exact this
  have ht : ∀ w, Calls Tryd.prog 52 #[.string ⟨d.toArray⟩, .string ⟨#[48, 49, 50, 51, 52, 53, 54, 55, 56, 57]⟩] w fun e w' => e = .returned (.string ⟨(Lib.trimS d cs10).toArray⟩) ∧ Below w.heap.size w w' := fun w =>
    trim_calls ⟨d.toArray⟩ w (by omega)
  have htl : (⟨(Lib.trimS d cs10).toArray⟩ : ByteArray).toList = Lib.trimS d cs10 := by rw [Lib.toList_data]
  unfold core
  by_cases hd : d = []
  · rw [if_pos (.inl hd)]
    exact parse_empty s _ _ w hp ht (by rw [hdl]; exact hd)
  by_cases ha : d.all dig = true
  · have hr : Lib.trimS d cs10 = [] := (trim_nil d).2 ha
    obtain ⟨c, r, hcr⟩ : ∃ c r, d = c :: r := by cases d with | nil => exact absurd rfl hd | cons c r => exact ⟨c, r, rfl⟩
    have hb := bt_head d c r hcr
    by_cases hz : d.head? = some 48 ∧ s.data.toList ≠ [48]
    · rw [if_pos (.inr (.inr hz))]
      refine parse_zero s _ _ w hp ht (by rw [hdl]; exact hd) (by rw [htl]; exact hr) (by rw [hsz, hcr]; simp) ?_ (by rw [hsl]; exact hz.2)
      rw [hb]
      have := hz.1
      rw [hcr] at this
      simp only [List.head?_cons, Option.some.injEq] at this
      rw [this]; rfl
    · rw [if_neg (by
        rintro (x | x | x)
        · exact hd x
        · rw [ha] at x; cases x
        · exact hz x)]
      refine parse_num s _ _ w hp ht t (signed m (val 0 d)) (by rw [hdl]; exact hd) (by rw [htl]; exact hr) (by rw [hsz, hcr]; simp) ?_ (fun w t => atoi_calls s _ w hs t (atoi_digits _ m d hl hd ha))
      intro e
      rw [hb] at e
      rw [hsl]
      have ec : c = 48 := UInt8.toNat_inj.mp (by have e48 : (48 : UInt8).toNat = 48 := rfl; omega)
      by_cases x : s.data.toList = [48]
      · exact x
      · exact absurd ⟨by rw [hcr, ec]; rfl, x⟩ hz
  · have hr : ¬ Lib.trimS d cs10 = [] := fun x => ha ((trim_nil d).1 x)
    rw [if_pos (.inr (.inl (by simpa using ha)))]
    exact parse_trim s _ _ w hp ht (by rw [hdl]; exact hd) (by rw [htl]; exact hr)
end Go.Proofs.YtafndkgoeabehaaDoor.NumParse
namespace Go.Proofs.YtafndkgoeabehaaDoor.LexNumber
open Go Go.RowKit Go.Proofs.YtafndkgoeabehaaDoor.NumPure Go.Proofs.YtafndkgoeabehaaDoor.NumRead Go.Proofs.YtafndkgoeabehaaDoor.NumParse Go.Proofs.YtafndkgoeabehaaDoor.LexPure Go.Proofs.YtafndkgoeabehaaDoor.LexGap Go.Proofs.YtafndkgoeabehaaDoor.LexMem Go.Proofs.YtafndkgoeabehaaDoor.LexWord Go.Proofs.YtafndkgoeabehaaDoor.LexGaps Go.Proofs.YtafndkgoeabehaaDoor.LexNumP Go.Proofs.YtafndkgoeabehaaDoor.LexTook Go.Proofs.YtafndkgoeabehaaDoor.Pword Go.Proofs.YtafndkgoeabehaaDoorW.PrintWords
theorem digit_calls (c : UInt8) (x : Int) (hx : x = c.toNat) (w : World) : Calls Tryd.prog 33 #[.int .u8 x] w fun e w' => e = .returned (.bool (dig c)) ∧ Drawn0 w w' := by
  subst hx
  exact lex_digit.calls _ _ w (digit_is c)
theorem letter_calls (c : UInt8) (x : Int) (hx : x = c.toNat) (w : World) : Calls Tryd.prog 39 #[.int .u8 x] w fun e w' => e = .returned (.bool (letter c)) ∧ Drawn0 w w' := by
  subst hx
  exact lex_letter.calls _ _ w (letter_is c)
theorem err_belowB {B : Nat} {w w' : World} (h : Below B w w') (hB : 2 < B) (t : ErrVar w) : ErrVar w' := by
  obtain ⟨te, pe, hc⟩ := t
  exact ⟨te, pe, (h.cell (p := ⟨2, 0, none⟩) hB).trans hc⟩
theorem err_drewN {w : World} (t : ErrVar w) (n : Nat) : ErrVar (w.drewN n) := t
set_option maxRecDepth 100000 in
set_option maxHeartbeats 4000000 in
theorem number_any (w : World) (B b : Nat) (s : ByteArray) (q : Nat) (l : List Tk) (why fat : Int) (c : UInt8) (r : List UInt8) (h : RS w B b s (q : Int) l why fat) (hq : q ≤ s.size) (hs : s.size ≤ 65536) (hB : 2 < B) (hBw : B ≤ w.heap.size) (hl : l.length ≤ 65536) (he : ErrVar w) (hcr : s.data.toList.drop q = c :: r) (hc : dig c = true) :
    Calls Tryd.prog 34 #[.pointer (some ⟨b, 0, none⟩)] w fun e w' => Below B w w' ∧ Took w' e B b s q l why fat (number (c :: r)) := by
  have hz : s.size = s.data.toList.length := Lib.size_eq s
  obtain ⟨h0, v, hb, ho⟩ := id h
  have c0 := hb.cell 0
  have c1 := hb.cell 1
  simp at c0 c1
  obtain ⟨t, ht⟩ : ∃ t, s.extract q s.size = t := ⟨_, rfl⟩
  have htl : t.data.toList = c :: r := by rw [← ht, drop_data s q, hcr]
  have htz : t.size = s.size - q := by rw [Lib.size_eq, ← ht, drop_data, List.length_drop, ← hz]
  have htb : t.size ≤ 65536 := by omega
  have hb0 : bt t 0 = (c.toNat : Int) := (bt_of t 0 c r (by rw [htl]; rfl)).1
  have hx : ∀ h : 0 < t.size, ((t[0]'h).toNat : Int) = bt t 0 := bt_at t 0
  have hz0 : 0 < t.size := by rw [Lib.size_eq, htl]; simp
  obtain ⟨N, hN⟩ : ∃ N, numLen (c :: r) = N := ⟨_, rfl⟩
  have hNl := numLen_le c r
  rw [hN] at hNl
  have hlen : (c :: r).length = t.size := by rw [Lib.size_eq, htl]
  have HR := Lib.hid h
  have HB := Lib.hid hB
  have HBW := Lib.hid hBw
  have HLL := Lib.hid hl
  have HER := Lib.hid he
  have HTZ := Lib.hid htz
  have HTL := Lib.hid htl
  have HNV := Lib.hid hN
  have HB0 := Lib.hid hb0
  have HLEN := Lib.hid hlen
  have h1N : 1 ≤ N := hNl.1
  have hNt : N ≤ t.size := by omega
  have HF7 := Lib.hid (fun nq : Nat => fail_any (w.drewN nq) B b s (q : Int) l why fat 7 ((q : Int) + (N : Int)) (h.drewN _))
  clear h hB hBw hl he htz htl hN hb0 hlen hNl hz hcr hb ho
  go_enter Tryd.func34, Tryd.ntmps34
  go_wp2
  go_quiet (fail)
  go_wp2
  go_loopg [4] (N - 1) (fun g v4 wr => ∃ n : Nat, v4 = .int .i64 (n : Int) ∧ Aside0 (g = N - n) ∧ 1 ≤ n ∧ n ≤ N ∧ Drawn0 w wr)
  case atStart => exact ⟨1, rfl, ⟨rfl⟩, by omega, by omega, ⟨⟨_, rfl⟩⟩⟩
  case round =>
    obtain ⟨n, rfl, hg, hn1, hn2, ⟨nw, rfl⟩⟩ := hrel
    by_cases hlt : n < N
    · have hc48 : c ≠ 48 := by
        rintro rfl
        have := HNV.out
        rw [numLen_zero] at this
        omega
      obtain ⟨d, hd1, hd2⟩ := (numLen_at c r hc48 n hn1 (by rw [HNV.out]; omega)).1 (by rw [HNV.out]; exact hlt)
      have hdr : ∃ rest, t.data.toList.drop n = d :: rest := by
        rw [HTL.out]
        cases hh : (c :: r).drop n with
        | nil => rw [← Nat.add_zero n, ← List.getElem?_drop, hh] at hd1; cases hd1
        | cons d' rest => rw [← Nat.add_zero n, ← List.getElem?_drop, hh] at hd1; simp at hd1; exact ⟨rest, by rw [hd1]⟩
      obtain ⟨rest, hdr⟩ := hdr
      obtain ⟨hbn, hbs, _⟩ := bt_of t n d rest hdr
      have hnb : decide (n < t.size) = true := decide_eq_true (by omega)
      have hxn : ∀ h : n < t.size, ((t[n]'h).toNat : Int) = bt t n := bt_at t n
      have hHD := digit_calls d _ hbn
      rw [hd2] at hHD
      have HD0 := Lib.hid hHD
      have h48 : ((bt t 0) != 48) = true := by rw [HB0.out]; exact bne_iff_ne.mpr (fun x => hc48 (UInt8.toNat_inj.mp (by have e : (48 : UInt8).toNat = 48 := rfl; omega)))
      have h48b : ((bt t 0) == 48) = false := by rw [HB0.out]; exact beq_eq_false_iff_ne.mpr (fun x => hc48 (UInt8.toNat_inj.mp (by have e : (48 : UInt8).toNat = 48 := rfl; omega)))
      clear hHD hbn hd1 hd2 hdr hc48
      go_wp2_with (first
  | (go_at_call 33; (with_reducible refine (HD0.out _).mono ?_); rintro e w2 ⟨rfl, ⟨nd, rfl⟩⟩)
  | (go_at_call 39; (with_reducible refine (HL0.out _).mono ?_); rintro e w2 ⟨rfl, ⟨nd, rfl⟩⟩)
  | (go_at_call 43; (with_reducible refine (HPA.out _ (err_drewN HER.out _)).mono ?_); rintro e w2 ⟨rfl, hb2⟩; have HB2 := Lib.hid hb2; clear hb2; have c12 := cell1_below (HR.out.drewN _) HB2.out)
  | (go_at_call 31; (with_reducible refine (HF7.out _).mono ?_); rintro e w3 ⟨rfl, hr3, hb3⟩)
  | (go_at_call 31; (with_reducible refine (HFP.out _ _ HB2.out).mono ?_); rintro e w3 ⟨rfl, hr3, hb3⟩)
  | (go_at_call 32; (refine (HAP.out _ _ HB2.out).mono ?_); rintro e w3 ⟨rfl, hr3, hb3⟩))
      go_roundg (gk - 1)
      case measure => have := hg.out; omega
      case rel => exact ⟨n + 1, by push_cast; rfl, ⟨by have := hg.out; omega⟩, by omega, by omega, ⟨⟨_, rfl⟩⟩⟩
    · have hnN : n = N := by omega
      rw [hnN]
      clear hnN hn1 hn2
      by_cases hc48 : c = 48
      · have h48 : ((bt t 0) != 48) = false := by rw [HB0.out, hc48]; rfl
        have h48b : ((bt t 0) == 48) = true := by rw [HB0.out, hc48]; rfl
        clear hlt hg
        by_cases hNs : N < t.size
        · obtain ⟨d, rest, hdr⟩ : ∃ d rest, t.data.toList.drop N = d :: rest := by
            cases hh : t.data.toList.drop N with
            | nil => rw [List.drop_eq_nil_iff, ← Lib.size_eq] at hh; omega
            | cons d rest => exact ⟨d, rest, rfl⟩
          obtain ⟨hbN, _, _⟩ := bt_of t N d rest hdr
          have hNb : decide (N < t.size) = true := decide_eq_true hNs
          have hxN : ∀ h : N < t.size, ((t[N]'h).toNat : Int) = bt t N := bt_at t N
          have hHD := digit_calls d _ hbN
          have hHL := letter_calls d _ hbN
          have hsd : stands ((c :: r).drop N) = (dig d || letter d) := by rw [← HTL.out, hdr]; rfl
          clear hbN
          by_cases hdd : dig d = true
          · rw [hdd] at hHD
            have HD0 := Lib.hid hHD
            have HL0 := Lib.hid hHL
            have hnum : number (c :: r) = .bad 7 N := by unfold number; rw [HNV.out, if_pos (by rw [hsd, hdd]; rfl)]
            have HNUM := Lib.hid hnum
            clear hnum hsd hHD hHL hdd hdr hNs
            go_wp2_with (first
              | (go_at_call 33; (with_reducible refine (HD0.out _).mono ?_); rintro e w2 ⟨rfl, ⟨nd, rfl⟩⟩)
              | (go_at_call 39; (with_reducible refine (HL0.out _).mono ?_); rintro e w2 ⟨rfl, ⟨nd, rfl⟩⟩)
              | (go_at_call 43; (with_reducible refine (HPA.out _ (err_drewN HER.out _)).mono ?_); rintro e w2 ⟨rfl, hb2⟩; have HB2 := Lib.hid hb2; clear hb2; have c12 := cell1_below (HR.out.drewN _) HB2.out)
              | (go_at_call 31; (with_reducible refine (HF7.out _).mono ?_); rintro e w3 ⟨rfl, hr3, hb3⟩)
              | (go_at_call 31; (with_reducible refine (HFP.out _ _ HB2.out).mono ?_); rintro e w3 ⟨rfl, hr3, hb3⟩)
              | (go_at_call 32; (refine (HAP.out _ _ HB2.out).mono ?_); rintro e w3 ⟨rfl, hr3, hb3⟩))
            go_ret
            exact ⟨(below_draws HBW.out).trans hb3, by rw [HNUM.out]; exact ⟨rfl, hr3⟩⟩
          · have hdf : dig d = false := Bool.eq_false_iff.2 hdd
            rw [hdf] at hHD
            have HD0 := Lib.hid hHD
            by_cases hld : letter d = true
            · rw [hld] at hHL
              have HL0 := Lib.hid hHL
              have hnum : number (c :: r) = .bad 7 N := by unfold number; rw [HNV.out, if_pos (by rw [hsd, hld]; simp)]
              have HNUM := Lib.hid hnum
              clear hnum hsd hHD hHL hld hdf hdr hNs
              go_wp2_with (first
                | (go_at_call 33; (with_reducible refine (HD0.out _).mono ?_); rintro e w2 ⟨rfl, ⟨nd, rfl⟩⟩)
                | (go_at_call 39; (with_reducible refine (HL0.out _).mono ?_); rintro e w2 ⟨rfl, ⟨nd, rfl⟩⟩)
                | (go_at_call 43; (with_reducible refine (HPA.out _ (err_drewN HER.out _)).mono ?_); rintro e w2 ⟨rfl, hb2⟩; have HB2 := Lib.hid hb2; clear hb2; have c12 := cell1_below (HR.out.drewN _) HB2.out)
                | (go_at_call 31; (with_reducible refine (HF7.out _).mono ?_); rintro e w3 ⟨rfl, hr3, hb3⟩)
                | (go_at_call 31; (with_reducible refine (HFP.out _ _ HB2.out).mono ?_); rintro e w3 ⟨rfl, hr3, hb3⟩)
                | (go_at_call 32; (refine (HAP.out _ _ HB2.out).mono ?_); rintro e w3 ⟨rfl, hr3, hb3⟩))
              go_ret
              exact ⟨(below_draws HBW.out).trans hb3, by rw [HNUM.out]; exact ⟨rfl, hr3⟩⟩
            · have hlf : letter d = false := Bool.eq_false_iff.2 hld
              rw [hlf] at hHL
              have HL0 := Lib.hid hHL
              have hst : stands ((c :: r).drop N) = false := by rw [hsd, hdf, hlf]; rfl
              clear hsd hHD hHL hld hlf hdf hdr hNs
              obtain ⟨pv, hpv⟩ : ∃ x, (parseS ((c :: r).take N)).1 = x := ⟨_, rfl⟩
              obtain ⟨pe, hpe⟩ : ∃ x, (parseS ((c :: r).take N)).2 = x := ⟨_, rfl⟩
              have hpa : ∀ w, ErrVar w → Calls Tryd.prog 43 #[.string (t.extract 0 N)] w fun e w' => e = .returned (.tuple #[.int .i64 pv, .int .i64 pe]) ∧ Below w.heap.size w w' := fun w he => by
                have := parse_any (t.extract 0 N) w (by rw [Lib.size_eq, take_data, List.length_take, ← Lib.size_eq]; omega) he
                rw [take_data, HTL.out, hpv, hpe] at this
                exact this
              have HPA := Lib.hid hpa
              clear hpa
              have HFP : Hid (∀ (nq : Nat) (w2 : World), Below (w.drewN nq).heap.size (w.drewN nq) w2 → _) := Lib.hid (fun nq w2 hb => fail_any w2 B b s (q : Int) l why fat pe (q : Int) ((HR.out.drewN nq).below hb))
              have HAP : Hid (∀ (nq : Nat) (w2 : World), Below (w.drewN nq).heap.size (w.drewN nq) w2 → _) := Lib.hid (fun nq w2 hb => add_any w2 B b s (q : Int) l why fat 2 ByteArray.empty pv 0 (N : Int) ((HR.out.drewN nq).below hb) HLL.out (by omega) (by omega) (by omega) (by omega) (Nat.le_trans HBW.out hb.size))
              by_cases hpe0 : pe = 0
              · have hnum : number (c :: r) = .tok 2 [] pv N := by unfold number; rw [HNV.out, if_neg (by rw [hst]; simp), hpv, hpe, if_pos hpe0]
                have HNUM := Lib.hid hnum
                have hpeb : (pe == 0) = true := beq_iff_eq.mpr hpe0
                clear hnum hpv hpe hst hpe0
                go_wp2_with (first
                  | (go_at_call 33; (with_reducible refine (HD0.out _).mono ?_); rintro e w2 ⟨rfl, ⟨nd, rfl⟩⟩)
                  | (go_at_call 39; (with_reducible refine (HL0.out _).mono ?_); rintro e w2 ⟨rfl, ⟨nd, rfl⟩⟩)
                  | (go_at_call 43; (with_reducible refine (HPA.out _ (err_drewN HER.out _)).mono ?_); rintro e w2 ⟨rfl, hb2⟩; have HB2 := Lib.hid hb2; clear hb2; have c12 := cell1_below (HR.out.drewN _) HB2.out)
                  | (go_at_call 31; (with_reducible refine (HF7.out _).mono ?_); rintro e w3 ⟨rfl, hr3, hb3⟩)
                  | (go_at_call 31; (with_reducible refine (HFP.out _ _ HB2.out).mono ?_); rintro e w3 ⟨rfl, hr3, hb3⟩)
                  | (go_at_call 32; (refine (HAP.out _ _ HB2.out).mono ?_); rintro e w3 ⟨rfl, hr3, hb3⟩))
                go_ret
                exact ⟨(below_draws HBW.out).trans ((HB2.out.mono HBW.out).trans hb3), by rw [HNUM.out]; exact ⟨rfl, hr3⟩⟩
              · have hnum : number (c :: r) = .bad pe 0 := by unfold number; rw [HNV.out, if_neg (by rw [hst]; simp), hpe, if_neg hpe0]
                have HNUM := Lib.hid hnum
                have hpeb : (pe == 0) = false := beq_eq_false_iff_ne.mpr hpe0
                have hpec : (pe != 0) = true := bne_iff_ne.mpr hpe0
                clear hnum hpv hpe hst hpe0
                go_wp2_with (first
                  | (go_at_call 33; (with_reducible refine (HD0.out _).mono ?_); rintro e w2 ⟨rfl, ⟨nd, rfl⟩⟩)
                  | (go_at_call 39; (with_reducible refine (HL0.out _).mono ?_); rintro e w2 ⟨rfl, ⟨nd, rfl⟩⟩)
                  | (go_at_call 43; (with_reducible refine (HPA.out _ (err_drewN HER.out _)).mono ?_); rintro e w2 ⟨rfl, hb2⟩; have HB2 := Lib.hid hb2; clear hb2; have c12 := cell1_below (HR.out.drewN _) HB2.out)
                  | (go_at_call 31; (with_reducible refine (HF7.out _).mono ?_); rintro e w3 ⟨rfl, hr3, hb3⟩)
                  | (go_at_call 31; (with_reducible refine (HFP.out _ _ HB2.out).mono ?_); rintro e w3 ⟨rfl, hr3, hb3⟩)
                  | (go_at_call 32; (refine (HAP.out _ _ HB2.out).mono ?_); rintro e w3 ⟨rfl, hr3, hb3⟩))
                go_ret
                exact ⟨(below_draws HBW.out).trans ((HB2.out.mono HBW.out).trans hb3), by rw [HNUM.out]; exact ⟨rfl, hr3⟩⟩
        · have hNb : decide (N < t.size) = false := decide_eq_false hNs
          have hst : stands ((c :: r).drop N) = false := by rw [List.drop_eq_nil_of_le (by rw [HLEN.out]; omega)]; rfl
          clear hNs
          obtain ⟨pv, hpv⟩ : ∃ x, (parseS ((c :: r).take N)).1 = x := ⟨_, rfl⟩
          obtain ⟨pe, hpe⟩ : ∃ x, (parseS ((c :: r).take N)).2 = x := ⟨_, rfl⟩
          have hpa : ∀ w, ErrVar w → Calls Tryd.prog 43 #[.string (t.extract 0 N)] w fun e w' => e = .returned (.tuple #[.int .i64 pv, .int .i64 pe]) ∧ Below w.heap.size w w' := fun w he => by
            have := parse_any (t.extract 0 N) w (by rw [Lib.size_eq, take_data, List.length_take, ← Lib.size_eq]; omega) he
            rw [take_data, HTL.out, hpv, hpe] at this
            exact this
          have HPA := Lib.hid hpa
          clear hpa
          have HFP : Hid (∀ (nq : Nat) (w2 : World), Below (w.drewN nq).heap.size (w.drewN nq) w2 → _) := Lib.hid (fun nq w2 hb => fail_any w2 B b s (q : Int) l why fat pe (q : Int) ((HR.out.drewN nq).below hb))
          have HAP : Hid (∀ (nq : Nat) (w2 : World), Below (w.drewN nq).heap.size (w.drewN nq) w2 → _) := Lib.hid (fun nq w2 hb => add_any w2 B b s (q : Int) l why fat 2 ByteArray.empty pv 0 (N : Int) ((HR.out.drewN nq).below hb) HLL.out (by omega) (by omega) (by omega) (by omega) (Nat.le_trans HBW.out hb.size))
          by_cases hpe0 : pe = 0
          · have hnum : number (c :: r) = .tok 2 [] pv N := by unfold number; rw [HNV.out, if_neg (by rw [hst]; simp), hpv, hpe, if_pos hpe0]
            have HNUM := Lib.hid hnum
            have hpeb : (pe == 0) = true := beq_iff_eq.mpr hpe0
            clear hnum hpv hpe hst hpe0
            go_wp2_with (first
              | (go_at_call 33; (with_reducible refine (HD0.out _).mono ?_); rintro e w2 ⟨rfl, ⟨nd, rfl⟩⟩)
              | (go_at_call 39; (with_reducible refine (HL0.out _).mono ?_); rintro e w2 ⟨rfl, ⟨nd, rfl⟩⟩)
              | (go_at_call 43; (with_reducible refine (HPA.out _ (err_drewN HER.out _)).mono ?_); rintro e w2 ⟨rfl, hb2⟩; have HB2 := Lib.hid hb2; clear hb2; have c12 := cell1_below (HR.out.drewN _) HB2.out)
              | (go_at_call 31; (with_reducible refine (HF7.out _).mono ?_); rintro e w3 ⟨rfl, hr3, hb3⟩)
              | (go_at_call 31; (with_reducible refine (HFP.out _ _ HB2.out).mono ?_); rintro e w3 ⟨rfl, hr3, hb3⟩)
              | (go_at_call 32; (refine (HAP.out _ _ HB2.out).mono ?_); rintro e w3 ⟨rfl, hr3, hb3⟩))
            go_ret
            exact ⟨(below_draws HBW.out).trans ((HB2.out.mono HBW.out).trans hb3), by rw [HNUM.out]; exact ⟨rfl, hr3⟩⟩
          · have hnum : number (c :: r) = .bad pe 0 := by unfold number; rw [HNV.out, if_neg (by rw [hst]; simp), hpe, if_neg hpe0]
            have HNUM := Lib.hid hnum
            have hpeb : (pe == 0) = false := beq_eq_false_iff_ne.mpr hpe0
            have hpec : (pe != 0) = true := bne_iff_ne.mpr hpe0
            clear hnum hpv hpe hst hpe0
            go_wp2_with (first
              | (go_at_call 33; (with_reducible refine (HD0.out _).mono ?_); rintro e w2 ⟨rfl, ⟨nd, rfl⟩⟩)
              | (go_at_call 39; (with_reducible refine (HL0.out _).mono ?_); rintro e w2 ⟨rfl, ⟨nd, rfl⟩⟩)
              | (go_at_call 43; (with_reducible refine (HPA.out _ (err_drewN HER.out _)).mono ?_); rintro e w2 ⟨rfl, hb2⟩; have HB2 := Lib.hid hb2; clear hb2; have c12 := cell1_below (HR.out.drewN _) HB2.out)
              | (go_at_call 31; (with_reducible refine (HF7.out _).mono ?_); rintro e w3 ⟨rfl, hr3, hb3⟩)
              | (go_at_call 31; (with_reducible refine (HFP.out _ _ HB2.out).mono ?_); rintro e w3 ⟨rfl, hr3, hb3⟩)
              | (go_at_call 32; (refine (HAP.out _ _ HB2.out).mono ?_); rintro e w3 ⟨rfl, hr3, hb3⟩))
            go_ret
            exact ⟨(below_draws HBW.out).trans ((HB2.out.mono HBW.out).trans hb3), by rw [HNUM.out]; exact ⟨rfl, hr3⟩⟩
      · have h48 : ((bt t 0) != 48) = true := by rw [HB0.out]; exact bne_iff_ne.mpr (fun x => hc48 (UInt8.toNat_inj.mp (by have e : (48 : UInt8).toNat = 48 := rfl; omega)))
        have h48b : ((bt t 0) == 48) = false := by rw [HB0.out]; exact beq_eq_false_iff_ne.mpr (fun x => hc48 (UInt8.toNat_inj.mp (by have e : (48 : UInt8).toNat = 48 := rfl; omega)))
        clear hlt hg
        by_cases hNs : N < t.size
        · obtain ⟨d, rest, hdr⟩ : ∃ d rest, t.data.toList.drop N = d :: rest := by
            cases hh : t.data.toList.drop N with
            | nil => rw [List.drop_eq_nil_iff, ← Lib.size_eq] at hh; omega
            | cons d rest => exact ⟨d, rest, rfl⟩
          obtain ⟨hbN, _, _⟩ := bt_of t N d rest hdr
          have hNb : decide (N < t.size) = true := decide_eq_true hNs
          have hxN : ∀ h : N < t.size, ((t[N]'h).toNat : Int) = bt t N := bt_at t N
          have hHD := digit_calls d _ hbN
          have hHL := letter_calls d _ hbN
          have hsd : stands ((c :: r).drop N) = (dig d || letter d) := by rw [← HTL.out, hdr]; rfl
          clear hbN
          · have hdf : dig d = false := by
              cases hh : dig d with
              | false => rfl
              | true =>
                have := (numLen_at c r hc48 N (by omega) (by rw [HNV.out]; exact Nat.le_refl _)).2 ⟨d, by have := List.getElem?_drop (xs := t.data.toList) (i := N) (j := 0); rw [Nat.add_zero] at this; rw [← HTL.out, ← this, hdr]; rfl, hh⟩
                rw [HNV.out] at this
                omega
            rw [hdf] at hHD
            have HD0 := Lib.hid hHD
            by_cases hld : letter d = true
            · rw [hld] at hHL
              have HL0 := Lib.hid hHL
              have hnum : number (c :: r) = .bad 7 N := by unfold number; rw [HNV.out, if_pos (by rw [hsd, hld]; simp)]
              have HNUM := Lib.hid hnum
              clear hnum hsd hHD hHL hld hdf hdr hNs
              go_wp2_with (first
                | (go_at_call 33; (with_reducible refine (HD0.out _).mono ?_); rintro e w2 ⟨rfl, ⟨nd, rfl⟩⟩)
                | (go_at_call 39; (with_reducible refine (HL0.out _).mono ?_); rintro e w2 ⟨rfl, ⟨nd, rfl⟩⟩)
                | (go_at_call 43; (with_reducible refine (HPA.out _ (err_drewN HER.out _)).mono ?_); rintro e w2 ⟨rfl, hb2⟩; have HB2 := Lib.hid hb2; clear hb2; have c12 := cell1_below (HR.out.drewN _) HB2.out)
                | (go_at_call 31; (with_reducible refine (HF7.out _).mono ?_); rintro e w3 ⟨rfl, hr3, hb3⟩)
                | (go_at_call 31; (with_reducible refine (HFP.out _ _ HB2.out).mono ?_); rintro e w3 ⟨rfl, hr3, hb3⟩)
                | (go_at_call 32; (refine (HAP.out _ _ HB2.out).mono ?_); rintro e w3 ⟨rfl, hr3, hb3⟩))
              go_ret
              exact ⟨(below_draws HBW.out).trans hb3, by rw [HNUM.out]; exact ⟨rfl, hr3⟩⟩
            · have hlf : letter d = false := Bool.eq_false_iff.2 hld
              rw [hlf] at hHL
              have HL0 := Lib.hid hHL
              have hst : stands ((c :: r).drop N) = false := by rw [hsd, hdf, hlf]; rfl
              clear hsd hHD hHL hld hlf hdf hdr hNs
              obtain ⟨pv, hpv⟩ : ∃ x, (parseS ((c :: r).take N)).1 = x := ⟨_, rfl⟩
              obtain ⟨pe, hpe⟩ : ∃ x, (parseS ((c :: r).take N)).2 = x := ⟨_, rfl⟩
              have hpa : ∀ w, ErrVar w → Calls Tryd.prog 43 #[.string (t.extract 0 N)] w fun e w' => e = .returned (.tuple #[.int .i64 pv, .int .i64 pe]) ∧ Below w.heap.size w w' := fun w he => by
                have := parse_any (t.extract 0 N) w (by rw [Lib.size_eq, take_data, List.length_take, ← Lib.size_eq]; omega) he
                rw [take_data, HTL.out, hpv, hpe] at this
                exact this
              have HPA := Lib.hid hpa
              clear hpa
              have HFP : Hid (∀ (nq : Nat) (w2 : World), Below (w.drewN nq).heap.size (w.drewN nq) w2 → _) := Lib.hid (fun nq w2 hb => fail_any w2 B b s (q : Int) l why fat pe (q : Int) ((HR.out.drewN nq).below hb))
              have HAP : Hid (∀ (nq : Nat) (w2 : World), Below (w.drewN nq).heap.size (w.drewN nq) w2 → _) := Lib.hid (fun nq w2 hb => add_any w2 B b s (q : Int) l why fat 2 ByteArray.empty pv 0 (N : Int) ((HR.out.drewN nq).below hb) HLL.out (by omega) (by omega) (by omega) (by omega) (Nat.le_trans HBW.out hb.size))
              by_cases hpe0 : pe = 0
              · have hnum : number (c :: r) = .tok 2 [] pv N := by unfold number; rw [HNV.out, if_neg (by rw [hst]; simp), hpv, hpe, if_pos hpe0]
                have HNUM := Lib.hid hnum
                have hpeb : (pe == 0) = true := beq_iff_eq.mpr hpe0
                clear hnum hpv hpe hst hpe0
                go_wp2_with (first
                  | (go_at_call 33; (with_reducible refine (HD0.out _).mono ?_); rintro e w2 ⟨rfl, ⟨nd, rfl⟩⟩)
                  | (go_at_call 39; (with_reducible refine (HL0.out _).mono ?_); rintro e w2 ⟨rfl, ⟨nd, rfl⟩⟩)
                  | (go_at_call 43; (with_reducible refine (HPA.out _ (err_drewN HER.out _)).mono ?_); rintro e w2 ⟨rfl, hb2⟩; have HB2 := Lib.hid hb2; clear hb2; have c12 := cell1_below (HR.out.drewN _) HB2.out)
                  | (go_at_call 31; (with_reducible refine (HF7.out _).mono ?_); rintro e w3 ⟨rfl, hr3, hb3⟩)
                  | (go_at_call 31; (with_reducible refine (HFP.out _ _ HB2.out).mono ?_); rintro e w3 ⟨rfl, hr3, hb3⟩)
                  | (go_at_call 32; (refine (HAP.out _ _ HB2.out).mono ?_); rintro e w3 ⟨rfl, hr3, hb3⟩))
                go_ret
                exact ⟨(below_draws HBW.out).trans ((HB2.out.mono HBW.out).trans hb3), by rw [HNUM.out]; exact ⟨rfl, hr3⟩⟩
              · have hnum : number (c :: r) = .bad pe 0 := by unfold number; rw [HNV.out, if_neg (by rw [hst]; simp), hpe, if_neg hpe0]
                have HNUM := Lib.hid hnum
                have hpeb : (pe == 0) = false := beq_eq_false_iff_ne.mpr hpe0
                have hpec : (pe != 0) = true := bne_iff_ne.mpr hpe0
                clear hnum hpv hpe hst hpe0
                go_wp2_with (first
                  | (go_at_call 33; (with_reducible refine (HD0.out _).mono ?_); rintro e w2 ⟨rfl, ⟨nd, rfl⟩⟩)
                  | (go_at_call 39; (with_reducible refine (HL0.out _).mono ?_); rintro e w2 ⟨rfl, ⟨nd, rfl⟩⟩)
                  | (go_at_call 43; (with_reducible refine (HPA.out _ (err_drewN HER.out _)).mono ?_); rintro e w2 ⟨rfl, hb2⟩; have HB2 := Lib.hid hb2; clear hb2; have c12 := cell1_below (HR.out.drewN _) HB2.out)
                  | (go_at_call 31; (with_reducible refine (HF7.out _).mono ?_); rintro e w3 ⟨rfl, hr3, hb3⟩)
                  | (go_at_call 31; (with_reducible refine (HFP.out _ _ HB2.out).mono ?_); rintro e w3 ⟨rfl, hr3, hb3⟩)
                  | (go_at_call 32; (refine (HAP.out _ _ HB2.out).mono ?_); rintro e w3 ⟨rfl, hr3, hb3⟩))
                go_ret
                exact ⟨(below_draws HBW.out).trans ((HB2.out.mono HBW.out).trans hb3), by rw [HNUM.out]; exact ⟨rfl, hr3⟩⟩
        · have hNb : decide (N < t.size) = false := decide_eq_false hNs
          have hst : stands ((c :: r).drop N) = false := by rw [List.drop_eq_nil_of_le (by rw [HLEN.out]; omega)]; rfl
          clear hNs
          obtain ⟨pv, hpv⟩ : ∃ x, (parseS ((c :: r).take N)).1 = x := ⟨_, rfl⟩
          obtain ⟨pe, hpe⟩ : ∃ x, (parseS ((c :: r).take N)).2 = x := ⟨_, rfl⟩
          have hpa : ∀ w, ErrVar w → Calls Tryd.prog 43 #[.string (t.extract 0 N)] w fun e w' => e = .returned (.tuple #[.int .i64 pv, .int .i64 pe]) ∧ Below w.heap.size w w' := fun w he => by
            have := parse_any (t.extract 0 N) w (by rw [Lib.size_eq, take_data, List.length_take, ← Lib.size_eq]; omega) he
            rw [take_data, HTL.out, hpv, hpe] at this
            exact this
          have HPA := Lib.hid hpa
          clear hpa
          have HFP : Hid (∀ (nq : Nat) (w2 : World), Below (w.drewN nq).heap.size (w.drewN nq) w2 → _) := Lib.hid (fun nq w2 hb => fail_any w2 B b s (q : Int) l why fat pe (q : Int) ((HR.out.drewN nq).below hb))
          have HAP : Hid (∀ (nq : Nat) (w2 : World), Below (w.drewN nq).heap.size (w.drewN nq) w2 → _) := Lib.hid (fun nq w2 hb => add_any w2 B b s (q : Int) l why fat 2 ByteArray.empty pv 0 (N : Int) ((HR.out.drewN nq).below hb) HLL.out (by omega) (by omega) (by omega) (by omega) (Nat.le_trans HBW.out hb.size))
          by_cases hpe0 : pe = 0
          · have hnum : number (c :: r) = .tok 2 [] pv N := by unfold number; rw [HNV.out, if_neg (by rw [hst]; simp), hpv, hpe, if_pos hpe0]
            have HNUM := Lib.hid hnum
            have hpeb : (pe == 0) = true := beq_iff_eq.mpr hpe0
            clear hnum hpv hpe hst hpe0
            go_wp2_with (first
              | (go_at_call 33; (with_reducible refine (HD0.out _).mono ?_); rintro e w2 ⟨rfl, ⟨nd, rfl⟩⟩)
              | (go_at_call 39; (with_reducible refine (HL0.out _).mono ?_); rintro e w2 ⟨rfl, ⟨nd, rfl⟩⟩)
              | (go_at_call 43; (with_reducible refine (HPA.out _ (err_drewN HER.out _)).mono ?_); rintro e w2 ⟨rfl, hb2⟩; have HB2 := Lib.hid hb2; clear hb2; have c12 := cell1_below (HR.out.drewN _) HB2.out)
              | (go_at_call 31; (with_reducible refine (HF7.out _).mono ?_); rintro e w3 ⟨rfl, hr3, hb3⟩)
              | (go_at_call 31; (with_reducible refine (HFP.out _ _ HB2.out).mono ?_); rintro e w3 ⟨rfl, hr3, hb3⟩)
              | (go_at_call 32; (refine (HAP.out _ _ HB2.out).mono ?_); rintro e w3 ⟨rfl, hr3, hb3⟩))
            go_ret
            exact ⟨(below_draws HBW.out).trans ((HB2.out.mono HBW.out).trans hb3), by rw [HNUM.out]; exact ⟨rfl, hr3⟩⟩
          · have hnum : number (c :: r) = .bad pe 0 := by unfold number; rw [HNV.out, if_neg (by rw [hst]; simp), hpe, if_neg hpe0]
            have HNUM := Lib.hid hnum
            have hpeb : (pe == 0) = false := beq_eq_false_iff_ne.mpr hpe0
            have hpec : (pe != 0) = true := bne_iff_ne.mpr hpe0
            clear hnum hpv hpe hst hpe0
            go_wp2_with (first
              | (go_at_call 33; (with_reducible refine (HD0.out _).mono ?_); rintro e w2 ⟨rfl, ⟨nd, rfl⟩⟩)
              | (go_at_call 39; (with_reducible refine (HL0.out _).mono ?_); rintro e w2 ⟨rfl, ⟨nd, rfl⟩⟩)
              | (go_at_call 43; (with_reducible refine (HPA.out _ (err_drewN HER.out _)).mono ?_); rintro e w2 ⟨rfl, hb2⟩; have HB2 := Lib.hid hb2; clear hb2; have c12 := cell1_below (HR.out.drewN _) HB2.out)
              | (go_at_call 31; (with_reducible refine (HF7.out _).mono ?_); rintro e w3 ⟨rfl, hr3, hb3⟩)
              | (go_at_call 31; (with_reducible refine (HFP.out _ _ HB2.out).mono ?_); rintro e w3 ⟨rfl, hr3, hb3⟩)
              | (go_at_call 32; (refine (HAP.out _ _ HB2.out).mono ?_); rintro e w3 ⟨rfl, hr3, hb3⟩))
            go_ret
            exact ⟨(below_draws HBW.out).trans ((HB2.out.mono HBW.out).trans hb3), by rw [HNUM.out]; exact ⟨rfl, hr3⟩⟩
end Go.Proofs.YtafndkgoeabehaaDoor.LexNumber
set_option linter.unusedVariables false
namespace Go.Proofs.YtafndkgoeabehaaDoor.LexBuilder
open Go Go.Shelf Go.RowKit
theorem sizeBuilder : (Tryd.prog.info? 57).map (·.size) = some 2 := by kernel_rfl
theorem liesBuilder : liesAt Tryd.prog Tryd.prog.depth 57 (2 / Tryd.prog.cellsOf 57) 0 57 1 = true := by kernel_rfl
theorem infoByte : (Tryd.prog.info? 5).map (fun i => (i.zero, i.size, i.bytes)) = some (some (.int .u8 0), 1, 1) := by kernel_rfl
set_option maxHeartbeats 2000000 in
set_option maxRecDepth 100000 in
theorem copyCheck_used (b : Nat) (w : World) (h0 : w.cell? ⟨b, 0, none⟩ = some (.pointer (some ⟨b, 0, none⟩))) :
    Calls Tryd.prog 54 #[.pointer (some ⟨b, 0, none⟩)] w fun e w' => e = .returned (.tuple #[]) ∧ w' = w := by
  obtain ⟨j, hj, _⟩ := Option.map_eq_some_iff.1 sizeBuilder
  go_enter Tryd.func54, Tryd.ntmps54
  go_wp2
  rw [Lib.run_neq_ptr_same w _ Tryd.underlying55 hj]
  go_wp2
  go_end0
  exact ⟨rfl, rfl⟩
set_option maxHeartbeats 2000000 in
set_option maxRecDepth 100000 in
theorem copyCheck_fresh (b : Nat) (w : World) (h0 : w.cell? ⟨b, 0, none⟩ = some (.pointer none)) (hsh : w.shape? b = some (57, 2)) (hfz : w.frozen? ⟨b, 0, none⟩ = false) :
    Calls Tryd.prog 54 #[.pointer (some ⟨b, 0, none⟩)] w fun e w' => e = .returned (.tuple #[]) ∧ w' = w.setCell ⟨b, 0, none⟩ (.pointer (some ⟨b, 0, none⟩)) := by
  obtain ⟨j, hj, hjs⟩ := Option.map_eq_some_iff.1 sizeBuilder
  go_enter Tryd.func54, Tryd.ntmps54
  go_wp2
  rw [Lib.run_to_unsafe w ⟨b, 0, none⟩ Tryd.underlying55 Tryd.underlying80 hj (by rw [hjs]; decide) hsh (Nat.zero_lt_succ 1)]
  simp only [Result.andThen]
  rw [Oper.upon_value]
  go_wp2
  rw [run_callFunc_extern Tryd.func66 (by kernel_rfl) (by kernel_rfl) (by kernel_rfl) (e := Extern.AbiNoEscape.same) (by kernel_rfl)]
  rw [Lib.run_noEscape]
  simp only [Result.andThen]
  rw [Oper.upon_value]
  go_wp2
  rw [Lib.run_from_unsafe w ⟨b, 0, none⟩ Tryd.underlying80 Tryd.underlying55 hj hsh liesBuilder]
  simp only [Result.andThen]
  rw [Oper.upon_value]
  go_wp2
  go_end0
  exact ⟨rfl, rfl⟩
theorem copyCheck (B b : Nat) (bs : List Value) (w : World) (h : Lib.IsBuilder 57 5 B b bs w) :
    Calls Tryd.prog 54 #[.pointer (some ⟨b, 0, none⟩)] w fun e w' => e = .returned (.tuple #[]) ∧ (Lib.BuilderAt 57 5 B b (.pointer (some ⟨b, 0, none⟩)) bs w' ∧ Below B w w') := by
  rcases h with h | h
  · refine (copyCheck_fresh b w h.cell0 h.shape h.frozen0).mono ?_
    rintro e w' ⟨rfl, rfl⟩
    exact ⟨rfl, h.used _, (Below.refl B w).setCell (p := ⟨b, 0, none⟩) h.1 _⟩
  · refine (copyCheck_used b w h.cell0).mono ?_
    rintro e w' ⟨rfl, rfl⟩
    exact ⟨rfl, h, Below.refl B _⟩
set_option maxHeartbeats 2000000 in
set_option maxRecDepth 100000 in
theorem WriteByte (B b : Nat) (bs : List Value) (c : Int) (w : World) (h : Lib.IsBuilder 57 5 B b bs w) (hlen : bs.length + 1 ≤ 140737488355328) (hBw : B ≤ w.heap.size) :
    Calls Tryd.prog 45 #[.pointer (some ⟨b, 0, none⟩), .int .u8 c] w fun e w' => e = .returned .nilIface ∧ (Lib.BuilderAt 57 5 B b (.pointer (some ⟨b, 0, none⟩)) (bs ++ [.int .u8 c]) w' ∧ Below B w w') := by
  obtain ⟨i0, hi, hz0, hz1, hz2⟩ := info_parts infoByte
  go_enter Tryd.func45, Tryd.ntmps45
  go_wp2_with (go_at_call 54; refine (copyCheck B b bs _ h).mono ?_)
  rintro e w1 ⟨rfl, h1, hb1⟩
  obtain ⟨hB, v, hbk, hown, hne⟩ := h1
  have c0 : w1.cell? ⟨b, 0, none⟩ = some (.pointer (some ⟨b, 0, none⟩)) := by rw [Lib.cell_of_heap hbk]; rfl
  have c1 : w1.cell? ⟨b, 1, none⟩ = some v := by rw [Lib.cell_of_heap hbk]; rfl
  go_wp2_with (at_builtin; refine wpList_append_own _ rfl _ _ 52 rfl B 5 i0 (.int .u8 0) 1 1 Tryd.underlying52 hi hz0 hz1 hz2 rfl (by decide) _ _ _ rfl (hown.alloc _) ⟨w1.heap.size, 0, none⟩ 1 1 [.int .u8 c] rfl rfl ?c1 ?c2 ?c3 ?c4 ?c5 ?_)
  case c1 =>
    intro j u hj
    match j, hj with
    | 0, hj => simp at hj; subst hj; simp [Addr.add]
  case c2 => intro u hu; simp at hu; subst hu; rfl
  case c3 => unfold maxLen; omega
  case c4 => omega
  case c5 => have := hb1.size; simp; omega
  intro v' w2 hown' hgrow _
  have hlt : b < w1.heap.size := by
    rcases Nat.lt_or_ge b w1.heap.size with h' | h'
    · exact h'
    · simp [Array.getElem?_eq_none h'] at hbk
  have hb2 : w2.heap[b]? = some (.cells #[.pointer (some ⟨b, 0, none⟩), v] 57 (0, 0)) := by
    rw [hgrow.block b (by simp; omega) (fun e => hne e.symm), Lib.alloc_old w1 _ b hlt]
    exact hbk
  have d0 : w2.cell? ⟨b, 0, none⟩ = some (.pointer (some ⟨b, 0, none⟩)) := by rw [Lib.cell_of_heap hb2]; rfl
  have d1 : w2.cell? ⟨b, 1, none⟩ = some v := by rw [Lib.cell_of_heap hb2]; rfl
  have f1 : w2.frozen? ⟨b, 1, none⟩ = false := Lib.frozen_of_heap hb2 1
  obtain ⟨g, cap, rfl⟩ : ∃ g cap, v' = .slice (some ⟨g, 0, none⟩) (bs.length + 1) cap := by
    rcases hown'.2 with ⟨_, h0⟩ | ⟨g, cap, cur, hv, _⟩
    · omega
    · exact ⟨g, cap, hv⟩
  go_wp2
  go_ret
  refine ⟨rfl, ?_, ?_⟩
  · exact Lib.BuilderAt.put (T := 57) (e := 5) hB hb2 (bs' := bs ++ [.int .u8 c]) (by simpa using hown') (by decide)
  · exact ((hb1.alloc (by have := hb1.size; omega) _).grown hgrow (by have := hb1.size; simp; omega) (fun k hk => (hown.lt k hk).1)).setCell (p := ⟨b, 1, none⟩) hB _
end Go.Proofs.YtafndkgoeabehaaDoor.LexBuilder
namespace Go.Proofs.YtafndkgoeabehaaDoor.LexText
open Go Go.RowKit Go.Proofs.YtafndkgoeabehaaDoor.NumPure Go.Proofs.YtafndkgoeabehaaDoor.NumRead Go.Proofs.YtafndkgoeabehaaDoor.LexPure Go.Proofs.YtafndkgoeabehaaDoor.LexGap Go.Proofs.YtafndkgoeabehaaDoor.LexMem Go.Proofs.YtafndkgoeabehaaDoor.LexWord Go.Proofs.YtafndkgoeabehaaDoor.LexGaps Go.Proofs.YtafndkgoeabehaaDoor.LexTook Go.Proofs.YtafndkgoeabehaaDoorW.PrintWords
theorem byteCells_snoc1 (l : List UInt8) (c : UInt8) : Lib.byteCells (l ++ [c]) = Lib.byteCells l ++ [.int .u8 (c.toNat : Int)] := by rw [Lib.byteCells_append]; rfl
theorem wb_calls {B b : Nat} {bu : List UInt8} {w : World} (h : Lib.IsBuilder 57 5 B b (Lib.byteCells bu) w) (hl : bu.length ≤ 65536) (hB : B ≤ w.heap.size) (c : UInt8) (x : Int) (hx : x = c.toNat) :
    Calls Tryd.prog 45 #[.pointer (some ⟨b, 0, none⟩), .int .u8 x] w fun e w' => e = .returned .nilIface ∧ Lib.IsBuilder 57 5 B b (Lib.byteCells (bu ++ [c])) w' ∧ Below B w w' := by
  subst hx
  refine (LexBuilder.WriteByte B b (Lib.byteCells bu) (c.toNat : Int) w h (by rw [Lib.byteCells_length]; omega) hB).mono ?_
  rintro e w' ⟨rfl, h1, h2⟩
  exact ⟨rfl, .inr (by rw [byteCells_snoc1]; exact h1), h2⟩
theorem esc_index (d : UInt8) : Lib.indexByte [34, 92, 110, 116] d = match esc d with | none => -1 | some e => if e = 34 then 0 else if e = 92 then 1 else if e = 10 then 2 else 3 := by
  have h : ∀ n : Fin 256, Lib.indexByte [34, 92, 110, 116] (UInt8.ofNat n.val) = match esc (UInt8.ofNat n.val) with | none => -1 | some e => if e = 34 then 0 else if e = 92 then 1 else if e = 10 then 2 else 3 := by decide +kernel
  have := h ⟨d.toNat, d.toNat_lt⟩
  simpa using this
theorem esc_some {d e : UInt8} (h : esc d = some e) : e = 34 ∨ e = 92 ∨ e = 10 ∨ e = 9 := by
  unfold esc at h
  split at h
  · injection h with h; exact .inl h.symm
  · split at h
    · injection h with h; exact .inr (.inl h.symm)
    · split at h
      · injection h with h; exact .inr (.inr (.inl h.symm))
      · split at h
        · injection h with h; exact .inr (.inr (.inr h.symm))
        · cases h
theorem text_cons (b : List UInt8) (i : Nat) (c : UInt8) (r : List UInt8) : text b i (c :: r) = if c = 34 then .tok 3 b 0 (i + 1) else if c = 10 then .bad 7 i else if c = 92 then (match r with | [] => .bad 7 i | d :: r' => match esc d with | none => .bad 7 i | some e => text (b ++ [e]) (i + 2) r') else text (b ++ [c]) (i + 1) r := by
  cases r with
  | nil => rfl
  | cons d r => rfl
set_option maxRecDepth 100000 in
set_option maxHeartbeats 4000000 in
theorem text_any (w : World) (B b : Nat) (s : ByteArray) (q : Nat) (l : List Tk) (why fat : Int) (r : List UInt8) (h : RS w B b s (q : Int) l why fat) (hq : q ≤ s.size) (hs : s.size ≤ 65536) (hBw : B ≤ w.heap.size) (hl : l.length ≤ 65536) (hcr : s.data.toList.drop q = 34 :: r) :
    Calls Tryd.prog 35 #[.pointer (some ⟨b, 0, none⟩)] w fun e w' => Below B w w' ∧ Took w' e B b s q l why fat (text [] 1 r) := by
  have hz : s.size = s.data.toList.length := Lib.size_eq s
  obtain ⟨h0, v, hb, ho⟩ := id h
  have c0 := hb.cell 0
  have c1 := hb.cell 1
  simp at c0 c1
  have hblt := hb.lt
  obtain ⟨t, ht⟩ : ∃ t, s.extract q s.size = t := ⟨_, rfl⟩
  have htl : t.data.toList = 34 :: r := by rw [← ht, drop_data s q, hcr]
  have htz : t.size = s.size - q := by rw [Lib.size_eq, ← ht, drop_data, List.length_drop, ← hz]
  have htb : t.size ≤ 65536 := by omega
  have hz1 : 1 ≤ t.size := by rw [Lib.size_eq, htl]; simp
  have hq65 : q ≤ 65536 := by omega
  have HIB0 := Lib.hid (Lib.fresh_isBuilder 57 5 w)
  have HR0 := Lib.hid (h.alloc (.cells #[.pointer none, .slice none 0 0] 57))
  have HBL0 := Lib.hid ((Below.refl w.heap.size w).alloc (Nat.le_refl _) (.cells #[.pointer none, .slice none 0 0] 57))
  have HR := Lib.hid h
  have HBW := Lib.hid hBw
  have HLL := Lib.hid hl
  have HTZ := Lib.hid htz
  have HTL := Lib.hid htl
  clear h hBw hl htz htl hz hcr hb ho
  go_enter Tryd.func35, Tryd.ntmps35
  go_wp2
  go_quiet (fail)
  go_wp2
  obtain ⟨B0, hB0⟩ : ∃ n, w.heap.size = n := ⟨_, rfl⟩
  have HB0 := Lib.hid hB0
  rw [hB0] at HIB0 HBL0
  rw [hB0]
  have HRB : Hid (∀ w', Below B0 w w' → RS w' B b s (q : Int) l why fat) := Lib.hid (fun w' hb => HR.out.below (by rw [hB0]; exact hb))
  have HCC : Hid (∀ w', Below B0 w w' → w'.cell? ⟨b, 1, none⟩ = some (.int .i64 q)) := Lib.hid (fun w' hb => cell1_below HR.out (by rw [hB0]; exact hb))
  clear hB0
  go_loopg [5] (t.size - 1) (fun g v5 wr => ∃ (n : Nat) (bu : List UInt8), v5 = .int .i64 (n : Int) ∧ Hid (g = t.size - n) ∧ 1 ≤ n ∧ n ≤ t.size ∧ Hid (text [] 1 r = text bu n (t.data.toList.drop n)) ∧ Hid (bu.length ≤ n) ∧ Hid (Lib.IsBuilder 57 5 B0 B0 (Lib.byteCells bu) wr) ∧ Hid (RS wr B b s (q : Int) l why fat) ∧ Hid (Below B0 w wr))
  case atStart => exact ⟨1, [], rfl, Lib.hid rfl, Nat.le_refl _, hz1, Lib.hid (by rw [HTL.out]; rfl), Lib.hid (Nat.zero_le _), HIB0, HR0, Lib.hid (below_drewN HBL0.out _)⟩
  case round =>
    obtain ⟨n, bu, rfl, hg, hn1, hn2, HTX, HBU, HIB, HRr, HBL⟩ := hrel
    clear c0 c1 HIB0 HR0 HBL0
    obtain ⟨h0, v, hb, ho⟩ := id HRr.out
    have c0 := hb.cell 0
    have c1 := hb.cell 1
    simp at c0 c1
    clear hb ho
    have hbl2 : Below B w wr := HBL.out.mono (HB0.out ▸ HBW.out)
    have HBB := Lib.hid hbl2
    have HF0 := Lib.hid (fail_any wr B b s (q : Int) l why fat 7 (q : Int) HRr.out)
    have HF := Lib.hid (fail_any wr B b s (q : Int) l why fat 7 ((q : Int) + (n : Int)) HRr.out)
    clear hbl2
    cases hdr : t.data.toList.drop n with
    | nil =>
      have hnz : n = t.size := by rw [List.drop_eq_nil_iff, ← Lib.size_eq] at hdr; omega
      have hnum := Lib.hid (show text [] 1 r = .bad 7 0 by rw [HTX.out, hdr]; rfl)
      have hnb : decide (n < t.size) = false := decide_eq_false (by omega)
      clear hnz hdr hg hn1 hn2
      go_wp2_with (first
        | (go_at_call 28; (with_reducible refine (HI.out _).mono ?_); rintro e w2 ⟨rfl, rfl⟩)
        | (go_at_call 45; (with_reducible refine HWB.out.mono ?_); rintro e w2 ⟨rfl, hbu2, hb2⟩)
        | (go_at_call 44; (with_reducible refine HST.out.mono ?_); rintro e w2 ⟨rfl, hb2⟩; have HB2 := Lib.hid hb2; clear hb2; have c12 := HCC.out _ (HBL.out.trans HB2.out))
        | (go_at_call 31; (with_reducible refine HF.out.mono ?_); rintro e w3 ⟨rfl, hr3, hb3⟩)
        | (go_at_call 31; (with_reducible refine HF0.out.mono ?_); rintro e w3 ⟨rfl, hr3, hb3⟩)
        | (go_at_call 32; refine (add_any _ B b s (q : Int) l why fat 3 ⟨bu.toArray⟩ 0 0 ((n : Int) + 1) (HRB.out _ (HBL.out.trans HB2.out)) HLL.out (by omega) (by omega) (by omega) (by omega) (Nat.le_trans (Nat.le_trans HBW.out (Nat.le_trans HBL.out.size (Nat.le_refl _))) HB2.out.size)).mono ?_; rintro e w3 ⟨rfl, hr3, hb3⟩))
      go_ret
      exact ⟨HBB.out.trans hb3, by rw [hnum.out]; exact ⟨rfl, hr3⟩⟩
    | cons c rest =>
      have hn : n < t.size := by rcases Nat.lt_or_ge n t.size with h | h; exact h; rw [List.drop_eq_nil_of_le (by rw [← Lib.size_eq]; exact h)] at hdr; cases hdr
      obtain ⟨hbn, _, hdr2⟩ := bt_of t n c rest hdr
      have hnb : decide (n < t.size) = true := decide_eq_true hn
      have hxn : ∀ h : n < t.size, ((t[n]'h).toNat : Int) = bt t n := bt_at t n
      have htxt := text_cons bu n c rest
      rw [← hdr, ← HTX.out] at htxt
      have HTT := Lib.hid htxt
      clear htxt
      by_cases h34 : c = 34
      · subst h34
        have hbn' : bt t n = 34 := hbn
        have hnum := Lib.hid (show text [] 1 r = .tok 3 bu 0 (n + 1) by rw [HTT.out]; rfl)
        have HST := Lib.hid (Tryd.Builder_String_any B0 B0 bu wr HIB.out (Nat.le_trans (Nat.le_of_eq HB0.out.symm) (HB0.out ▸ HBL.out.size)))
        have hn65 : (n : Int) + 1 ≤ 65536 := by omega
        have hn0 : 0 ≤ (n : Int) + 1 := by omega
        have HBR : Hid (B ≤ wr.heap.size) := Lib.hid (Nat.le_trans HBW.out HBB.out.size)
        have HLB := Lib.hid (Nat.le_of_eq HB0.out.symm)
        clear hbn hdr hdr2 hg HTT
        go_wp2_with (first
          | (go_at_call 28; (with_reducible refine (HI.out _).mono ?_); rintro e w2 ⟨rfl, rfl⟩)
          | (go_at_call 45; (with_reducible refine HWB.out.mono ?_); rintro e w2 ⟨rfl, hbu2, hb2⟩)
          | (go_at_call 44; (with_reducible refine HST.out.mono ?_); rintro e w2 ⟨rfl, hb2⟩; have HB2 := Lib.hid hb2; clear hb2; have c12 := HCC.out _ (HBL.out.trans HB2.out))
          | (go_at_call 31; (with_reducible refine HF.out.mono ?_); rintro e w3 ⟨rfl, hr3, hb3⟩)
          | (go_at_call 31; (with_reducible refine HF0.out.mono ?_); rintro e w3 ⟨rfl, hr3, hb3⟩)
          | (go_at_call 32; refine (add_any _ B b s (q : Int) l why fat 3 ⟨bu.toArray⟩ 0 0 ((n : Int) + 1) (HRB.out _ (HBL.out.trans HB2.out)) HLL.out (by omega) (by omega) (by omega) (by omega) (Nat.le_trans (Nat.le_trans HBW.out (Nat.le_trans HBL.out.size (Nat.le_refl _))) HB2.out.size)).mono ?_; rintro e w3 ⟨rfl, hr3, hb3⟩))
        go_ret
        exact ⟨HBB.out.trans ((HB2.out.mono (HB0.out ▸ HBW.out)).trans hb3), by rw [hnum.out]; exact ⟨rfl, hr3⟩⟩
      · have h34b : (bt t n == 34) = false := by rw [hbn]; exact beq_eq_false_iff_ne.mpr (fun x => h34 (UInt8.toNat_inj.mp (by have e : (34 : UInt8).toNat = 34 := rfl; omega)))
        by_cases h10 : c = 10
        · subst h10
          have hbn' : bt t n = 10 := hbn
          have hnum := Lib.hid (show text [] 1 r = .bad 7 n by rw [HTT.out]; rfl)
          clear hbn hdr hdr2 hg HTT h34 h34b
          go_wp2_with (first
            | (go_at_call 28; (with_reducible refine (HI.out _).mono ?_); rintro e w2 ⟨rfl, rfl⟩)
            | (go_at_call 45; (with_reducible refine HWB.out.mono ?_); rintro e w2 ⟨rfl, hbu2, hb2⟩)
            | (go_at_call 44; (with_reducible refine HST.out.mono ?_); rintro e w2 ⟨rfl, hb2⟩; have HB2 := Lib.hid hb2; clear hb2; have c12 := HCC.out _ (HBL.out.trans HB2.out))
            | (go_at_call 31; (with_reducible refine HF.out.mono ?_); rintro e w3 ⟨rfl, hr3, hb3⟩)
            | (go_at_call 31; (with_reducible refine HF0.out.mono ?_); rintro e w3 ⟨rfl, hr3, hb3⟩)
            | (go_at_call 32; refine (add_any _ B b s (q : Int) l why fat 3 ⟨bu.toArray⟩ 0 0 ((n : Int) + 1) (HRB.out _ (HBL.out.trans HB2.out)) HLL.out (by omega) (by omega) (by omega) (by omega) (Nat.le_trans (Nat.le_trans HBW.out (Nat.le_trans HBL.out.size (Nat.le_refl _))) HB2.out.size)).mono ?_; rintro e w3 ⟨rfl, hr3, hb3⟩))
          go_ret
          exact ⟨HBB.out.trans hb3, by rw [hnum.out]; exact ⟨rfl, hr3⟩⟩
        · have h10b : (bt t n == 10) = false := by rw [hbn]; exact beq_eq_false_iff_ne.mpr (fun x => h10 (UInt8.toNat_inj.mp (by have e : (10 : UInt8).toNat = 10 := rfl; omega)))
          by_cases h92 : c = 92
          · subst h92
            have hbn' : bt t n = 92 := hbn
            cases rest with
            | nil =>
              have hnum := Lib.hid (show text [] 1 r = .bad 7 n by rw [HTT.out]; rfl)
              have hn1b : decide (n + 1 < t.size) = false := decide_eq_false (by rw [List.drop_eq_nil_iff, ← Lib.size_eq] at hdr2; omega)
              have hn1c : decide ((n : Int) + 1 < (t.size : Int)) = false := decide_eq_false (by rw [List.drop_eq_nil_iff, ← Lib.size_eq] at hdr2; omega)
              clear hbn hdr hdr2 hg HTT h34 h34b h10 h10b
              go_wp2_with (first
                | (go_at_call 28; (with_reducible refine (HI.out _).mono ?_); rintro e w2 ⟨rfl, rfl⟩)
                | (go_at_call 45; (with_reducible refine HWB.out.mono ?_); rintro e w2 ⟨rfl, hbu2, hb2⟩)
                | (go_at_call 44; (with_reducible refine HST.out.mono ?_); rintro e w2 ⟨rfl, hb2⟩; have HB2 := Lib.hid hb2; clear hb2; have c12 := HCC.out _ (HBL.out.trans HB2.out))
                | (go_at_call 31; (with_reducible refine HF.out.mono ?_); rintro e w3 ⟨rfl, hr3, hb3⟩)
                | (go_at_call 31; (with_reducible refine HF0.out.mono ?_); rintro e w3 ⟨rfl, hr3, hb3⟩)
                | (go_at_call 32; refine (add_any _ B b s (q : Int) l why fat 3 ⟨bu.toArray⟩ 0 0 ((n : Int) + 1) (HRB.out _ (HBL.out.trans HB2.out)) HLL.out (by omega) (by omega) (by omega) (by omega) (Nat.le_trans (Nat.le_trans HBW.out (Nat.le_trans HBL.out.size (Nat.le_refl _))) HB2.out.size)).mono ?_; rintro e w3 ⟨rfl, hr3, hb3⟩))
              go_ret
              exact ⟨HBB.out.trans hb3, by rw [hnum.out]; exact ⟨rfl, hr3⟩⟩
            | cons d rest =>
              have hnn : n + 1 < t.size := by rcases Nat.lt_or_ge (n + 1) t.size with h | h; exact h; rw [List.drop_eq_nil_of_le (by rw [← Lib.size_eq]; exact h)] at hdr2; cases hdr2
              obtain ⟨hbd, _, hdr3⟩ := bt_of t (n + 1) d rest hdr2
              push_cast at hbd
              have hn1b : decide (n + 1 < t.size) = true := decide_eq_true hnn
              have hn1c : decide ((n : Int) + 1 < (t.size : Int)) = true := decide_eq_true (by omega)
              have hxd : ∀ h : n + 1 < t.size, ((t[n + 1]'h).toNat : Int) = bt t ((n : Int) + 1) := by have := bt_at t (n + 1); push_cast at this; exact this
              have hI : ∀ w, Calls Tryd.prog 28 #[.string ⟨#[34, 92, 110, 116]⟩, .int .u8 (bt t ((n : Int) + 1))] w fun e w' => e = .returned (.int .i64 (Lib.indexByte [34, 92, 110, 116] d)) ∧ w' = w := fun w => by
                have := Tryd.strings_IndexByte ⟨#[34, 92, 110, 116]⟩ (bt t ((n : Int) + 1)) w
                have hc : (bt t ((n : Int) + 1)).toNat.toUInt8 = d := by rw [hbd, Int.toNat_natCast]; exact UInt8.ofNat_toNat
                rw [hc] at this
                exact this
              rw [esc_index] at hI
              have HTT2 := Lib.hid (show text [] 1 r = match esc d with | none => .bad 7 n | some e => text (bu ++ [e]) (n + 2) rest by rw [HTT.out]; rfl)
              cases hed : esc d with
              | none =>
                rw [hed] at hI
                have HI := Lib.hid hI
                have hnum := Lib.hid (show text [] 1 r = .bad 7 n by rw [HTT2.out, hed])
                clear hI hed HTT2 hbd hbn hdr hdr2 hdr3 hg HTT h34 h34b h10 h10b
                go_wp2_with (first
                  | (go_at_call 28; (with_reducible refine (HI.out _).mono ?_); rintro e w2 ⟨rfl, rfl⟩)
                  | (go_at_call 45; (with_reducible refine HWB.out.mono ?_); rintro e w2 ⟨rfl, hbu2, hb2⟩)
                  | (go_at_call 44; (with_reducible refine HST.out.mono ?_); rintro e w2 ⟨rfl, hb2⟩; have HB2 := Lib.hid hb2; clear hb2; have c12 := HCC.out _ (HBL.out.trans HB2.out))
                  | (go_at_call 31; (with_reducible refine HF.out.mono ?_); rintro e w3 ⟨rfl, hr3, hb3⟩)
                  | (go_at_call 31; (with_reducible refine HF0.out.mono ?_); rintro e w3 ⟨rfl, hr3, hb3⟩)
                  | (go_at_call 32; refine (add_any _ B b s (q : Int) l why fat 3 ⟨bu.toArray⟩ 0 0 ((n : Int) + 1) (HRB.out _ (HBL.out.trans HB2.out)) HLL.out (by omega) (by omega) (by omega) (by omega) (Nat.le_trans (Nat.le_trans HBW.out (Nat.le_trans HBL.out.size (Nat.le_refl _))) HB2.out.size)).mono ?_; rintro e w3 ⟨rfl, hr3, hb3⟩))
                go_ret
                exact ⟨HBB.out.trans hb3, by rw [hnum.out]; exact ⟨rfl, hr3⟩⟩
              | some x =>
                rw [hed] at hI
                have hx := esc_some hed
                have hnum := Lib.hid (show text [] 1 r = text (bu ++ [x]) (n + 2) (t.data.toList.drop (n + 2)) by rw [HTT2.out, hed, hdr3])
                clear hed HTT2 hbd hbn hdr hdr2 hdr3 HTT h34 h34b h10 h10b
                rcases hx with rfl | rfl | rfl | rfl
                · have HI := Lib.hid hI
                  have HWB := Lib.hid (wb_calls (B := B0) (b := B0) HIB.out (by have := HBU.out; omega) (Nat.le_trans (Nat.le_of_eq HB0.out.symm) (HB0.out ▸ HBL.out.size)) 34 ((((⟨#[34, 92, 10, 9]⟩ : ByteArray)[0]'(by decide)).toNat : Nat) : Int) rfl)
                  clear hI
                  go_wp2_with (first
                    | (go_at_call 28; (with_reducible refine (HI.out _).mono ?_); rintro e w2 ⟨rfl, rfl⟩)
                    | (go_at_call 45; (with_reducible refine HWB.out.mono ?_); rintro e w2 ⟨rfl, hbu2, hb2⟩)
                    | (go_at_call 44; (with_reducible refine HST.out.mono ?_); rintro e w2 ⟨rfl, hb2⟩; have HB2 := Lib.hid hb2; clear hb2; have c12 := H34.out _ (HBL.out.trans HB2.out))
                    | (go_at_call 31; (with_reducible refine HF.out.mono ?_); rintro e w3 ⟨rfl, hr3, hb3⟩)
                    | (go_at_call 31; (with_reducible refine HF0.out.mono ?_); rintro e w3 ⟨rfl, hr3, hb3⟩)
                    | (go_at_call 32; refine (add_any _ B b s (q : Int) l why fat 3 ⟨bu.toArray⟩ 0 0 ((n : Int) + 1) (HRB.out _ (HBL.out.trans HB2.out)) HLL.out (by omega) (by omega) (by omega) (by omega) (Nat.le_trans (Nat.le_trans HBW.out (Nat.le_trans HBL.out.size (Nat.le_refl _))) HB2.out.size)).mono ?_; rintro e w3 ⟨rfl, hr3, hb3⟩))
                  go_roundg (gk - 2)
                  case measure => have := hg.out; omega
                  case rel => exact ⟨n + 2, bu ++ [34], by push_cast; rfl, Lib.hid (by have := hg.out; omega), by omega, by omega, hnum, Lib.hid (by rw [List.length_append]; have := HBU.out; simp; omega), Lib.hid hbu2, Lib.hid (HRB.out _ (HBL.out.trans hb2)), Lib.hid (HBL.out.trans hb2)⟩
                · have HI := Lib.hid hI
                  have HWB := Lib.hid (wb_calls (B := B0) (b := B0) HIB.out (by have := HBU.out; omega) (Nat.le_trans (Nat.le_of_eq HB0.out.symm) (HB0.out ▸ HBL.out.size)) 92 ((((⟨#[34, 92, 10, 9]⟩ : ByteArray)[1]'(by decide)).toNat : Nat) : Int) rfl)
                  clear hI
                  go_wp2_with (first
                    | (go_at_call 28; (with_reducible refine (HI.out _).mono ?_); rintro e w2 ⟨rfl, rfl⟩)
                    | (go_at_call 45; (with_reducible refine HWB.out.mono ?_); rintro e w2 ⟨rfl, hbu2, hb2⟩)
                    | (go_at_call 44; (with_reducible refine HST.out.mono ?_); rintro e w2 ⟨rfl, hb2⟩; have HB2 := Lib.hid hb2; clear hb2; have c12 := H92.out _ (HBL.out.trans HB2.out))
                    | (go_at_call 31; (with_reducible refine HF.out.mono ?_); rintro e w3 ⟨rfl, hr3, hb3⟩)
                    | (go_at_call 31; (with_reducible refine HF0.out.mono ?_); rintro e w3 ⟨rfl, hr3, hb3⟩)
                    | (go_at_call 32; refine (add_any _ B b s (q : Int) l why fat 3 ⟨bu.toArray⟩ 0 0 ((n : Int) + 1) (HRB.out _ (HBL.out.trans HB2.out)) HLL.out (by omega) (by omega) (by omega) (by omega) (Nat.le_trans (Nat.le_trans HBW.out (Nat.le_trans HBL.out.size (Nat.le_refl _))) HB2.out.size)).mono ?_; rintro e w3 ⟨rfl, hr3, hb3⟩))
                  go_roundg (gk - 2)
                  case measure => have := hg.out; omega
                  case rel => exact ⟨n + 2, bu ++ [92], by push_cast; rfl, Lib.hid (by have := hg.out; omega), by omega, by omega, hnum, Lib.hid (by rw [List.length_append]; have := HBU.out; simp; omega), Lib.hid hbu2, Lib.hid (HRB.out _ (HBL.out.trans hb2)), Lib.hid (HBL.out.trans hb2)⟩
                · have HI := Lib.hid hI
                  have HWB := Lib.hid (wb_calls (B := B0) (b := B0) HIB.out (by have := HBU.out; omega) (Nat.le_trans (Nat.le_of_eq HB0.out.symm) (HB0.out ▸ HBL.out.size)) 10 ((((⟨#[34, 92, 10, 9]⟩ : ByteArray)[2]'(by decide)).toNat : Nat) : Int) rfl)
                  clear hI
                  go_wp2_with (first
                    | (go_at_call 28; (with_reducible refine (HI.out _).mono ?_); rintro e w2 ⟨rfl, rfl⟩)
                    | (go_at_call 45; (with_reducible refine HWB.out.mono ?_); rintro e w2 ⟨rfl, hbu2, hb2⟩)
                    | (go_at_call 44; (with_reducible refine HST.out.mono ?_); rintro e w2 ⟨rfl, hb2⟩; have HB2 := Lib.hid hb2; clear hb2; have c12 := H10.out _ (HBL.out.trans HB2.out))
                    | (go_at_call 31; (with_reducible refine HF.out.mono ?_); rintro e w3 ⟨rfl, hr3, hb3⟩)
                    | (go_at_call 31; (with_reducible refine HF0.out.mono ?_); rintro e w3 ⟨rfl, hr3, hb3⟩)
                    | (go_at_call 32; refine (add_any _ B b s (q : Int) l why fat 3 ⟨bu.toArray⟩ 0 0 ((n : Int) + 1) (HRB.out _ (HBL.out.trans HB2.out)) HLL.out (by omega) (by omega) (by omega) (by omega) (Nat.le_trans (Nat.le_trans HBW.out (Nat.le_trans HBL.out.size (Nat.le_refl _))) HB2.out.size)).mono ?_; rintro e w3 ⟨rfl, hr3, hb3⟩))
                  go_roundg (gk - 2)
                  case measure => have := hg.out; omega
                  case rel => exact ⟨n + 2, bu ++ [10], by push_cast; rfl, Lib.hid (by have := hg.out; omega), by omega, by omega, hnum, Lib.hid (by rw [List.length_append]; have := HBU.out; simp; omega), Lib.hid hbu2, Lib.hid (HRB.out _ (HBL.out.trans hb2)), Lib.hid (HBL.out.trans hb2)⟩
                · have HI := Lib.hid hI
                  have HWB := Lib.hid (wb_calls (B := B0) (b := B0) HIB.out (by have := HBU.out; omega) (Nat.le_trans (Nat.le_of_eq HB0.out.symm) (HB0.out ▸ HBL.out.size)) 9 ((((⟨#[34, 92, 10, 9]⟩ : ByteArray)[3]'(by decide)).toNat : Nat) : Int) rfl)
                  clear hI
                  go_wp2_with (first
                    | (go_at_call 28; (with_reducible refine (HI.out _).mono ?_); rintro e w2 ⟨rfl, rfl⟩)
                    | (go_at_call 45; (with_reducible refine HWB.out.mono ?_); rintro e w2 ⟨rfl, hbu2, hb2⟩)
                    | (go_at_call 44; (with_reducible refine HST.out.mono ?_); rintro e w2 ⟨rfl, hb2⟩; have HB2 := Lib.hid hb2; clear hb2; have c12 := H9.out _ (HBL.out.trans HB2.out))
                    | (go_at_call 31; (with_reducible refine HF.out.mono ?_); rintro e w3 ⟨rfl, hr3, hb3⟩)
                    | (go_at_call 31; (with_reducible refine HF0.out.mono ?_); rintro e w3 ⟨rfl, hr3, hb3⟩)
                    | (go_at_call 32; refine (add_any _ B b s (q : Int) l why fat 3 ⟨bu.toArray⟩ 0 0 ((n : Int) + 1) (HRB.out _ (HBL.out.trans HB2.out)) HLL.out (by omega) (by omega) (by omega) (by omega) (Nat.le_trans (Nat.le_trans HBW.out (Nat.le_trans HBL.out.size (Nat.le_refl _))) HB2.out.size)).mono ?_; rintro e w3 ⟨rfl, hr3, hb3⟩))
                  go_roundg (gk - 2)
                  case measure => have := hg.out; omega
                  case rel => exact ⟨n + 2, bu ++ [9], by push_cast; rfl, Lib.hid (by have := hg.out; omega), by omega, by omega, hnum, Lib.hid (by rw [List.length_append]; have := HBU.out; simp; omega), Lib.hid hbu2, Lib.hid (HRB.out _ (HBL.out.trans hb2)), Lib.hid (HBL.out.trans hb2)⟩
          · have h92b : (bt t n == 92) = false := by rw [hbn]; exact beq_eq_false_iff_ne.mpr (fun x => h92 (UInt8.toNat_inj.mp (by have e : (92 : UInt8).toNat = 92 := rfl; omega)))
            have hnum := Lib.hid (show text [] 1 r = text (bu ++ [c]) (n + 1) (t.data.toList.drop (n + 1)) by rw [HTT.out, if_neg h34, if_neg h10, if_neg h92, hdr2])
            have HWB := Lib.hid (wb_calls (B := B0) (b := B0) HIB.out (by have := HBU.out; omega) (Nat.le_trans (Nat.le_of_eq HB0.out.symm) (HB0.out ▸ HBL.out.size)) c _ hbn)
            clear hbn hdr hdr2 HTT h34 h10 h92
            go_wp2_with (first
              | (go_at_call 28; (with_reducible refine (HI.out _).mono ?_); rintro e w2 ⟨rfl, rfl⟩)
              | (go_at_call 45; (with_reducible refine HWB.out.mono ?_); rintro e w2 ⟨rfl, hbu2, hb2⟩)
              | (go_at_call 44; (with_reducible refine HST.out.mono ?_); rintro e w2 ⟨rfl, hb2⟩; have HB2 := Lib.hid hb2; clear hb2; have c12 := Hc.out _ (HBL.out.trans HB2.out))
              | (go_at_call 31; (with_reducible refine HF.out.mono ?_); rintro e w3 ⟨rfl, hr3, hb3⟩)
              | (go_at_call 31; (with_reducible refine HF0.out.mono ?_); rintro e w3 ⟨rfl, hr3, hb3⟩)
              | (go_at_call 32; refine (add_any _ B b s (q : Int) l why fat 3 ⟨bu.toArray⟩ 0 0 ((n : Int) + 1) (HRB.out _ (HBL.out.trans HB2.out)) HLL.out (by omega) (by omega) (by omega) (by omega) (Nat.le_trans (Nat.le_trans HBW.out (Nat.le_trans HBL.out.size (Nat.le_refl _))) HB2.out.size)).mono ?_; rintro e w3 ⟨rfl, hr3, hb3⟩))
            go_roundg (gk - 1)
            case measure => have := hg.out; omega
            case rel => exact ⟨n + 1, bu ++ [c], by push_cast; rfl, Lib.hid (by have := hg.out; omega), by omega, by omega, hnum, Lib.hid (by rw [List.length_append]; have := HBU.out; simp; omega), Lib.hid hbu2, Lib.hid (HRB.out _ (HBL.out.trans hb2)), Lib.hid (HBL.out.trans hb2)⟩
end Go.Proofs.YtafndkgoeabehaaDoor.LexText
