/- Texts laid one behind the other: ShelfMore, Spec, Mono, Base, Builder. No condition beyond theirs. -/
import Derived.Shelf.Strings.Builder1
import Derived.Shelf.Small.Utf8
import Derived.Shelf.Small.Strs
import Derived.Shelf.Utf8.RuneCount
import Derived.Shelf.Strconv.Atoi
import Derived.Shelf.Strconv.Itoa0
import Derived.Shelf.Strconv.Itoa1
import Derived.Shelf.LaysM
import Derived.Shelf.Strconv.Itoa2
import Derived.Shelf.Strconv.Itoa3
import Derived.Shelf.Strconv.Itoa4
import Derived.Shelf.Strconv.AtoiErrFast
import Derived.Shelf.Strconv.ParseIntEmpty
import Derived.Shelf.Strconv.AtoiFail
import Derived.Shelf.Strconv.Clone
import Derived.Shelf.Strconv.SyntaxError
import Derived.Shelf.LaysC
import Derived.Shelf.Strconv.ToError
import Derived.Shelf.Strconv.Lower
import Derived.Shelf.Strconv.ParseUint10
import Derived.Shelf.Strconv.ParseUint10Empty
import Derived.Shelf.Strconv.ParseUint10Any
import Derived.Shelf.Strconv.ParseInt10
import Derived.Shelf.Strconv.AtoiLong
import Derived.Shelf.Strconv.AtoiInnerAll
import Derived.Shelf.Strconv.RangeError
import Derived.Shelf.Strconv.ToErrorRange
import Derived.Shelf.Strconv.AtoiAll
import Derived.Shelf.Strconv.ParseUintEmpty
import Derived.Shelf.Strconv.ParseUint10b64
import Derived.Shelf.Strconv.ParseUint10b32
import Derived.Shelf.Strconv.ParseUint10b16
import Derived.Shelf.Strconv.ParseUint10b8
import Derived.Shelf.Strconv.ParseUint10At
import Derived.Shelf.Strconv.ParseInt10At64
import Derived.Shelf.Strconv.ParseInt10At32
import Derived.Shelf.Strconv.ParseInt10At16
import Derived.Shelf.Strconv.ParseInt10At8
import Derived.Shelf.Strconv.ParseInt10All
import Derived.Shelf.Strconv.ParseIntPublic10
import Derived.Shelf.Strconv.ErrVarParseInt
import Derived.Shelf.Strings.Search1
import Derived.Shelf.Strings.Search2
import Derived.Shelf.Strings.Search3
import Derived.Shelf.Strings.Cut
import Derived.Shelf.Strings.Count
import Derived.Shelf.Strings.Shaped
import Derived.Shelf.Strings.Split
import Derived.Shelf.Strings.Fields
import Derived.Shelf.Strings.SplitShaped
import Derived.Shelf.Unicode.Latin
import Derived.Shelf.Unicode.Decode
import Derived.Shelf.Strings.Runes
import Derived.Shelf.Strings.RuneCount
import Derived.Shelf.Strings.IndexAny
import Derived.Shelf.Strings.AsciiSet
import Derived.Shelf.Strings.IndexAnyAll
import Derived.Shelf.Strings.Explode
import Derived.Shelf.Unicode.DecodeSlow
import Derived.Shelf.Unicode.DecodeAny
import Derived.Shelf.Unicode.Is16White
import Derived.Shelf.Unicode.IsSpaceAny
import Derived.Shelf.Unicode.Is16Any
import Derived.Shelf.Unicode.Is32Any
import Derived.Shelf.Unicode.ExclAny
import Derived.Shelf.Slices.Turned
import Derived.Test.YthkgjohhbdipcaaDoorProg
import Derived.WalkKit
import Derived.Lib.Hide
import Derived.WalkLawsBesides
import Derived.WalkSpells
import Derived.MapKept
import Derived.Lib.Builder
import Derived.Lib.UnsafeStr
import Derived.Lib.AppendStr
import Derived.Laws.Externs
import Derived.KernelRfl
set_option linter.all false
namespace Go.Proofs
open Go.Shelf
def Tryd.lays119_ren : Go.Shelf.Ren := ⟨fun | 119 => 93 | n => n, fun | 21 => 21 | 4 => 4 | n => n, fun | n => n⟩
theorem Tryd.lays119 : Go.Proofs.Lays.n119 Tryd.prog Tryd.lays119_ren := {
  mixed := by kernel_rfl
  f119 := Tryd.func93.trans (congrArg some (by kernel_rfl))
  t4 := Tryd.underlying4
  a4 := Tryd.isAgg4
  z4 := Tryd.sizeOf4
  v4 := Tryd.zeroValue4
  t21 := Tryd.underlying21
  a21 := Tryd.isAgg21
  z21 := Tryd.sizeOf21
  v21 := Tryd.zeroValue21 }
theorem Tryd.utf8_ValidRune (r : Int) (w : World) :
    Calls Tryd.prog 93 #[.int .i32 r] w fun e w' => e = .returned (.bool (Lib.validRune r)) ∧ w' = w := Any.utf8_ValidRune Tryd.lays119 r w
def Tryd.lays137_ren : Go.Shelf.Ren := ⟨fun | 137 => 92 | 217 => 100 | 266 => 113 | n => n, fun | 9 => 9 | 5 => 5 | 3 => 3 | n => n, fun | n => n⟩
theorem Tryd.lays137 : Go.Proofs.Lays.n137 Tryd.prog Tryd.lays137_ren := {
  mixed := by kernel_rfl
  f137 := Tryd.func92.trans (congrArg some (by kernel_rfl))
  f217 := Tryd.func100.trans (congrArg some (by kernel_rfl))
  f266 := Tryd.func113.trans (congrArg some (by kernel_rfl))
  t3 := Tryd.underlying3
  a3 := Tryd.isAgg3
  z3 := Tryd.sizeOf3
  v3 := Tryd.zeroValue3
  t5 := Tryd.underlying5
  a5 := Tryd.isAgg5
  z5 := Tryd.sizeOf5
  v5 := Tryd.zeroValue5
  t9 := Tryd.underlying9
  a9 := Tryd.isAgg9
  z9 := Tryd.sizeOf9
  v9 := Tryd.zeroValue9 }
open Go.RowKit in
theorem Tryd.strings_IndexByte (s : ByteArray) (c : Int) (w : World) :
    Calls Tryd.prog 92 #[.string s, .int .u8 c] w fun e w' => e = .returned (.int .i64 (Lib.indexByte s.data.toList c.toNat.toUInt8)) ∧ w' = w := Any.strings_IndexByte Tryd.lays137 s c w
def Tryd.laysC172_ren : Go.Shelf.Ren := ⟨fun | 172 => 63 | 244 => 80 | 245 => 81 | 247 => 84 | 279 => 96 | 280 => 97 | 281 => 98 | 282 => 99 | 287 => 104 | 316 => 111 | 171 => 34 | 205 => 112 | 321 => 115 | 322 => 116 | 243 => 60 | 246 => 72 | 283 => 85 | 284 => 86 | 285 => 87 | 286 => 88 | 129 => 106 | 317 => 105 | 318 => 107 | 319 => 108 | 320 => 109 | 337 => 117 | 338 => 118 | n => n, fun | 9 => 9 | 3 => 3 | 75 => 66 | 76 => 67 | 4 => 4 | 5 => 5 | 167 => 144 | 37 => 41 | 0 => 0 | 85 => 112 | 2 => 2 | 168 => 145 | 53 => 133 | 175 => 159 | 46 => 142 | 210 => 167 | 127 => 103 | 145 => 181 | 143 => 179 | 21 => 21 | 171 => 132 | 173 => 136 | 212 => 162 | 51 => 129 | 20 => 20 | 213 => 163 | 232 => 182 | 233 => 183 | 80 => 74 | n => n, fun | 15 => 4 | 16 => 5 | 17 => 3 | 18 => 8 | 19 => 9 | n => n⟩
theorem Tryd.laysC172 : Go.Proofs.LaysC.n172 Tryd.prog Tryd.laysC172_ren := {
  mixed := by kernel_rfl
  f129 := Tryd.func106.trans (congrArg some (by kernel_rfl))
  f171 := Tryd.func34.trans (congrArg some (by kernel_rfl))
  f172 := Tryd.func63.trans (congrArg some (by kernel_rfl))
  f205 := Tryd.func112.trans (congrArg some (by kernel_rfl))
  f243 := Tryd.func60.trans (congrArg some (by kernel_rfl))
  f244 := Tryd.func80.trans (congrArg some (by kernel_rfl))
  f245 := Tryd.func81.trans (congrArg some (by kernel_rfl))
  f246 := Tryd.func72.trans (congrArg some (by kernel_rfl))
  f247 := Tryd.func84.trans (congrArg some (by kernel_rfl))
  f279 := Tryd.func96.trans (congrArg some (by kernel_rfl))
  f280 := Tryd.func97.trans (congrArg some (by kernel_rfl))
  f281 := Tryd.func98.trans (congrArg some (by kernel_rfl))
  f282 := Tryd.func99.trans (congrArg some (by kernel_rfl))
  f283 := Tryd.func85.trans (congrArg some (by kernel_rfl))
  f284 := Tryd.func86.trans (congrArg some (by kernel_rfl))
  f285 := Tryd.func87.trans (congrArg some (by kernel_rfl))
  f286 := Tryd.func88.trans (congrArg some (by kernel_rfl))
  f287 := Tryd.func104.trans (congrArg some (by kernel_rfl))
  f316 := Tryd.func111.trans (congrArg some (by kernel_rfl))
  f317 := Tryd.func105.trans (congrArg some (by kernel_rfl))
  f318 := Tryd.func107.trans (congrArg some (by kernel_rfl))
  f319 := Tryd.func108.trans (congrArg some (by kernel_rfl))
  f320 := Tryd.func109.trans (congrArg some (by kernel_rfl))
  f321 := Tryd.func115.trans (congrArg some (by kernel_rfl))
  f322 := Tryd.func116.trans (congrArg some (by kernel_rfl))
  f337 := Tryd.func117.trans (congrArg some (by kernel_rfl))
  f338 := Tryd.func118.trans (congrArg some (by kernel_rfl))
  t0 := Tryd.underlying0
  a0 := Tryd.isAgg0
  z0 := Tryd.sizeOf0
  v0 := Tryd.zeroValue0
  t2 := Tryd.underlying2
  a2 := Tryd.isAgg2
  z2 := Tryd.sizeOf2
  v2 := Tryd.zeroValue2
  t3 := Tryd.underlying3
  a3 := Tryd.isAgg3
  z3 := Tryd.sizeOf3
  v3 := Tryd.zeroValue3
  t4 := Tryd.underlying4
  a4 := Tryd.isAgg4
  z4 := Tryd.sizeOf4
  v4 := Tryd.zeroValue4
  t5 := Tryd.underlying5
  a5 := Tryd.isAgg5
  z5 := Tryd.sizeOf5
  v5 := Tryd.zeroValue5
  t9 := Tryd.underlying9
  a9 := Tryd.isAgg9
  z9 := Tryd.sizeOf9
  v9 := Tryd.zeroValue9
  t20 := Tryd.underlying20
  a20 := Tryd.isAgg20
  z20 := Tryd.sizeOf20
  v20 := Tryd.zeroValue20
  t21 := Tryd.underlying21
  a21 := Tryd.isAgg21
  z21 := Tryd.sizeOf21
  v21 := Tryd.zeroValue21
  t37 := Tryd.underlying41
  a37 := Tryd.isAgg41
  z37 := Tryd.sizeOf41
  v37 := Tryd.zeroValue41
  t46 := Tryd.underlying142
  a46 := Tryd.isAgg142
  z46 := Tryd.sizeOf142
  v46 := Tryd.zeroValue142
  t51 := Tryd.underlying129
  a51 := Tryd.isAgg129
  z51 := Tryd.sizeOf129
  v51 := Tryd.zeroValue129
  t53 := Tryd.underlying133
  a53 := Tryd.isAgg133
  z53 := Tryd.sizeOf133
  v53 := Tryd.zeroValue133
  t75 := Tryd.underlying66
  a75 := Tryd.isAgg66
  z75 := Tryd.sizeOf66
  v75 := Tryd.zeroValue66
  t76 := Tryd.underlying67
  a76 := Tryd.isAgg67
  z76 := Tryd.sizeOf67
  v76 := Tryd.zeroValue67
  t85 := Tryd.underlying112
  a85 := Tryd.isAgg112
  z85 := Tryd.sizeOf112
  v85 := Tryd.zeroValue112
  t127 := Tryd.underlying103
  a127 := Tryd.isAgg103
  z127 := Tryd.sizeOf103
  v127 := Tryd.zeroValue103
  t143 := Tryd.underlying179
  a143 := Tryd.isAgg179
  z143 := Tryd.sizeOf179
  v143 := Tryd.zeroValue179
  t145 := Tryd.underlying181
  a145 := Tryd.isAgg181
  z145 := Tryd.sizeOf181
  v145 := Tryd.zeroValue181
  t167 := Tryd.underlying144
  a167 := Tryd.isAgg144
  z167 := Tryd.sizeOf144
  v167 := Tryd.zeroValue144
  t168 := Tryd.underlying145
  a168 := Tryd.isAgg145
  z168 := Tryd.sizeOf145
  v168 := Tryd.zeroValue145
  t171 := Tryd.underlying132
  a171 := Tryd.isAgg132
  z171 := Tryd.sizeOf132
  v171 := Tryd.zeroValue132
  t173 := Tryd.underlying136
  a173 := Tryd.isAgg136
  z173 := Tryd.sizeOf136
  v173 := Tryd.zeroValue136
  t175 := Tryd.underlying159
  a175 := Tryd.isAgg159
  z175 := Tryd.sizeOf159
  v175 := Tryd.zeroValue159
  t210 := Tryd.underlying167
  a210 := Tryd.isAgg167
  z210 := Tryd.sizeOf167
  v210 := Tryd.zeroValue167
  t212 := Tryd.underlying162
  a212 := Tryd.isAgg162
  z212 := Tryd.sizeOf162
  v212 := Tryd.zeroValue162
  t213 := Tryd.underlying163
  a213 := Tryd.isAgg163
  z213 := Tryd.sizeOf163
  t232 := Tryd.underlying182
  a232 := Tryd.isAgg182
  z232 := Tryd.sizeOf182
  v232 := Tryd.zeroValue182
  t233 := Tryd.underlying183
  a233 := Tryd.isAgg183
  z233 := Tryd.sizeOf183
  v233 := Tryd.zeroValue183
  g15 := by kernel_rfl
  g16 := by kernel_rfl
  g17 := by kernel_rfl
  g18 := by kernel_rfl
  g19 := by kernel_rfl
  t80 := Tryd.underlying74
  a80 := Tryd.isAgg74
  z80 := Tryd.sizeOf74
  v80 := Tryd.zeroValue74
  i0 := by kernel_rfl
  i2 := by kernel_rfl
  i3 := by kernel_rfl
  i4 := by kernel_rfl
  i5 := by kernel_rfl
  i9 := by kernel_rfl
  i20 := by kernel_rfl
  i21 := by kernel_rfl
  i37 := by kernel_rfl
  i46 := by kernel_rfl
  i51 := by kernel_rfl
  i53 := by kernel_rfl
  i75 := by kernel_rfl
  i76 := by kernel_rfl
  i80 := by kernel_rfl
  i85 := by kernel_rfl
  i127 := by kernel_rfl
  i143 := by kernel_rfl
  i145 := by kernel_rfl
  i167 := by kernel_rfl
  i168 := by kernel_rfl
  i171 := by kernel_rfl
  i173 := by kernel_rfl
  i175 := by kernel_rfl
  i210 := by kernel_rfl
  i212 := by kernel_rfl
  i232 := by kernel_rfl
  i233 := by kernel_rfl
  m15 := by kernel_rfl
  m16 := by kernel_rfl
  m17 := by kernel_rfl
  m18 := by kernel_rfl
  m19 := by kernel_rfl
  c0 := by kernel_rfl
  c2 := by kernel_rfl
  c3 := by kernel_rfl
  c4 := by kernel_rfl
  c5 := by kernel_rfl
  c9 := by kernel_rfl
  c20 := by kernel_rfl
  c21 := by kernel_rfl
  c37 := by kernel_rfl
  c46 := by kernel_rfl
  c51 := by kernel_rfl
  c53 := by kernel_rfl
  c75 := by kernel_rfl
  c76 := by kernel_rfl
  c80 := by kernel_rfl
  c85 := by kernel_rfl
  c127 := by kernel_rfl
  c143 := by kernel_rfl
  c145 := by kernel_rfl
  c167 := by kernel_rfl
  c168 := by kernel_rfl
  c171 := by kernel_rfl
  c173 := by kernel_rfl
  c175 := by kernel_rfl
  c210 := by kernel_rfl
  c212 := by kernel_rfl
  c213 := by kernel_rfl
  c232 := by kernel_rfl
  c233 := by kernel_rfl }
open Go.RowKit in
theorem Tryd.strconv_Atoi_ok (s : ByteArray) (hmax : s.size ≤ 9223372036854775806) (v : Int) (h : Lib.atoiAll s.data.toList = .ok v) (w : World) :
    Calls Tryd.prog 63 #[.string s] w fun e w' => e = .returned (.tuple #[.int .i64 v, .nilIface]) ∧ (w' = w ∨ ∃ t, w' = Lib.bytesWorld w 5 t) := Any.strconv_Atoi_ok Tryd.laysC172 s hmax v h w
open Go.RowKit in
theorem Tryd.strconv_Atoi_range (s : ByteArray) (hlim : s.size ≤ 281474976710656) (h : Lib.atoiAll s.data.toList = .range) (ev : Value) (w : World) (hv : w.cell? ⟨5, 0, none⟩ = some ev) (hev : ev = .nilIface ∨ ∃ te pe, ev = .iface te pe) :
    Calls Tryd.prog 63 #[.string s] w fun e w' => ∃ N, e = .returned (.tuple #[.int .i64 (Lib.atoiSat s.data.toList), .iface 145 (.pointer (some ⟨N, 0, none⟩))]) ∧ w.heap.size ≤ N ∧ w'.heap[N]? = some (.cells #[.string ⟨#[65, 116, 111, 105]⟩, .string s, ev] 167 (0, 0)) ∧ Below w.heap.size w w' := Any.strconv_Atoi_range Tryd.laysC172 s hlim h ev w hv hev
def Tryd.lays221_ren : Go.Shelf.Ren := ⟨fun | 221 => 61 | 268 => 73 | 138 => 74 | 143 => 75 | 195 => 89 | 197 => 90 | 218 => 91 | 219 => 82 | 260 => 110 | 217 => 100 | 225 => 95 | 224 => 94 | 267 => 101 | 266 => 113 | 314 => 114 | n => n, fun | 9 => 9 | 3 => 3 | 31 => 69 | 4 => 4 | 0 => 0 | 105 => 139 | 21 => 21 | 5 => 5 | 46 => 142 | 119 => 109 | 139 => 178 | 138 => 177 | 146 => 169 | 51 => 129 | n => n, fun | 1 => 2 | 3 => 6 | 4 => 7 | n => n⟩
theorem Tryd.lays221 : Go.Proofs.Lays.n221 Tryd.prog Tryd.lays221_ren := {
  mixed := by kernel_rfl
  f138 := Tryd.func74.trans (congrArg some (by kernel_rfl))
  f143 := Tryd.func75.trans (congrArg some (by kernel_rfl))
  f195 := Tryd.func89.trans (congrArg some (by kernel_rfl))
  f197 := Tryd.func90.trans (congrArg some (by kernel_rfl))
  f217 := Tryd.func100.trans (congrArg some (by kernel_rfl))
  f218 := Tryd.func91.trans (congrArg some (by kernel_rfl))
  f219 := Tryd.func82.trans (congrArg some (by kernel_rfl))
  f221 := Tryd.func61.trans (congrArg some (by kernel_rfl))
  f224 := Tryd.func94.trans (congrArg some (by kernel_rfl))
  f225 := Tryd.func95.trans (congrArg some (by kernel_rfl))
  f260 := Tryd.func110.trans (congrArg some (by kernel_rfl))
  f266 := Tryd.func113.trans (congrArg some (by kernel_rfl))
  f267 := Tryd.func101.trans (congrArg some (by kernel_rfl))
  f268 := Tryd.func73.trans (congrArg some (by kernel_rfl))
  f314 := Tryd.func114.trans (congrArg some (by kernel_rfl))
  t0 := Tryd.underlying0
  a0 := Tryd.isAgg0
  z0 := Tryd.sizeOf0
  v0 := Tryd.zeroValue0
  t3 := Tryd.underlying3
  a3 := Tryd.isAgg3
  z3 := Tryd.sizeOf3
  v3 := Tryd.zeroValue3
  t4 := Tryd.underlying4
  a4 := Tryd.isAgg4
  z4 := Tryd.sizeOf4
  v4 := Tryd.zeroValue4
  t5 := Tryd.underlying5
  a5 := Tryd.isAgg5
  z5 := Tryd.sizeOf5
  v5 := Tryd.zeroValue5
  t9 := Tryd.underlying9
  a9 := Tryd.isAgg9
  z9 := Tryd.sizeOf9
  v9 := Tryd.zeroValue9
  t21 := Tryd.underlying21
  a21 := Tryd.isAgg21
  z21 := Tryd.sizeOf21
  v21 := Tryd.zeroValue21
  t31 := Tryd.underlying69
  a31 := Tryd.isAgg69
  z31 := Tryd.sizeOf69
  v31 := Tryd.zeroValue69
  t46 := Tryd.underlying142
  a46 := Tryd.isAgg142
  z46 := Tryd.sizeOf142
  v46 := Tryd.zeroValue142
  t51 := Tryd.underlying129
  a51 := Tryd.isAgg129
  z51 := Tryd.sizeOf129
  v51 := Tryd.zeroValue129
  t105 := Tryd.underlying139
  a105 := Tryd.isAgg139
  z105 := Tryd.sizeOf139
  v105 := Tryd.zeroValue139
  t119 := Tryd.underlying109
  a119 := Tryd.isAgg109
  z119 := Tryd.sizeOf109
  t138 := Tryd.underlying177
  a138 := Tryd.isAgg177
  z138 := Tryd.sizeOf177
  v138 := Tryd.zeroValue177
  t139 := Tryd.underlying178
  a139 := Tryd.isAgg178
  z139 := Tryd.sizeOf178
  v139 := Tryd.zeroValue178
  t146 := Tryd.underlying169
  a146 := Tryd.isAgg169
  z146 := Tryd.sizeOf169
  v146 := Tryd.zeroValue169
  g1 := by kernel_rfl
  g3 := by kernel_rfl
  g4 := by kernel_rfl }
open Go.RowKit Go.Lib in
theorem Tryd.strings_genSplit (s sep : ByteArray) (sv : Nat) (n : Int) (N : Nat) (m : Int) (w : World) (hs : s.size < 4294967281) (hm : w.cell? ⟨2, 0, none⟩ = some (.int .i64 m)) (h1 : 1 ≤ sep.size) (hsv : sv ≤ sep.size) (hn0 : n ≠ 0) (hn63 : n ≤ 9223372036854775807) (hN : (N : Int) = min (if n < 0 then (Lib.countB s sep : Int) + 1 else n) ((s.size : Int) + 1)) :
    Calls Tryd.prog 61 #[.string s, .string sep, .int .i64 sv, .int .i64 n] w fun e w' =>
      e = .returned (.slice (some ⟨w.heap.size, 0, none⟩) (Lib.splitB sep sv (N - 1) s).length N) ∧ w' = w.alloc (.cells (Lib.cellsOf (Lib.splitB sep sv (N - 1) s) N) 9) := Any.strings_genSplit Tryd.lays221 (by kernel_rfl) s sep sv n N m w hs hm h1 hsv hn0 hn63 hN
def Tryd.lays197_ren : Go.Shelf.Ren := ⟨fun | 197 => 90 | 260 => 110 | n => n, fun | 9 => 9 | 21 => 21 | 3 => 3 | 4 => 4 | 5 => 5 | 105 => 139 | 119 => 109 | 0 => 0 | 46 => 142 | 139 => 178 | 138 => 177 | n => n, fun | 3 => 6 | 4 => 7 | n => n⟩
theorem Tryd.lays197 : Go.Proofs.Lays.n197 Tryd.prog Tryd.lays197_ren := {
  mixed := by kernel_rfl
  f197 := Tryd.func90.trans (congrArg some (by kernel_rfl))
  f260 := Tryd.func110.trans (congrArg some (by kernel_rfl))
  t0 := Tryd.underlying0
  a0 := Tryd.isAgg0
  z0 := Tryd.sizeOf0
  v0 := Tryd.zeroValue0
  t3 := Tryd.underlying3
  a3 := Tryd.isAgg3
  z3 := Tryd.sizeOf3
  v3 := Tryd.zeroValue3
  t4 := Tryd.underlying4
  a4 := Tryd.isAgg4
  z4 := Tryd.sizeOf4
  v4 := Tryd.zeroValue4
  t5 := Tryd.underlying5
  a5 := Tryd.isAgg5
  z5 := Tryd.sizeOf5
  v5 := Tryd.zeroValue5
  t9 := Tryd.underlying9
  a9 := Tryd.isAgg9
  z9 := Tryd.sizeOf9
  v9 := Tryd.zeroValue9
  t21 := Tryd.underlying21
  a21 := Tryd.isAgg21
  z21 := Tryd.sizeOf21
  v21 := Tryd.zeroValue21
  t46 := Tryd.underlying142
  a46 := Tryd.isAgg142
  z46 := Tryd.sizeOf142
  v46 := Tryd.zeroValue142
  t105 := Tryd.underlying139
  a105 := Tryd.isAgg139
  z105 := Tryd.sizeOf139
  v105 := Tryd.zeroValue139
  t119 := Tryd.underlying109
  a119 := Tryd.isAgg109
  z119 := Tryd.sizeOf109
  t138 := Tryd.underlying177
  a138 := Tryd.isAgg177
  z138 := Tryd.sizeOf177
  v138 := Tryd.zeroValue177
  t139 := Tryd.underlying178
  a139 := Tryd.isAgg178
  z139 := Tryd.sizeOf178
  v139 := Tryd.zeroValue178
  g3 := by kernel_rfl
  g4 := by kernel_rfl }
def Tryd.lays152_ren : Go.Shelf.Ren := ⟨fun | 152 => 76 | 137 => 92 | 119 => 93 | 224 => 94 | 225 => 95 | 217 => 100 | 266 => 113 | n => n, fun | 9 => 9 | 21 => 21 | 3 => 3 | 4 => 4 | 5 => 5 | 0 => 0 | 46 => 142 | n => n, fun | n => n⟩
theorem Tryd.lays152 : Go.Proofs.Lays.n152 Tryd.prog Tryd.lays152_ren := {
  mixed := by kernel_rfl
  f119 := Tryd.func93.trans (congrArg some (by kernel_rfl))
  f137 := Tryd.func92.trans (congrArg some (by kernel_rfl))
  f152 := Tryd.func76.trans (congrArg some (by kernel_rfl))
  f217 := Tryd.func100.trans (congrArg some (by kernel_rfl))
  f224 := Tryd.func94.trans (congrArg some (by kernel_rfl))
  f225 := Tryd.func95.trans (congrArg some (by kernel_rfl))
  f266 := Tryd.func113.trans (congrArg some (by kernel_rfl))
  t0 := Tryd.underlying0
  a0 := Tryd.isAgg0
  z0 := Tryd.sizeOf0
  v0 := Tryd.zeroValue0
  t3 := Tryd.underlying3
  a3 := Tryd.isAgg3
  z3 := Tryd.sizeOf3
  v3 := Tryd.zeroValue3
  t4 := Tryd.underlying4
  a4 := Tryd.isAgg4
  z4 := Tryd.sizeOf4
  v4 := Tryd.zeroValue4
  t5 := Tryd.underlying5
  a5 := Tryd.isAgg5
  z5 := Tryd.sizeOf5
  v5 := Tryd.zeroValue5
  t9 := Tryd.underlying9
  a9 := Tryd.isAgg9
  z9 := Tryd.sizeOf9
  v9 := Tryd.zeroValue9
  t21 := Tryd.underlying21
  a21 := Tryd.isAgg21
  z21 := Tryd.sizeOf21
  v21 := Tryd.zeroValue21
  t46 := Tryd.underlying142
  a46 := Tryd.isAgg142
  z46 := Tryd.sizeOf142
  v46 := Tryd.zeroValue142 }
open Go.RowKit Go.Lib in
theorem Tryd.strings_IndexRune_ascii (s : ByteArray) (r : Int) (w : World) (h0 : 0 ≤ r) (h1 : r < 128) :
    Calls Tryd.prog 76 #[.string s, .int .i32 r] w fun e w' => e = .returned (.int .i64 (Lib.indexByte s.data.toList r.toNat.toUInt8)) ∧ w' = w := Any.strings_IndexRune_ascii Tryd.lays152 s r w h0 h1
def Tryd.lays226_ren : Go.Shelf.Ren := ⟨fun | 226 => 77 | n => n, fun | 3 => 3 | 4 => 4 | n => n, fun | n => n⟩
theorem Tryd.lays226 : Go.Proofs.Lays.n226 Tryd.prog Tryd.lays226_ren := {
  mixed := by kernel_rfl
  f226 := Tryd.func77.trans (congrArg some (by kernel_rfl))
  t3 := Tryd.underlying3
  a3 := Tryd.isAgg3
  z3 := Tryd.sizeOf3
  v3 := Tryd.zeroValue3
  t4 := Tryd.underlying4
  a4 := Tryd.isAgg4
  z4 := Tryd.sizeOf4
  v4 := Tryd.zeroValue4 }
open Go.RowKit Go.Lib in
theorem Tryd.strings_shouldUseASCIISet (n : Int) (w : World) :
    Calls Tryd.prog 77 #[.int .i64 n] w fun e w' => e = .returned (.bool (decide (8 < n))) ∧ w' = w := Any.strings_shouldUseASCIISet Tryd.lays226 n w
def Tryd.lays153_ren : Go.Shelf.Ren := ⟨fun | 153 => 62 | 152 => 76 | 226 => 77 | 227 => 78 | 228 => 79 | 137 => 92 | 119 => 93 | 224 => 94 | 225 => 95 | 217 => 100 | 266 => 113 | n => n, fun | 9 => 9 | 3 => 3 | 4 => 4 | 5 => 5 | 21 => 21 | 117 => 122 | 116 => 121 | 0 => 0 | 46 => 142 | 124 => 143 | n => n, fun | n => n⟩
theorem Tryd.lays153 : Go.Proofs.Lays.n153 Tryd.prog Tryd.lays153_ren := {
  mixed := by kernel_rfl
  f119 := Tryd.func93.trans (congrArg some (by kernel_rfl))
  f137 := Tryd.func92.trans (congrArg some (by kernel_rfl))
  f152 := Tryd.func76.trans (congrArg some (by kernel_rfl))
  f153 := Tryd.func62.trans (congrArg some (by kernel_rfl))
  f217 := Tryd.func100.trans (congrArg some (by kernel_rfl))
  f224 := Tryd.func94.trans (congrArg some (by kernel_rfl))
  f225 := Tryd.func95.trans (congrArg some (by kernel_rfl))
  f226 := Tryd.func77.trans (congrArg some (by kernel_rfl))
  f227 := Tryd.func78.trans (congrArg some (by kernel_rfl))
  f228 := Tryd.func79.trans (congrArg some (by kernel_rfl))
  f266 := Tryd.func113.trans (congrArg some (by kernel_rfl))
  t0 := Tryd.underlying0
  a0 := Tryd.isAgg0
  z0 := Tryd.sizeOf0
  v0 := Tryd.zeroValue0
  t3 := Tryd.underlying3
  a3 := Tryd.isAgg3
  z3 := Tryd.sizeOf3
  v3 := Tryd.zeroValue3
  t4 := Tryd.underlying4
  a4 := Tryd.isAgg4
  z4 := Tryd.sizeOf4
  v4 := Tryd.zeroValue4
  t5 := Tryd.underlying5
  a5 := Tryd.isAgg5
  z5 := Tryd.sizeOf5
  v5 := Tryd.zeroValue5
  t9 := Tryd.underlying9
  a9 := Tryd.isAgg9
  z9 := Tryd.sizeOf9
  v9 := Tryd.zeroValue9
  t21 := Tryd.underlying21
  a21 := Tryd.isAgg21
  z21 := Tryd.sizeOf21
  v21 := Tryd.zeroValue21
  t46 := Tryd.underlying142
  a46 := Tryd.isAgg142
  z46 := Tryd.sizeOf142
  v46 := Tryd.zeroValue142
  t116 := Tryd.underlying121
  a116 := Tryd.isAgg121
  z116 := Tryd.sizeOf121
  t117 := Tryd.underlying122
  a117 := Tryd.isAgg122
  z117 := Tryd.sizeOf122
  v117 := Tryd.zeroValue122
  t124 := Tryd.underlying143
  a124 := Tryd.isAgg143
  z124 := Tryd.sizeOf143
  v124 := Tryd.zeroValue143 }
open Go.RowKit Go.Lib in
theorem Tryd.strings_IndexAny_long (hv116 : ∀ w, (zeroValue 121).run Tryd.prog w = .ok (.agg (Array.replicate 256 (.bool false))) w) (s chars : ByteArray) (w : World) (h2 : 2 ≤ chars.size) (h8 : 8 < s.size) (hs : s.size < 4294967281) (hcs : chars.size < 4294967281) (hascii : ∀ (j : Nat) b, chars.data.toList[j]? = some b → b.toNat < 128) :
    Calls Tryd.prog 62 #[.string s, .string chars] w fun e w' => e = .returned (.int .i64 (Lib.indexAny s.data.toList chars.data.toList)) ∧ w' = ((w.alloc (.cells (Lib.setCells chars.data.toList) 121)).alloc (.cells (Lib.setCells chars.data.toList) 121)) := Any.strings_IndexAny_long Tryd.lays153 hv116 (by kernel_rfl) s chars w h2 h8 hs hcs hascii
open Go.RowKit Go.Lib in
theorem Tryd.utf8_DecodeRuneInString (s : ByteArray) (w : World) (hT : Lib.Utf8Tabs 6 7 w) :
    Calls Tryd.prog 90 #[.string s] w fun e w' => e = .returned (.tuple #[.int .i32 (Lib.decodeGo s).1, .int .i64 (Lib.decodeGo s).2]) ∧ Below w.heap.size w w' := Any.utf8_DecodeRuneInString Tryd.lays197 s w hT
def Tryd.lays109_ren : Go.Shelf.Ren := ⟨fun | 109 => 41 | n => n, fun | 31 => 69 | 9 => 9 | 3 => 3 | 0 => 0 | 4 => 4 | n => n, fun | n => n⟩
theorem Tryd.lays109 : Go.Proofs.Lays.n109 Tryd.prog Tryd.lays109_ren := {
  mixed := by kernel_rfl
  f109 := Tryd.func41.trans (congrArg some (by kernel_rfl))
  t0 := Tryd.underlying0
  a0 := Tryd.isAgg0
  z0 := Tryd.sizeOf0
  v0 := Tryd.zeroValue0
  t3 := Tryd.underlying3
  a3 := Tryd.isAgg3
  z3 := Tryd.sizeOf3
  v3 := Tryd.zeroValue3
  t4 := Tryd.underlying4
  a4 := Tryd.isAgg4
  z4 := Tryd.sizeOf4
  v4 := Tryd.zeroValue4
  t9 := Tryd.underlying9
  a9 := Tryd.isAgg9
  z9 := Tryd.sizeOf9
  v9 := Tryd.zeroValue9
  t31 := Tryd.underlying69
  a31 := Tryd.isAgg69
  z31 := Tryd.sizeOf69
  v31 := Tryd.zeroValue69 }
open Go.Lib in
theorem Tryd.slices_Index_string (b off n c : Nat) (zs : List ByteArray) (x : ByteArray) (w : World) (hz : n ≤ zs.length) (hbig : n ≤ 9223372036854775807) (hc : ∀ j, j < zs.length → w.cell? ⟨b, off + j, none⟩ = some (.string (zs.getD j ByteArray.empty))) :
    Calls Tryd.prog 41 #[.slice (some ⟨b, off, none⟩) n c, .string x] w fun e w' => e = .returned (.int .i64 (Lib.idxOfS (zs.take n) x)) ∧ w' = w := Any.slices_Index_string Tryd.lays109 b off n c zs x w hz hbig hc
end Go.Proofs
namespace Go.Proofs.YthkgjohhbdipcaaDoor

structure TCall where
  a0 : Int
  a1 : Int
  a2 : Int
  a3 : Int
  a4 : Int
deriving DecidableEq
structure TIns where
  k : Int
  a : Int
  b : Int
  c : Int
deriving DecidableEq
structure TCond where
  f : Int
  op : Int
  v : Int
deriving DecidableEq
structure TRule where
  conds : List TCond
  verdict : Int
deriving DecidableEq
structure TPol where
  rules : List TRule
  dflt : Int
deriving DecidableEq

def TCall.get (x : TCall) (k : Int) : Int := if k = 0 then x.a0 else if k = 1 then x.a1 else if k = 2 then x.a2 else if k = 3 then x.a3 else x.a4
def mostOf (k : Int) : Int := if k = 0 then 63 else if k = 1 then 3 else 65535
def TCall.ok (x : TCall) : Prop := (0 ≤ x.a0 ∧ x.a0 ≤ 63) ∧ (0 ≤ x.a1 ∧ x.a1 ≤ 3) ∧ (0 ≤ x.a2 ∧ x.a2 ≤ 65535) ∧ (0 ≤ x.a3 ∧ x.a3 ≤ 65535) ∧ (0 ≤ x.a4 ∧ x.a4 ≤ 65535)
instance (x : TCall) : Decidable x.ok := by unfold TCall.ok; infer_instance
/-- chapter 1's Check. -/
def callE (x : TCall) : Int := if x.ok then 0 else 3
theorem TCall.ok_get {x : TCall} (h : x.ok) {k : Nat} (hk : k < 5) : 0 ≤ x.get k ∧ x.get k ≤ mostOf k := by
  unfold TCall.ok at h
  match k, hk with
  | 0, _ => exact h.1
  | 1, _ => exact h.2.1
  | 2, _ => exact h.2.2.1
  | 3, _ => exact h.2.2.2.1
  | 4, _ => exact h.2.2.2.2
theorem TCall.ok_of {x : TCall} (h : ∀ k : Nat, k < 5 → 0 ≤ x.get k ∧ x.get k ≤ mostOf k) : x.ok :=
  ⟨h 0 (by omega), h 1 (by omega), h 2 (by omega), h 3 (by omega), h 4 (by omega)⟩

/-- chapter 4's Check, of one instruction with n behind it. -/
def insE (x : TIns) (n : Int) : Int :=
  if x.k = 1 ∨ x.k = 4 then
    if x.b ≠ 0 ∨ x.c ≠ 0 then 4
    else if x.a < 0 ∨ x.a > 4 then 3 else 0
  else if x.k = 2 ∨ x.k = 3 then
    if x.a < 0 ∨ x.a > 65535 then 3
    else if x.b < 0 ∨ x.b ≥ n ∨ x.c < 0 ∨ x.c ≥ n then 5 else 0
  else 4
def codeGo : List TIns → Int
  | [] => 0
  | x :: r => if insE x r.length = 0 then codeGo r else insE x r.length
def lastK : List TIns → Int
  | [] => 0
  | [x] => x.k
  | _ :: x :: r => lastK (x :: r)
/-- chapter 4's Check. -/
def codeE (l : List TIns) : Int :=
  if l.length = 0 ∨ 1500 < l.length then 2 else if codeGo l ≠ 0 then codeGo l else if lastK l = 4 then 0 else 4
theorem codeGo_drop (l : List TIns) (k : Nat) (h : k < l.length) : codeGo (l.drop k) = if insE l[k] ((l.length : Int) - 1 - k) = 0 then codeGo (l.drop (k+1)) else insE l[k] ((l.length : Int) - 1 - k) := by
  rw [List.drop_eq_getElem_cons h]
  have e : ((l.drop (k+1)).length : Int) = (l.length : Int) - 1 - k := by simp; omega
  simp only [codeGo, e]
theorem lastK_eq : ∀ (l : List TIns) (h : 0 < l.length), lastK l = (l[l.length - 1]).k
  | [], h => absurd h (by simp)
  | [x], _ => rfl
  | x :: y :: r, _ => by
    simp only [lastK]
    rw [lastK_eq (y :: r) (by simp)]
    simp

/-- What an instruction does to what is loaded, and how many are left out behind it. -/
def insNext (x : TIns) (n : Int) : Nat := if (x.k = 2 ∧ n = x.a) ∨ (x.k = 3 ∧ n < x.a) then x.b.toNat else x.c.toNat
/-- chapter 4's Run, of a right filter: the verdict, and how many were done; fuel: how many stand. -/
def runGo (x : TCall) : (fuel : Nat) → List TIns → (n : Int) → (done : Nat) → Int × Nat
  | 0, _, _, d => (0, d)
  | _ + 1, [], _, d => (0, d)
  | f + 1, i :: r, n, d =>
    if i.k = 4 then (i.a, d + 1)
    else if i.k = 1 then runGo x f r (x.get i.a) (d + 1)
    else runGo x f (r.drop (insNext i n)) n (d + 1)
def run (l : List TIns) (x : TCall) : Int × Nat := runGo x l.length l 0 0


/-! ### right filters -/
structure Right (l : List TIns) : Prop where
  ne : l ≠ []
  go : codeGo l = 0
  last : lastK l = 4
theorem right_of {l : List TIns} (h : codeE l = 0) : Right l ∧ l.length ≤ 1500 := by
  unfold codeE at h
  split at h
  · simp at h
  · rename_i h1
    split at h
    · rename_i h2; exact absurd h h2
    · rename_i h2
      split at h
      · rename_i h3; exact ⟨⟨fun e => h1 (.inl (by simp [e])), by omega, h3⟩, by omega⟩
      · simp at h
theorem Right.tail {x : TIns} {r : List TIns} (h : Right (x :: r)) (hr : r ≠ []) : Right r := by
  obtain ⟨_, h1, h2⟩ := h
  refine ⟨hr, ?_, ?_⟩
  · unfold codeGo at h1
    split at h1
    · exact h1
    · rename_i h3; exact absurd h1 h3
  · cases r with
    | nil => exact absurd rfl hr
    | cons y r => exact h2
theorem Right.ins {x : TIns} {r : List TIns} (h : Right (x :: r)) : insE x r.length = 0 := by
  have h1 := h.go
  unfold codeGo at h1
  split at h1
  · rename_i h3; exact h3
  · exact h1
theorem Right.drop : ∀ {l : List TIns}, Right l → ∀ {k : Nat}, k < l.length → Right (l.drop k)
  | _, h, 0, _ => h
  | [], h, _ + 1, _ => absurd rfl h.ne
  | x :: r, h, k + 1, hk => by
    have hr : r ≠ [] := fun e => by subst e; simp at hk
    exact (h.tail hr).drop (by simpa using hk)
theorem insE_cases {x : TIns} {n : Int} (h : insE x n = 0) : (x.k = 4 ∧ 0 ≤ x.a ∧ x.a ≤ 4 ∧ x.b = 0 ∧ x.c = 0) ∨ (x.k = 1 ∧ 0 ≤ x.a ∧ x.a ≤ 4 ∧ x.b = 0 ∧ x.c = 0) ∨ ((x.k = 2 ∨ x.k = 3) ∧ 0 ≤ x.a ∧ x.a ≤ 65535 ∧ 0 ≤ x.b ∧ x.b < n ∧ 0 ≤ x.c ∧ x.c < n) := by
  unfold insE at h
  split at h
  · split at h
    · simp at h
    · split at h
      · simp at h
      · rename_i h1 h2 h3; omega
  · split at h
    · split at h
      · simp at h
      · split at h
        · simp at h
        · rename_i h1 h2 h3; omega
    · simp at h
/-- What stands at place k of a right filter. -/
theorem Right.at_ {l : List TIns} (h : Right l) {k : Nat} (hk : k < l.length) : insE l[k] ((l.length : Int) - 1 - k) = 0 ∧ (l[k].k ≠ 4 → k + 1 < l.length) := by
  have h1 := h.drop hk
  rw [List.drop_eq_getElem_cons hk] at h1
  have e : ((l.drop (k+1)).length : Int) = (l.length : Int) - 1 - k := by simp; omega
  refine ⟨by rw [← e]; exact h1.ins, fun h4 => ?_⟩
  rcases Nat.lt_or_ge (k + 1) l.length with hlt | hge
  · exact hlt
  · have : l.drop (k + 1) = [] := List.drop_eq_nil_of_le hge
    rw [this] at h1
    exact absurd h1.last h4
theorem runGo_step (x : TCall) (f : Nat) (l : List TIns) (n : Int) (d k : Nat) (hk : k < l.length) (hf : (l.drop k).length ≤ f) (h4 : l[k].k ≠ 4) :
    ∃ f', (l.drop (k + 1)).length ≤ f' ∧ runGo x f (l.drop k) n d = if l[k].k = 1 then runGo x f' (l.drop (k + 1)) (x.get l[k].a) (d + 1) else runGo x f' (l.drop (k + 1 + insNext l[k] n)) n (d + 1) := by
  rw [List.drop_eq_getElem_cons hk] at hf ⊢
  cases f with
  | zero => simp at hf; omega
  | succ f =>
    refine ⟨f, by simp at hf ⊢; omega, ?_⟩
    simp only [runGo, if_neg h4, List.drop_drop]
theorem runGo_ret (x : TCall) (f : Nat) (l : List TIns) (n : Int) (d k : Nat) (hk : k < l.length) (hf : (l.drop k).length ≤ f) (h4 : l[k].k = 4) : runGo x f (l.drop k) n d = (l[k].a, d + 1) := by
  rw [List.drop_eq_getElem_cons hk] at hf ⊢
  cases f with
  | zero => simp at hf; omega
  | succ f => simp only [runGo, if_pos h4]
/-- chapter 4's Run, errors too. -/
def runE (l : List TIns) (x : TCall) : Int × Int × Int := if codeE l ≠ 0 then (0, 0, codeE l) else if x.ok then ((run l x).1, (run l x).2, 0) else (0, 0, 3)

end Go.Proofs.YthkgjohhbdipcaaDoor
namespace Go.Proofs.YthkgjohhbdipcaaDoor
open Go.RowKit

/-- What is asked of one operation's outcome. -/
def givesUpon (P : Program) (R : Value → World → Prop) : Result Next → Prop
  | .ok (.value v) w' => R v w'
  | .ok .skip w' => R undef w'
  | .ok (.enter f args) w' => Calls P f args w' fun e w'' => ∃ v, e = .returned v ∧ R v w''
  | _ => False
def gives (P : Program) (o : Oper) (a : Act) (w : World) (R : Value → World → Prop) : Prop := givesUpon P R ((execOp a.eval o).run P w)

structure Spec where
  exact? : Option Value
  pred : Value → World → Prop
@[reducible] def ex (x : Value) : Spec := ⟨some x, fun v _ => v = x⟩
@[reducible] def pr (p : Value → World → Prop) : Spec := ⟨none, p⟩
def Spec.holds (s : Spec) (v : Value) (w : World) : Prop := match s.exact? with
  | some x => v = x
  | none => s.pred v w
def Spec.fact (s : Spec) (v : Value) (w : World) : Prop := match s.exact? with
  | some _ => True
  | none => s.pred v w
def depFacts (o : Oper) (fs : List (World → Prop)) (w : World) : Prop := ∀ k : Nat, k ∈ o.after.toList.map (fun e => e.on) → (fs.getD k (fun _ : World => True)) w
/-- One operation's part. -/
def monoOb (P : Program) (ops : Array Oper) (C : World → Prop) (T : World → World → Prop) (s : Spec) (o : Oper) (a : Act) (fs : List (World → Prop)) : Prop :=
  ∀ w, C w → depFacts o fs w → ∀ R : Value → World → Prop, (∀ v w', T w w' → s.holds v w' → R v w') →
    if Region.wanted o (yielded ops a.tmps) then gives P o a w R else R undef w
def monoWalk (P : Program) (ops : Array Oper) (C : World → Prop) (T : Nat → World → World → Prop) (Q : Act → World → Prop) :
    List Oper → List Spec → Nat → Act → List (World → Prop) → (World → Prop) → Prop
  | [], _, _, a, _, F => ∀ w : World, C w → F w → Q a w
  | _ :: _, [], _, _, _, _ => False
  | o :: l, s :: ss, i, a, fs, F => monoOb P ops C (T i) s o a fs ∧
      match s.exact? with
      | some x => monoWalk P ops C T Q l ss (i + 1) (a.put o.dst x) (fs ++ [fun _ : World => True]) F
      | none => ∀ v : Value, monoWalk P ops C T Q l ss (i + 1) (a.put o.dst v) (fs ++ [s.pred v]) (fun w : World => F w ∧ s.pred v w)

/-- The lexical act. -/
def lexAct (vals : Nat → Value) : List Oper → Nat → Act → Act
  | [], _, a => a
  | o :: l, i, a => lexAct vals l (i + 1) (a.put o.dst (vals i))
def okVals (vals : Nat → Value) : List Spec → Nat → Prop
  | [], _ => True
  | s :: ss, i => (∀ x, s.exact? = some x → vals i = x) ∧ okVals vals ss (i + 1)
def allFacts (vals : Nat → Value) : List Spec → Nat → World → Prop
  | [], _, _ => True
  | s :: ss, i, w => s.fact (vals i) w ∧ allFacts vals ss (i + 1) w
def factList (vals : Nat → Value) : List Spec → Nat → List (World → Prop)
  | [], _ => []
  | s :: ss, i => (s.fact (vals i)) :: factList vals ss (i + 1)

theorem mono_ext {P : Program} {ops : Array Oper} {C : World → Prop} {T : Nat → World → World → Prop} {Q : Act → World → Prop} (vals : Nat → Value) :
    ∀ (l : List Oper) (ss : List Spec) (i : Nat) (a : Act) (fs : List (World → Prop)) (F : World → Prop), okVals vals ss i → monoWalk P ops C T Q l ss i a fs F →
      (∀ j o s, l[j]? = some o → ss[j]? = some s → monoOb P ops C (T (i + j)) s o (lexAct vals (l.take j) i a) (fs ++ factList vals (ss.take j) i)) ∧
      (∀ w, C w → F w → allFacts vals (ss.take l.length) i w → Q (lexAct vals l i a) w) ∧ l.length ≤ ss.length := by
  intro l
  induction l with
  | nil => intro ss i a fs F _ h; exact ⟨fun j o s hj _ => by simp at hj, fun w hC hF _ => h w hC hF, by simp⟩
  | cons o l ih =>
    intro ss i a fs F hv h
    cases ss with
    | nil => exact h.elim
    | cons s ss =>
      obtain ⟨hx, hv'⟩ := hv
      obtain ⟨hob, hrest⟩ := h
      have key : ∃ F' : World → Prop, monoWalk P ops C T Q l ss (i + 1) (a.put o.dst (vals i)) (fs ++ [s.fact (vals i)]) F' ∧ ∀ w, F w → s.fact (vals i) w → F' w := by
        unfold Spec.fact
        cases he : s.exact? with
        | some x =>
          rw [he] at hrest
          rw [hx x he]
          exact ⟨F, hrest, fun w h _ => h⟩
        | none =>
          rw [he] at hrest
          exact ⟨_, hrest (vals i), fun w h h' => ⟨h, h'⟩⟩
      obtain ⟨F', hk, hF'⟩ := key
      obtain ⟨h1, h2, h3⟩ := ih ss (i + 1) _ _ F' hv' hk
      refine ⟨fun j o' s' hj hs => ?_, fun w hC hF hall => ?_, by simp; omega⟩
      · cases j with
        | zero =>
          simp only [List.getElem?_cons_zero, Option.some.injEq] at hj hs
          subst hj hs
          simpa [lexAct, factList] using hob
        | succ j =>
          have := h1 j o' s' (by simpa using hj) (by simpa using hs)
          simpa [lexAct, factList, List.append_assoc, Nat.add_comm, Nat.add_left_comm, Nat.add_assoc] using this
      · simp only [List.length_cons, List.take_succ_cons, allFacts] at hall
        exact h2 w hC (hF' w hF hall.1) hall.2

theorem lexAct_size (vals : Nat → Value) : ∀ (l : List Oper) (k : Nat) (a : Act), (lexAct vals l k a).tmps.size = a.tmps.size ∧ (lexAct vals l k a).defers = a.defers
  | [], _, _ => ⟨rfl, rfl⟩
  | o :: l, k, a => by
    have h := lexAct_size vals l (k + 1) (a.put o.dst (vals k))
    simp only [lexAct]
    rw [h.1, h.2]
    cases o.dst <;> simp [Act.put]

theorem put_get_other {a : Act} {dst : Option Tmp} {v : Value} {t : Nat} (h : dst ≠ some t) : (a.put dst v).tmps[t]? = a.tmps[t]? := by
  cases dst with
  | none => rfl
  | some d =>
    have hne : d ≠ t := fun e => h (by rw [e])
    simp [Act.put, Array.getElem?_setIfInBounds_ne hne]
theorem put_get_same {a : Act} {t : Nat} {v : Value} (h : t < a.tmps.size) : (a.put (some t) v).tmps[t]? = some v := by
  simp [Act.put, h]

theorem lexAct_other (vals : Nat → Value) {t : Nat} : ∀ (l : List Oper) (k : Nat) (a : Act), (∀ o ∈ l, o.dst ≠ some t) → (lexAct vals l k a).tmps[t]? = a.tmps[t]?
  | [], _, _, _ => rfl
  | o :: l, k, a, h => by
    simp only [lexAct]
    rw [lexAct_other vals l (k + 1) _ (fun o' ho => h o' (List.mem_cons_of_mem _ ho)), put_get_other (h o (List.mem_cons_self ..))]
theorem lexAct_same (vals : Nat → Value) {t : Nat} : ∀ (l : List Oper) (k : Nat) (a : Act) (j : Nat) (o : Oper), l[j]? = some o → o.dst = some t → (∀ (j' : Nat) (o' : Oper), l[j']? = some o' → j' ≠ j → o'.dst ≠ some t) → t < a.tmps.size →
    (lexAct vals l k a).tmps[t]? = some (vals (k + j))
  | [], _, _, _, _, hj, _, _, _ => by simp at hj
  | o :: l, k, a, j, o', hj, hd, hu, hlt => by
    have hsz : (a.put o.dst (vals k)).tmps.size = a.tmps.size := by cases o.dst <;> simp [Act.put]
    simp only [lexAct]
    cases j with
    | zero =>
      simp only [List.getElem?_cons_zero, Option.some.injEq] at hj
      subst hj
      rw [lexAct_other vals l (k + 1) _ (fun o' ho => ?_), hd, put_get_same hlt]
      · rfl
      · obtain ⟨i, hi⟩ := List.getElem?_of_mem ho
        exact hu (i + 1) o' (by simpa using hi) (by omega)
    | succ j =>
      rw [lexAct_same vals l (k + 1) _ j o' (by simpa using hj) hd (fun j' o'' h1 h2 => hu (j' + 1) o'' (by simpa using h1) (by omega)) (by rw [hsz]; exact hlt)]
      congr 2; omega

/-- The Bool over a region: temporaries are written once, by an operation that whoever looks at it waits for. -/
def monoB (l : List Oper) (size : Nat) : Bool :=
  (l.zipIdx.all fun (o, i) =>
    (match o.op with | .select .. => false | _ => true) &&
    o.after.toList.all (fun e => decide (e.on < i) && Region.binds .any e) &&
    (o.looksAt l.toArray).all (fun s => l.zipIdx.all fun (o', j) => o'.dst != some s || (decide (j < i) && (o.after.toList.map (·.on)).contains j)) &&
    (match o.dst with | some d => decide (d < size) && l.zipIdx.all (fun (o', j) => j == i || o'.dst != some d) | none => true))

theorem monoB_spec {l : List Oper} {size : Nat} (h : monoB l size = true) {i : Nat} {o : Oper} (hi : l[i]? = some o) :
    (∀ cs b, o.op ≠ .select cs b) ∧ (∀ e ∈ o.after, e.on < i ∧ Region.binds .any e = true) ∧
    (∀ s ∈ o.looksAt l.toArray, ∀ (j : Nat) (o' : Oper), l[j]? = some o' → o'.dst = some s → j < i ∧ ∃ e ∈ o.after, e.on = j) ∧
    (∀ d, o.dst = some d → d < size ∧ ∀ (j : Nat) (o' : Oper), l[j]? = some o' → j ≠ i → o'.dst ≠ some d) := by
  have hz : ∀ {j : Nat} {o' : Oper}, l[j]? = some o' → (o', j) ∈ l.zipIdx := fun {j o'} hj => by
    rw [List.mem_zipIdx_iff_getElem?]; exact hj
  have h1 := List.all_eq_true.1 h _ (hz hi)
  simp only [Bool.and_eq_true] at h1
  obtain ⟨⟨⟨ha, hb⟩, hc⟩, hd⟩ := h1
  refine ⟨fun cs b e => ?_, fun e he => ?_, fun s hs j o' hj hds => ?_, fun d hd' => ?_⟩
  · rw [e] at ha; simp at ha
  · have := List.all_eq_true.1 hb e (by simpa using he)
    simpa using this
  · have h2 := List.all_eq_true.1 (List.all_eq_true.1 hc s hs) _ (hz hj)
    simp [hds] at h2
    exact ⟨h2.1, h2.2⟩
  · simp only [hd', Bool.and_eq_true, decide_eq_true_eq] at hd
    refine ⟨hd.1, fun j o' hj hne e => ?_⟩
    have := List.all_eq_true.1 hd.2 _ (hz hj)
    simp [hne, e] at this

/-- What holds when the operations that are listed have been done. -/
structure MonoInv (l : List Oper) (ss : List Spec) (C : World → Prop) (a : Act) (vf : Nat → Value) (listed : Array Bool) (a' : Act) (w' : World) : Prop where
  cls : C w'
  lsize : listed.size = l.length
  defers : a'.defers = a.defers
  size : a'.tmps.size = a.tmps.size
  done : ∀ (j : Nat) (o : Oper) (s : Spec), l[j]? = some o → ss[j]? = some s → listed[j]? = some true → s.holds (vf j) w' ∧ ∀ d, o.dst = some d → a'.tmps[d]? = some (vf j)
  rest : ∀ t, (∀ (j : Nat) (o : Oper), l[j]? = some o → listed[j]? = some true → o.dst ≠ some t) → a'.tmps[t]? = a.tmps[t]?

def undone (listed : Array Bool) (n : Nat) : List Nat := (List.range n).filter fun i => listed[i]? != some true
theorem undone_set {listed : Array Bool} {n i : Nat} (hi : i < n) (hn : n ≤ listed.size) (h : listed[i]? ≠ some true) : (undone (listed.setIfInBounds i true) n).length < (undone listed n).length := by
  have e : undone (listed.setIfInBounds i true) n = (undone listed n).filter (fun j => j != i) := by
    unfold undone
    rw [List.filter_filter]
    apply List.filter_congr
    intro j hj
    have hj' := List.mem_range.1 hj
    by_cases e : j = i
    · subst e
      rw [Array.getElem?_setIfInBounds_self_of_lt (by omega)]
      simp
    · rw [Array.getElem?_setIfInBounds_ne (Ne.symm e)]
      simp [e]
  rw [e, List.length_filter_lt_length_iff_exists]
  exact ⟨i, by simp [undone, hi, h], by simp⟩

def fillVals (ss : List Spec) (listed : Array Bool) (vf : Nat → Value) (j : Nat) : Value :=
  if listed[j]? = some true then vf j else match ss[j]? with
    | some s => s.exact?.getD undef
    | none => undef

theorem okVals_of {vals : Nat → Value} : ∀ (ss : List Spec) (i : Nat), (∀ (j : Nat) (s : Spec) (x : Value), ss[j]? = some s → s.exact? = some x → vals (i + j) = x) → okVals vals ss i
  | [], _, _ => trivial
  | s :: ss, i, h => ⟨fun x hx => h 0 s x rfl hx, okVals_of ss (i + 1) (fun j s' x hj hx => by
      have := h (j + 1) s' x (by simpa using hj) hx
      rwa [show i + 1 + j = i + (j + 1) by omega])⟩
theorem allFacts_of {vals : Nat → Value} {w : World} : ∀ (ss : List Spec) (i : Nat), (∀ (j : Nat) (s : Spec), ss[j]? = some s → s.fact (vals (i + j)) w) → allFacts vals ss i w
  | [], _, _ => trivial
  | s :: ss, i, h => ⟨h 0 s rfl, allFacts_of ss (i + 1) (fun j s' hj => by
      have := h (j + 1) s' (by simpa using hj)
      rwa [show i + 1 + j = i + (j + 1) by omega])⟩
theorem factList_get {vals : Nat → Value} : ∀ (ss : List Spec) (i k : Nat) (s : Spec), ss[k]? = some s → (factList vals ss i)[k]? = some (s.fact (vals (i + k)))
  | [], _, _, _, h => by simp at h
  | s :: ss, i, 0, s', h => by simp at h; subst h; rfl
  | s :: ss, i, k + 1, s', h => by
    have := factList_get (vals := vals) ss (i + 1) k s' (by simpa using h)
    simp only [factList, List.getElem?_cons_succ, this]
    congr 3; omega

theorem Spec.fact_of_holds {s : Spec} {v : Value} {w : World} (h : s.holds v w) : s.fact v w := by
  unfold Spec.holds at h; unfold Spec.fact
  split <;> simp_all

theorem wp_of_gives {P : Program} {o : Oper} {a : Act} {w : World} {K : Act → World → Prop} {Q : Exit → Act → World → Prop} {R : Value → World → Prop} (h : gives P o a w R) (hk : ∀ v w', R v w' → K (a.put o.dst v) w') : o.wp P a w K Q := by
  unfold gives at h
  unfold Oper.wp
  generalize (execOp a.eval o).run P w = r at *
  cases r with
  | halt x w' => simp [givesUpon] at h
  | ok n w' =>
    cases n <;> simp only [givesUpon] at h <;> simp only [Oper.upon]
    case value u => exact hk _ _ h
    case skip => exact hk _ _ h
    case enter f args =>
      exact h.mono fun e w'' ⟨v, he, hr⟩ => by subst he; exact hk _ _ hr

section
variable {P : Program} {l : List Oper} {C : World → Prop} {T : Nat → World → World → Prop} {Q : Exit → Act → World → Prop} {a : Act} {ss : List Spec}

theorem wpAny_mono (hB : monoB l a.tmps.size = true) (hCT : ∀ i w w', C w → T i w w' → C w')
    (hst : ∀ (i k : Nat) (s : Spec), i ≠ k → ss[k]? = some s → ∀ v w w', C w → C w' → T i w w' → s.fact v w → s.fact v w')
    (h : monoWalk P l.toArray C T (Q .normal) l ss 0 a [] (fun _ => True)) :
    ∀ (fuel : Nat) (listed : Array Bool) (vf : Nat → Value) (a' : Act) (w' : World), (undone listed l.length).length ≤ fuel → MonoInv l ss C a vf listed a' w' → wpAny P .any l.toArray Q fuel listed a' w' := by
  have hS := fun {i : Nat} {o : Oper} (hi : l[i]? = some o) => monoB_spec hB hi
  -- the values as far as they are there
  have hok : ∀ (listed : Array Bool) (vf : Nat → Value) (a' : Act) (w' : World), MonoInv l ss C a vf listed a' w' → okVals (fillVals ss listed vf) ss 0 := by
    intro listed vf a' w' hI
    refine okVals_of ss 0 fun j s x hj hx => ?_
    rw [Nat.zero_add]
    unfold fillVals
    split
    · rename_i hl
      have hlt : j < l.length := by
        have := (Array.getElem?_eq_some_iff.1 hl).1
        rw [hI.lsize] at this; exact this
      have := (hI.done j l[j] s (List.getElem?_eq_getElem hlt) hj hl).1
      unfold Spec.holds at this
      rw [hx] at this
      exact this
    · rw [hj]; simp [hx]
  have hfill : ∀ (listed : Array Bool) (vf : Nat → Value) (j : Nat), listed[j]? = some true → fillVals ss listed vf j = vf j := fun listed vf j hl => by unfold fillVals; rw [if_pos hl]
  have fin : ∀ (listed : Array Bool) (vf : Nat → Value) (a' : Act) (w' : World), (∀ j, j < l.length → listed[j]? = some true) → MonoInv l ss C a vf listed a' w' → Q .normal a' w' := by
    intro listed vf a' w' hall hI
    obtain ⟨_, h2, h3⟩ := mono_ext (fillVals ss listed vf) l ss 0 a [] _ (hok listed vf a' w' hI) h
    have hq := h2 w' hI.cls trivial (allFacts_of _ 0 fun j s hj => by
      rw [Nat.zero_add]
      have hjl : j < l.length := by
        have := (List.getElem?_eq_some_iff.1 hj).1
        simp at this; omega
      have hj' : ss[j]? = some s := by rw [List.getElem?_take_of_lt hjl] at hj; exact hj
      rw [hfill _ _ _ (hall j hjl)]
      exact Spec.fact_of_holds (hI.done j l[j] s (List.getElem?_eq_getElem hjl) hj' (hall j hjl)).1)
    have ea : a' = lexAct (fillVals ss listed vf) l 0 a := by
      obtain ⟨hz, hd⟩ := lexAct_size (fillVals ss listed vf) l 0 a
      have ht : a'.tmps = (lexAct (fillVals ss listed vf) l 0 a).tmps := by
        apply Array.ext_getElem?
        intro t
        by_cases hex : ∃ (j : Nat) (o : Oper), l[j]? = some o ∧ o.dst = some t
        · obtain ⟨j, o, hj, hdt⟩ := hex
          have hjl := (List.getElem?_eq_some_iff.1 hj).1
          obtain ⟨hlt, huniq⟩ := (hS hj).2.2.2 t hdt
          rw [lexAct_same _ l 0 a j o hj hdt huniq hlt, Nat.zero_add, hfill _ _ _ (hall j hjl)]
          have hjs : ss[j]? = some ss[j] := List.getElem?_eq_getElem (by omega)
          exact (hI.done j o _ hj hjs (hall j hjl)).2 t hdt
        · have hn : ∀ (j : Nat) (o : Oper), l[j]? = some o → o.dst ≠ some t := fun j o hj e => hex ⟨j, o, hj, e⟩
          rw [lexAct_other _ l 0 a (fun o ho => by obtain ⟨j, hj⟩ := List.getElem?_of_mem ho; exact hn j o hj)]
          exact hI.rest t (fun j o hj _ => hn j o hj)
      cases a'; cases hx : lexAct (fillVals ss listed vf) l 0 a
      rw [hx] at ht hd
      have := hI.defers
      simp_all
    rw [ea]; exact hq
  have allIf : ∀ (listed : Array Bool), listed.size = l.length → Region.ready .any l.toArray listed = [] → ∀ j, j < l.length → listed[j]? = some true := by
    intro listed hsz hr j
    induction j using Nat.strongRecOn with
    | ind j ih =>
      intro hj
      have hsome : listed[j]? = some listed[j] := Array.getElem?_eq_getElem (by omega)
      cases hb : listed[j] with
      | true => rw [hsome, hb]
      | false =>
        have : j ∈ Region.ready .any l.toArray listed := by
          rw [mem_ready]
          refine ⟨by simp [Array.getD_eq_getD_getElem?, hsome, hb], l[j], by simp [hj], fun e he _ => ?_⟩
          have h1 := ((hS (List.getElem?_eq_getElem hj)).2.1 e he).1
          have h2 := ih e.on h1 (by omega)
          simp [Array.getD_eq_getD_getElem?, h2]
        rw [hr] at this
        cases this
  intro fuel
  induction fuel with
  | zero =>
    intro listed vf a' w' hf hI
    have hall : ∀ j, j < l.length → listed[j]? = some true := by
      intro j hj
      have h0 : undone listed l.length = [] := List.eq_nil_of_length_eq_zero (by omega)
      unfold undone at h0
      rw [List.filter_eq_nil_iff] at h0
      simpa using h0 j (List.mem_range.2 hj)
    refine ⟨?_, fin _ _ _ _ hall hI⟩
    rw [List.eq_nil_iff_forall_not_mem]
    intro j hj
    obtain ⟨h0, o, ho, _⟩ := mem_ready.1 hj
    have hj' : j < l.length := by
      have := (Array.getElem?_eq_some_iff.1 ho).1
      simpa using this
    simp [Array.getD_eq_getD_getElem?, hall j hj'] at h0
  | succ fuel ih =>
    intro listed vf a' w' hf hI
    refine ⟨fun hr => fin _ _ _ _ (allIf listed hI.lsize hr) hI, fun i hi => ?_⟩
    obtain ⟨h0, o, ho, hdep⟩ := mem_ready.1 hi
    have hil : l[i]? = some o := by simpa using ho
    have hilt : i < l.length := (List.getElem?_eq_some_iff.1 hil).1
    have hnl : listed[i]? ≠ some true := fun e => by simp [Array.getD_eq_getD_getElem?, e] at h0
    obtain ⟨hsel, hafter, hlooks, hdst⟩ := hS hil
    have hdone : ∀ e ∈ o.after, listed[e.on]? = some true := fun e he => by
      have := hdep e he (hafter e he).2
      rw [Array.getD_eq_getD_getElem?] at this
      cases hx : listed[e.on]? with
      | none => simp [hx] at this
      | some b => simp [hx] at this; rw [this]
    obtain ⟨h1, _, h3⟩ := mono_ext (fillVals ss listed vf) l ss 0 a [] _ (hok listed vf a' w' hI) h
    have hsi : ss[i]? = some ss[i] := List.getElem?_eq_getElem (by omega)
    have hob := h1 i o ss[i] hil hsi
    rw [Nat.zero_add, List.nil_append] at hob
    -- the lexical act looks alike to this operation
    have hsame : ∀ t ∈ o.looksAt l.toArray, (lexAct (fillVals ss listed vf) (l.take i) 0 a).tmps[t]? = a'.tmps[t]? := by
      intro t ht
      by_cases hex : ∃ (j : Nat) (o' : Oper), l[j]? = some o' ∧ o'.dst = some t
      · obtain ⟨j, o', hj, hdt⟩ := hex
        obtain ⟨hji, e, he, hej⟩ := hlooks t ht j o' hj hdt
        have hlj : listed[j]? = some true := hej ▸ hdone e he
        obtain ⟨hlt, huniq⟩ := (hS hj).2.2.2 t hdt
        have hjs : ss[j]? = some ss[j] := List.getElem?_eq_getElem (by omega)
        rw [lexAct_same _ (l.take i) 0 a j o' (by rw [List.getElem?_take_of_lt hji]; exact hj) hdt (fun j' o'' hj' hne => huniq j' o'' (by
          have hlt' : j' < i := by
            have := (List.getElem?_eq_some_iff.1 hj').1
            simp at this; omega
          rw [List.getElem?_take_of_lt hlt'] at hj'; exact hj') hne) hlt, Nat.zero_add, hfill _ _ _ hlj]
        exact ((hI.done j o' _ hj hjs hlj).2 t hdt).symm
      · have hn : ∀ (j : Nat) (o : Oper), l[j]? = some o → o.dst ≠ some t := fun j o hj e => hex ⟨j, o, hj, e⟩
        rw [lexAct_other _ (l.take i) 0 a (fun o' ho' => by obtain ⟨j, hj⟩ := List.getElem?_of_mem (List.mem_of_mem_take ho'); exact hn j o' hj)]
        exact (hI.rest t (fun j o hj _ => hn j o hj)).symm
    have hexec : execOp (lexAct (fillVals ss listed vf) (l.take i) 0 a).eval o = execOp a'.eval o := by
      refine execOp_congr o hsel fun x hx => ?_
      cases x with
      | tmp t =>
        have := hsame t (List.mem_append_left _ (List.mem_filterMap.2 ⟨.tmp t, by simpa using hx, rfl⟩))
        simp [Act.eval, Array.getD_eq_getD_getElem?, this]
      | _ => rfl
    have hwant : Region.wanted o (yielded l.toArray (lexAct (fillVals ss listed vf) (l.take i) 0 a).tmps) = Region.wanted o (yielded l.toArray a'.tmps) := by
      unfold Region.wanted
      cases hg : o.guard with
      | none => rfl
      | some gw =>
        obtain ⟨g, want⟩ := gw
        have hy : yielded l.toArray (lexAct (fillVals ss listed vf) (l.take i) 0 a).tmps g = yielded l.toArray a'.tmps g := by
          unfold yielded
          cases ht : (l.toArray[g]?).bind (·.dst) with
          | none => rfl
          | some t =>
            have := hsame t (by simp only [Oper.looksAt, hg, ht]; simp)
            simp only [Option.bind_some, this]
        simp only [hy]
    have hfacts : depFacts o ([] ++ factList (fillVals ss listed vf) (ss.take i) 0) w' := by
      intro k hk
      rw [List.nil_append]
      obtain ⟨e, he, rfl⟩ := List.mem_map.1 hk
      have he' : e ∈ o.after := by simpa using he
      have hlt := (hafter e he').1
      have hlk := hdone e he'
      have hks : ss[e.on]? = some ss[e.on] := List.getElem?_eq_getElem (by omega)
      rw [List.getD_eq_getElem?_getD, factList_get (ss.take i) 0 e.on ss[e.on] (by rw [List.getElem?_take_of_lt hlt]; exact hks), Nat.zero_add, hfill _ _ _ hlk]
      exact Spec.fact_of_holds (hI.done e.on l[e.on] _ (List.getElem?_eq_getElem (by omega)) hks hlk).1
    rw [List.nil_append] at hfacts
    have hres := hob w' hI.cls hfacts (fun v w'' => T i w' w'' ∧ ss[i].holds v w'') (fun v w'' h1 h2 => ⟨h1, h2⟩)
    rw [hwant] at hres
    have next : ∀ v w'', T i w' w'' → ss[i].holds v w'' → wpAny P .any l.toArray Q fuel (listed.setIfInBounds i true) (a'.put o.dst v) w'' := by
      intro v w'' hT hv
      have hu := undone_set hilt (by rw [hI.lsize]; exact Nat.le_refl _) hnl
      refine ih _ (fun j => if j = i then v else vf j) _ _ (by omega) ⟨hCT i _ _ hI.cls hT, by simp [hI.lsize], ?_, ?_, ?_, ?_⟩
      · rw [← hI.defers]; cases o.dst <;> rfl
      · rw [← hI.size]; cases o.dst <;> simp [Act.put]
      · intro j o' s hj hjs hlj
        by_cases e : j = i
        · subst e
          rw [hil] at hj
          obtain rfl : o = o' := by simpa using hj
          rw [hsi] at hjs
          obtain rfl : ss[j] = s := by simpa using hjs
          rw [if_pos rfl]
          refine ⟨hv, fun d hd => ?_⟩
          rw [hd, put_get_same (by rw [hI.size]; exact (hdst d hd).1)]
        · rw [Array.getElem?_setIfInBounds_ne (Ne.symm e)] at hlj
          rw [if_neg e]
          obtain ⟨g1, g2⟩ := hI.done j o' s hj hjs hlj
          refine ⟨?_, fun d hd => ?_⟩
          · have hf := hst i j s (Ne.symm e) hjs (vf j) w' w'' hI.cls (hCT i _ _ hI.cls hT) hT (Spec.fact_of_holds g1)
            unfold Spec.holds at g1 ⊢
            unfold Spec.fact at hf
            split <;> simp_all
          · rw [put_get_other (fun e' => (hdst d e').2 j o' hj e hd)]
            exact g2 d hd
      · intro t ht
        have hti : o.dst ≠ some t := ht i o hil (by rw [Array.getElem?_setIfInBounds_self_of_lt (by rw [hI.lsize]; exact hilt)])
        rw [put_get_other hti]
        refine hI.rest t fun j o' hj hlj => ?_
        by_cases e : j = i
        · subst e; exact absurd hlj hnl
        · exact ht j o' hj (by rw [Array.getElem?_setIfInBounds_ne (Ne.symm e)]; exact hlj)
    unfold wpOp
    rw [ho]
    by_cases hw : Region.wanted o (yielded l.toArray a'.tmps) = true
    · simp only [hw, if_true] at hres ⊢
      refine .inl (wp_of_gives (R := fun v w'' => T i w' w'' ∧ ss[i].holds v w'') ?_ fun v w'' ⟨h1, h2⟩ => next v w'' h1 h2)
      unfold gives at hres ⊢
      rw [← hexec]; exact hres
    · simp only [hw] at hres ⊢
      exact next _ _ hres.1 hres.2

/-- ONE LEXICAL WALK SERVES EVERY ORDER: each operation, in whatever world of the class, gives what its spec says. -/
theorem wp_region_mono {id : Nat} {w : World} (ss : List Spec) (C : World → Prop) (T : Nat → World → World → Prop) (hm : P.follows .mixedOrders = true) (hB : monoB l a.tmps.size = true)
    (hCT : ∀ i w w', C w → T i w w' → C w')
    (hst : ∀ (i k : Nat) (s : Spec), i ≠ k → ss[k]? = some s → ∀ v w w', C w → C w' → T i w w' → s.fact v w → s.fact v w') (hC : C w.drew)
    (h : monoWalk P l.toArray C T (Q .normal) l ss 0 a [] (fun _ => True)) : (Code.region id l.toArray true).wp P Q a w := by
  refine wp_region_any hm (wpAny_mono hB hCT hst h _ _ (fun _ => undef) _ _ ?_ ⟨hC, by simp, rfl, rfl, ?_, fun _ _ => rfl⟩)
  · have := List.length_filter_le (fun i => (Array.replicate l.toArray.size false)[i]? != some true) (List.range l.length)
    simpa [undone] using this
  · intro j o s hj _ hl
    rw [Array.getElem?_replicate] at hl
    split at hl <;> simp at hl
end

/-- The class of a region's worlds: below B all is as it was when the region began. -/
def Cls (B : Nat) (W0 W : World) : Prop := B ≤ W.heap.size ∧ Below B W0 W
def TB (_ : Nat) (w w' : World) : Prop := Below w.heap.size w w'
theorem Cls.refl {B : Nat} {W0 : World} (hB : B ≤ W0.heap.size) : Cls B W0 W0 := ⟨hB, Below.refl _ _⟩
theorem Cls.step {B : Nat} {W0 w w' : World} (h : Cls B W0 w) (h' : Below w.heap.size w w') : Cls B W0 w' := ⟨Nat.le_trans h.1 h'.size, h.2.trans (h'.mono h.1)⟩
def stableB (s : Spec) : Prop := ∀ v w w', Below w.heap.size w w' → s.fact v w → s.fact v w'
theorem stable_ex (x : Value) : stableB (ex x) := fun _ _ _ _ _ => trivial
theorem wp_region_below {P : Program} {l : List Oper} {Q : Exit → Act → World → Prop} {a : Act} {id : Nat} {w : World} (ss : List Spec) (B : Nat) (hBw : B ≤ w.heap.size) (hm : P.follows .mixedOrders = true) (hB : monoB l a.tmps.size = true)
    (hst : ∀ s ∈ ss, stableB s) (h : monoWalk P l.toArray (Cls B w) TB (Q .normal) l ss 0 a [] (fun _ => True)) : (Code.region id l.toArray true).wp P Q a w :=
  wp_region_mono ss (Cls B w) TB hm hB (fun _ _ _ hC hT => hC.step hT) (fun _ _ s _ hk v w1 w2 _ _ hT hf => hst s (List.mem_of_getElem? hk) v w1 w2 hT hf) ⟨hBw, (Below.refl _ _).drew⟩ h

/-- Exact values alone: each is found as its operation is walked. -/
def monoE (P : Program) (ops : Array Oper) (C : World → Prop) (T : Nat → World → World → Prop) (Q : Act → World → Prop) : List Oper → Nat → Act → Prop
  | [], _, a => ∀ w : World, C w → Q a w
  | o :: l, i, a => ∃ x : Value, (∀ w : World, C w → ∀ R : Value → World → Prop, (∀ (v : Value) (w' : World), T i w w' → v = x → R v w') → if Region.wanted o (yielded ops a.tmps) then gives P o a w R else R undef w) ∧
      monoE P ops C T Q l (i + 1) (a.put o.dst x)
theorem monoE_step {P : Program} {ops : Array Oper} {C : World → Prop} {T : Nat → World → World → Prop} {Q : Act → World → Prop} {o : Oper} {l : List Oper} {i : Nat} {a : Act}
    (h : ∀ K : Act → Prop, (∀ a, monoE P ops C T Q l (i + 1) a → K a) → ∃ x : Value, (∀ w : World, C w → ∀ R : Value → World → Prop, (∀ (v : Value) (w' : World), T i w w' → v = x → R v w') → if Region.wanted o (yielded ops a.tmps) then gives P o a w R else R undef w) ∧ K (a.put o.dst x)) :
    monoE P ops C T Q (o :: l) i a := h _ (fun _ h => h)
theorem monoE_list {P : Program} {ops : Array Oper} {C : World → Prop} {T : Nat → World → World → Prop} {Q : Act → World → Prop} : ∀ (l : List Oper) (i : Nat) (a : Act) (fs : List (World → Prop)),
    monoE P ops C T Q l i a → ∃ xs : List Value, monoWalk P ops C T Q l (xs.map ex) i a fs (fun _ => True)
  | [], _, _, _, h => ⟨[], fun w hC _ => h w hC⟩
  | o :: l, i, a, fs, ⟨x, hob, hrest⟩ => by
    obtain ⟨xs, hx⟩ := monoE_list l (i + 1) _ (fs ++ [fun _ : World => True]) hrest
    exact ⟨x :: xs, fun w hC _ R hR => hob w hC R hR, hx⟩
theorem wp_region_exact {P : Program} {l : List Oper} {Q : Exit → Act → World → Prop} {a : Act} {id : Nat} {w : World} (B : Nat) (hBw : B ≤ w.heap.size) (hm : P.follows .mixedOrders = true) (hB : monoB l a.tmps.size = true)
    (h : monoE P l.toArray (Cls B w) TB (Q .normal) l 0 a) : (Code.region id l.toArray true).wp P Q a w := by
  obtain ⟨xs, hx⟩ := monoE_list l 0 a [] h
  refine wp_region_below (xs.map ex) B hBw hm hB (fun s hs => ?_) hx
  obtain ⟨x, _, rfl⟩ := List.mem_map.1 hs
  exact stable_ex x
end Go.Proofs.YthkgjohhbdipcaaDoor
namespace Go.Proofs.YthkgjohhbdipcaaDoor
open Go.RowKit
open Go.MapKept (IsKey)

theorem ret_int {k : IntKind} {a b : Int} (h : a = b) : Ending.returned (.int k a) = .returned (.int k b) := by rw [h]
theorem ret_bool {a b : Bool} (h : a = b) : Ending.returned (.bool a) = .returned (.bool b) := by rw [h]
theorem bel_alloc {w wr : World} (h : Below w.heap.size w wr) (o : Obj) : Below w.heap.size w (wr.alloc o) := h.alloc h.size o
theorem bel_call {w wr w1 : World} (h : Below w.heap.size w wr) (h1 : Below wr.heap.size wr w1) : Below w.heap.size w w1 := h.trans (h1.mono h.size)
theorem bel_alloc_call {w wr w1 : World} {o : Obj} (h : Below w.heap.size w wr) (h1 : Below (wr.alloc o).heap.size (wr.alloc o) w1) : Below w.heap.size w w1 :=
  (bel_alloc h o).trans (h1.mono (by have := h.size; simp; omega))
/-- a block that the call laid first keeps its cells. -/
theorem box_cells {w w1 : World} {cs : Array Value} {T : TypeId} (hb : Below (w.heap.size + 1) (w.alloc (.cells cs T)) w1) (j : Nat) : w1.cell? ⟨w.heap.size, j, none⟩ = cs[j]? := by
  rw [hb.cell (p := ⟨w.heap.size, j, none⟩) (by simp)]
  exact World.cell?_alloc_at _ _ _ _ rfl
theorem bel_box {w w1 : World} {o : Obj} (hb : Below (w.heap.size + 1) (w.alloc o) w1) : Below w.heap.size w w1 := (bel_alloc (Below.refl _ _) o).trans (hb.mono (by omega))
theorem size_box {w w1 : World} {o : Obj} (hb : Below (w.heap.size + 1) (w.alloc o) w1) : w.heap.size + 1 ≤ w1.heap.size := by have := hb.size; simp at this; omega
/-- two blocks that the call laid first. -/
theorem box2_cells {w w1 : World} {cs cs' : Array Value} {T T' : TypeId} (hb : Below (w.heap.size + 2) ((w.alloc (.cells cs T)).alloc (.cells cs' T')) w1) :
    (∀ j, w1.cell? ⟨w.heap.size, j, none⟩ = cs[j]?) ∧ (∀ j, w1.cell? ⟨w.heap.size + 1, j, none⟩ = cs'[j]?) := by
  constructor
  · intro j
    rw [hb.cell (p := ⟨w.heap.size, j, none⟩) (by simp), World.cell?_alloc_lt _ _ _ (by simp)]
    exact World.cell?_alloc_at _ _ _ _ rfl
  · intro j
    rw [hb.cell (p := ⟨w.heap.size + 1, j, none⟩) (by simp)]
    exact World.cell?_alloc_at _ _ _ _ (by simp)
theorem bel_box2 {w w1 : World} {o o' : Obj} (hb : Below (w.heap.size + 2) ((w.alloc o).alloc o') w1) : Below w.heap.size w w1 := (bel_alloc (bel_alloc (Below.refl _ _) o) o').trans (hb.mono (by omega))
theorem size_box2 {w w1 : World} {o o' : Obj} (hb : Below (w.heap.size + 2) ((w.alloc o).alloc o') w1) : w.heap.size + 2 ≤ w1.heap.size := by have := hb.size; simp at this; omega
theorem bel_drew {w wr : World} (h : Below w.heap.size w wr) : Below w.heap.size w wr.drew := h.drew

/-- A slice value that reads as a list, each element of sz cells, in blocks that D lets. -/
def Sl {α : Type} (w : World) (D : Nat → Prop) (sz : Nat) (R : α → List Value → Prop) (v : Value) (xs : List α) : Prop :=
  ∃ a c, v = .slice a xs.length c ∧ xs.length ≤ c ∧ c ≤ maxLen ∧ (a = none → c = 0) ∧ (0 < xs.length → ∃ b o, a = some ⟨b, o, none⟩ ∧ D b ∧ b < w.heap.size ∧
    ∀ i x, xs[i]? = some x → ∃ cs : List Value, cs.length = sz ∧ R x cs ∧ ∀ j u, cs[j]? = some u → w.cell? ⟨b, o + (i * sz + j), none⟩ = some u)

section
variable {α : Type} {w w' : World} {D D' : Nat → Prop} {sz : Nat} {R R' : α → List Value → Prop} {v : Value} {xs : List α}
theorem Sl.mono (h : Sl w D sz R v xs) (hD : ∀ b, D b → b < w.heap.size → D' b) (hw : ∀ b, D b → b < w.heap.size → w'.heap[b]? = w.heap[b]?) (hs : w.heap.size ≤ w'.heap.size)
    (hR : ∀ x ∈ xs, ∀ cs, R x cs → R' x cs) : Sl w' D' sz R' v xs := by
  obtain ⟨a, c, hv, hl, hm, hn, h⟩ := h
  refine ⟨a, c, hv, hl, hm, hn, fun h0 => ?_⟩
  obtain ⟨b, o, ha, hDb, hb, hc⟩ := h h0
  refine ⟨b, o, ha, hD b hDb hb, by omega, fun i x hx => ?_⟩
  obtain ⟨cs, hcs, hr, hcell⟩ := hc i x hx
  exact ⟨cs, hcs, hR x (List.mem_of_getElem? hx) cs hr, fun j u hu => (World.cell?_of_block (w := w) (hw b hDb hb)).trans (hcell j u hu)⟩
/-- The slice's form; its length is a length. -/
theorem Sl.form (h : Sl w D sz R v xs) : ∃ a c, v = .slice a xs.length c ∧ xs.length ≤ c ∧ c ≤ 9223372036854775807 ∧ (0 < xs.length → ∃ b o, a = some ⟨b, o, none⟩ ∧ D b ∧ b < w.heap.size) := by
  obtain ⟨a, c, hv, hl, hm, _, h⟩ := h
  refine ⟨a, c, hv, hl, by unfold maxLen at hm; omega, fun h0 => ?_⟩
  obtain ⟨b, o, ha, hDb, hb, hc⟩ := h h0
  exact ⟨b, o, ha, hDb, hb⟩
theorem Sl.get {b o n c : Nat} {s : Option Nat} (h : Sl w D sz R (.slice (some ⟨b, o, s⟩) n c) xs) {i : Nat} (hi : i < xs.length) :
    ∃ cs : List Value, cs.length = sz ∧ R xs[i] cs ∧ ∀ j u, cs[j]? = some u → w.cell? ⟨b, o + (i * sz + j), none⟩ = some u := by
  obtain ⟨a, c', hv, hl, hm, _, h⟩ := h
  obtain ⟨b', o', ha, hDb, hb, hc⟩ := h (by omega)
  injection hv with h1 h2 h3
  subst h1
  injection ha with h4
  injection h4 with h5 h6 h7
  subst h5 h6
  exact hc i _ (List.getElem?_eq_getElem hi)
end

/-! ### maps that a text lays, known whole -/
theorem heap_last (w : World) (o : Obj) : (w.alloc o).heap[w.heap.size]? = some o := by
  show (w.heap.push o)[w.heap.size]? = _
  simp
theorem set_last (w : World) (o o' : Obj) : ({ w.alloc o with heap := (w.alloc o).heap.setIfInBounds w.heap.size o' } : World) = w.alloc o' := by
  have : (w.alloc o).heap.setIfInBounds w.heap.size o' = (w.alloc o').heap := by
    show (w.heap.push o).setIfInBounds w.heap.size o' = w.heap.push o'
    apply Array.ext_getElem?
    intro i
    rw [Array.getElem?_setIfInBounds]
    simp only [Array.getElem?_push, Array.size_push]
    split <;> split <;> simp_all
  simp only [this]
  rfl
theorem run_insert_new {P : Program} {w : World} {t kt et : TypeId} {kd : TypeDesc} {es : Array MapEntry} {c : Nat} {key v : Value} (ht : P.underlying t = some (.map kt et)) (hk : P.underlying kt = some kd)
    (hp : IsKey kd key) (hf : Instr.findNow kd key es.toList 0 = some none) :
    (Instr.mapUpdate t (.map (some w.heap.size)) key v).run P (w.alloc (.map es c)) = .ok () (w.alloc (.map (es.push ⟨key, v, c⟩) (c + 1))) := by
  have hb := heap_last w (.map es c)
  simp [Instr.mapUpdate, run_underlying ht, MapKept.run_getObj_map hb, MapKept.run_checkKey hk hp, MapKept.run_findKey hk hf, MapKept.run_setObj_map _ hb, Result.andThen]
  exact set_last w _ _
theorem run_insert_at {P : Program} {w : World} {b : Nat} {t kt et : TypeId} {kd : TypeDesc} {es : Array MapEntry} {c : Nat} {key v : Value} (hb : b = w.heap.size) (ht : P.underlying t = some (.map kt et)) (hk : P.underlying kt = some kd)
    (hp : IsKey kd key) (hf : Instr.findNow kd key es.toList 0 = some none) :
    (Instr.mapUpdate t (.map (some b)) key v).run P (w.alloc (.map es c)) = .ok () (w.alloc (.map (es.push ⟨key, v, c⟩) (c + 1))) := by subst hb; exact run_insert_new ht hk hp hf
/-- a map that is known whole. -/
theorem run_lookup_ok {P : Program} {w : World} {r : Nat} {t kt et : TypeId} {kd : TypeDesc} {es : Array MapEntry} {c : Nat} {key z : Value} {f : Option (Nat × Value)} (ht : P.underlying t = some (.map kt et)) (hk : P.underlying kt = some kd)
    (hb : w.heap[r]? = some (.map es c)) (hz : (zeroValue et).run P w = .ok z w) (hp : IsKey kd key) (hf : Instr.findNow kd key es.toList 0 = some f) :
    (Instr.lookup t (.map (some r)) key true).run P w = .ok (.tuple #[(f.map (·.2)).getD z, .bool f.isSome]) w := by
  cases f with
  | none => simp [Instr.lookup, run_underlying ht, MapKept.run_getObj_map hb, MapKept.run_checkKey hk hp, MapKept.run_findKey hk hf, Result.andThen, hz]
  | some x => simp [Instr.lookup, run_underlying ht, MapKept.run_getObj_map hb, MapKept.run_checkKey hk hp, MapKept.run_findKey hk hf, Result.andThen]
theorem run_lookup_bare {P : Program} {w : World} {r : Nat} {t kt et : TypeId} {kd : TypeDesc} {es : Array MapEntry} {c : Nat} {key z : Value} {f : Option (Nat × Value)} (ht : P.underlying t = some (.map kt et)) (hk : P.underlying kt = some kd)
    (hb : w.heap[r]? = some (.map es c)) (hz : (zeroValue et).run P w = .ok z w) (hp : IsKey kd key) (hf : Instr.findNow kd key es.toList 0 = some f) :
    (Instr.lookup t (.map (some r)) key false).run P w = .ok ((f.map (·.2)).getD z) w := by
  cases f with
  | none => simp [Instr.lookup, run_underlying ht, MapKept.run_getObj_map hb, MapKept.run_checkKey hk hp, MapKept.run_findKey hk hf, Result.andThen, hz]
  | some x => simp [Instr.lookup, run_underlying ht, MapKept.run_getObj_map hb, MapKept.run_checkKey hk hp, MapKept.run_findKey hk hf, Result.andThen]


def insR (x : TIns) (cs : List Value) : Prop := cs = [.int .i64 x.k, .int .i64 x.a, .int .i64 x.b, .int .i64 x.c]
def RdCode (w : World) (D : Nat → Prop) (v : Value) (l : List TIns) : Prop := Sl w D 4 insR v l
theorem RdCode.keep {w w' : World} {D D' : Nat → Prop} {v : Value} {l : List TIns} (h : RdCode w D v l) (hD : ∀ b, D b → b < w.heap.size → D' b)
    (hw : ∀ b, D b → b < w.heap.size → w'.heap[b]? = w.heap[b]?) (hs : w.heap.size ≤ w'.heap.size) : RdCode w' D' v l := Sl.mono h hD hw hs (fun _ _ _ h => h)
theorem RdCode.below {w w' : World} {D : Nat → Prop} {v : Value} {l : List TIns} (h : RdCode w D v l) (hb : Below w.heap.size w w') : RdCode w' D v l :=
  h.keep (fun _ h _ => h) (fun b _ hlt => hb.block b hlt) hb.size
theorem RdCode.cells {w : World} {D : Nat → Prop} {b o n c : Nat} {s : Option Nat} {l : List TIns} (h : RdCode w D (.slice (some ⟨b, o, s⟩) n c) l) {i : Nat} (hi : i < l.length) :
    w.cell? ⟨b, o + i * 4, none⟩ = some (.int .i64 l[i].k) ∧ w.cell? ⟨b, o + i * 4 + 1, none⟩ = some (.int .i64 l[i].a) ∧ w.cell? ⟨b, o + i * 4 + 2, none⟩ = some (.int .i64 l[i].b) ∧ w.cell? ⟨b, o + i * 4 + 3, none⟩ = some (.int .i64 l[i].c) := by
  obtain ⟨cs, hcs, hr, hcell⟩ := Sl.get h hi
  unfold insR at hr
  subst hr
  exact ⟨hcell 0 _ rfl, hcell 1 _ rfl, hcell 2 _ rfl, hcell 3 _ rfl⟩

def intR (x : Int) (cs : List Value) : Prop := cs = [.int .i64 x]
def RdInts (w : World) (D : Nat → Prop) (v : Value) (l : List Int) : Prop := Sl w D 1 intR v l
theorem RdInts.keep {w w' : World} {D D' : Nat → Prop} {v : Value} {l : List Int} (h : RdInts w D v l) (hD : ∀ b, D b → b < w.heap.size → D' b)
    (hw : ∀ b, D b → b < w.heap.size → w'.heap[b]? = w.heap[b]?) (hs : w.heap.size ≤ w'.heap.size) : RdInts w' D' v l := Sl.mono h hD hw hs (fun _ _ _ h => h)
theorem RdInts.below {w w' : World} {D : Nat → Prop} {v : Value} {l : List Int} (h : RdInts w D v l) (hb : Below w.heap.size w w') : RdInts w' D v l :=
  h.keep (fun _ h _ => h) (fun b _ hlt => hb.block b hlt) hb.size
theorem RdInts.cell {w : World} {D : Nat → Prop} {b o n c : Nat} {s : Option Nat} {l : List Int} (h : RdInts w D (.slice (some ⟨b, o, s⟩) n c) l) {i : Nat} (hi : i < l.length) :
    w.cell? ⟨b, o + i, none⟩ = some (.int .i64 l[i]) := by
  obtain ⟨cs, hcs, hr, hcell⟩ := Sl.get h hi
  unfold intR at hr
  subst hr
  have := hcell 0 _ rfl
  rwa [Nat.mul_one] at this
theorem blk_at {w : World} {o : Obj} {b : Nat} (hb : b = w.heap.size) : (w.alloc o).heap[b]? = some o := by subst hb; exact heap_last w o
theorem blk_old {w : World} {o x : Obj} {b : Nat} (h : w.heap[b]? = some x) : (w.alloc o).heap[b]? = some x :=
  (Below.heap_alloc w o b (Array.getElem?_eq_some_iff.1 h).1).trans h
theorem blk_below {w w' : World} {x : Obj} {b : Nat} (h : w.heap[b]? = some x) (hb : Below w.heap.size w w') : w'.heap[b]? = some x :=
  (hb.block b (Array.getElem?_eq_some_iff.1 h).1).trans h
/-- a row that was just laid. -/
theorem rd_row {α : Type} {w : World} {D : Nat → Prop} {sz : Nat} {R : α → List Value → Prop} {xs : List α} {b : Nat} {cells : Array Value} {T : TypeId} {fr : Nat × Nat} (hb : w.heap[b]? = some (.cells cells T fr)) (hD : D b)
    (rows : List (List Value)) (hc : cells.toList = rows.flatten) (hl : rows.length = xs.length) (hsz : ∀ r ∈ rows, r.length = sz) (hR : ∀ (i : Nat) (x : α) (r : List Value), xs[i]? = some x → rows[i]? = some r → R x r) (hm : xs.length ≤ maxLen) :
    Sl w D sz R (.slice (some ⟨b, 0, none⟩) xs.length xs.length) xs := by
  refine ⟨_, _, rfl, Nat.le_refl _, hm, (fun h => by cases h), fun _ => ⟨b, 0, rfl, hD, (Array.getElem?_eq_some_iff.1 hb).1, fun i x hx => ?_⟩⟩
  have hi : i < rows.length := by rw [hl]; exact (List.getElem?_eq_some_iff.1 hx).1
  have hri : rows[i]? = some rows[i] := List.getElem?_eq_getElem hi
  refine ⟨rows[i], hsz _ (List.getElem_mem hi), hR i x _ hx hri, fun j u hu => ?_⟩
  have hj : j < rows[i].length := (List.getElem?_eq_some_iff.1 hu).1
  have hfl : ∀ (rows : List (List Value)) (i : Nat) (r : List Value), (∀ r ∈ rows, r.length = sz) → rows[i]? = some r → ∀ j, j < r.length → rows.flatten[i * sz + j]? = r[j]? := by
    intro rows
    induction rows with
    | nil => intro i r _ h; simp at h
    | cons r0 rows ih =>
      intro i r hs h j hj
      have h0 := hs r0 (List.mem_cons_self ..)
      cases i with
      | zero =>
        simp at h; subst h
        rw [List.flatten_cons, List.getElem?_append_left (by omega)]; simp
      | succ i =>
        have e : (i + 1) * sz + j = r0.length + (i * sz + j) := by rw [h0, Nat.add_mul]; omega
        rw [List.flatten_cons, e, List.getElem?_append_right (by omega), Nat.add_sub_cancel_left]
        exact ih i r (fun r hr => hs r (List.mem_cons_of_mem _ hr)) (by simpa using h) j hj
  have := hfl rows i _ hsz hri j hj
  rw [hu, ← hc] at this
  simp only [World.cell?, hb, Nat.zero_add]
  simpa using this

/-- A slice cut at its end. -/
theorem Sl.take {α : Type} {w : World} {D : Nat → Prop} {sz : Nat} {R : α → List Value → Prop} {a : Option Addr} {n c k : Nat} {xs : List α} (h : Sl w D sz R (.slice a n c) xs) (hk : k ≤ n) : Sl w D sz R (.slice a k c) (xs.take k) := by
  obtain ⟨a', c', hv, hl, hm, hn, h⟩ := h
  injection hv with h1 h2 h3
  subst h1 h2 h3
  have hlk : (xs.take k).length = k := by rw [List.length_take]; omega
  refine ⟨a, c, by rw [hlk], by omega, hm, hn, fun h0 => ?_⟩
  obtain ⟨b, o, ha, hDb, hb, hc⟩ := h (by omega)
  refine ⟨b, o, ha, hDb, hb, fun i x hx => hc i x ?_⟩
  have hi : i < k := by have := (List.getElem?_eq_some_iff.1 hx).1; omega
  rwa [List.getElem?_take_of_lt hi] at hx
def insCells (x : TIns) : List Value := [.int .i64 x.k, .int .i64 x.a, .int .i64 x.b, .int .i64 x.c]
theorem rd_code {w : World} {D : Nat → Prop} {b : Nat} {l : List TIns} {cells : Array Value} {T : TypeId} {fr : Nat × Nat} (hb : w.heap[b]? = some (.cells cells T fr)) (hD : D b) (hc : cells.toList = (l.map insCells).flatten) (hm : l.length ≤ maxLen) :
    RdCode w D (.slice (some ⟨b, 0, none⟩) l.length l.length) l :=
  rd_row hb hD (l.map insCells) hc (by simp) (by intro r hr; obtain ⟨x, _, rfl⟩ := List.mem_map.1 hr; rfl)
    (fun i x r hx hr => by rw [List.getElem?_map, hx] at hr; simp at hr; exact hr.symm) hm
@[reducible] def callV (x : TCall) : Value := .agg #[.int .i64 x.a0, .int .i64 x.a1, .int .i64 x.a2, .int .i64 x.a3, .int .i64 x.a4]
end Go.Proofs.YthkgjohhbdipcaaDoor
namespace Go.Proofs.YthkgjohhbdipcaaDoor
open Go.RowKit

theorem infoBuilder : (Tryd.prog.info? 61).map (·.size) = some 2 := by kernel_rfl
theorem liesBuilder : liesAt Tryd.prog Tryd.prog.depth 61 (2 / Tryd.prog.cellsOf 61) 0 61 1 = true := by kernel_rfl
theorem infoByteB : (Tryd.prog.info? 5).map (fun i => (i.zero, i.size, i.bytes)) = some (some (.int .u8 0), 1, 1) := by kernel_rfl
theorem cellsByteB : Tryd.prog.cellsOf 5 = 1 := by kernel_rfl

/-- a builder that holds these bytes. -/
def Bd (B b : Nat) (l : List UInt8) (w : World) : Prop := Lib.IsBuilder 61 5 B b (Lib.byteCells l) w

set_option maxHeartbeats 1000000 in
set_option maxRecDepth 100000 in
theorem bcheck_used (b : Nat) (w : World) (h0 : w.cell? ⟨b, 0, none⟩ = some (.pointer (some ⟨b, 0, none⟩))) :
    Calls Tryd.prog 59 #[.pointer (some ⟨b, 0, none⟩)] w fun e w' => e = .returned (.tuple #[]) ∧ w' = w := by
  obtain ⟨j, hj, _⟩ := Option.map_eq_some_iff.1 infoBuilder
  go_enter Tryd.func59, Tryd.ntmps59
  go_wp2
  rw [Lib.run_neq_ptr_same w _ Tryd.underlying59 hj]
  go_wp2
  go_end0
  exact ⟨rfl, rfl⟩

set_option maxHeartbeats 1000000 in
set_option maxRecDepth 100000 in
theorem bcheck_fresh (b : Nat) (w : World) (h0 : w.cell? ⟨b, 0, none⟩ = some (.pointer none)) (hsh : w.shape? b = some (61, 2)) (hfz : w.frozen? ⟨b, 0, none⟩ = false) :
    Calls Tryd.prog 59 #[.pointer (some ⟨b, 0, none⟩)] w fun e w' => e = .returned (.tuple #[]) ∧ w' = w.setCell ⟨b, 0, none⟩ (.pointer (some ⟨b, 0, none⟩)) := by
  obtain ⟨j, hj, hjs⟩ := Option.map_eq_some_iff.1 infoBuilder
  go_enter Tryd.func59, Tryd.ntmps59
  go_wp2
  rw [Lib.run_to_unsafe w ⟨b, 0, none⟩ Tryd.underlying59 Tryd.underlying115 hj (by rw [hjs]; decide) hsh (Nat.zero_lt_succ 1)]
  simp only [Result.andThen]
  rw [Oper.upon_value]
  go_wp2
  rw [run_callFunc_extern Tryd.func71 (by kernel_rfl) (by kernel_rfl) (by kernel_rfl) (e := Extern.AbiNoEscape.same) (by kernel_rfl)]
  rw [Lib.run_noEscape]
  simp only [Result.andThen]
  rw [Oper.upon_value]
  go_wp2
  rw [Lib.run_from_unsafe w ⟨b, 0, none⟩ Tryd.underlying115 Tryd.underlying59 hj hsh liesBuilder]
  simp only [Result.andThen]
  rw [Oper.upon_value]
  go_wp2
  go_end0
  exact ⟨rfl, rfl⟩

/-- all blocks but a builder's own one, and its row, stay. -/
def BFr (b : Nat) (w w' : World) : Prop := ∀ k, k < w.heap.size → k ≠ b → (∀ v, w.cell? ⟨b, 1, none⟩ = some v → v.ownBlock ≠ some k) → w'.heap[k]? = w.heap[k]?
theorem bcheck_any (B b : Nat) (bs : List Value) (w : World) (h : Lib.IsBuilder 61 5 B b bs w) :
    Calls Tryd.prog 59 #[.pointer (some ⟨b, 0, none⟩)] w fun e w' => e = .returned (.tuple #[]) ∧ (Lib.BuilderAt 61 5 B b (.pointer (some ⟨b, 0, none⟩)) bs w' ∧ Below B w w') ∧ w'.heap.size = w.heap.size ∧ (∀ k, k ≠ b → w'.heap[k]? = w.heap[k]?) ∧ w'.cell? ⟨b, 1, none⟩ = w.cell? ⟨b, 1, none⟩ := by
  rcases h with h | h
  · refine (bcheck_fresh b w h.cell0 h.shape h.frozen0).mono ?_
    rintro e w' ⟨rfl, rfl⟩
    exact ⟨rfl, ⟨h.used _, (Below.refl B w).setCell (p := ⟨b, 0, none⟩) h.1 _⟩, by simp [World.setCell], fun k hk => Below.heap_setCell _ _ _ _ (fun e => hk e), World.cell?_setCell_other _ _ _ _ (by intro e; injection e with _ e _; cases e)⟩
  · refine (bcheck_used b w h.cell0).mono ?_
    rintro e w' ⟨rfl, rfl⟩
    exact ⟨rfl, ⟨h, Below.refl B _⟩, rfl, fun _ _ => rfl, rfl⟩

set_option maxHeartbeats 2000000 in
set_option maxRecDepth 100000 in
theorem bwrite_any (B b : Nat) (l : List UInt8) (s : ByteArray) (w : World) (h : Bd B b l w) (hlen : l.length + s.size ≤ 140737488355328) (hBw : B ≤ w.heap.size) :
    Calls Tryd.prog 30 #[.pointer (some ⟨b, 0, none⟩), .string s] w fun e w' => e = .returned (.tuple #[.int .i64 s.size, .nilIface]) ∧ Bd B b (l ++ s.data.toList) w' ∧ Below B w w' ∧ BFr b w w' := by
  obtain ⟨i0, hi, hz0, hz1, hz2⟩ := info_parts infoByteB
  have hl : (Lib.byteCells l).length = l.length := Lib.byteCells_length l
  have H := Lib.hid h
  have Hi := Lib.hid hi
  clear h hi
  go_enter Tryd.func30, Tryd.ntmps30
  go_wp2_with fail
  refine (bcheck_any B b _ _ H.out).mono ?_
  rintro e w1 ⟨rfl, ⟨h1, hb1⟩, hs1, hk1, hc11⟩
  obtain ⟨hB, v, hbk, hown, hne⟩ := h1
  have Hk1 := Lib.hid hk1
  have Hs1 := Lib.hid hs1
  have Hc11 := Lib.hid hc11
  clear hk1 hs1 hc11
  have c0 : w1.cell? ⟨b, 0, none⟩ = some (.pointer (some ⟨b, 0, none⟩)) := by rw [Lib.cell_of_heap hbk]; rfl
  have c1 : w1.cell? ⟨b, 1, none⟩ = some v := by rw [Lib.cell_of_heap hbk]; rfl
  have Hown := Lib.hid hown
  have Hbk := Lib.hid hbk
  have Hb1 := Lib.hid hb1
  have Hne := Lib.hid hne
  clear hown hbk hb1 hne
  go_wp2_with (at_builtin; refine Lib.wpList_append_own_string _ rfl _ _ 41 9 rfl B 5 i0 Tryd.underlying41 Tryd.underlying9 Hi.out hz0 hz1 hz2 _ _ _ rfl Hown.out s rfl ?c3 ?c4 ?c5 ?_)
  case c3 => rw [hl]; unfold maxLen; omega
  case c4 => rw [hl]; omega
  case c5 => have := Hb1.out.size; omega
  intro v' w2 hown' hgrow _
  have hlt : b < w1.heap.size := (Array.getElem?_eq_some_iff.1 Hbk.out).1
  have hb2 : w2.heap[b]? = some (.cells #[.pointer (some ⟨b, 0, none⟩), v] 61 (0, 0)) := by
    rw [hgrow.block b hlt (fun e => Hne.out e.symm)]
    exact Hbk.out
  have d0 : w2.cell? ⟨b, 0, none⟩ = some (.pointer (some ⟨b, 0, none⟩)) := by rw [Lib.cell_of_heap hb2]; rfl
  have d1 : w2.cell? ⟨b, 1, none⟩ = some v := by rw [Lib.cell_of_heap hb2]; rfl
  have f1 : w2.frozen? ⟨b, 1, none⟩ = false := Lib.frozen_of_heap hb2 1
  obtain ⟨ao, n', cap, rfl⟩ : ∃ ao n' cap, v' = .slice ao n' cap := by
    rcases hown'.2 with ⟨hv, _⟩ | ⟨g, cap, cur, hv, _⟩
    · exact ⟨_, _, _, hv⟩
    · exact ⟨_, _, _, hv⟩
  have Hgrow := Lib.hid hgrow
  have Hown' := Lib.hid hown'
  have Hb2 := Lib.hid hb2
  have Hc1 : Hid (w.cell? ⟨b, 1, none⟩ = some v) := by show _ = _; rw [← Hc11.out]; exact c1
  clear hgrow hown' hb2 c0 c1
  go_wp2
  go_ret2
  refine ⟨rfl, ?_, ?_, ?_⟩
  · have hap : Lib.byteCells l ++ Lib.strCells s = Lib.byteCells (l ++ s.data.toList) := by rw [Lib.byteCells_append]; rfl
    have := Hown'.out
    rw [hap] at this
    refine .inr (Lib.BuilderAt.put (T := 61) (e := 5) hB Hb2.out ?_ (by decide))
    have hl2 : (Lib.byteCells (l ++ s.data.toList)).length = (Lib.byteCells l).length + s.size := by
      rw [Lib.byteCells_length, List.length_append, hl]; rfl
    rw [hl2, hl]
    exact this
  · exact (Hb1.out.grown Hgrow.out (by have := Hb1.out.size; omega) (fun k hk => (Hown.out.lt k hk).1)).setCell (p := ⟨b, 1, none⟩) hB _
  · intro k hk hkb hkv
    rw [Below.heap_setCell _ _ _ _ (fun e => hkb e), Hgrow.out.block k (by rw [Hs1.out]; exact hk) (fun e => hkv v Hc1.out e.symm)]
    exact Hk1.out k hkb
theorem Bd.lt {B b : Nat} {l : List UInt8} {w : World} (h : Bd B b l w) : B ≤ b ∧ b < w.heap.size := by
  rcases h with h | h
  · exact ⟨h.1, h.lt⟩
  · exact ⟨h.1, h.lt⟩
theorem Bd.own {B b : Nat} {l : List UInt8} {w : World} (h : Bd B b l w) : ∀ v, w.cell? ⟨b, 1, none⟩ = some v → ∀ g, v.ownBlock = some g → g < w.heap.size := by
  have key : ∀ p, Lib.BuilderAt 61 5 B b p (Lib.byteCells l) w → ∀ v, w.cell? ⟨b, 1, none⟩ = some v → ∀ g, v.ownBlock = some g → g < w.heap.size := by
    rintro p ⟨hB, v, hbk, hown, hne⟩ v' hv g hg
    rw [Lib.cell_of_heap hbk] at hv
    injection hv with hv
    subst hv
    exact (hown.lt g hg).2
  rcases h with h | h
  · exact key _ h
  · exact key _ h
/-- a builder, whatever is laid behind it. -/
theorem Bd.below {B b : Nat} {l : List UInt8} {w w' : World} (h : Bd B b l w) (hb : Below w.heap.size w w') : Bd B b l w' := by
  have key : ∀ p, Lib.BuilderAt 61 5 B b p (Lib.byteCells l) w → Lib.BuilderAt 61 5 B b p (Lib.byteCells l) w' := by
    rintro p ⟨hB, v, hbk, hown, hne⟩
    exact ⟨hB, v, (hb.block b (Array.getElem?_eq_some_iff.1 hbk).1).trans hbk, by
      obtain ⟨h1, h2⟩ := hown
      refine ⟨h1, ?_⟩
      rcases h2 with h2 | ⟨g, cap, cur, hv, hg, hh, r⟩
      · exact .inl h2
      · exact .inr ⟨g, cap, cur, hv, hg, (hb.block g (Array.getElem?_eq_some_iff.1 hh).1).trans hh, r⟩, hne⟩
  rcases h with h | h
  · exact .inl (key _ h)
  · exact .inr (key _ h)
/-- blocks from B on stay. -/
def KeepFrom (B : Nat) (W W' : World) : Prop := W.heap.size ≤ W'.heap.size ∧ ∀ k, B ≤ k → k < W.heap.size → W'.heap[k]? = W.heap[k]?
theorem KeepFrom.of_below {B : Nat} {W W' : World} (h : Below W.heap.size W W') : KeepFrom B W W' := ⟨h.size, fun k _ hk => h.block k hk⟩
theorem Bd.keep {B b : Nat} {l : List UInt8} {w0 W W' : World} (h : Bd B b l w0) (hC : Below w0.heap.size w0 W) (hF : BFr b W W') (hs : W.heap.size ≤ W'.heap.size) : KeepFrom w0.heap.size W W' := by
  refine ⟨hs, fun k hk hlt => hF k hlt (by have := h.lt; omega) fun v hv e => ?_⟩
  have hv' : w0.cell? ⟨b, 1, none⟩ = some v := by
    rw [← hv]
    exact (hC.cell (p := ⟨b, 1, none⟩) h.lt.2).symm
  have := h.own v hv' k e
  omega

set_option maxHeartbeats 2000000 in
set_option maxRecDepth 100000 in
theorem bstring_any (B b : Nat) (l : List UInt8) (w : World) (h : Bd B b l w) (h0 : l ≠ []) :
    Calls Tryd.prog 35 #[.pointer (some ⟨b, 0, none⟩)] w fun e w' => e = .returned (.string ⟨l.toArray⟩) ∧ Below B w w' := by
  obtain ⟨p, hB, v, hbk, hown, hne⟩ : ∃ p, Lib.BuilderAt 61 5 B b p (Lib.byteCells l) w := by
    rcases h with h | h
    · exact ⟨_, h⟩
    · exact ⟨_, h⟩
  have hl0 : l.length ≠ 0 := by simpa using h0
  rw [Lib.byteCells_length] at hown
  obtain ⟨g, cap, cur, rfl, hbg, hg, hnc, hcm, hcs, htake⟩ : ∃ g cap cur, v = .slice (some ⟨g, 0, none⟩) l.length cap ∧ B ≤ g ∧ w.heap[g]? = some (.cells cur 5 (0, 0)) ∧ l.length ≤ cap ∧ cap ≤ maxLen ∧ cur.size = cap * 1 ∧ cur.toList.take (l.length * 1) = Lib.byteCells l := by
    rcases hown.2 with ⟨_, hz⟩ | ⟨g, cap, cur, hv, r⟩
    · exact absurd hz hl0
    · exact ⟨g, cap, cur, hv, r⟩
  have c1 : w.drew.cell? ⟨b, 1, none⟩ = some (.slice (some ⟨g, 0, none⟩) l.length cap) := by
    have : w.drew.heap[b]? = some (.cells #[p, .slice (some ⟨g, 0, none⟩) l.length cap] 61 (0, 0)) := hbk
    rw [Lib.cell_of_heap this]; rfl
  have hSD : (Builtin.unsafeSliceData_ #[41] 103 #[.slice (some ⟨g, 0, none⟩) l.length cap]).run Tryd.prog w.drew = .ok (.pointer (some ⟨g, 0, none⟩)) w.drew :=
    Lib.run_unsafeSliceData_row _ _ _ _ _ _ (by omega)
  have hUS : (Builtin.unsafeString_ #[103, 3] 9 #[.pointer (some ⟨g, 0, none⟩), .int .i64 l.length]).run Tryd.prog w.drew = .ok (.string ⟨l.toArray⟩) (w.drew.freeze ⟨g, 0, none⟩ l.length) := by
    refine Lib.run_unsafeString_row w.drew 103 3 9 5 Tryd.underlying103 cellsByteB g cur.size (by have hg' : w.drew.heap[g]? = some (.cells cur 5 (0, 0)) := hg; simp [World.shape?, hg']) l h0 (by omega) (by unfold maxLen at hcm; omega) ?_
    intro j x hx
    have := hown.cells (g := g) rfl j (.int .u8 x.toNat) (by simp [Lib.byteCells, hx])
    exact this
  have Hg := Lib.hid hg
  clear h hown hne hbk hg htake hcs hcm hnc h0
  go_enter Tryd.func35, Tryd.ntmps35
  go_wp2
  go_region
  all_goals (go_wp2; go_ret; exact ⟨rfl, Lib.below_freeze (Below.drew (Below.refl B w)) (p := ⟨g, 0, none⟩) hbg _⟩)
end Go.Proofs.YthkgjohhbdipcaaDoor
