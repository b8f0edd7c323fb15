/- Texts laid one behind the other: Shelf, Whole, Mono, Done, Prune, Spec. No condition beyond theirs. -/
import Derived.Shelf.Strings.Builder1
import Derived.Shelf.Small.Utf8
import Derived.Shelf.Small.Bits
import Derived.Shelf.Small.Strs
import Derived.Shelf.Small.Wraps
import Derived.Shelf.Utf8.RuneCount
import Derived.Shelf.Strconv.Atoi
import Derived.Shelf.Strconv.Itoa0
import Derived.Shelf.Strconv.Itoa1
import Derived.Shelf.LaysM
import Derived.Shelf.Strconv.Itoa2
import Derived.Shelf.Strconv.Itoa3
import Derived.Shelf.Strconv.Itoa4
import Derived.Shelf.Strconv.AtoiErrFast
import Derived.Shelf.Strconv.ParseIntEmpty
import Derived.Shelf.Strconv.AtoiFail
import Derived.Shelf.Strconv.Clone
import Derived.Shelf.Strconv.SyntaxError
import Derived.Shelf.LaysC
import Derived.Shelf.Strconv.ToError
import Derived.Shelf.Strconv.Lower
import Derived.Shelf.Strconv.ParseUint10
import Derived.Shelf.Strconv.ParseUint10Empty
import Derived.Shelf.Strconv.ParseUint10Any
import Derived.Shelf.Strconv.ParseInt10
import Derived.Shelf.Strconv.AtoiLong
import Derived.Shelf.Strconv.AtoiInnerAll
import Derived.Shelf.Strconv.RangeError
import Derived.Shelf.Strconv.ToErrorRange
import Derived.Shelf.Strconv.AtoiAll
import Derived.Shelf.Strconv.ParseUintEmpty
import Derived.Shelf.Strconv.ParseUint10b64
import Derived.Shelf.Strconv.ParseUint10b32
import Derived.Shelf.Strconv.ParseUint10b16
import Derived.Shelf.Strconv.ParseUint10b8
import Derived.Shelf.Strconv.ParseUint10At
import Derived.Shelf.Strconv.ParseInt10At64
import Derived.Shelf.Strconv.ParseInt10At32
import Derived.Shelf.Strconv.ParseInt10At16
import Derived.Shelf.Strconv.ParseInt10At8
import Derived.Shelf.Strconv.ParseInt10All
import Derived.Shelf.Strconv.ParseIntPublic10
import Derived.Shelf.Strconv.ErrVarParseInt
import Derived.Shelf.Strings.Search1
import Derived.Shelf.Strings.Search2
import Derived.Shelf.Strings.Search3
import Derived.Shelf.Strings.Cut
import Derived.Shelf.Strings.Count
import Derived.Shelf.Strings.Shaped
import Derived.Shelf.Sort.Plain
import Derived.Shelf.Strings.Prefix
import Derived.Shelf.Strings.Split
import Derived.Shelf.Strings.Fields
import Derived.Shelf.Strings.SplitShaped
import Derived.Shelf.Unicode.Latin
import Derived.Shelf.Unicode.Decode
import Derived.Shelf.Strings.Runes
import Derived.Shelf.Strings.RuneCount
import Derived.Shelf.Strings.IndexAny
import Derived.Shelf.Strings.AsciiSet
import Derived.Shelf.Strings.IndexAnyAll
import Derived.Shelf.Strings.Explode
import Derived.Shelf.Unicode.DecodeSlow
import Derived.Shelf.Unicode.DecodeAny
import Derived.Shelf.Unicode.Is16White
import Derived.Shelf.Unicode.IsSpaceAny
import Derived.Shelf.Unicode.Is16Any
import Derived.Shelf.Unicode.Is32Any
import Derived.Shelf.Unicode.ExclAny
import Derived.Shelf.Slices.Turned
import Derived.Ground.Names2Prog
import Derived.Shelf.Slices.CompactI
import Derived.Shelf.Slices.SearchI
import Derived.Shelf.Slices.Cells
import Derived.Shelf.Slices.In.SortNone
import Derived.Test.YthkgjohhbdipcaaGreatDoorProg
import Derived.Lib.ParseIntB
import Derived.Lib.ItoaMem
import Derived.WalkKit
import Derived.Lib.Hide
set_option linter.all false
namespace Go.Proofs
open Go.Shelf
def Tryz.laysM173_ren : Go.Shelf.Ren := ⟨fun | 173 => 120 | 246 => 140 | 283 => 164 | 284 => 165 | 285 => 166 | 286 => 167 | 129 => 197 | 317 => 196 | 318 => 198 | 319 => 199 | 320 => 200 | 337 => 220 | 338 => 221 | n => n, fun | 2 => 2 | 3 => 3 | 9 => 9 | 4 => 4 | 171 => 199 | 0 => 0 | 53 => 200 | 37 => 23 | 5 => 5 | 173 => 203 | 212 => 242 | 51 => 223 | 20 => 20 | 213 => 243 | 46 => 208 | 232 => 290 | 233 => 291 | n => n, fun | 17 => 3 | 18 => 8 | 19 => 9 | n => n⟩
theorem Tryz.laysM173 : Go.Proofs.LaysM.n173 Tryz.prog Tryz.laysM173_ren := {
  mixed := by kernel_rfl
  f129 := Tryz.func197.trans (congrArg some (by kernel_rfl))
  f173 := Tryz.func120.trans (congrArg some (by kernel_rfl))
  f246 := Tryz.func140.trans (congrArg some (by kernel_rfl))
  f283 := Tryz.func164.trans (congrArg some (by kernel_rfl))
  f284 := Tryz.func165.trans (congrArg some (by kernel_rfl))
  f285 := Tryz.func166.trans (congrArg some (by kernel_rfl))
  f286 := Tryz.func167.trans (congrArg some (by kernel_rfl))
  f317 := Tryz.func196.trans (congrArg some (by kernel_rfl))
  f318 := Tryz.func198.trans (congrArg some (by kernel_rfl))
  f319 := Tryz.func199.trans (congrArg some (by kernel_rfl))
  f320 := Tryz.func200.trans (congrArg some (by kernel_rfl))
  f337 := Tryz.func220.trans (congrArg some (by kernel_rfl))
  f338 := Tryz.func221.trans (congrArg some (by kernel_rfl))
  t0 := Tryz.underlying0
  a0 := Tryz.isAgg0
  z0 := Tryz.sizeOf0
  v0 := Tryz.zeroValue0
  t2 := Tryz.underlying2
  a2 := Tryz.isAgg2
  z2 := Tryz.sizeOf2
  v2 := Tryz.zeroValue2
  t3 := Tryz.underlying3
  a3 := Tryz.isAgg3
  z3 := Tryz.sizeOf3
  v3 := Tryz.zeroValue3
  t4 := Tryz.underlying4
  a4 := Tryz.isAgg4
  z4 := Tryz.sizeOf4
  v4 := Tryz.zeroValue4
  t5 := Tryz.underlying5
  a5 := Tryz.isAgg5
  z5 := Tryz.sizeOf5
  v5 := Tryz.zeroValue5
  t9 := Tryz.underlying9
  a9 := Tryz.isAgg9
  z9 := Tryz.sizeOf9
  v9 := Tryz.zeroValue9
  t20 := Tryz.underlying20
  a20 := Tryz.isAgg20
  z20 := Tryz.sizeOf20
  v20 := Tryz.zeroValue20
  t37 := Tryz.underlying23
  a37 := Tryz.isAgg23
  z37 := Tryz.sizeOf23
  v37 := Tryz.zeroValue23
  t46 := Tryz.underlying208
  a46 := Tryz.isAgg208
  z46 := Tryz.sizeOf208
  v46 := Tryz.zeroValue208
  t51 := Tryz.underlying223
  a51 := Tryz.isAgg223
  z51 := Tryz.sizeOf223
  v51 := Tryz.zeroValue223
  t53 := Tryz.underlying200
  a53 := Tryz.isAgg200
  z53 := Tryz.sizeOf200
  v53 := Tryz.zeroValue200
  t171 := Tryz.underlying199
  a171 := Tryz.isAgg199
  z171 := Tryz.sizeOf199
  v171 := Tryz.zeroValue199
  t173 := Tryz.underlying203
  a173 := Tryz.isAgg203
  z173 := Tryz.sizeOf203
  v173 := Tryz.zeroValue203
  t212 := Tryz.underlying242
  a212 := Tryz.isAgg242
  z212 := Tryz.sizeOf242
  v212 := Tryz.zeroValue242
  t213 := Tryz.underlying243
  a213 := Tryz.isAgg243
  z213 := Tryz.sizeOf243
  t232 := Tryz.underlying290
  a232 := Tryz.isAgg290
  z232 := Tryz.sizeOf290
  v232 := Tryz.zeroValue290
  t233 := Tryz.underlying291
  a233 := Tryz.isAgg291
  z233 := Tryz.sizeOf291
  v233 := Tryz.zeroValue291
  g17 := by kernel_rfl
  g18 := by kernel_rfl
  g19 := by kernel_rfl
  i0 := by kernel_rfl
  i2 := by kernel_rfl
  i3 := by kernel_rfl
  i4 := by kernel_rfl
  i5 := by kernel_rfl
  i9 := by kernel_rfl
  i20 := by kernel_rfl
  i37 := by kernel_rfl
  i46 := by kernel_rfl
  i51 := by kernel_rfl
  i53 := by kernel_rfl
  i171 := by kernel_rfl
  i173 := by kernel_rfl
  i212 := by kernel_rfl
  i232 := by kernel_rfl
  i233 := by kernel_rfl
  m17 := by kernel_rfl
  m18 := by kernel_rfl
  m19 := by kernel_rfl }
open Go.RowKit Go.Sort Go.Lib in
theorem Tryz.strconv_FormatInt_10 (n : Int) (h0 : -9223372036854775808 ≤ n) (h1 : n ≤ 9223372036854775807) (w : World) (htab : Lib.TabIs Tryz.prog w "internal/strconv.uint64pow10" .u64 Lib.pow10Tab) :
    Calls Tryz.prog 120 #[.int .i64 n, .int .i64 10] w fun e w' => e = .returned (.string ⟨(Lib.itoa n).toArray⟩) ∧ ∃ k os, w' = grow (w.drewN k) os := Any.strconv_FormatInt_10 Tryz.laysM173 n h0 h1 w htab
def Tryz.laysC174_ren : Go.Shelf.Ren := ⟨fun | 174 => 119 | 247 => 151 | 245 => 144 | 287 => 185 | 279 => 173 | 280 => 174 | 281 => 175 | 282 => 176 | 321 => 210 | 322 => 211 | 316 => 203 | 171 => 65 | 205 => 204 | 243 => 101 | 246 => 140 | 283 => 164 | 284 => 165 | 285 => 166 | 286 => 167 | 129 => 197 | 317 => 196 | 318 => 198 | 319 => 199 | 320 => 200 | 337 => 220 | 338 => 221 | n => n, fun | 9 => 9 | 3 => 3 | 2 => 2 | 75 => 149 | 85 => 165 | 4 => 4 | 167 => 209 | 5 => 5 | 53 => 200 | 175 => 229 | 46 => 208 | 168 => 210 | 37 => 23 | 0 => 0 | 210 => 249 | 21 => 21 | 127 => 184 | 145 => 277 | 143 => 275 | 171 => 199 | 173 => 203 | 212 => 242 | 51 => 223 | 20 => 20 | 213 => 243 | 232 => 290 | 233 => 291 | 80 => 154 | n => n, fun | 15 => 4 | 16 => 5 | 17 => 3 | 18 => 8 | 19 => 9 | n => n⟩
theorem Tryz.laysC174 : Go.Proofs.LaysC.n174 Tryz.prog Tryz.laysC174_ren := {
  mixed := by kernel_rfl
  f129 := Tryz.func197.trans (congrArg some (by kernel_rfl))
  f171 := Tryz.func65.trans (congrArg some (by kernel_rfl))
  f174 := Tryz.func119.trans (congrArg some (by kernel_rfl))
  f205 := Tryz.func204.trans (congrArg some (by kernel_rfl))
  f243 := Tryz.func101.trans (congrArg some (by kernel_rfl))
  f245 := Tryz.func144.trans (congrArg some (by kernel_rfl))
  f246 := Tryz.func140.trans (congrArg some (by kernel_rfl))
  f247 := Tryz.func151.trans (congrArg some (by kernel_rfl))
  f279 := Tryz.func173.trans (congrArg some (by kernel_rfl))
  f280 := Tryz.func174.trans (congrArg some (by kernel_rfl))
  f281 := Tryz.func175.trans (congrArg some (by kernel_rfl))
  f282 := Tryz.func176.trans (congrArg some (by kernel_rfl))
  f283 := Tryz.func164.trans (congrArg some (by kernel_rfl))
  f284 := Tryz.func165.trans (congrArg some (by kernel_rfl))
  f285 := Tryz.func166.trans (congrArg some (by kernel_rfl))
  f286 := Tryz.func167.trans (congrArg some (by kernel_rfl))
  f287 := Tryz.func185.trans (congrArg some (by kernel_rfl))
  f316 := Tryz.func203.trans (congrArg some (by kernel_rfl))
  f317 := Tryz.func196.trans (congrArg some (by kernel_rfl))
  f318 := Tryz.func198.trans (congrArg some (by kernel_rfl))
  f319 := Tryz.func199.trans (congrArg some (by kernel_rfl))
  f320 := Tryz.func200.trans (congrArg some (by kernel_rfl))
  f321 := Tryz.func210.trans (congrArg some (by kernel_rfl))
  f322 := Tryz.func211.trans (congrArg some (by kernel_rfl))
  f337 := Tryz.func220.trans (congrArg some (by kernel_rfl))
  f338 := Tryz.func221.trans (congrArg some (by kernel_rfl))
  t0 := Tryz.underlying0
  a0 := Tryz.isAgg0
  z0 := Tryz.sizeOf0
  v0 := Tryz.zeroValue0
  t2 := Tryz.underlying2
  a2 := Tryz.isAgg2
  z2 := Tryz.sizeOf2
  v2 := Tryz.zeroValue2
  t3 := Tryz.underlying3
  a3 := Tryz.isAgg3
  z3 := Tryz.sizeOf3
  v3 := Tryz.zeroValue3
  t4 := Tryz.underlying4
  a4 := Tryz.isAgg4
  z4 := Tryz.sizeOf4
  v4 := Tryz.zeroValue4
  t5 := Tryz.underlying5
  a5 := Tryz.isAgg5
  z5 := Tryz.sizeOf5
  v5 := Tryz.zeroValue5
  t9 := Tryz.underlying9
  a9 := Tryz.isAgg9
  z9 := Tryz.sizeOf9
  v9 := Tryz.zeroValue9
  t20 := Tryz.underlying20
  a20 := Tryz.isAgg20
  z20 := Tryz.sizeOf20
  v20 := Tryz.zeroValue20
  t21 := Tryz.underlying21
  a21 := Tryz.isAgg21
  z21 := Tryz.sizeOf21
  v21 := Tryz.zeroValue21
  t37 := Tryz.underlying23
  a37 := Tryz.isAgg23
  z37 := Tryz.sizeOf23
  v37 := Tryz.zeroValue23
  t46 := Tryz.underlying208
  a46 := Tryz.isAgg208
  z46 := Tryz.sizeOf208
  v46 := Tryz.zeroValue208
  t51 := Tryz.underlying223
  a51 := Tryz.isAgg223
  z51 := Tryz.sizeOf223
  v51 := Tryz.zeroValue223
  t53 := Tryz.underlying200
  a53 := Tryz.isAgg200
  z53 := Tryz.sizeOf200
  v53 := Tryz.zeroValue200
  t75 := Tryz.underlying149
  a75 := Tryz.isAgg149
  z75 := Tryz.sizeOf149
  v75 := Tryz.zeroValue149
  t85 := Tryz.underlying165
  a85 := Tryz.isAgg165
  z85 := Tryz.sizeOf165
  v85 := Tryz.zeroValue165
  t127 := Tryz.underlying184
  a127 := Tryz.isAgg184
  z127 := Tryz.sizeOf184
  v127 := Tryz.zeroValue184
  t143 := Tryz.underlying275
  a143 := Tryz.isAgg275
  z143 := Tryz.sizeOf275
  v143 := Tryz.zeroValue275
  t145 := Tryz.underlying277
  a145 := Tryz.isAgg277
  z145 := Tryz.sizeOf277
  v145 := Tryz.zeroValue277
  t167 := Tryz.underlying209
  a167 := Tryz.isAgg209
  z167 := Tryz.sizeOf209
  v167 := Tryz.zeroValue209
  t168 := Tryz.underlying210
  a168 := Tryz.isAgg210
  z168 := Tryz.sizeOf210
  v168 := Tryz.zeroValue210
  t171 := Tryz.underlying199
  a171 := Tryz.isAgg199
  z171 := Tryz.sizeOf199
  v171 := Tryz.zeroValue199
  t173 := Tryz.underlying203
  a173 := Tryz.isAgg203
  z173 := Tryz.sizeOf203
  v173 := Tryz.zeroValue203
  t175 := Tryz.underlying229
  a175 := Tryz.isAgg229
  z175 := Tryz.sizeOf229
  v175 := Tryz.zeroValue229
  t210 := Tryz.underlying249
  a210 := Tryz.isAgg249
  z210 := Tryz.sizeOf249
  v210 := Tryz.zeroValue249
  t212 := Tryz.underlying242
  a212 := Tryz.isAgg242
  z212 := Tryz.sizeOf242
  v212 := Tryz.zeroValue242
  t213 := Tryz.underlying243
  a213 := Tryz.isAgg243
  z213 := Tryz.sizeOf243
  t232 := Tryz.underlying290
  a232 := Tryz.isAgg290
  z232 := Tryz.sizeOf290
  v232 := Tryz.zeroValue290
  t233 := Tryz.underlying291
  a233 := Tryz.isAgg291
  z233 := Tryz.sizeOf291
  v233 := Tryz.zeroValue291
  g15 := by kernel_rfl
  g16 := by kernel_rfl
  g17 := by kernel_rfl
  g18 := by kernel_rfl
  g19 := by kernel_rfl
  t80 := Tryz.underlying154
  a80 := Tryz.isAgg154
  z80 := Tryz.sizeOf154
  v80 := Tryz.zeroValue154
  i0 := by kernel_rfl
  i2 := by kernel_rfl
  i3 := by kernel_rfl
  i4 := by kernel_rfl
  i5 := by kernel_rfl
  i9 := by kernel_rfl
  i20 := by kernel_rfl
  i21 := by kernel_rfl
  i37 := by kernel_rfl
  i46 := by kernel_rfl
  i51 := by kernel_rfl
  i53 := by kernel_rfl
  i75 := by kernel_rfl
  i80 := by kernel_rfl
  i85 := by kernel_rfl
  i127 := by kernel_rfl
  i143 := by kernel_rfl
  i145 := by kernel_rfl
  i167 := by kernel_rfl
  i168 := by kernel_rfl
  i171 := by kernel_rfl
  i173 := by kernel_rfl
  i175 := by kernel_rfl
  i210 := by kernel_rfl
  i212 := by kernel_rfl
  i232 := by kernel_rfl
  i233 := by kernel_rfl
  m15 := by kernel_rfl
  m16 := by kernel_rfl
  m17 := by kernel_rfl
  m18 := by kernel_rfl
  m19 := by kernel_rfl
  c0 := by kernel_rfl
  c2 := by kernel_rfl
  c3 := by kernel_rfl
  c4 := by kernel_rfl
  c5 := by kernel_rfl
  c9 := by kernel_rfl
  c20 := by kernel_rfl
  c21 := by kernel_rfl
  c37 := by kernel_rfl
  c46 := by kernel_rfl
  c51 := by kernel_rfl
  c53 := by kernel_rfl
  c75 := by kernel_rfl
  c80 := by kernel_rfl
  c85 := by kernel_rfl
  c127 := by kernel_rfl
  c143 := by kernel_rfl
  c145 := by kernel_rfl
  c167 := by kernel_rfl
  c168 := by kernel_rfl
  c171 := by kernel_rfl
  c173 := by kernel_rfl
  c175 := by kernel_rfl
  c210 := by kernel_rfl
  c212 := by kernel_rfl
  c213 := by kernel_rfl
  c232 := by kernel_rfl
  c233 := by kernel_rfl }
open Go.RowKit in
theorem Tryz.strconv_ParseInt_10_at64_ok (s : ByteArray) (hmax : s.size ≤ 9223372036854775806) (v : Int) (h : Lib.parseIntB 64 s.data.toList = .ok v) (w : World) :
    Calls Tryz.prog 119 #[.string s, .int .i64 10, .int .i64 64] w fun e w' => e = .returned (.tuple #[.int .i64 v, .nilIface]) ∧ (w' = w ∨ ∃ t, w' = Lib.bytesWorld w 5 t) := Any.strconv_ParseInt_10_at64_ok Tryz.laysC174 s hmax v h w
open Go.RowKit in
theorem Tryz.strconv_ParseInt_10_at64_range (s : ByteArray) (hlim : s.size ≤ 281474976710656) (h : Lib.parseIntB 64 s.data.toList = .range) (ev : Value) (w : World) (hv : w.cell? ⟨5, 0, none⟩ = some ev) (hev : ev = .nilIface ∨ ∃ te pe, ev = .iface te pe) :
    Calls Tryz.prog 119 #[.string s, .int .i64 10, .int .i64 64] w fun e w' => ∃ N, e = .returned (.tuple #[.int .i64 (Lib.intSat 64 s.data.toList), .iface 210 (.pointer (some ⟨N, 0, none⟩))]) ∧ w.heap.size ≤ N ∧ w'.heap[N]? = some (.cells #[.string ⟨#[80, 97, 114, 115, 101, 73, 110, 116]⟩, .string s, ev] 249 (0, 0)) ∧ Below w.heap.size w w' := Any.strconv_ParseInt_10_at64_range Tryz.laysC174 s hlim h ev w hv hev
def Tryz.lays145_ren : Go.Shelf.Ren := ⟨fun | 145 => 67 | 220 => 107 | 219 => 142 | 217 => 169 | 225 => 170 | 224 => 171 | 267 => 172 | 266 => 201 | 314 => 202 | n => n, fun | 9 => 9 | 4 => 4 | 59 => 105 | 3 => 3 | 5 => 5 | 46 => 208 | 146 => 245 | 51 => 223 | n => n, fun | 1 => 1 | n => n⟩
theorem Tryz.lays145 : Go.Proofs.Lays.n145 Tryz.prog Tryz.lays145_ren := {
  mixed := by kernel_rfl
  f145 := Tryz.func67.trans (congrArg some (by kernel_rfl))
  f217 := Tryz.func169.trans (congrArg some (by kernel_rfl))
  f219 := Tryz.func142.trans (congrArg some (by kernel_rfl))
  f220 := Tryz.func107.trans (congrArg some (by kernel_rfl))
  f224 := Tryz.func171.trans (congrArg some (by kernel_rfl))
  f225 := Tryz.func170.trans (congrArg some (by kernel_rfl))
  f266 := Tryz.func201.trans (congrArg some (by kernel_rfl))
  f267 := Tryz.func172.trans (congrArg some (by kernel_rfl))
  f314 := Tryz.func202.trans (congrArg some (by kernel_rfl))
  t3 := Tryz.underlying3
  a3 := Tryz.isAgg3
  z3 := Tryz.sizeOf3
  v3 := Tryz.zeroValue3
  t4 := Tryz.underlying4
  a4 := Tryz.isAgg4
  z4 := Tryz.sizeOf4
  v4 := Tryz.zeroValue4
  t5 := Tryz.underlying5
  a5 := Tryz.isAgg5
  z5 := Tryz.sizeOf5
  v5 := Tryz.zeroValue5
  t9 := Tryz.underlying9
  a9 := Tryz.isAgg9
  z9 := Tryz.sizeOf9
  v9 := Tryz.zeroValue9
  t46 := Tryz.underlying208
  a46 := Tryz.isAgg208
  z46 := Tryz.sizeOf208
  v46 := Tryz.zeroValue208
  t51 := Tryz.underlying223
  a51 := Tryz.isAgg223
  z51 := Tryz.sizeOf223
  v51 := Tryz.zeroValue223
  t59 := Tryz.underlying105
  a59 := Tryz.isAgg105
  z59 := Tryz.sizeOf105
  v59 := Tryz.zeroValue105
  t146 := Tryz.underlying245
  a146 := Tryz.isAgg245
  z146 := Tryz.sizeOf245
  v146 := Tryz.zeroValue245
  g1 := by kernel_rfl }
open Go.RowKit Go.Lib in
theorem Tryz.strings_Cut (s sep : ByteArray) (m : Int) (w : World) (hs : s.size < 4294967281) (hm : w.cell? ⟨1, 0, none⟩ = some (.int .i64 m)) :
    Calls Tryz.prog 67 #[.string s, .string sep] w fun e w' => e = .returned (.tuple #[.string ⟨(Lib.cut s.data.toList sep.data.toList).1.toArray⟩, .string ⟨(Lib.cut s.data.toList sep.data.toList).2.1.toArray⟩, .bool (Lib.cut s.data.toList sep.data.toList).2.2]) ∧ ∃ n, w' = w.drewN n := Any.strings_Cut Tryz.lays145 s sep m w hs hm
def Tryz.lays146_ren : Go.Shelf.Ren := ⟨fun | 146 => 109 | 221 => 118 | 268 => 148 | 138 => 149 | 143 => 150 | 195 => 182 | 197 => 183 | 218 => 184 | 219 => 142 | 260 => 209 | 217 => 169 | 225 => 170 | 224 => 171 | 267 => 172 | 266 => 201 | 314 => 202 | n => n, fun | 9 => 9 | 31 => 101 | 3 => 3 | 4 => 4 | 0 => 0 | 105 => 227 | 21 => 21 | 5 => 5 | 46 => 208 | 119 => 187 | 139 => 282 | 138 => 281 | 146 => 245 | 51 => 223 | n => n, fun | 1 => 1 | 3 => 6 | 4 => 7 | n => n⟩
theorem Tryz.lays146 : Go.Proofs.Lays.n146 Tryz.prog Tryz.lays146_ren := {
  mixed := by kernel_rfl
  f138 := Tryz.func149.trans (congrArg some (by kernel_rfl))
  f143 := Tryz.func150.trans (congrArg some (by kernel_rfl))
  f146 := Tryz.func109.trans (congrArg some (by kernel_rfl))
  f195 := Tryz.func182.trans (congrArg some (by kernel_rfl))
  f197 := Tryz.func183.trans (congrArg some (by kernel_rfl))
  f217 := Tryz.func169.trans (congrArg some (by kernel_rfl))
  f218 := Tryz.func184.trans (congrArg some (by kernel_rfl))
  f219 := Tryz.func142.trans (congrArg some (by kernel_rfl))
  f221 := Tryz.func118.trans (congrArg some (by kernel_rfl))
  f224 := Tryz.func171.trans (congrArg some (by kernel_rfl))
  f225 := Tryz.func170.trans (congrArg some (by kernel_rfl))
  f260 := Tryz.func209.trans (congrArg some (by kernel_rfl))
  f266 := Tryz.func201.trans (congrArg some (by kernel_rfl))
  f267 := Tryz.func172.trans (congrArg some (by kernel_rfl))
  f268 := Tryz.func148.trans (congrArg some (by kernel_rfl))
  f314 := Tryz.func202.trans (congrArg some (by kernel_rfl))
  t0 := Tryz.underlying0
  a0 := Tryz.isAgg0
  z0 := Tryz.sizeOf0
  v0 := Tryz.zeroValue0
  t3 := Tryz.underlying3
  a3 := Tryz.isAgg3
  z3 := Tryz.sizeOf3
  v3 := Tryz.zeroValue3
  t4 := Tryz.underlying4
  a4 := Tryz.isAgg4
  z4 := Tryz.sizeOf4
  v4 := Tryz.zeroValue4
  t5 := Tryz.underlying5
  a5 := Tryz.isAgg5
  z5 := Tryz.sizeOf5
  v5 := Tryz.zeroValue5
  t9 := Tryz.underlying9
  a9 := Tryz.isAgg9
  z9 := Tryz.sizeOf9
  v9 := Tryz.zeroValue9
  t21 := Tryz.underlying21
  a21 := Tryz.isAgg21
  z21 := Tryz.sizeOf21
  v21 := Tryz.zeroValue21
  t31 := Tryz.underlying101
  a31 := Tryz.isAgg101
  z31 := Tryz.sizeOf101
  v31 := Tryz.zeroValue101
  t46 := Tryz.underlying208
  a46 := Tryz.isAgg208
  z46 := Tryz.sizeOf208
  v46 := Tryz.zeroValue208
  t51 := Tryz.underlying223
  a51 := Tryz.isAgg223
  z51 := Tryz.sizeOf223
  v51 := Tryz.zeroValue223
  t105 := Tryz.underlying227
  a105 := Tryz.isAgg227
  z105 := Tryz.sizeOf227
  v105 := Tryz.zeroValue227
  t119 := Tryz.underlying187
  a119 := Tryz.isAgg187
  z119 := Tryz.sizeOf187
  t138 := Tryz.underlying281
  a138 := Tryz.isAgg281
  z138 := Tryz.sizeOf281
  v138 := Tryz.zeroValue281
  t139 := Tryz.underlying282
  a139 := Tryz.isAgg282
  z139 := Tryz.sizeOf282
  v139 := Tryz.zeroValue282
  t146 := Tryz.underlying245
  a146 := Tryz.isAgg245
  z146 := Tryz.sizeOf245
  v146 := Tryz.zeroValue245
  g1 := by kernel_rfl
  g3 := by kernel_rfl
  g4 := by kernel_rfl }
open Go.RowKit Go.Lib in
theorem Tryz.strings_Split (s sep : ByteArray) (m : Int) (w : World) (hs : s.size < 4294967281) (hm : w.cell? ⟨1, 0, none⟩ = some (.int .i64 m)) (h1 : 1 ≤ sep.size) :
    Calls Tryz.prog 109 #[.string s, .string sep] w fun e w' =>
      e = .returned (.slice (some ⟨w.heap.size, 0, none⟩) (Lib.countB s sep + 1) (Lib.countB s sep + 1)) ∧ w' = w.alloc (.cells ((Lib.splitB sep 0 (Lib.countB s sep) s).map Value.string).toArray 9) := Any.strings_Split Tryz.lays146 (by kernel_rfl) s sep m w hs hm h1
end Go.Proofs
namespace Go.Proofs.YthkgjohhbdipcaaGreatDoor

/-- a whole number of a word, and is it one? -/
def wholeS (l : List UInt8) : Int × Bool := match Lib.parseIntB 64 l with
  | .ok v => (v, Lib.itoa v == l)
  | .range => (Lib.intSat 64 l, false)
  | _ => (0, false)
theorem parse_in {l : List UInt8} {v : Int} (h : Lib.parseIntB 64 l = .ok v) : -9223372036854775808 ≤ v ∧ v ≤ 9223372036854775807 := by
  unfold Lib.parseIntB at h
  split at h
  · cases h
  · rename_i c r
    dsimp only at h
    split at h
    · cases h
    · cases h
    · rename_i u _
      split at h
      · cases h
      · rename_i h1
        split at h
        · cases h
        · rename_i h2
          injection h with h
          subst h
          simp only [Nat.reducePow, Nat.reduceSub] at h1 h2
          split <;> rename_i hn <;> simp [hn] at h1 h2 <;> omega

/-! ### numerals -/
def valOf (acc : Nat) (l : List UInt8) : Nat := l.foldl (fun a c => a * 10 + (c.toNat - 48)) acc
theorem valOf_ge : ∀ (l : List UInt8) (acc : Nat), acc ≤ valOf acc l
  | [], _ => Nat.le_refl _
  | c :: r, acc => by
    have := valOf_ge r (acc * 10 + (c.toNat - 48))
    show acc ≤ valOf (acc * 10 + (c.toNat - 48)) r
    omega
theorem parse_val : ∀ (l : List UInt8) (acc : Nat), (∀ c ∈ l, 48 ≤ c.toNat ∧ c.toNat ≤ 57) → valOf acc l ≤ 65535 → Lib.parseUintM (2 ^ 64 - 1) acc l = .ok (valOf acc l)
  | [], _, _, _ => rfl
  | c :: r, acc, hd, hv => by
    have hc := hd c (List.mem_cons_self ..)
    have h1 : acc * 10 + (c.toNat - 48) ≤ 65535 := Nat.le_trans (valOf_ge r _) hv
    unfold Lib.parseUintM
    rw [if_pos hc, if_neg (by omega), if_neg (by omega)]
    exact parse_val r _ (fun x hx => hd x (List.mem_cons_of_mem _ hx)) hv
theorem digit_byte {d : Nat} (h : d < 10) : (UInt8.ofNat (48 + d)).toNat = 48 + d := by
  rw [UInt8.toNat_ofNat']; omega
theorem dec_digits : ∀ (n u : Nat), u ≤ n → (∀ c ∈ Lib.decDigits u, 48 ≤ c.toNat ∧ c.toNat ≤ 57) ∧ valOf 0 (Lib.decDigits u) = u ∧ Lib.decDigits u ≠ []
  | 0, u, h => by
    obtain rfl : u = 0 := by omega
    rw [Lib.decDigits_one (by omega)]
    refine ⟨fun c hc => ?_, by simp [valOf], by simp⟩
    simp only [List.mem_singleton] at hc
    subst hc
    rw [digit_byte (by omega)]; omega
  | n + 1, u, h => by
    by_cases hu : u < 10
    · rw [Lib.decDigits_one hu]
      refine ⟨fun c hc => ?_, ?_, by simp⟩
      · simp only [List.mem_singleton] at hc
        subst hc
        rw [digit_byte hu]; omega
      · simp only [valOf, List.foldl_cons, List.foldl_nil]
        rw [digit_byte hu]; omega
    · obtain ⟨h1, h2, h3⟩ := dec_digits n (u / 10) (by omega)
      rw [Lib.decDigits, dif_neg hu]
      refine ⟨fun c hc => ?_, ?_, by simp⟩
      · rcases List.mem_append.1 hc with hc | hc
        · exact h1 c hc
        · simp only [List.mem_singleton] at hc
          subst hc
          rw [digit_byte (by omega)]; omega
      · unfold valOf at h2 ⊢
        rw [List.foldl_append, h2]
        simp only [List.foldl_cons, List.foldl_nil]
        rw [digit_byte (by omega)]; omega
theorem itoa_digits {v : Int} (h0 : 0 ≤ v) : (∀ c ∈ Lib.itoa v, 48 ≤ c.toNat ∧ c.toNat ≤ 57) ∧ Lib.itoa v ≠ [] := by
  unfold Lib.itoa
  rw [if_neg (by omega)]
  have := dec_digits v.toNat v.toNat (Nat.le_refl _)
  exact ⟨this.1, this.2.2⟩
theorem parse_itoa {v : Int} (h0 : 0 ≤ v) (h1 : v ≤ 65535) : Lib.parseIntB 64 (Lib.itoa v) = .ok v := by
  obtain ⟨n, rfl⟩ := Int.eq_ofNat_of_zero_le h0
  rw [Lib.itoa_nonneg]
  obtain ⟨hd, hv, hne⟩ := dec_digits n n (Nat.le_refl _)
  have hp := parse_val (Lib.decDigits n) 0 hd (by rw [hv]; omega)
  rw [hv] at hp
  cases hl : Lib.decDigits n with
  | nil => exact absurd hl hne
  | cons c r =>
    rw [hl] at hd hp
    have hc := hd c (List.mem_cons_self ..)
    have hs : ¬ (c.toNat = 43 ∨ c.toNat = 45) := by omega
    have hn : ¬ c.toNat = 45 := by omega
    unfold Lib.parseIntB
    dsimp only
    rw [if_neg hs]
    have hu : Lib.parseUintB 64 (c :: r) = .ok n := by
      unfold Lib.parseUintB
      rw [if_neg (by simp)]
      exact hp
    rw [hu]
    simp only [hn, not_false_eq_true, true_and, false_and, if_false]
    rw [if_neg (by simp only [Nat.reducePow, Nat.reduceSub]; omega)]
theorem whole_itoa {v : Int} (h0 : 0 ≤ v) (h1 : v ≤ 65535) : wholeS (Lib.itoa v) = (v, true) := by
  unfold wholeS
  rw [parse_itoa h0 h1]
  simp
theorem whole_some {l : List UInt8} (h : (wholeS l).2 = true) : l = Lib.itoa (wholeS l).1 := by
  unfold wholeS at h ⊢
  split at h
  · exact (beq_iff_eq.1 h).symm
  · cases h
  · cases h
end Go.Proofs.YthkgjohhbdipcaaGreatDoor
namespace Go.Proofs.YthkgjohhbdipcaaGreatDoor
open Go.RowKit

/-- What is asked of one operation's outcome. -/
def givesUpon (P : Program) (R : Value → World → Prop) : Result Next → Prop
  | .ok (.value v) w' => R v w'
  | .ok .skip w' => R undef w'
  | .ok (.enter f args) w' => Calls P f args w' fun e w'' => ∃ v, e = .returned v ∧ R v w''
  | _ => False
def gives (P : Program) (o : Oper) (a : Act) (w : World) (R : Value → World → Prop) : Prop := givesUpon P R ((execOp a.eval o).run P w)

structure Spec where
  exact? : Option Value
  pred : Value → World → Prop
@[reducible] def ex (x : Value) : Spec := ⟨some x, fun v _ => v = x⟩
@[reducible] def pr (p : Value → World → Prop) : Spec := ⟨none, p⟩
def Spec.holds (s : Spec) (v : Value) (w : World) : Prop := match s.exact? with
  | some x => v = x
  | none => s.pred v w
def Spec.fact (s : Spec) (v : Value) (w : World) : Prop := match s.exact? with
  | some _ => True
  | none => s.pred v w
def depFacts (o : Oper) (fs : List (World → Prop)) (w : World) : Prop := ∀ k : Nat, k ∈ o.after.toList.map (fun e => e.on) → (fs.getD k (fun _ : World => True)) w
/-- One operation's part. -/
def monoOb (P : Program) (ops : Array Oper) (C : World → Prop) (T : World → World → Prop) (s : Spec) (o : Oper) (a : Act) (fs : List (World → Prop)) : Prop :=
  ∀ w, C w → depFacts o fs w → ∀ R : Value → World → Prop, (∀ v w', T w w' → s.holds v w' → R v w') →
    if Region.wanted o (yielded ops a.tmps) then gives P o a w R else R undef w
def monoWalk (P : Program) (ops : Array Oper) (C : World → Prop) (T : Nat → World → World → Prop) (Q : Act → World → Prop) :
    List Oper → List Spec → Nat → Act → List (World → Prop) → (World → Prop) → Prop
  | [], _, _, a, _, F => ∀ w : World, C w → F w → Q a w
  | _ :: _, [], _, _, _, _ => False
  | o :: l, s :: ss, i, a, fs, F => monoOb P ops C (T i) s o a fs ∧
      match s.exact? with
      | some x => monoWalk P ops C T Q l ss (i + 1) (a.put o.dst x) (fs ++ [fun _ : World => True]) F
      | none => ∀ v : Value, monoWalk P ops C T Q l ss (i + 1) (a.put o.dst v) (fs ++ [s.pred v]) (fun w : World => F w ∧ s.pred v w)

/-- The lexical act. -/
def lexAct (vals : Nat → Value) : List Oper → Nat → Act → Act
  | [], _, a => a
  | o :: l, i, a => lexAct vals l (i + 1) (a.put o.dst (vals i))
def okVals (vals : Nat → Value) : List Spec → Nat → Prop
  | [], _ => True
  | s :: ss, i => (∀ x, s.exact? = some x → vals i = x) ∧ okVals vals ss (i + 1)
def allFacts (vals : Nat → Value) : List Spec → Nat → World → Prop
  | [], _, _ => True
  | s :: ss, i, w => s.fact (vals i) w ∧ allFacts vals ss (i + 1) w
def factList (vals : Nat → Value) : List Spec → Nat → List (World → Prop)
  | [], _ => []
  | s :: ss, i => (s.fact (vals i)) :: factList vals ss (i + 1)

theorem mono_ext {P : Program} {ops : Array Oper} {C : World → Prop} {T : Nat → World → World → Prop} {Q : Act → World → Prop} (vals : Nat → Value) :
    ∀ (l : List Oper) (ss : List Spec) (i : Nat) (a : Act) (fs : List (World → Prop)) (F : World → Prop), okVals vals ss i → monoWalk P ops C T Q l ss i a fs F →
      (∀ j o s, l[j]? = some o → ss[j]? = some s → monoOb P ops C (T (i + j)) s o (lexAct vals (l.take j) i a) (fs ++ factList vals (ss.take j) i)) ∧
      (∀ w, C w → F w → allFacts vals (ss.take l.length) i w → Q (lexAct vals l i a) w) ∧ l.length ≤ ss.length := by
  intro l
  induction l with
  | nil => intro ss i a fs F _ h; exact ⟨fun j o s hj _ => by simp at hj, fun w hC hF _ => h w hC hF, by simp⟩
  | cons o l ih =>
    intro ss i a fs F hv h
    cases ss with
    | nil => exact h.elim
    | cons s ss =>
      obtain ⟨hx, hv'⟩ := hv
      obtain ⟨hob, hrest⟩ := h
      have key : ∃ F' : World → Prop, monoWalk P ops C T Q l ss (i + 1) (a.put o.dst (vals i)) (fs ++ [s.fact (vals i)]) F' ∧ ∀ w, F w → s.fact (vals i) w → F' w := by
        unfold Spec.fact
        cases he : s.exact? with
        | some x =>
          rw [he] at hrest
          rw [hx x he]
          exact ⟨F, hrest, fun w h _ => h⟩
        | none =>
          rw [he] at hrest
          exact ⟨_, hrest (vals i), fun w h h' => ⟨h, h'⟩⟩
      obtain ⟨F', hk, hF'⟩ := key
      obtain ⟨h1, h2, h3⟩ := ih ss (i + 1) _ _ F' hv' hk
      refine ⟨fun j o' s' hj hs => ?_, fun w hC hF hall => ?_, by simp; omega⟩
      · cases j with
        | zero =>
          simp only [List.getElem?_cons_zero, Option.some.injEq] at hj hs
          subst hj hs
          simpa [lexAct, factList] using hob
        | succ j =>
          have := h1 j o' s' (by simpa using hj) (by simpa using hs)
          simpa [lexAct, factList, List.append_assoc, Nat.add_comm, Nat.add_left_comm, Nat.add_assoc] using this
      · simp only [List.length_cons, List.take_succ_cons, allFacts] at hall
        exact h2 w hC (hF' w hF hall.1) hall.2

theorem lexAct_size (vals : Nat → Value) : ∀ (l : List Oper) (k : Nat) (a : Act), (lexAct vals l k a).tmps.size = a.tmps.size ∧ (lexAct vals l k a).defers = a.defers
  | [], _, _ => ⟨rfl, rfl⟩
  | o :: l, k, a => by
    have h := lexAct_size vals l (k + 1) (a.put o.dst (vals k))
    simp only [lexAct]
    rw [h.1, h.2]
    cases o.dst <;> simp [Act.put]

theorem put_get_other {a : Act} {dst : Option Tmp} {v : Value} {t : Nat} (h : dst ≠ some t) : (a.put dst v).tmps[t]? = a.tmps[t]? := by
  cases dst with
  | none => rfl
  | some d =>
    have hne : d ≠ t := fun e => h (by rw [e])
    simp [Act.put, Array.getElem?_setIfInBounds_ne hne]
theorem put_get_same {a : Act} {t : Nat} {v : Value} (h : t < a.tmps.size) : (a.put (some t) v).tmps[t]? = some v := by
  simp [Act.put, h]

theorem lexAct_other (vals : Nat → Value) {t : Nat} : ∀ (l : List Oper) (k : Nat) (a : Act), (∀ o ∈ l, o.dst ≠ some t) → (lexAct vals l k a).tmps[t]? = a.tmps[t]?
  | [], _, _, _ => rfl
  | o :: l, k, a, h => by
    simp only [lexAct]
    rw [lexAct_other vals l (k + 1) _ (fun o' ho => h o' (List.mem_cons_of_mem _ ho)), put_get_other (h o (List.mem_cons_self ..))]
theorem lexAct_same (vals : Nat → Value) {t : Nat} : ∀ (l : List Oper) (k : Nat) (a : Act) (j : Nat) (o : Oper), l[j]? = some o → o.dst = some t → (∀ (j' : Nat) (o' : Oper), l[j']? = some o' → j' ≠ j → o'.dst ≠ some t) → t < a.tmps.size →
    (lexAct vals l k a).tmps[t]? = some (vals (k + j))
  | [], _, _, _, _, hj, _, _, _ => by simp at hj
  | o :: l, k, a, j, o', hj, hd, hu, hlt => by
    have hsz : (a.put o.dst (vals k)).tmps.size = a.tmps.size := by cases o.dst <;> simp [Act.put]
    simp only [lexAct]
    cases j with
    | zero =>
      simp only [List.getElem?_cons_zero, Option.some.injEq] at hj
      subst hj
      rw [lexAct_other vals l (k + 1) _ (fun o' ho => ?_), hd, put_get_same hlt]
      · rfl
      · obtain ⟨i, hi⟩ := List.getElem?_of_mem ho
        exact hu (i + 1) o' (by simpa using hi) (by omega)
    | succ j =>
      rw [lexAct_same vals l (k + 1) _ j o' (by simpa using hj) hd (fun j' o'' h1 h2 => hu (j' + 1) o'' (by simpa using h1) (by omega)) (by rw [hsz]; exact hlt)]
      congr 2; omega

/-- The Bool over a region: temporaries are written once, by an operation that whoever looks at it waits for. -/
def monoB (l : List Oper) (size : Nat) : Bool :=
  (l.zipIdx.all fun (o, i) =>
    (match o.op with | .select .. => false | _ => true) &&
    o.after.toList.all (fun e => decide (e.on < i) && Region.binds .any e) &&
    (o.looksAt l.toArray).all (fun s => l.zipIdx.all fun (o', j) => o'.dst != some s || (decide (j < i) && (o.after.toList.map (·.on)).contains j)) &&
    (match o.dst with | some d => decide (d < size) && l.zipIdx.all (fun (o', j) => j == i || o'.dst != some d) | none => true))

theorem monoB_spec {l : List Oper} {size : Nat} (h : monoB l size = true) {i : Nat} {o : Oper} (hi : l[i]? = some o) :
    (∀ cs b, o.op ≠ .select cs b) ∧ (∀ e ∈ o.after, e.on < i ∧ Region.binds .any e = true) ∧
    (∀ s ∈ o.looksAt l.toArray, ∀ (j : Nat) (o' : Oper), l[j]? = some o' → o'.dst = some s → j < i ∧ ∃ e ∈ o.after, e.on = j) ∧
    (∀ d, o.dst = some d → d < size ∧ ∀ (j : Nat) (o' : Oper), l[j]? = some o' → j ≠ i → o'.dst ≠ some d) := by
  have hz : ∀ {j : Nat} {o' : Oper}, l[j]? = some o' → (o', j) ∈ l.zipIdx := fun {j o'} hj => by
    rw [List.mem_zipIdx_iff_getElem?]; exact hj
  have h1 := List.all_eq_true.1 h _ (hz hi)
  simp only [Bool.and_eq_true] at h1
  obtain ⟨⟨⟨ha, hb⟩, hc⟩, hd⟩ := h1
  refine ⟨fun cs b e => ?_, fun e he => ?_, fun s hs j o' hj hds => ?_, fun d hd' => ?_⟩
  · rw [e] at ha; simp at ha
  · have := List.all_eq_true.1 hb e (by simpa using he)
    simpa using this
  · have h2 := List.all_eq_true.1 (List.all_eq_true.1 hc s hs) _ (hz hj)
    simp [hds] at h2
    exact ⟨h2.1, h2.2⟩
  · simp only [hd', Bool.and_eq_true, decide_eq_true_eq] at hd
    refine ⟨hd.1, fun j o' hj hne e => ?_⟩
    have := List.all_eq_true.1 hd.2 _ (hz hj)
    simp [hne, e] at this

/-- What holds when the operations that are listed have been done. -/
structure MonoInv (l : List Oper) (ss : List Spec) (C : World → Prop) (a : Act) (vf : Nat → Value) (listed : Array Bool) (a' : Act) (w' : World) : Prop where
  cls : C w'
  lsize : listed.size = l.length
  defers : a'.defers = a.defers
  size : a'.tmps.size = a.tmps.size
  done : ∀ (j : Nat) (o : Oper) (s : Spec), l[j]? = some o → ss[j]? = some s → listed[j]? = some true → s.holds (vf j) w' ∧ ∀ d, o.dst = some d → a'.tmps[d]? = some (vf j)
  rest : ∀ t, (∀ (j : Nat) (o : Oper), l[j]? = some o → listed[j]? = some true → o.dst ≠ some t) → a'.tmps[t]? = a.tmps[t]?

def undone (listed : Array Bool) (n : Nat) : List Nat := (List.range n).filter fun i => listed[i]? != some true
theorem undone_set {listed : Array Bool} {n i : Nat} (hi : i < n) (hn : n ≤ listed.size) (h : listed[i]? ≠ some true) : (undone (listed.setIfInBounds i true) n).length < (undone listed n).length := by
  have e : undone (listed.setIfInBounds i true) n = (undone listed n).filter (fun j => j != i) := by
    unfold undone
    rw [List.filter_filter]
    apply List.filter_congr
    intro j hj
    have hj' := List.mem_range.1 hj
    by_cases e : j = i
    · subst e
      rw [Array.getElem?_setIfInBounds_self_of_lt (by omega)]
      simp
    · rw [Array.getElem?_setIfInBounds_ne (Ne.symm e)]
      simp [e]
  rw [e, List.length_filter_lt_length_iff_exists]
  exact ⟨i, by simp [undone, hi, h], by simp⟩

def fillVals (ss : List Spec) (listed : Array Bool) (vf : Nat → Value) (j : Nat) : Value :=
  if listed[j]? = some true then vf j else match ss[j]? with
    | some s => s.exact?.getD undef
    | none => undef

theorem okVals_of {vals : Nat → Value} : ∀ (ss : List Spec) (i : Nat), (∀ (j : Nat) (s : Spec) (x : Value), ss[j]? = some s → s.exact? = some x → vals (i + j) = x) → okVals vals ss i
  | [], _, _ => trivial
  | s :: ss, i, h => ⟨fun x hx => h 0 s x rfl hx, okVals_of ss (i + 1) (fun j s' x hj hx => by
      have := h (j + 1) s' x (by simpa using hj) hx
      rwa [show i + 1 + j = i + (j + 1) by omega])⟩
theorem allFacts_of {vals : Nat → Value} {w : World} : ∀ (ss : List Spec) (i : Nat), (∀ (j : Nat) (s : Spec), ss[j]? = some s → s.fact (vals (i + j)) w) → allFacts vals ss i w
  | [], _, _ => trivial
  | s :: ss, i, h => ⟨h 0 s rfl, allFacts_of ss (i + 1) (fun j s' hj => by
      have := h (j + 1) s' (by simpa using hj)
      rwa [show i + 1 + j = i + (j + 1) by omega])⟩
theorem factList_get {vals : Nat → Value} : ∀ (ss : List Spec) (i k : Nat) (s : Spec), ss[k]? = some s → (factList vals ss i)[k]? = some (s.fact (vals (i + k)))
  | [], _, _, _, h => by simp at h
  | s :: ss, i, 0, s', h => by simp at h; subst h; rfl
  | s :: ss, i, k + 1, s', h => by
    have := factList_get (vals := vals) ss (i + 1) k s' (by simpa using h)
    simp only [factList, List.getElem?_cons_succ, this]
    congr 3; omega

theorem Spec.fact_of_holds {s : Spec} {v : Value} {w : World} (h : s.holds v w) : s.fact v w := by
  unfold Spec.holds at h; unfold Spec.fact
  split <;> simp_all

theorem wp_of_gives {P : Program} {o : Oper} {a : Act} {w : World} {K : Act → World → Prop} {Q : Exit → Act → World → Prop} {R : Value → World → Prop} (h : gives P o a w R) (hk : ∀ v w', R v w' → K (a.put o.dst v) w') : o.wp P a w K Q := by
  unfold gives at h
  unfold Oper.wp
  generalize (execOp a.eval o).run P w = r at *
  cases r with
  | halt x w' => simp [givesUpon] at h
  | ok n w' =>
    cases n <;> simp only [givesUpon] at h <;> simp only [Oper.upon]
    case value u => exact hk _ _ h
    case skip => exact hk _ _ h
    case enter f args =>
      exact h.mono fun e w'' ⟨v, he, hr⟩ => by subst he; exact hk _ _ hr

section
variable {P : Program} {l : List Oper} {C : World → Prop} {T : Nat → World → World → Prop} {Q : Exit → Act → World → Prop} {a : Act} {ss : List Spec}

theorem wpAny_mono (hB : monoB l a.tmps.size = true) (hCT : ∀ i w w', C w → T i w w' → C w')
    (hst : ∀ (i k : Nat) (s : Spec), i ≠ k → ss[k]? = some s → ∀ v w w', C w → C w' → T i w w' → s.fact v w → s.fact v w')
    (h : monoWalk P l.toArray C T (Q .normal) l ss 0 a [] (fun _ => True)) :
    ∀ (fuel : Nat) (listed : Array Bool) (vf : Nat → Value) (a' : Act) (w' : World), (undone listed l.length).length ≤ fuel → MonoInv l ss C a vf listed a' w' → wpAny P .any l.toArray Q fuel listed a' w' := by
  have hS := fun {i : Nat} {o : Oper} (hi : l[i]? = some o) => monoB_spec hB hi
  -- the values as far as they are there
  have hok : ∀ (listed : Array Bool) (vf : Nat → Value) (a' : Act) (w' : World), MonoInv l ss C a vf listed a' w' → okVals (fillVals ss listed vf) ss 0 := by
    intro listed vf a' w' hI
    refine okVals_of ss 0 fun j s x hj hx => ?_
    rw [Nat.zero_add]
    unfold fillVals
    split
    · rename_i hl
      have hlt : j < l.length := by
        have := (Array.getElem?_eq_some_iff.1 hl).1
        rw [hI.lsize] at this; exact this
      have := (hI.done j l[j] s (List.getElem?_eq_getElem hlt) hj hl).1
      unfold Spec.holds at this
      rw [hx] at this
      exact this
    · rw [hj]; simp [hx]
  have hfill : ∀ (listed : Array Bool) (vf : Nat → Value) (j : Nat), listed[j]? = some true → fillVals ss listed vf j = vf j := fun listed vf j hl => by unfold fillVals; rw [if_pos hl]
  have fin : ∀ (listed : Array Bool) (vf : Nat → Value) (a' : Act) (w' : World), (∀ j, j < l.length → listed[j]? = some true) → MonoInv l ss C a vf listed a' w' → Q .normal a' w' := by
    intro listed vf a' w' hall hI
    obtain ⟨_, h2, h3⟩ := mono_ext (fillVals ss listed vf) l ss 0 a [] _ (hok listed vf a' w' hI) h
    have hq := h2 w' hI.cls trivial (allFacts_of _ 0 fun j s hj => by
      rw [Nat.zero_add]
      have hjl : j < l.length := by
        have := (List.getElem?_eq_some_iff.1 hj).1
        simp at this; omega
      have hj' : ss[j]? = some s := by rw [List.getElem?_take_of_lt hjl] at hj; exact hj
      rw [hfill _ _ _ (hall j hjl)]
      exact Spec.fact_of_holds (hI.done j l[j] s (List.getElem?_eq_getElem hjl) hj' (hall j hjl)).1)
    have ea : a' = lexAct (fillVals ss listed vf) l 0 a := by
      obtain ⟨hz, hd⟩ := lexAct_size (fillVals ss listed vf) l 0 a
      have ht : a'.tmps = (lexAct (fillVals ss listed vf) l 0 a).tmps := by
        apply Array.ext_getElem?
        intro t
        by_cases hex : ∃ (j : Nat) (o : Oper), l[j]? = some o ∧ o.dst = some t
        · obtain ⟨j, o, hj, hdt⟩ := hex
          have hjl := (List.getElem?_eq_some_iff.1 hj).1
          obtain ⟨hlt, huniq⟩ := (hS hj).2.2.2 t hdt
          rw [lexAct_same _ l 0 a j o hj hdt huniq hlt, Nat.zero_add, hfill _ _ _ (hall j hjl)]
          have hjs : ss[j]? = some ss[j] := List.getElem?_eq_getElem (by omega)
          exact (hI.done j o _ hj hjs (hall j hjl)).2 t hdt
        · have hn : ∀ (j : Nat) (o : Oper), l[j]? = some o → o.dst ≠ some t := fun j o hj e => hex ⟨j, o, hj, e⟩
          rw [lexAct_other _ l 0 a (fun o ho => by obtain ⟨j, hj⟩ := List.getElem?_of_mem ho; exact hn j o hj)]
          exact hI.rest t (fun j o hj _ => hn j o hj)
      cases a'; cases hx : lexAct (fillVals ss listed vf) l 0 a
      rw [hx] at ht hd
      have := hI.defers
      simp_all
    rw [ea]; exact hq
  have allIf : ∀ (listed : Array Bool), listed.size = l.length → Region.ready .any l.toArray listed = [] → ∀ j, j < l.length → listed[j]? = some true := by
    intro listed hsz hr j
    induction j using Nat.strongRecOn with
    | ind j ih =>
      intro hj
      have hsome : listed[j]? = some listed[j] := Array.getElem?_eq_getElem (by omega)
      cases hb : listed[j] with
      | true => rw [hsome, hb]
      | false =>
        have : j ∈ Region.ready .any l.toArray listed := by
          rw [mem_ready]
          refine ⟨by simp [Array.getD_eq_getD_getElem?, hsome, hb], l[j], by simp [hj], fun e he _ => ?_⟩
          have h1 := ((hS (List.getElem?_eq_getElem hj)).2.1 e he).1
          have h2 := ih e.on h1 (by omega)
          simp [Array.getD_eq_getD_getElem?, h2]
        rw [hr] at this
        cases this
  intro fuel
  induction fuel with
  | zero =>
    intro listed vf a' w' hf hI
    have hall : ∀ j, j < l.length → listed[j]? = some true := by
      intro j hj
      have h0 : undone listed l.length = [] := List.eq_nil_of_length_eq_zero (by omega)
      unfold undone at h0
      rw [List.filter_eq_nil_iff] at h0
      simpa using h0 j (List.mem_range.2 hj)
    refine ⟨?_, fin _ _ _ _ hall hI⟩
    rw [List.eq_nil_iff_forall_not_mem]
    intro j hj
    obtain ⟨h0, o, ho, _⟩ := mem_ready.1 hj
    have hj' : j < l.length := by
      have := (Array.getElem?_eq_some_iff.1 ho).1
      simpa using this
    simp [Array.getD_eq_getD_getElem?, hall j hj'] at h0
  | succ fuel ih =>
    intro listed vf a' w' hf hI
    refine ⟨fun hr => fin _ _ _ _ (allIf listed hI.lsize hr) hI, fun i hi => ?_⟩
    obtain ⟨h0, o, ho, hdep⟩ := mem_ready.1 hi
    have hil : l[i]? = some o := by simpa using ho
    have hilt : i < l.length := (List.getElem?_eq_some_iff.1 hil).1
    have hnl : listed[i]? ≠ some true := fun e => by simp [Array.getD_eq_getD_getElem?, e] at h0
    obtain ⟨hsel, hafter, hlooks, hdst⟩ := hS hil
    have hdone : ∀ e ∈ o.after, listed[e.on]? = some true := fun e he => by
      have := hdep e he (hafter e he).2
      rw [Array.getD_eq_getD_getElem?] at this
      cases hx : listed[e.on]? with
      | none => simp [hx] at this
      | some b => simp [hx] at this; rw [this]
    obtain ⟨h1, _, h3⟩ := mono_ext (fillVals ss listed vf) l ss 0 a [] _ (hok listed vf a' w' hI) h
    have hsi : ss[i]? = some ss[i] := List.getElem?_eq_getElem (by omega)
    have hob := h1 i o ss[i] hil hsi
    rw [Nat.zero_add, List.nil_append] at hob
    -- the lexical act looks alike to this operation
    have hsame : ∀ t ∈ o.looksAt l.toArray, (lexAct (fillVals ss listed vf) (l.take i) 0 a).tmps[t]? = a'.tmps[t]? := by
      intro t ht
      by_cases hex : ∃ (j : Nat) (o' : Oper), l[j]? = some o' ∧ o'.dst = some t
      · obtain ⟨j, o', hj, hdt⟩ := hex
        obtain ⟨hji, e, he, hej⟩ := hlooks t ht j o' hj hdt
        have hlj : listed[j]? = some true := hej ▸ hdone e he
        obtain ⟨hlt, huniq⟩ := (hS hj).2.2.2 t hdt
        have hjs : ss[j]? = some ss[j] := List.getElem?_eq_getElem (by omega)
        rw [lexAct_same _ (l.take i) 0 a j o' (by rw [List.getElem?_take_of_lt hji]; exact hj) hdt (fun j' o'' hj' hne => huniq j' o'' (by
          have hlt' : j' < i := by
            have := (List.getElem?_eq_some_iff.1 hj').1
            simp at this; omega
          rw [List.getElem?_take_of_lt hlt'] at hj'; exact hj') hne) hlt, Nat.zero_add, hfill _ _ _ hlj]
        exact ((hI.done j o' _ hj hjs hlj).2 t hdt).symm
      · have hn : ∀ (j : Nat) (o : Oper), l[j]? = some o → o.dst ≠ some t := fun j o hj e => hex ⟨j, o, hj, e⟩
        rw [lexAct_other _ (l.take i) 0 a (fun o' ho' => by obtain ⟨j, hj⟩ := List.getElem?_of_mem (List.mem_of_mem_take ho'); exact hn j o' hj)]
        exact (hI.rest t (fun j o hj _ => hn j o hj)).symm
    have hexec : execOp (lexAct (fillVals ss listed vf) (l.take i) 0 a).eval o = execOp a'.eval o := by
      refine execOp_congr o hsel fun x hx => ?_
      cases x with
      | tmp t =>
        have := hsame t (List.mem_append_left _ (List.mem_filterMap.2 ⟨.tmp t, by simpa using hx, rfl⟩))
        simp [Act.eval, Array.getD_eq_getD_getElem?, this]
      | _ => rfl
    have hwant : Region.wanted o (yielded l.toArray (lexAct (fillVals ss listed vf) (l.take i) 0 a).tmps) = Region.wanted o (yielded l.toArray a'.tmps) := by
      unfold Region.wanted
      cases hg : o.guard with
      | none => rfl
      | some gw =>
        obtain ⟨g, want⟩ := gw
        have hy : yielded l.toArray (lexAct (fillVals ss listed vf) (l.take i) 0 a).tmps g = yielded l.toArray a'.tmps g := by
          unfold yielded
          cases ht : (l.toArray[g]?).bind (·.dst) with
          | none => rfl
          | some t =>
            have := hsame t (by simp only [Oper.looksAt, hg, ht]; simp)
            simp only [Option.bind_some, this]
        simp only [hy]
    have hfacts : depFacts o ([] ++ factList (fillVals ss listed vf) (ss.take i) 0) w' := by
      intro k hk
      rw [List.nil_append]
      obtain ⟨e, he, rfl⟩ := List.mem_map.1 hk
      have he' : e ∈ o.after := by simpa using he
      have hlt := (hafter e he').1
      have hlk := hdone e he'
      have hks : ss[e.on]? = some ss[e.on] := List.getElem?_eq_getElem (by omega)
      rw [List.getD_eq_getElem?_getD, factList_get (ss.take i) 0 e.on ss[e.on] (by rw [List.getElem?_take_of_lt hlt]; exact hks), Nat.zero_add, hfill _ _ _ hlk]
      exact Spec.fact_of_holds (hI.done e.on l[e.on] _ (List.getElem?_eq_getElem (by omega)) hks hlk).1
    rw [List.nil_append] at hfacts
    have hres := hob w' hI.cls hfacts (fun v w'' => T i w' w'' ∧ ss[i].holds v w'') (fun v w'' h1 h2 => ⟨h1, h2⟩)
    rw [hwant] at hres
    have next : ∀ v w'', T i w' w'' → ss[i].holds v w'' → wpAny P .any l.toArray Q fuel (listed.setIfInBounds i true) (a'.put o.dst v) w'' := by
      intro v w'' hT hv
      have hu := undone_set hilt (by rw [hI.lsize]; exact Nat.le_refl _) hnl
      refine ih _ (fun j => if j = i then v else vf j) _ _ (by omega) ⟨hCT i _ _ hI.cls hT, by simp [hI.lsize], ?_, ?_, ?_, ?_⟩
      · rw [← hI.defers]; cases o.dst <;> rfl
      · rw [← hI.size]; cases o.dst <;> simp [Act.put]
      · intro j o' s hj hjs hlj
        by_cases e : j = i
        · subst e
          rw [hil] at hj
          obtain rfl : o = o' := by simpa using hj
          rw [hsi] at hjs
          obtain rfl : ss[j] = s := by simpa using hjs
          rw [if_pos rfl]
          refine ⟨hv, fun d hd => ?_⟩
          rw [hd, put_get_same (by rw [hI.size]; exact (hdst d hd).1)]
        · rw [Array.getElem?_setIfInBounds_ne (Ne.symm e)] at hlj
          rw [if_neg e]
          obtain ⟨g1, g2⟩ := hI.done j o' s hj hjs hlj
          refine ⟨?_, fun d hd => ?_⟩
          · have hf := hst i j s (Ne.symm e) hjs (vf j) w' w'' hI.cls (hCT i _ _ hI.cls hT) hT (Spec.fact_of_holds g1)
            unfold Spec.holds at g1 ⊢
            unfold Spec.fact at hf
            split <;> simp_all
          · rw [put_get_other (fun e' => (hdst d e').2 j o' hj e hd)]
            exact g2 d hd
      · intro t ht
        have hti : o.dst ≠ some t := ht i o hil (by rw [Array.getElem?_setIfInBounds_self_of_lt (by rw [hI.lsize]; exact hilt)])
        rw [put_get_other hti]
        refine hI.rest t fun j o' hj hlj => ?_
        by_cases e : j = i
        · subst e; exact absurd hlj hnl
        · exact ht j o' hj (by rw [Array.getElem?_setIfInBounds_ne (Ne.symm e)]; exact hlj)
    unfold wpOp
    rw [ho]
    by_cases hw : Region.wanted o (yielded l.toArray a'.tmps) = true
    · simp only [hw, if_true] at hres ⊢
      refine .inl (wp_of_gives (R := fun v w'' => T i w' w'' ∧ ss[i].holds v w'') ?_ fun v w'' ⟨h1, h2⟩ => next v w'' h1 h2)
      unfold gives at hres ⊢
      rw [← hexec]; exact hres
    · simp only [hw] at hres ⊢
      exact next _ _ hres.1 hres.2

/-- ONE LEXICAL WALK SERVES EVERY ORDER: each operation, in whatever world of the class, gives what its spec says. -/
theorem wp_region_mono {id : Nat} {w : World} (ss : List Spec) (C : World → Prop) (T : Nat → World → World → Prop) (hm : P.follows .mixedOrders = true) (hB : monoB l a.tmps.size = true)
    (hCT : ∀ i w w', C w → T i w w' → C w')
    (hst : ∀ (i k : Nat) (s : Spec), i ≠ k → ss[k]? = some s → ∀ v w w', C w → C w' → T i w w' → s.fact v w → s.fact v w') (hC : C w.drew)
    (h : monoWalk P l.toArray C T (Q .normal) l ss 0 a [] (fun _ => True)) : (Code.region id l.toArray true).wp P Q a w := by
  refine wp_region_any hm (wpAny_mono hB hCT hst h _ _ (fun _ => undef) _ _ ?_ ⟨hC, by simp, rfl, rfl, ?_, fun _ _ => rfl⟩)
  · have := List.length_filter_le (fun i => (Array.replicate l.toArray.size false)[i]? != some true) (List.range l.length)
    simpa [undone] using this
  · intro j o s hj _ hl
    rw [Array.getElem?_replicate] at hl
    split at hl <;> simp at hl
end

/-- The class of a region's worlds: below B all is as it was when the region began. -/
def Cls (B : Nat) (W0 W : World) : Prop := B ≤ W.heap.size ∧ Below B W0 W
def TB (_ : Nat) (w w' : World) : Prop := Below w.heap.size w w'
theorem Cls.refl {B : Nat} {W0 : World} (hB : B ≤ W0.heap.size) : Cls B W0 W0 := ⟨hB, Below.refl _ _⟩
theorem Cls.step {B : Nat} {W0 w w' : World} (h : Cls B W0 w) (h' : Below w.heap.size w w') : Cls B W0 w' := ⟨Nat.le_trans h.1 h'.size, h.2.trans (h'.mono h.1)⟩
def stableB (s : Spec) : Prop := ∀ v w w', Below w.heap.size w w' → s.fact v w → s.fact v w'
theorem stable_ex (x : Value) : stableB (ex x) := fun _ _ _ _ _ => trivial
theorem wp_region_below {P : Program} {l : List Oper} {Q : Exit → Act → World → Prop} {a : Act} {id : Nat} {w : World} (ss : List Spec) (B : Nat) (hBw : B ≤ w.heap.size) (hm : P.follows .mixedOrders = true) (hB : monoB l a.tmps.size = true)
    (hst : ∀ s ∈ ss, stableB s) (h : monoWalk P l.toArray (Cls B w) TB (Q .normal) l ss 0 a [] (fun _ => True)) : (Code.region id l.toArray true).wp P Q a w :=
  wp_region_mono ss (Cls B w) TB hm hB (fun _ _ _ hC hT => hC.step hT) (fun _ _ s _ hk v w1 w2 _ _ hT hf => hst s (List.mem_of_getElem? hk) v w1 w2 hT hf) ⟨hBw, (Below.refl _ _).drew⟩ h

/-- Exact values alone: each is found as its operation is walked. -/
def monoE (P : Program) (ops : Array Oper) (C : World → Prop) (T : Nat → World → World → Prop) (Q : Act → World → Prop) : List Oper → Nat → Act → Prop
  | [], _, a => ∀ w : World, C w → Q a w
  | o :: l, i, a => ∃ x : Value, (∀ w : World, C w → ∀ R : Value → World → Prop, (∀ (v : Value) (w' : World), T i w w' → v = x → R v w') → if Region.wanted o (yielded ops a.tmps) then gives P o a w R else R undef w) ∧
      monoE P ops C T Q l (i + 1) (a.put o.dst x)
theorem monoE_step {P : Program} {ops : Array Oper} {C : World → Prop} {T : Nat → World → World → Prop} {Q : Act → World → Prop} {o : Oper} {l : List Oper} {i : Nat} {a : Act}
    (h : ∀ K : Act → Prop, (∀ a, monoE P ops C T Q l (i + 1) a → K a) → ∃ x : Value, (∀ w : World, C w → ∀ R : Value → World → Prop, (∀ (v : Value) (w' : World), T i w w' → v = x → R v w') → if Region.wanted o (yielded ops a.tmps) then gives P o a w R else R undef w) ∧ K (a.put o.dst x)) :
    monoE P ops C T Q (o :: l) i a := h _ (fun _ h => h)
theorem monoE_list {P : Program} {ops : Array Oper} {C : World → Prop} {T : Nat → World → World → Prop} {Q : Act → World → Prop} : ∀ (l : List Oper) (i : Nat) (a : Act) (fs : List (World → Prop)),
    monoE P ops C T Q l i a → ∃ xs : List Value, monoWalk P ops C T Q l (xs.map ex) i a fs (fun _ => True)
  | [], _, _, _, h => ⟨[], fun w hC _ => h w hC⟩
  | o :: l, i, a, fs, ⟨x, hob, hrest⟩ => by
    obtain ⟨xs, hx⟩ := monoE_list l (i + 1) _ (fs ++ [fun _ : World => True]) hrest
    exact ⟨x :: xs, fun w hC _ R hR => hob w hC R hR, hx⟩
theorem wp_region_exact {P : Program} {l : List Oper} {Q : Exit → Act → World → Prop} {a : Act} {id : Nat} {w : World} (B : Nat) (hBw : B ≤ w.heap.size) (hm : P.follows .mixedOrders = true) (hB : monoB l a.tmps.size = true)
    (h : monoE P l.toArray (Cls B w) TB (Q .normal) l 0 a) : (Code.region id l.toArray true).wp P Q a w := by
  obtain ⟨xs, hx⟩ := monoE_list l 0 a [] h
  refine wp_region_below (xs.map ex) B hBw hm hB (fun s hs => ?_) hx
  obtain ⟨x, _, rfl⟩ := List.mem_map.1 hs
  exact stable_ex x
end Go.Proofs.YthkgjohhbdipcaaGreatDoor
namespace Go.Proofs.YthkgjohhbdipcaaGreatDoor
open Go.RowKit

/-- all that operation k waits for, at whatever distance. -/
def befores : List Oper → List (List Nat) → List (List Nat)
  | [], acc => acc
  | o :: l, acc => befores l (acc ++ [o.after.toList.flatMap fun e => e.on :: acc.getD e.on []])
def updDone (done : Nat → Bool) (i : Nat) : Nat → Bool := fun k => if k = i then true else done k
def doneOb (P : Program) (ops : Array Oper) (Inv : (Nat → Bool) → World → Prop) (T : World → World → Prop) (s : Spec) (i : Nat) (bs : List (List Nat)) (o : Oper) (a : Act) (fs : List (World → Prop)) : Prop :=
  ∀ (done : Nat → Bool) (w : World), Inv done w → done i = false → (∀ k ∈ o.after.toList.map (fun e => e.on), done k = true) → (∀ k : Nat, i ∈ bs.getD k [] → done k = false) → depFacts o fs w → ∀ R : Value → World → Prop, (∀ (v : Value) (w' : World), Inv (updDone done i) w' → T w w' → s.holds v w' → R v w') →
    if Region.wanted o (yielded ops a.tmps) then gives P o a w R else R undef w
def doneWalk (P : Program) (ops : Array Oper) (Inv : (Nat → Bool) → World → Prop) (T : Nat → World → World → Prop) (bs : List (List Nat)) (Q : Act → World → Prop) (n : Nat) :
    List Oper → List Spec → Nat → Act → List (World → Prop) → (World → Prop) → Prop
  | [], _, _, a, _, F => ∀ (done : Nat → Bool) (w : World), (∀ k, k < n → done k = true) → Inv done w → F w → Q a w
  | _ :: _, [], _, _, _, _ => False
  | o :: l, s :: ss, i, a, fs, F => doneOb P ops Inv (T i) s i bs o a fs ∧
      match s.exact? with
      | some x => doneWalk P ops Inv T bs Q n l ss (i + 1) (a.put o.dst x) (fs ++ [fun _ : World => True]) F
      | none => ∀ v : Value, doneWalk P ops Inv T bs Q n l ss (i + 1) (a.put o.dst v) (fs ++ [s.pred v]) (fun w : World => F w ∧ s.pred v w)

theorem done_ext {P : Program} {ops : Array Oper} {Inv : (Nat → Bool) → World → Prop} {T : Nat → World → World → Prop} {bs : List (List Nat)} {n : Nat} {Q : Act → World → Prop} (vals : Nat → Value) :
    ∀ (l : List Oper) (ss : List Spec) (i : Nat) (a : Act) (fs : List (World → Prop)) (F : World → Prop), okVals vals ss i → doneWalk P ops Inv T bs Q n l ss i a fs F →
      (∀ j o s, l[j]? = some o → ss[j]? = some s → doneOb P ops Inv (T (i + j)) s (i + j) bs o (lexAct vals (l.take j) i a) (fs ++ factList vals (ss.take j) i)) ∧
      (∀ (done : Nat → Bool) (w : World), (∀ k, k < n → done k = true) → Inv done w → F w → allFacts vals (ss.take l.length) i w → Q (lexAct vals l i a) w) ∧ l.length ≤ ss.length := by
  intro l
  induction l with
  | nil => intro ss i a fs F _ h; exact ⟨fun j o s hj _ => by simp at hj, fun done w hd hC hF _ => h done w hd hC hF, by simp⟩
  | cons o l ih =>
    intro ss i a fs F hv h
    cases ss with
    | nil => exact h.elim
    | cons s ss =>
      obtain ⟨hx, hv'⟩ := hv
      obtain ⟨hob, hrest⟩ := h
      have key : ∃ F' : World → Prop, doneWalk P ops Inv T bs Q n l ss (i + 1) (a.put o.dst (vals i)) (fs ++ [s.fact (vals i)]) F' ∧ ∀ w, F w → s.fact (vals i) w → F' w := by
        unfold Spec.fact
        cases he : s.exact? with
        | some x =>
          rw [he] at hrest
          rw [hx x he]
          exact ⟨F, hrest, fun w h _ => h⟩
        | none =>
          rw [he] at hrest
          exact ⟨_, hrest (vals i), fun w h h' => ⟨h, h'⟩⟩
      obtain ⟨F', hk, hF'⟩ := key
      obtain ⟨h1, h2, h3⟩ := ih ss (i + 1) _ _ F' hv' hk
      refine ⟨fun j o' s' hj hs => ?_, fun done w hd hC hF hall => ?_, by simp; omega⟩
      · cases j with
        | zero =>
          simp only [List.getElem?_cons_zero, Option.some.injEq] at hj hs
          subst hj hs
          simpa [lexAct, factList] using hob
        | succ j =>
          have := h1 j o' s' (by simpa using hj) (by simpa using hs)
          simpa [lexAct, factList, List.append_assoc, Nat.add_comm, Nat.add_left_comm, Nat.add_assoc] using this
      · simp only [List.length_cons, List.take_succ_cons, allFacts] at hall
        exact h2 done w hd hC (hF' w hF hall.1) hall.2

/-- What holds when the operations that are listed have been done. -/
structure DoneInv (l : List Oper) (ss : List Spec) (Inv : (Nat → Bool) → World → Prop) (a : Act) (vf : Nat → Value) (listed : Array Bool) (a' : Act) (w' : World) : Prop where
  cls : Inv (fun k => listed[k]? == some true) w'
  down : ∀ (j : Nat) (o : Oper), l[j]? = some o → listed[j]? = some true → ∀ e ∈ o.after, listed[e.on]? = some true
  lsize : listed.size = l.length
  defers : a'.defers = a.defers
  size : a'.tmps.size = a.tmps.size
  done : ∀ (j : Nat) (o : Oper) (s : Spec), l[j]? = some o → ss[j]? = some s → listed[j]? = some true → s.holds (vf j) w' ∧ ∀ d, o.dst = some d → a'.tmps[d]? = some (vf j)
  rest : ∀ t, (∀ (j : Nat) (o : Oper), l[j]? = some o → listed[j]? = some true → o.dst ≠ some t) → a'.tmps[t]? = a.tmps[t]?


theorem befores_spec : ∀ (l : List Oper) (acc : List (List Nat)) (P : Nat → Nat → Prop), (∀ k i, i ∈ acc.getD k [] → P k i) → (∀ (j : Nat) (o : Oper) (e : Edge), l[j]? = some o → e ∈ o.after → P (acc.length + j) e.on) →
    (∀ a b c, P a b → P b c → P a c) → ∀ k i, i ∈ (befores l acc).getD k [] → P k i
  | [], _, _, h, _, _ => h
  | o :: l, acc, P, h, he, ht => by
    refine befores_spec l _ P ?_ (fun j o' e hj hm => by
      have := he (j + 1) o' e (by simpa using hj) hm
      rwa [List.length_append, List.length_singleton, Nat.add_assoc, Nat.add_comm 1 j]) ht
    intro k i hi
    rw [List.getD_eq_getElem?_getD, List.getElem?_append] at hi
    split at hi
    · exact h k i (by rw [List.getD_eq_getElem?_getD]; exact hi)
    · rename_i hge
      have hk : k = acc.length := by
        rcases Nat.lt_or_ge acc.length k with hlt | hle
        · have : ([o.after.toList.flatMap fun e => e.on :: acc.getD e.on []] : List (List Nat))[k - acc.length]? = none := List.getElem?_eq_none (by simp; omega)
          rw [this] at hi; simp at hi
        · omega
      subst hk
      simp only [Nat.sub_self, List.getElem?_cons_zero, Option.getD_some, List.mem_flatMap] at hi
      obtain ⟨e, hm, hi⟩ := hi
      have h1 := he 0 o e rfl (by simpa using hm)
      rw [Nat.add_zero] at h1
      rcases List.mem_cons.1 hi with rfl | hi
      · exact h1
      · exact ht _ _ _ h1 (h e.on i hi)

/-- The Bool over a region: temporaries are written once, by an operation that whoever looks at it waits for. -/
def monoB2 (l : List Oper) (size : Nat) : Bool :=
  (l.zipIdx.all fun (o, i) =>
    (match o.op with | .select .. => false | _ => true) &&
    o.after.toList.all (fun e => decide (e.on < i) && Region.binds .any e) &&
    (o.looksAt l.toArray).all (fun s => l.zipIdx.all fun (o', j) => o'.dst != some s || (decide (j < i) && (o.after.toList.map (·.on)).contains j) || ((befores l []).getD j []).contains i) &&
    (match o.dst with | some d => decide (d < size) && l.zipIdx.all (fun (o', j) => j == i || o'.dst != some d) | none => true))

theorem monoB2_spec {l : List Oper} {size : Nat} (h : monoB2 l size = true) {i : Nat} {o : Oper} (hi : l[i]? = some o) :
    (∀ cs b, o.op ≠ .select cs b) ∧ (∀ e ∈ o.after, e.on < i ∧ Region.binds .any e = true) ∧
    (∀ s ∈ o.looksAt l.toArray, ∀ (j : Nat) (o' : Oper), l[j]? = some o' → o'.dst = some s → (j < i ∧ ∃ e ∈ o.after, e.on = j) ∨ i ∈ (befores l []).getD j []) ∧
    (∀ d, o.dst = some d → d < size ∧ ∀ (j : Nat) (o' : Oper), l[j]? = some o' → j ≠ i → o'.dst ≠ some d) := by
  have hz : ∀ {j : Nat} {o' : Oper}, l[j]? = some o' → (o', j) ∈ l.zipIdx := fun {j o'} hj => by
    rw [List.mem_zipIdx_iff_getElem?]; exact hj
  have h1 := List.all_eq_true.1 h _ (hz hi)
  simp only [Bool.and_eq_true] at h1
  obtain ⟨⟨⟨ha, hb⟩, hc⟩, hd⟩ := h1
  refine ⟨fun cs b e => ?_, fun e he => ?_, fun s hs j o' hj hds => ?_, fun d hd' => ?_⟩
  · rw [e] at ha; simp at ha
  · have := List.all_eq_true.1 hb e (by simpa using he)
    simpa using this
  · have h2 := List.all_eq_true.1 (List.all_eq_true.1 hc s hs) _ (hz hj)
    simp only [hds, bne_self_eq_false, Bool.false_or, Bool.or_eq_true, Bool.and_eq_true, decide_eq_true_eq, List.contains_eq_mem] at h2
    rcases h2 with h2 | h2
    · refine .inl ⟨h2.1, ?_⟩
      have := h2.2
      simpa using this
    · exact .inr (by simpa using h2)
  · simp only [hd', Bool.and_eq_true, decide_eq_true_eq] at hd
    refine ⟨hd.1, fun j o' hj hne e => ?_⟩
    have := List.all_eq_true.1 hd.2 _ (hz hj)
    simp [hne, e] at this

section
variable {P : Program} {l : List Oper} {Inv : (Nat → Bool) → World → Prop} {T : Nat → World → World → Prop} {Q : Exit → Act → World → Prop} {a : Act} {ss : List Spec}

theorem wpAny_done (hB : monoB2 l a.tmps.size = true) (hst : ∀ (i k : Nat) (s : Spec), i ≠ k → ss[k]? = some s → ∀ v done w w', Inv done w → T i w w' → s.fact v w → s.fact v w')
    (h : doneWalk P l.toArray Inv T (befores l []) (Q .normal) l.length l ss 0 a [] (fun _ => True)) :
    ∀ (fuel : Nat) (listed : Array Bool) (vf : Nat → Value) (a' : Act) (w' : World), (undone listed l.length).length ≤ fuel → DoneInv l ss Inv a vf listed a' w' → wpAny P .any l.toArray Q fuel listed a' w' := by
  have hS := fun {i : Nat} {o : Oper} (hi : l[i]? = some o) => monoB2_spec hB hi
  -- the values as far as they are there
  have hok : ∀ (listed : Array Bool) (vf : Nat → Value) (a' : Act) (w' : World), DoneInv l ss Inv a vf listed a' w' → okVals (fillVals ss listed vf) ss 0 := by
    intro listed vf a' w' hI
    refine okVals_of ss 0 fun j s x hj hx => ?_
    rw [Nat.zero_add]
    unfold fillVals
    split
    · rename_i hl
      have hlt : j < l.length := by
        have := (Array.getElem?_eq_some_iff.1 hl).1
        rw [hI.lsize] at this; exact this
      have := (hI.done j l[j] s (List.getElem?_eq_getElem hlt) hj hl).1
      unfold Spec.holds at this
      rw [hx] at this
      exact this
    · rw [hj]; simp [hx]
  have hfill : ∀ (listed : Array Bool) (vf : Nat → Value) (j : Nat), listed[j]? = some true → fillVals ss listed vf j = vf j := fun listed vf j hl => by unfold fillVals; rw [if_pos hl]
  have fin : ∀ (listed : Array Bool) (vf : Nat → Value) (a' : Act) (w' : World), (∀ j, j < l.length → listed[j]? = some true) → DoneInv l ss Inv a vf listed a' w' → Q .normal a' w' := by
    intro listed vf a' w' hall hI
    obtain ⟨_, h2, h3⟩ := done_ext (fillVals ss listed vf) l ss 0 a [] _ (hok listed vf a' w' hI) h
    have hq := h2 _ w' (fun k hk => by simp [hall k hk]) hI.cls trivial (allFacts_of _ 0 fun j s hj => by
      rw [Nat.zero_add]
      have hjl : j < l.length := by
        have := (List.getElem?_eq_some_iff.1 hj).1
        simp at this; omega
      have hj' : ss[j]? = some s := by rw [List.getElem?_take_of_lt hjl] at hj; exact hj
      rw [hfill _ _ _ (hall j hjl)]
      exact Spec.fact_of_holds (hI.done j l[j] s (List.getElem?_eq_getElem hjl) hj' (hall j hjl)).1)
    have ea : a' = lexAct (fillVals ss listed vf) l 0 a := by
      obtain ⟨hz, hd⟩ := lexAct_size (fillVals ss listed vf) l 0 a
      have ht : a'.tmps = (lexAct (fillVals ss listed vf) l 0 a).tmps := by
        apply Array.ext_getElem?
        intro t
        by_cases hex : ∃ (j : Nat) (o : Oper), l[j]? = some o ∧ o.dst = some t
        · obtain ⟨j, o, hj, hdt⟩ := hex
          have hjl := (List.getElem?_eq_some_iff.1 hj).1
          obtain ⟨hlt, huniq⟩ := (hS hj).2.2.2 t hdt
          rw [lexAct_same _ l 0 a j o hj hdt huniq hlt, Nat.zero_add, hfill _ _ _ (hall j hjl)]
          have hjs : ss[j]? = some ss[j] := List.getElem?_eq_getElem (by omega)
          exact (hI.done j o _ hj hjs (hall j hjl)).2 t hdt
        · have hn : ∀ (j : Nat) (o : Oper), l[j]? = some o → o.dst ≠ some t := fun j o hj e => hex ⟨j, o, hj, e⟩
          rw [lexAct_other _ l 0 a (fun o ho => by obtain ⟨j, hj⟩ := List.getElem?_of_mem ho; exact hn j o hj)]
          exact hI.rest t (fun j o hj _ => hn j o hj)
      cases a'; cases hx : lexAct (fillVals ss listed vf) l 0 a
      rw [hx] at ht hd
      have := hI.defers
      simp_all
    rw [ea]; exact hq
  have allIf : ∀ (listed : Array Bool), listed.size = l.length → Region.ready .any l.toArray listed = [] → ∀ j, j < l.length → listed[j]? = some true := by
    intro listed hsz hr j
    induction j using Nat.strongRecOn with
    | ind j ih =>
      intro hj
      have hsome : listed[j]? = some listed[j] := Array.getElem?_eq_getElem (by omega)
      cases hb : listed[j] with
      | true => rw [hsome, hb]
      | false =>
        have : j ∈ Region.ready .any l.toArray listed := by
          rw [mem_ready]
          refine ⟨by simp [Array.getD_eq_getD_getElem?, hsome, hb], l[j], by simp [hj], fun e he _ => ?_⟩
          have h1 := ((hS (List.getElem?_eq_getElem hj)).2.1 e he).1
          have h2 := ih e.on h1 (by omega)
          simp [Array.getD_eq_getD_getElem?, h2]
        rw [hr] at this
        cases this
  intro fuel
  induction fuel with
  | zero =>
    intro listed vf a' w' hf hI
    have hall : ∀ j, j < l.length → listed[j]? = some true := by
      intro j hj
      have h0 : undone listed l.length = [] := List.eq_nil_of_length_eq_zero (by omega)
      unfold undone at h0
      rw [List.filter_eq_nil_iff] at h0
      simpa using h0 j (List.mem_range.2 hj)
    refine ⟨?_, fin _ _ _ _ hall hI⟩
    rw [List.eq_nil_iff_forall_not_mem]
    intro j hj
    obtain ⟨h0, o, ho, _⟩ := mem_ready.1 hj
    have hj' : j < l.length := by
      have := (Array.getElem?_eq_some_iff.1 ho).1
      simpa using this
    simp [Array.getD_eq_getD_getElem?, hall j hj'] at h0
  | succ fuel ih =>
    intro listed vf a' w' hf hI
    refine ⟨fun hr => fin _ _ _ _ (allIf listed hI.lsize hr) hI, fun i hi => ?_⟩
    obtain ⟨h0, o, ho, hdep⟩ := mem_ready.1 hi
    have hil : l[i]? = some o := by simpa using ho
    have hilt : i < l.length := (List.getElem?_eq_some_iff.1 hil).1
    have hnl : listed[i]? ≠ some true := fun e => by simp [Array.getD_eq_getD_getElem?, e] at h0
    obtain ⟨hsel, hafter, hlooks, hdst⟩ := hS hil
    have hdone : ∀ e ∈ o.after, listed[e.on]? = some true := fun e he => by
      have := hdep e he (hafter e he).2
      rw [Array.getD_eq_getD_getElem?] at this
      cases hx : listed[e.on]? with
      | none => simp [hx] at this
      | some b => simp [hx] at this; rw [this]
    obtain ⟨h1, _, h3⟩ := done_ext (fillVals ss listed vf) l ss 0 a [] _ (hok listed vf a' w' hI) h
    have hsi : ss[i]? = some ss[i] := List.getElem?_eq_getElem (by omega)
    have hob := h1 i o ss[i] hil hsi
    rw [Nat.zero_add, List.nil_append] at hob
    -- the lexical act looks alike to this operation
    have hsame : ∀ t ∈ o.looksAt l.toArray, (lexAct (fillVals ss listed vf) (l.take i) 0 a).tmps[t]? = a'.tmps[t]? := by
      intro t ht
      by_cases hex : ∃ (j : Nat) (o' : Oper), l[j]? = some o' ∧ o'.dst = some t
      · obtain ⟨j, o', hj, hdt⟩ := hex
        rcases hlooks t ht j o' hj hdt with ⟨hji, e, he, hej⟩ | hbef
        rotate_left
        · have hij : i < j := befores_spec l [] (fun k i => i < k) (fun k i h => by simp at h) (fun j o' e hj he => by
            have := ((hS (show l[j]? = some o' from hj)).2.1 e he).1; simpa using this) (fun a b c h1 h2 => Nat.lt_trans h2 h1) j i hbef
          have hnj : listed[j]? ≠ some true := fun hlj => hnl (befores_spec l [] (fun k i => listed[k]? = some true → listed[i]? = some true) (fun k i h => by simp at h) (fun j o' e hj he hlj => by
            simp at hlj; exact hI.down j o' hj hlj e he) (fun a b c h1 h2 h3 => h2 (h1 h3)) j i hbef hlj)
          obtain ⟨_, huniq⟩ := (hS hj).2.2.2 t hdt
          rw [lexAct_other _ (l.take i) 0 a (fun o'' ho'' => by
            obtain ⟨k, hk⟩ := List.getElem?_of_mem ho''
            have hki : k < i := by have := (List.getElem?_eq_some_iff.1 hk).1; simp at this; omega
            rw [List.getElem?_take_of_lt hki] at hk
            exact huniq k o'' hk (by omega))]
          refine (hI.rest t fun k o'' hk hlk => ?_).symm
          by_cases hkj : k = j
          · subst hkj; exact absurd hlk hnj
          · exact huniq k o'' hk hkj
        have hlj : listed[j]? = some true := hej ▸ hdone e he
        obtain ⟨hlt, huniq⟩ := (hS hj).2.2.2 t hdt
        have hjs : ss[j]? = some ss[j] := List.getElem?_eq_getElem (by omega)
        rw [lexAct_same _ (l.take i) 0 a j o' (by rw [List.getElem?_take_of_lt hji]; exact hj) hdt (fun j' o'' hj' hne => huniq j' o'' (by
          have hlt' : j' < i := by
            have := (List.getElem?_eq_some_iff.1 hj').1
            simp at this; omega
          rw [List.getElem?_take_of_lt hlt'] at hj'; exact hj') hne) hlt, Nat.zero_add, hfill _ _ _ hlj]
        exact ((hI.done j o' _ hj hjs hlj).2 t hdt).symm
      · have hn : ∀ (j : Nat) (o : Oper), l[j]? = some o → o.dst ≠ some t := fun j o hj e => hex ⟨j, o, hj, e⟩
        rw [lexAct_other _ (l.take i) 0 a (fun o' ho' => by obtain ⟨j, hj⟩ := List.getElem?_of_mem (List.mem_of_mem_take ho'); exact hn j o' hj)]
        exact (hI.rest t (fun j o hj _ => hn j o hj)).symm
    have hexec : execOp (lexAct (fillVals ss listed vf) (l.take i) 0 a).eval o = execOp a'.eval o := by
      refine execOp_congr o hsel fun x hx => ?_
      cases x with
      | tmp t =>
        have := hsame t (List.mem_append_left _ (List.mem_filterMap.2 ⟨.tmp t, by simpa using hx, rfl⟩))
        simp [Act.eval, Array.getD_eq_getD_getElem?, this]
      | _ => rfl
    have hwant : Region.wanted o (yielded l.toArray (lexAct (fillVals ss listed vf) (l.take i) 0 a).tmps) = Region.wanted o (yielded l.toArray a'.tmps) := by
      unfold Region.wanted
      cases hg : o.guard with
      | none => rfl
      | some gw =>
        obtain ⟨g, want⟩ := gw
        have hy : yielded l.toArray (lexAct (fillVals ss listed vf) (l.take i) 0 a).tmps g = yielded l.toArray a'.tmps g := by
          unfold yielded
          cases ht : (l.toArray[g]?).bind (·.dst) with
          | none => rfl
          | some t =>
            have := hsame t (by simp only [Oper.looksAt, hg, ht]; simp)
            simp only [Option.bind_some, this]
        simp only [hy]
    have hfacts : depFacts o ([] ++ factList (fillVals ss listed vf) (ss.take i) 0) w' := by
      intro k hk
      rw [List.nil_append]
      obtain ⟨e, he, rfl⟩ := List.mem_map.1 hk
      have he' : e ∈ o.after := by simpa using he
      have hlt := (hafter e he').1
      have hlk := hdone e he'
      have hks : ss[e.on]? = some ss[e.on] := List.getElem?_eq_getElem (by omega)
      rw [List.getD_eq_getElem?_getD, factList_get (ss.take i) 0 e.on ss[e.on] (by rw [List.getElem?_take_of_lt hlt]; exact hks), Nat.zero_add, hfill _ _ _ hlk]
      exact Spec.fact_of_holds (hI.done e.on l[e.on] _ (List.getElem?_eq_getElem (by omega)) hks hlk).1
    rw [List.nil_append] at hfacts
    have hnot : ∀ k : Nat, i ∈ (befores l []).getD k [] → ((fun k => listed[k]? == some true) k) = false := by
      intro k hk
      have hP := befores_spec l [] (fun k i => listed[k]? = some true → listed[i]? = some true) (fun k i h => by simp at h) (fun j o' e hj he hlj => by
        simp at hlj; exact hI.down j o' hj hlj e he) (fun a b c h1 h2 h3 => h2 (h1 h3)) k i hk
      cases hx : (listed[k]? == some true) with
      | false => exact hx
      | true => exact absurd (hP (by simpa using hx)) hnl
    have hres := hob _ w' hI.cls (by simpa using hnl) (fun k hk => by
      obtain ⟨e, he, rfl⟩ := List.mem_map.1 hk
      simp [hdone e (by simpa using he)]) hnot hfacts (fun v w'' => Inv (updDone (fun k => listed[k]? == some true) i) w'' ∧ T i w' w'' ∧ ss[i].holds v w'') (fun v w'' h0 h1 h2 => ⟨h0, h1, h2⟩)
    rw [hwant] at hres
    have next : ∀ v w'', Inv (updDone (fun k => listed[k]? == some true) i) w'' → T i w' w'' → ss[i].holds v w'' → wpAny P .any l.toArray Q fuel (listed.setIfInBounds i true) (a'.put o.dst v) w'' := by
      intro v w'' hIv hT hv
      have hu := undone_set hilt (by rw [hI.lsize]; exact Nat.le_refl _) hnl
      refine ih _ (fun j => if j = i then v else vf j) _ _ (by omega) ⟨?_, ?_, by simp [hI.lsize], ?_, ?_, ?_, ?_⟩
      · refine (congrArg (fun d => Inv d w'') ?_).mp hIv
        funext k
        unfold updDone
        by_cases e : k = i
        · subst e; rw [if_pos rfl, Array.getElem?_setIfInBounds_self_of_lt (by rw [hI.lsize]; exact hilt)]; simp
        · rw [if_neg e, Array.getElem?_setIfInBounds_ne (Ne.symm e)]
      · intro j o' hj hlj e he
        by_cases hje : j = i
        · subst hje
          rw [hil] at hj
          obtain rfl : o = o' := by simpa using hj
          have := hdone e he
          by_cases hei : e.on = j
          · rw [hei, Array.getElem?_setIfInBounds_self_of_lt (by rw [hI.lsize]; exact hilt)]
          · rw [Array.getElem?_setIfInBounds_ne (Ne.symm hei)]; exact this
        · rw [Array.getElem?_setIfInBounds_ne (Ne.symm hje)] at hlj
          have := hI.down j o' hj hlj e he
          by_cases hei : e.on = i
          · rw [hei, Array.getElem?_setIfInBounds_self_of_lt (by rw [hI.lsize]; exact hilt)]
          · rw [Array.getElem?_setIfInBounds_ne (Ne.symm hei)]; exact this
      · rw [← hI.defers]; cases o.dst <;> rfl
      · rw [← hI.size]; cases o.dst <;> simp [Act.put]
      · intro j o' s hj hjs hlj
        by_cases e : j = i
        · subst e
          rw [hil] at hj
          obtain rfl : o = o' := by simpa using hj
          rw [hsi] at hjs
          obtain rfl : ss[j] = s := by simpa using hjs
          rw [if_pos rfl]
          refine ⟨hv, fun d hd => ?_⟩
          rw [hd, put_get_same (by rw [hI.size]; exact (hdst d hd).1)]
        · rw [Array.getElem?_setIfInBounds_ne (Ne.symm e)] at hlj
          rw [if_neg e]
          obtain ⟨g1, g2⟩ := hI.done j o' s hj hjs hlj
          refine ⟨?_, fun d hd => ?_⟩
          · have hf := hst i j s (Ne.symm e) hjs (vf j) _ w' w'' hI.cls hT (Spec.fact_of_holds g1)
            unfold Spec.holds at g1 ⊢
            unfold Spec.fact at hf
            split <;> simp_all
          · rw [put_get_other (fun e' => (hdst d e').2 j o' hj e hd)]
            exact g2 d hd
      · intro t ht
        have hti : o.dst ≠ some t := ht i o hil (by rw [Array.getElem?_setIfInBounds_self_of_lt (by rw [hI.lsize]; exact hilt)])
        rw [put_get_other hti]
        refine hI.rest t fun j o' hj hlj => ?_
        by_cases e : j = i
        · subst e; exact absurd hlj hnl
        · exact ht j o' hj (by rw [Array.getElem?_setIfInBounds_ne (Ne.symm e)]; exact hlj)
    unfold wpOp
    rw [ho]
    by_cases hw : Region.wanted o (yielded l.toArray a'.tmps) = true
    · simp only [hw, if_true] at hres ⊢
      refine .inl (wp_of_gives (R := fun v w'' => Inv (updDone (fun k => listed[k]? == some true) i) w'' ∧ T i w' w'' ∧ ss[i].holds v w'') ?_ fun v w'' ⟨h0, h1, h2⟩ => next v w'' h0 h1 h2)
      unfold gives at hres ⊢
      rw [← hexec]; exact hres
    · simp only [hw] at hres ⊢
      exact next _ _ hres.1 hres.2.1 hres.2.2

/-- ONE LEXICAL WALK SERVES EVERY ORDER, stores among the operations. -/
theorem wp_region_done {id : Nat} {w : World} (ss : List Spec) (Inv : (Nat → Bool) → World → Prop) (T : Nat → World → World → Prop) (hm : P.follows .mixedOrders = true) (hB : monoB2 l a.tmps.size = true)
    (hst : ∀ (i k : Nat) (s : Spec), i ≠ k → ss[k]? = some s → ∀ v done w w', Inv done w → T i w w' → s.fact v w → s.fact v w') (hC : Inv (fun _ => false) w.drew)
    (h : doneWalk P l.toArray Inv T (befores l []) (Q .normal) l.length l ss 0 a [] (fun _ => True)) : (Code.region id l.toArray true).wp P Q a w := by
  refine wp_region_any hm (wpAny_done hB hst h _ _ (fun _ => undef) _ _ ?_ ⟨?_, ?_, by simp, rfl, rfl, ?_, fun _ _ => rfl⟩)
  · have := List.length_filter_le (fun i => (Array.replicate l.toArray.size false)[i]? != some true) (List.range l.length)
    simpa [undone] using this
  · refine (congrArg (fun d => Inv d _) ?_).mp hC
    funext k
    rw [Array.getElem?_replicate]
    split <;> simp
  · intro j o hj hl
    rw [Array.getElem?_replicate] at hl
    split at hl <;> simp at hl
  · intro j o s hj _ hl
    rw [Array.getElem?_replicate] at hl
    split at hl <;> simp at hl
end

/-- Exact values alone: each is found as its operation is walked. -/
def doneE (P : Program) (ops : Array Oper) (Inv : (Nat → Bool) → World → Prop) (bs : List (List Nat)) (Q : Act → World → Prop) (n : Nat) : List Oper → Nat → Act → Prop
  | [], _, a => ∀ (done : Nat → Bool) (w : World), (∀ k, k < n → done k = true) → Inv done w → Q a w
  | o :: l, i, a => ∃ x : Value, (∀ (done : Nat → Bool) (w : World), Inv done w → done i = false → (∀ k ∈ o.after.toList.map (fun e => e.on), done k = true) → (∀ k : Nat, i ∈ bs.getD k [] → done k = false) →
      ∀ R : Value → World → Prop, (∀ (v : Value) (w' : World), Inv (updDone done i) w' → v = x → R v w') → if Region.wanted o (yielded ops a.tmps) then gives P o a w R else R undef w) ∧
      doneE P ops Inv bs Q n l (i + 1) (a.put o.dst x)
theorem doneE_step {P : Program} {ops : Array Oper} {Inv : (Nat → Bool) → World → Prop} {bs : List (List Nat)} {Q : Act → World → Prop} {n : Nat} {o : Oper} {l : List Oper} {i : Nat} {a : Act}
    (h : ∀ K : Act → Prop, (∀ a, doneE P ops Inv bs Q n l (i + 1) a → K a) → ∃ x : Value, (∀ (done : Nat → Bool) (w : World), Inv done w → done i = false → (∀ k ∈ o.after.toList.map (fun e => e.on), done k = true) → (∀ k : Nat, i ∈ bs.getD k [] → done k = false) →
      ∀ R : Value → World → Prop, (∀ (v : Value) (w' : World), Inv (updDone done i) w' → v = x → R v w') → if Region.wanted o (yielded ops a.tmps) then gives P o a w R else R undef w) ∧ K (a.put o.dst x)) :
    doneE P ops Inv bs Q n (o :: l) i a := h _ (fun _ h => h)
theorem doneE_list {P : Program} {ops : Array Oper} {Inv : (Nat → Bool) → World → Prop} {bs : List (List Nat)} {Q : Act → World → Prop} {n : Nat} : ∀ (l : List Oper) (i : Nat) (a : Act) (fs : List (World → Prop)),
    doneE P ops Inv bs Q n l i a → ∃ xs : List Value, doneWalk P ops Inv (fun _ _ _ => True) bs Q n l (xs.map ex) i a fs (fun _ => True)
  | [], _, _, _, h => ⟨[], fun d w hd hC _ => h d w hd hC⟩
  | o :: l, i, a, fs, ⟨x, hob, hrest⟩ => by
    obtain ⟨xs, hx⟩ := doneE_list l (i + 1) _ (fs ++ [fun _ : World => True]) hrest
    exact ⟨x :: xs, fun d w hC h0 h1 h2 _ R hR => hob d w hC h0 h1 h2 R (fun v w' hI hv => hR v w' hI trivial hv), hx⟩
theorem wp_region_stores {P : Program} {l : List Oper} {Q : Exit → Act → World → Prop} {a : Act} {id : Nat} {w : World} (Inv : (Nat → Bool) → World → Prop) (hm : P.follows .mixedOrders = true) (hB : monoB2 l a.tmps.size = true) (hC : Inv (fun _ => false) w.drew)
    (bs : List (List Nat)) (hbs : befores l [] = bs) (h : doneE P l.toArray Inv bs (Q .normal) l.length l 0 a) : (Code.region id l.toArray true).wp P Q a w := by
  subst hbs
  obtain ⟨xs, hx⟩ := doneE_list l 0 a [] h
  refine wp_region_done (xs.map ex) Inv (fun _ _ _ => True) hm hB (fun i k s _ hk v done w1 w2 _ _ _ => ?_) hC hx
  obtain ⟨x, _, rfl⟩ := List.mem_map.1 (List.mem_of_getElem? hk)
  trivial

/-- As wp_region_exact, where a temporary may be read ahead of being written. -/
theorem wp_region_exact2 {P : Program} {l : List Oper} {Q : Exit → Act → World → Prop} {a : Act} {id : Nat} {w : World} (B : Nat) (hBw : B ≤ w.heap.size) (hm : P.follows .mixedOrders = true) (hB : monoB2 l a.tmps.size = true)
    (h : monoE P l.toArray (Cls B w) TB (Q .normal) l 0 a) : (Code.region id l.toArray true).wp P Q a w := by
  have conv : ∀ (l' : List Oper) (i : Nat) (a' : Act), monoE P l.toArray (Cls B w) TB (Q .normal) l' i a' → doneE P l.toArray (fun _ => Cls B w) (befores l []) (Q .normal) l.length l' i a' := by
    intro l'
    induction l' with
    | nil => intro i a' h _ W _ hC; exact h W hC
    | cons o l' ih =>
      intro i a' h
      obtain ⟨x, h1, h2⟩ := h
      exact ⟨x, fun _ W hC _ _ _ R hR => h1 W hC R (fun v w' hT hv => hR v w' (hC.step hT) hv), ih _ _ h2⟩
  exact wp_region_stores (fun _ => Cls B w) hm hB ⟨hBw, (Below.refl _ _).drew⟩ _ rfl (conv l 0 a h)
end Go.Proofs.YthkgjohhbdipcaaGreatDoor
namespace Go.Proofs.YthkgjohhbdipcaaGreatDoor
open Go.RowKit

def prune (o : Oper) : Oper := { o with after := o.after.filter (Region.binds .any) }
theorem prune_get (l : List Oper) (i : Nat) : (l.map prune).toArray[i]? = (l.toArray[i]?).map prune := by simp
theorem all_prune (p q : Edge → Bool) (es : Array Edge) : ((es.filter p).all fun e => !p e || q e) = es.all fun e => !p e || q e := by
  rw [Bool.eq_iff_iff]
  simp only [Array.all_eq_true_iff_forall_mem, Array.mem_filter]
  constructor
  · intro h e he
    cases hp : p e with
    | false => rfl
    | true => have := h e ⟨he, hp⟩; rwa [hp] at this
  · intro h e he
    exact h e he.1
theorem ready_prune (l : List Oper) (listed : Array Bool) : Region.ready .any (l.map prune).toArray listed = Region.ready .any l.toArray listed := by
  unfold Region.ready
  have hs : (l.map prune).toArray.size = l.toArray.size := by simp
  rw [hs]
  congr 1
  funext i
  rw [prune_get, Option.map_map]
  congr 2
  congr 1
  funext o
  exact all_prune _ _ _
theorem yielded_prune (l : List Oper) (t : Array Value) : yielded (l.map prune).toArray t = yielded l.toArray t := by
  funext j
  unfold yielded
  rw [prune_get]
  cases l.toArray[j]? <;> rfl
theorem wpOp_prune {P : Program} {l : List Oper} {Q : Exit → Act → World → Prop} {i : Nat} {K : Act → World → Prop} {a : Act} {w : World} (h : wpOp P (l.map prune).toArray Q i K a w) : wpOp P l.toArray Q i K a w := by
  unfold wpOp at h ⊢
  rw [prune_get] at h
  cases ho : l.toArray[i]? with
  | none => rw [ho] at h; exact h
  | some o => rw [ho, yielded_prune] at h; exact h
theorem wpAny_prune {P : Program} {l : List Oper} {Q : Exit → Act → World → Prop} : ∀ (fuel : Nat) (listed : Array Bool) (a : Act) (w : World), wpAny P .any (l.map prune).toArray Q fuel listed a w → wpAny P .any l.toArray Q fuel listed a w
  | 0, listed, a, w, h => by unfold wpAny at h ⊢; rwa [ready_prune] at h
  | fuel + 1, listed, a, w, h => by
    unfold wpAny at h ⊢
    rw [ready_prune] at h
    exact ⟨h.1, fun i hi => wpOp_mono (fun a' w' h' => wpAny_prune fuel _ a' w' h') (wpOp_prune (h.2 i hi))⟩
theorem monoE_prune {P : Program} {ops : List Oper} {C : World → Prop} {T : Nat → World → World → Prop} {Q : Act → World → Prop} : ∀ (l : List Oper) (i : Nat) (a : Act), monoE P ops.toArray C T Q l i a → monoE P (ops.map prune).toArray C T Q (l.map prune) i a
  | [], _, _, h => h
  | o :: l, i, a, ⟨x, h1, h2⟩ => by
    refine ⟨x, fun w hC R hR => ?_, monoE_prune l _ _ h2⟩
    have := h1 w hC R hR
    rw [← yielded_prune] at this
    exact this

/-- As wp_region_exact: edges that bind no order are left out, and a temporary may be read ahead of being written. -/
theorem wp_region_exact3 {P : Program} {l : List Oper} {Q : Exit → Act → World → Prop} {a : Act} {id : Nat} {w : World} (B : Nat) (hBw : B ≤ w.heap.size) (hm : P.follows .mixedOrders = true) (hB : monoB2 (l.map prune) a.tmps.size = true)
    (h : monoE P l.toArray (Cls B w) TB (Q .normal) l 0 a) : (Code.region id l.toArray true).wp P Q a w := by
  have h' := monoE_prune (ops := l) l 0 a h
  generalize hl : l.map prune = l' at hB h'
  have conv : ∀ (l'' : List Oper) (i : Nat) (a' : Act), monoE P l'.toArray (Cls B w) TB (Q .normal) l'' i a' → doneE P l'.toArray (fun _ => Cls B w) (befores l' []) (Q .normal) l'.length l'' i a' := by
    intro l''
    induction l'' with
    | nil => intro i a' h _ W _ hC; exact h W hC
    | cons o l'' ih =>
      intro i a' h
      obtain ⟨x, h1, h2⟩ := h
      exact ⟨x, fun _ W hC _ _ _ R hR => h1 W hC R (fun v w' hT hv => hR v w' (hC.step hT) hv), ih _ _ h2⟩
  obtain ⟨xs, hx⟩ := doneE_list l' 0 a [] (conv l' 0 a h')
  refine wp_region_any hm (wpAny_prune _ _ _ _ ?_)
  rw [hl]
  refine wpAny_done (Inv := fun _ => Cls B w) (T := fun _ _ _ => True) (ss := xs.map ex) hB (fun i k s _ hk v done w1 w2 _ _ _ => ?_) hx _ _ (fun _ => undef) _ _ ?_ ⟨⟨hBw, (Below.refl _ _).drew⟩, ?_, by simp [← hl], rfl, rfl, ?_, fun _ _ => rfl⟩
  · obtain ⟨x, _, rfl⟩ := List.mem_map.1 (List.mem_of_getElem? hk)
    trivial
  · have := List.length_filter_le (fun i => (Array.replicate l.toArray.size false)[i]? != some true) (List.range l'.length)
    simpa [undone, ← hl] using this
  · intro j o hj hl
    rw [Array.getElem?_replicate] at hl
    split at hl <;> simp at hl
  · intro j o s hj _ hl
    rw [Array.getElem?_replicate] at hl
    split at hl <;> simp at hl
end Go.Proofs.YthkgjohhbdipcaaGreatDoor
namespace Go.Proofs.YthkgjohhbdipcaaGreatDoor

structure TCall where
  a0 : Int
  a1 : Int
  a2 : Int
  a3 : Int
  a4 : Int
deriving DecidableEq
structure TIns where
  k : Int
  a : Int
  b : Int
  c : Int
deriving DecidableEq
structure TCond where
  f : Int
  op : Int
  v : Int
deriving DecidableEq
structure TRule where
  conds : List TCond
  verdict : Int
deriving DecidableEq
structure TPol where
  rules : List TRule
  dflt : Int
deriving DecidableEq

def TCall.get (x : TCall) (k : Int) : Int := if k = 0 then x.a0 else if k = 1 then x.a1 else if k = 2 then x.a2 else if k = 3 then x.a3 else x.a4
def mostOf (k : Int) : Int := if k = 0 then 63 else if k = 1 then 3 else 65535
def TCall.ok (x : TCall) : Prop := (0 ≤ x.a0 ∧ x.a0 ≤ 63) ∧ (0 ≤ x.a1 ∧ x.a1 ≤ 3) ∧ (0 ≤ x.a2 ∧ x.a2 ≤ 65535) ∧ (0 ≤ x.a3 ∧ x.a3 ≤ 65535) ∧ (0 ≤ x.a4 ∧ x.a4 ≤ 65535)
instance (x : TCall) : Decidable x.ok := by unfold TCall.ok; infer_instance
/-- chapter 1's Check. -/
def callE (x : TCall) : Int := if x.ok then 0 else 3
theorem TCall.ok_get {x : TCall} (h : x.ok) {k : Nat} (hk : k < 5) : 0 ≤ x.get k ∧ x.get k ≤ mostOf k := by
  unfold TCall.ok at h
  match k, hk with
  | 0, _ => exact h.1
  | 1, _ => exact h.2.1
  | 2, _ => exact h.2.2.1
  | 3, _ => exact h.2.2.2.1
  | 4, _ => exact h.2.2.2.2
theorem TCall.ok_of {x : TCall} (h : ∀ k : Nat, k < 5 → 0 ≤ x.get k ∧ x.get k ≤ mostOf k) : x.ok :=
  ⟨h 0 (by omega), h 1 (by omega), h 2 (by omega), h 3 (by omega), h 4 (by omega)⟩

/-- chapter 4's Check, of one instruction with n behind it. -/
def insE (x : TIns) (n : Int) : Int :=
  if x.k = 1 ∨ x.k = 4 then
    if x.b ≠ 0 ∨ x.c ≠ 0 then 4
    else if x.a < 0 ∨ x.a > 4 then 3 else 0
  else if x.k = 2 ∨ x.k = 3 then
    if x.a < 0 ∨ x.a > 65535 then 3
    else if x.b < 0 ∨ x.b ≥ n ∨ x.c < 0 ∨ x.c ≥ n then 5 else 0
  else 4
def codeGo : List TIns → Int
  | [] => 0
  | x :: r => if insE x r.length = 0 then codeGo r else insE x r.length
def lastK : List TIns → Int
  | [] => 0
  | [x] => x.k
  | _ :: x :: r => lastK (x :: r)
/-- chapter 4's Check. -/
def codeE (l : List TIns) : Int :=
  if l.length = 0 ∨ 1500 < l.length then 2 else if codeGo l ≠ 0 then codeGo l else if lastK l = 4 then 0 else 4
theorem codeGo_drop (l : List TIns) (k : Nat) (h : k < l.length) : codeGo (l.drop k) = if insE l[k] ((l.length : Int) - 1 - k) = 0 then codeGo (l.drop (k+1)) else insE l[k] ((l.length : Int) - 1 - k) := by
  rw [List.drop_eq_getElem_cons h]
  have e : ((l.drop (k+1)).length : Int) = (l.length : Int) - 1 - k := by simp; omega
  simp only [codeGo, e]
theorem lastK_eq : ∀ (l : List TIns) (h : 0 < l.length), lastK l = (l[l.length - 1]).k
  | [], h => absurd h (by simp)
  | [x], _ => rfl
  | x :: y :: r, _ => by
    simp only [lastK]
    rw [lastK_eq (y :: r) (by simp)]
    simp

/-- What an instruction does to what is loaded, and how many are left out behind it. -/
def insNext (x : TIns) (n : Int) : Nat := if (x.k = 2 ∧ n = x.a) ∨ (x.k = 3 ∧ n < x.a) then x.b.toNat else x.c.toNat
/-- chapter 4's Run, of a right filter: the verdict, and how many were done; fuel: how many stand. -/
def runGo (x : TCall) : (fuel : Nat) → List TIns → (n : Int) → (done : Nat) → Int × Nat
  | 0, _, _, d => (0, d)
  | _ + 1, [], _, d => (0, d)
  | f + 1, i :: r, n, d =>
    if i.k = 4 then (i.a, d + 1)
    else if i.k = 1 then runGo x f r (x.get i.a) (d + 1)
    else runGo x f (r.drop (insNext i n)) n (d + 1)
def run (l : List TIns) (x : TCall) : Int × Nat := runGo x l.length l 0 0


/-! ### right filters -/
structure Right (l : List TIns) : Prop where
  ne : l ≠ []
  go : codeGo l = 0
  last : lastK l = 4
theorem right_of {l : List TIns} (h : codeE l = 0) : Right l ∧ l.length ≤ 1500 := by
  unfold codeE at h
  split at h
  · simp at h
  · rename_i h1
    split at h
    · rename_i h2; exact absurd h h2
    · rename_i h2
      split at h
      · rename_i h3; exact ⟨⟨fun e => h1 (.inl (by simp [e])), by omega, h3⟩, by omega⟩
      · simp at h
theorem Right.tail {x : TIns} {r : List TIns} (h : Right (x :: r)) (hr : r ≠ []) : Right r := by
  obtain ⟨_, h1, h2⟩ := h
  refine ⟨hr, ?_, ?_⟩
  · unfold codeGo at h1
    split at h1
    · exact h1
    · rename_i h3; exact absurd h1 h3
  · cases r with
    | nil => exact absurd rfl hr
    | cons y r => exact h2
theorem Right.ins {x : TIns} {r : List TIns} (h : Right (x :: r)) : insE x r.length = 0 := by
  have h1 := h.go
  unfold codeGo at h1
  split at h1
  · rename_i h3; exact h3
  · exact h1
theorem Right.drop : ∀ {l : List TIns}, Right l → ∀ {k : Nat}, k < l.length → Right (l.drop k)
  | _, h, 0, _ => h
  | [], h, _ + 1, _ => absurd rfl h.ne
  | x :: r, h, k + 1, hk => by
    have hr : r ≠ [] := fun e => by subst e; simp at hk
    exact (h.tail hr).drop (by simpa using hk)
theorem insE_cases {x : TIns} {n : Int} (h : insE x n = 0) : (x.k = 4 ∧ 0 ≤ x.a ∧ x.a ≤ 4 ∧ x.b = 0 ∧ x.c = 0) ∨ (x.k = 1 ∧ 0 ≤ x.a ∧ x.a ≤ 4 ∧ x.b = 0 ∧ x.c = 0) ∨ ((x.k = 2 ∨ x.k = 3) ∧ 0 ≤ x.a ∧ x.a ≤ 65535 ∧ 0 ≤ x.b ∧ x.b < n ∧ 0 ≤ x.c ∧ x.c < n) := by
  unfold insE at h
  split at h
  · split at h
    · simp at h
    · split at h
      · simp at h
      · rename_i h1 h2 h3; omega
  · split at h
    · split at h
      · simp at h
      · split at h
        · simp at h
        · rename_i h1 h2 h3; omega
    · simp at h
/-- What stands at place k of a right filter. -/
theorem Right.at_ {l : List TIns} (h : Right l) {k : Nat} (hk : k < l.length) : insE l[k] ((l.length : Int) - 1 - k) = 0 ∧ (l[k].k ≠ 4 → k + 1 < l.length) := by
  have h1 := h.drop hk
  rw [List.drop_eq_getElem_cons hk] at h1
  have e : ((l.drop (k+1)).length : Int) = (l.length : Int) - 1 - k := by simp; omega
  refine ⟨by rw [← e]; exact h1.ins, fun h4 => ?_⟩
  rcases Nat.lt_or_ge (k + 1) l.length with hlt | hge
  · exact hlt
  · have : l.drop (k + 1) = [] := List.drop_eq_nil_of_le hge
    rw [this] at h1
    exact absurd h1.last h4
theorem runGo_step (x : TCall) (f : Nat) (l : List TIns) (n : Int) (d k : Nat) (hk : k < l.length) (hf : (l.drop k).length ≤ f) (h4 : l[k].k ≠ 4) :
    ∃ f', (l.drop (k + 1)).length ≤ f' ∧ runGo x f (l.drop k) n d = if l[k].k = 1 then runGo x f' (l.drop (k + 1)) (x.get l[k].a) (d + 1) else runGo x f' (l.drop (k + 1 + insNext l[k] n)) n (d + 1) := by
  rw [List.drop_eq_getElem_cons hk] at hf ⊢
  cases f with
  | zero => simp at hf; omega
  | succ f =>
    refine ⟨f, by simp at hf ⊢; omega, ?_⟩
    simp only [runGo, if_neg h4, List.drop_drop]
theorem runGo_ret (x : TCall) (f : Nat) (l : List TIns) (n : Int) (d k : Nat) (hk : k < l.length) (hf : (l.drop k).length ≤ f) (h4 : l[k].k = 4) : runGo x f (l.drop k) n d = (l[k].a, d + 1) := by
  rw [List.drop_eq_getElem_cons hk] at hf ⊢
  cases f with
  | zero => simp at hf; omega
  | succ f => simp only [runGo, if_pos h4]
/-- chapter 4's Run, errors too. -/
def runE (l : List TIns) (x : TCall) : Int × Int × Int := if codeE l ≠ 0 then (0, 0, codeE l) else if x.ok then ((run l x).1, (run l x).2, 0) else (0, 0, 3)

end Go.Proofs.YthkgjohhbdipcaaGreatDoor
