/- Texts laid one behind the other: Shelf, Whole, Laid, ShelfText, PolSpec, ReadSpec, Text, PolRd, Own, Blk, Bx, PText, Call, Policy, PolCheck. No condition beyond theirs. -/
import Derived.Shelf.Strings.Builder1
import Derived.Shelf.Small.Utf8
import Derived.Shelf.Small.Bits
import Derived.Shelf.Small.Strs
import Derived.Shelf.Small.Wraps
import Derived.Shelf.Utf8.RuneCount
import Derived.Shelf.Strconv.Atoi
import Derived.Shelf.Strconv.Itoa0
import Derived.Shelf.Strconv.Itoa1
import Derived.Shelf.LaysM
import Derived.Shelf.Strconv.Itoa2
import Derived.Shelf.Strconv.Itoa3
import Derived.Shelf.Strconv.Itoa4
import Derived.Shelf.Strconv.AtoiErrFast
import Derived.Shelf.Strconv.ParseIntEmpty
import Derived.Shelf.Strconv.AtoiFail
import Derived.Shelf.Strconv.Clone
import Derived.Shelf.Strconv.SyntaxError
import Derived.Shelf.LaysC
import Derived.Shelf.Strconv.ToError
import Derived.Shelf.Strconv.Lower
import Derived.Shelf.Strconv.ParseUint10
import Derived.Shelf.Strconv.ParseUint10Empty
import Derived.Shelf.Strconv.ParseUint10Any
import Derived.Shelf.Strconv.ParseInt10
import Derived.Shelf.Strconv.AtoiLong
import Derived.Shelf.Strconv.AtoiInnerAll
import Derived.Shelf.Strconv.RangeError
import Derived.Shelf.Strconv.ToErrorRange
import Derived.Shelf.Strconv.AtoiAll
import Derived.Shelf.Strconv.ParseUintEmpty
import Derived.Shelf.Strconv.ParseUint10b64
import Derived.Shelf.Strconv.ParseUint10b32
import Derived.Shelf.Strconv.ParseUint10b16
import Derived.Shelf.Strconv.ParseUint10b8
import Derived.Shelf.Strconv.ParseUint10At
import Derived.Shelf.Strconv.ParseInt10At64
import Derived.Shelf.Strconv.ParseInt10At32
import Derived.Shelf.Strconv.ParseInt10At16
import Derived.Shelf.Strconv.ParseInt10At8
import Derived.Shelf.Strconv.ParseInt10All
import Derived.Shelf.Strconv.ParseIntPublic10
import Derived.Shelf.Strconv.ErrVarParseInt
import Derived.Shelf.Strings.Search1
import Derived.Shelf.Strings.Search2
import Derived.Shelf.Strings.Search3
import Derived.Shelf.Strings.Cut
import Derived.Shelf.Strings.Count
import Derived.Shelf.Strings.Shaped
import Derived.Shelf.Sort.Plain
import Derived.Shelf.Strings.Prefix
import Derived.Shelf.Strings.Split
import Derived.Shelf.Strings.Fields
import Derived.Shelf.Strings.SplitShaped
import Derived.Shelf.Unicode.Latin
import Derived.Shelf.Unicode.Decode
import Derived.Shelf.Strings.Runes
import Derived.Shelf.Strings.RuneCount
import Derived.Shelf.Strings.IndexAny
import Derived.Shelf.Strings.AsciiSet
import Derived.Shelf.Strings.IndexAnyAll
import Derived.Shelf.Strings.Explode
import Derived.Shelf.Unicode.DecodeSlow
import Derived.Shelf.Unicode.DecodeAny
import Derived.Shelf.Unicode.Is16White
import Derived.Shelf.Unicode.IsSpaceAny
import Derived.Shelf.Unicode.Is16Any
import Derived.Shelf.Unicode.Is32Any
import Derived.Shelf.Unicode.ExclAny
import Derived.Shelf.Slices.Turned
import Derived.Ground.Names2Prog
import Derived.Shelf.Slices.CompactI
import Derived.Shelf.Slices.SearchI
import Derived.Shelf.Slices.Cells
import Derived.Shelf.Slices.In.SortNone
import Derived.Test.YthkgjohhbdipcaaGreatDoorProg
import Derived.Lib.ParseIntB
import Derived.Lib.ItoaMem
import Derived.Test.YthkgjohhbdipcaaGreatDoorK1
import Derived.Lib.SmallJoins
import Derived.Lib.QuietBelow
import Derived.KernelRfl
import Derived.Lib.Split
import Derived.Lib.SplitLaws
import Derived.Laws.AppendOwnNone
import Derived.Lib.AppendZeros
import Derived.Laws.IdiomCopy
import Derived.Lib.ItoaLen
set_option linter.all false
namespace Go.Proofs
open Go.Shelf
def Tryz.laysM173_ren : Go.Shelf.Ren:=⟨fun | 173=>120 | 246=>140 | 283=>164 | 284=>165 | 285=>166 | 286=>167 | 129=>197 | 317=>196 | 318=>198 | 319=>199 | 320=>200 | 337=>220 | 338=>221 | n=>n,fun | 2=>2 | 3=>3 | 9=>9 | 4=>4 | 171=>199 | 0=>0 | 53=>200 | 37=>23 | 5=>5 | 173=>203 | 212=>242 | 51=>223 | 20=>20 | 213=>243 | 46=>208 | 232=>290 | 233=>291 | n=>n,fun | 17=>3 | 18=>8 | 19=>9 | n=>n⟩
theorem Tryz.laysM173 : Go.Proofs.LaysM.n173 Tryz.prog Tryz.laysM173_ren:={
 mixed:=by kernel_rfl
 f129:=Tryz.func197.trans (congrArg some (by kernel_rfl))
 f173:=Tryz.func120.trans (congrArg some (by kernel_rfl))
 f246:=Tryz.func140.trans (congrArg some (by kernel_rfl))
 f283:=Tryz.func164.trans (congrArg some (by kernel_rfl))
 f284:=Tryz.func165.trans (congrArg some (by kernel_rfl))
 f285:=Tryz.func166.trans (congrArg some (by kernel_rfl))
 f286:=Tryz.func167.trans (congrArg some (by kernel_rfl))
 f317:=Tryz.func196.trans (congrArg some (by kernel_rfl))
 f318:=Tryz.func198.trans (congrArg some (by kernel_rfl))
 f319:=Tryz.func199.trans (congrArg some (by kernel_rfl))
 f320:=Tryz.func200.trans (congrArg some (by kernel_rfl))
 f337:=Tryz.func220.trans (congrArg some (by kernel_rfl))
 f338:=Tryz.func221.trans (congrArg some (by kernel_rfl))
 t0:=Tryz.underlying0
 a0:=Tryz.isAgg0
 z0:=Tryz.sizeOf0
 v0:=Tryz.zeroValue0
 t2:=Tryz.underlying2
 a2:=Tryz.isAgg2
 z2:=Tryz.sizeOf2
 v2:=Tryz.zeroValue2
 t3:=Tryz.underlying3
 a3:=Tryz.isAgg3
 z3:=Tryz.sizeOf3
 v3:=Tryz.zeroValue3
 t4:=Tryz.underlying4
 a4:=Tryz.isAgg4
 z4:=Tryz.sizeOf4
 v4:=Tryz.zeroValue4
 t5:=Tryz.underlying5
 a5:=Tryz.isAgg5
 z5:=Tryz.sizeOf5
 v5:=Tryz.zeroValue5
 t9:=Tryz.underlying9
 a9:=Tryz.isAgg9
 z9:=Tryz.sizeOf9
 v9:=Tryz.zeroValue9
 t20:=Tryz.underlying20
 a20:=Tryz.isAgg20
 z20:=Tryz.sizeOf20
 v20:=Tryz.zeroValue20
 t37:=Tryz.underlying23
 a37:=Tryz.isAgg23
 z37:=Tryz.sizeOf23
 v37:=Tryz.zeroValue23
 t46:=Tryz.underlying208
 a46:=Tryz.isAgg208
 z46:=Tryz.sizeOf208
 v46:=Tryz.zeroValue208
 t51:=Tryz.underlying223
 a51:=Tryz.isAgg223
 z51:=Tryz.sizeOf223
 v51:=Tryz.zeroValue223
 t53:=Tryz.underlying200
 a53:=Tryz.isAgg200
 z53:=Tryz.sizeOf200
 v53:=Tryz.zeroValue200
 t171:=Tryz.underlying199
 a171:=Tryz.isAgg199
 z171:=Tryz.sizeOf199
 v171:=Tryz.zeroValue199
 t173:=Tryz.underlying203
 a173:=Tryz.isAgg203
 z173:=Tryz.sizeOf203
 v173:=Tryz.zeroValue203
 t212:=Tryz.underlying242
 a212:=Tryz.isAgg242
 z212:=Tryz.sizeOf242
 v212:=Tryz.zeroValue242
 t213:=Tryz.underlying243
 a213:=Tryz.isAgg243
 z213:=Tryz.sizeOf243
 t232:=Tryz.underlying290
 a232:=Tryz.isAgg290
 z232:=Tryz.sizeOf290
 v232:=Tryz.zeroValue290
 t233:=Tryz.underlying291
 a233:=Tryz.isAgg291
 z233:=Tryz.sizeOf291
 v233:=Tryz.zeroValue291
 g17:=by kernel_rfl
 g18:=by kernel_rfl
 g19:=by kernel_rfl
 i0:=by kernel_rfl
 i2:=by kernel_rfl
 i3:=by kernel_rfl
 i4:=by kernel_rfl
 i5:=by kernel_rfl
 i9:=by kernel_rfl
 i20:=by kernel_rfl
 i37:=by kernel_rfl
 i46:=by kernel_rfl
 i51:=by kernel_rfl
 i53:=by kernel_rfl
 i171:=by kernel_rfl
 i173:=by kernel_rfl
 i212:=by kernel_rfl
 i232:=by kernel_rfl
 i233:=by kernel_rfl
 m17:=by kernel_rfl
 m18:=by kernel_rfl
 m19:=by kernel_rfl }
open Go.RowKit Go.Sort Go.Lib in
theorem Tryz.strconv_FormatInt_10 (n : Int) (h0 : -9223372036854775808≤n) (h1 : n≤9223372036854775807) (w : World) (htab : Lib.TabIs Tryz.prog w "internal/strconv.uint64pow10" .u64 Lib.pow10Tab) :
  Calls Tryz.prog 120 #[.int .i64 n,.int .i64 10] w fun e w'=>e = .returned (.string ⟨(Lib.itoa n).toArray⟩)∧∃ k os,w' = grow (w.drewN k) os:=Any.strconv_FormatInt_10 Tryz.laysM173 n h0 h1 w htab
def Tryz.laysC174_ren : Go.Shelf.Ren:=⟨fun | 174=>119 | 247=>151 | 245=>144 | 287=>185 | 279=>173 | 280=>174 | 281=>175 | 282=>176 | 321=>210 | 322=>211 | 316=>203 | 171=>65 | 205=>204 | 243=>101 | 246=>140 | 283=>164 | 284=>165 | 285=>166 | 286=>167 | 129=>197 | 317=>196 | 318=>198 | 319=>199 | 320=>200 | 337=>220 | 338=>221 | n=>n,fun | 9=>9 | 3=>3 | 2=>2 | 75=>149 | 85=>165 | 4=>4 | 167=>209 | 5=>5 | 53=>200 | 175=>229 | 46=>208 | 168=>210 | 37=>23 | 0=>0 | 210=>249 | 21=>21 | 127=>184 | 145=>277 | 143=>275 | 171=>199 | 173=>203 | 212=>242 | 51=>223 | 20=>20 | 213=>243 | 232=>290 | 233=>291 | 80=>154 | n=>n,fun | 15=>4 | 16=>5 | 17=>3 | 18=>8 | 19=>9 | n=>n⟩
theorem Tryz.laysC174 : Go.Proofs.LaysC.n174 Tryz.prog Tryz.laysC174_ren:={
 mixed:=by kernel_rfl
 f129:=Tryz.func197.trans (congrArg some (by kernel_rfl))
 f171:=Tryz.func65.trans (congrArg some (by kernel_rfl))
 f174:=Tryz.func119.trans (congrArg some (by kernel_rfl))
 f205:=Tryz.func204.trans (congrArg some (by kernel_rfl))
 f243:=Tryz.func101.trans (congrArg some (by kernel_rfl))
 f245:=Tryz.func144.trans (congrArg some (by kernel_rfl))
 f246:=Tryz.func140.trans (congrArg some (by kernel_rfl))
 f247:=Tryz.func151.trans (congrArg some (by kernel_rfl))
 f279:=Tryz.func173.trans (congrArg some (by kernel_rfl))
 f280:=Tryz.func174.trans (congrArg some (by kernel_rfl))
 f281:=Tryz.func175.trans (congrArg some (by kernel_rfl))
 f282:=Tryz.func176.trans (congrArg some (by kernel_rfl))
 f283:=Tryz.func164.trans (congrArg some (by kernel_rfl))
 f284:=Tryz.func165.trans (congrArg some (by kernel_rfl))
 f285:=Tryz.func166.trans (congrArg some (by kernel_rfl))
 f286:=Tryz.func167.trans (congrArg some (by kernel_rfl))
 f287:=Tryz.func185.trans (congrArg some (by kernel_rfl))
 f316:=Tryz.func203.trans (congrArg some (by kernel_rfl))
 f317:=Tryz.func196.trans (congrArg some (by kernel_rfl))
 f318:=Tryz.func198.trans (congrArg some (by kernel_rfl))
 f319:=Tryz.func199.trans (congrArg some (by kernel_rfl))
 f320:=Tryz.func200.trans (congrArg some (by kernel_rfl))
 f321:=Tryz.func210.trans (congrArg some (by kernel_rfl))
 f322:=Tryz.func211.trans (congrArg some (by kernel_rfl))
 f337:=Tryz.func220.trans (congrArg some (by kernel_rfl))
 f338:=Tryz.func221.trans (congrArg some (by kernel_rfl))
 t0:=Tryz.underlying0
 a0:=Tryz.isAgg0
 z0:=Tryz.sizeOf0
 v0:=Tryz.zeroValue0
 t2:=Tryz.underlying2
 a2:=Tryz.isAgg2
 z2:=Tryz.sizeOf2
 v2:=Tryz.zeroValue2
 t3:=Tryz.underlying3
 a3:=Tryz.isAgg3
 z3:=Tryz.sizeOf3
 v3:=Tryz.zeroValue3
 t4:=Tryz.underlying4
 a4:=Tryz.isAgg4
 z4:=Tryz.sizeOf4
 v4:=Tryz.zeroValue4
 t5:=Tryz.underlying5
 a5:=Tryz.isAgg5
 z5:=Tryz.sizeOf5
 v5:=Tryz.zeroValue5
 t9:=Tryz.underlying9
 a9:=Tryz.isAgg9
 z9:=Tryz.sizeOf9
 v9:=Tryz.zeroValue9
 t20:=Tryz.underlying20
 a20:=Tryz.isAgg20
 z20:=Tryz.sizeOf20
 v20:=Tryz.zeroValue20
 t21:=Tryz.underlying21
 a21:=Tryz.isAgg21
 z21:=Tryz.sizeOf21
 v21:=Tryz.zeroValue21
 t37:=Tryz.underlying23
 a37:=Tryz.isAgg23
 z37:=Tryz.sizeOf23
 v37:=Tryz.zeroValue23
 t46:=Tryz.underlying208
 a46:=Tryz.isAgg208
 z46:=Tryz.sizeOf208
 v46:=Tryz.zeroValue208
 t51:=Tryz.underlying223
 a51:=Tryz.isAgg223
 z51:=Tryz.sizeOf223
 v51:=Tryz.zeroValue223
 t53:=Tryz.underlying200
 a53:=Tryz.isAgg200
 z53:=Tryz.sizeOf200
 v53:=Tryz.zeroValue200
 t75:=Tryz.underlying149
 a75:=Tryz.isAgg149
 z75:=Tryz.sizeOf149
 v75:=Tryz.zeroValue149
 t85:=Tryz.underlying165
 a85:=Tryz.isAgg165
 z85:=Tryz.sizeOf165
 v85:=Tryz.zeroValue165
 t127:=Tryz.underlying184
 a127:=Tryz.isAgg184
 z127:=Tryz.sizeOf184
 v127:=Tryz.zeroValue184
 t143:=Tryz.underlying275
 a143:=Tryz.isAgg275
 z143:=Tryz.sizeOf275
 v143:=Tryz.zeroValue275
 t145:=Tryz.underlying277
 a145:=Tryz.isAgg277
 z145:=Tryz.sizeOf277
 v145:=Tryz.zeroValue277
 t167:=Tryz.underlying209
 a167:=Tryz.isAgg209
 z167:=Tryz.sizeOf209
 v167:=Tryz.zeroValue209
 t168:=Tryz.underlying210
 a168:=Tryz.isAgg210
 z168:=Tryz.sizeOf210
 v168:=Tryz.zeroValue210
 t171:=Tryz.underlying199
 a171:=Tryz.isAgg199
 z171:=Tryz.sizeOf199
 v171:=Tryz.zeroValue199
 t173:=Tryz.underlying203
 a173:=Tryz.isAgg203
 z173:=Tryz.sizeOf203
 v173:=Tryz.zeroValue203
 t175:=Tryz.underlying229
 a175:=Tryz.isAgg229
 z175:=Tryz.sizeOf229
 v175:=Tryz.zeroValue229
 t210:=Tryz.underlying249
 a210:=Tryz.isAgg249
 z210:=Tryz.sizeOf249
 v210:=Tryz.zeroValue249
 t212:=Tryz.underlying242
 a212:=Tryz.isAgg242
 z212:=Tryz.sizeOf242
 v212:=Tryz.zeroValue242
 t213:=Tryz.underlying243
 a213:=Tryz.isAgg243
 z213:=Tryz.sizeOf243
 t232:=Tryz.underlying290
 a232:=Tryz.isAgg290
 z232:=Tryz.sizeOf290
 v232:=Tryz.zeroValue290
 t233:=Tryz.underlying291
 a233:=Tryz.isAgg291
 z233:=Tryz.sizeOf291
 v233:=Tryz.zeroValue291
 g15:=by kernel_rfl
 g16:=by kernel_rfl
 g17:=by kernel_rfl
 g18:=by kernel_rfl
 g19:=by kernel_rfl
 t80:=Tryz.underlying154
 a80:=Tryz.isAgg154
 z80:=Tryz.sizeOf154
 v80:=Tryz.zeroValue154
 i0:=by kernel_rfl
 i2:=by kernel_rfl
 i3:=by kernel_rfl
 i4:=by kernel_rfl
 i5:=by kernel_rfl
 i9:=by kernel_rfl
 i20:=by kernel_rfl
 i21:=by kernel_rfl
 i37:=by kernel_rfl
 i46:=by kernel_rfl
 i51:=by kernel_rfl
 i53:=by kernel_rfl
 i75:=by kernel_rfl
 i80:=by kernel_rfl
 i85:=by kernel_rfl
 i127:=by kernel_rfl
 i143:=by kernel_rfl
 i145:=by kernel_rfl
 i167:=by kernel_rfl
 i168:=by kernel_rfl
 i171:=by kernel_rfl
 i173:=by kernel_rfl
 i175:=by kernel_rfl
 i210:=by kernel_rfl
 i212:=by kernel_rfl
 i232:=by kernel_rfl
 i233:=by kernel_rfl
 m15:=by kernel_rfl
 m16:=by kernel_rfl
 m17:=by kernel_rfl
 m18:=by kernel_rfl
 m19:=by kernel_rfl
 c0:=by kernel_rfl
 c2:=by kernel_rfl
 c3:=by kernel_rfl
 c4:=by kernel_rfl
 c5:=by kernel_rfl
 c9:=by kernel_rfl
 c20:=by kernel_rfl
 c21:=by kernel_rfl
 c37:=by kernel_rfl
 c46:=by kernel_rfl
 c51:=by kernel_rfl
 c53:=by kernel_rfl
 c75:=by kernel_rfl
 c80:=by kernel_rfl
 c85:=by kernel_rfl
 c127:=by kernel_rfl
 c143:=by kernel_rfl
 c145:=by kernel_rfl
 c167:=by kernel_rfl
 c168:=by kernel_rfl
 c171:=by kernel_rfl
 c173:=by kernel_rfl
 c175:=by kernel_rfl
 c210:=by kernel_rfl
 c212:=by kernel_rfl
 c213:=by kernel_rfl
 c232:=by kernel_rfl
 c233:=by kernel_rfl }
open Go.RowKit in
theorem Tryz.strconv_ParseInt_10_at64_ok (s : ByteArray) (hmax : s.size≤9223372036854775806) (v : Int) (h : Lib.parseIntB 64 s.data.toList = .ok v) (w : World) :
  Calls Tryz.prog 119 #[.string s,.int .i64 10,.int .i64 64] w fun e w'=>e = .returned (.tuple #[.int .i64 v,.nilIface])∧(w' = w ∨ ∃ t,w' = Lib.bytesWorld w 5 t):=Any.strconv_ParseInt_10_at64_ok Tryz.laysC174 s hmax v h w
open Go.RowKit in
theorem Tryz.strconv_ParseInt_10_at64_range (s : ByteArray) (hlim : s.size≤281474976710656) (h : Lib.parseIntB 64 s.data.toList = .range) (ev : Value) (w : World) (hv : w.cell? ⟨5,0,none⟩ = some ev) (hev : ev = .nilIface ∨ ∃ te pe,ev = .iface te pe) :
  Calls Tryz.prog 119 #[.string s,.int .i64 10,.int .i64 64] w fun e w'=>∃ N,e = .returned (.tuple #[.int .i64 (Lib.intSat 64 s.data.toList),.iface 210 (.pointer (some ⟨N,0,none⟩))])∧w.heap.size≤N∧w'.heap[N]? = some (.cells #[.string ⟨#[80,97,114,115,101,73,110,116]⟩,.string s,ev] 249 (0,0))∧Below w.heap.size w w':=Any.strconv_ParseInt_10_at64_range Tryz.laysC174 s hlim h ev w hv hev
def Tryz.lays145_ren : Go.Shelf.Ren:=⟨fun | 145=>67 | 220=>107 | 219=>142 | 217=>169 | 225=>170 | 224=>171 | 267=>172 | 266=>201 | 314=>202 | n=>n,fun | 9=>9 | 4=>4 | 59=>105 | 3=>3 | 5=>5 | 46=>208 | 146=>245 | 51=>223 | n=>n,fun | 1=>1 | n=>n⟩
theorem Tryz.lays145 : Go.Proofs.Lays.n145 Tryz.prog Tryz.lays145_ren:={
 mixed:=by kernel_rfl
 f145:=Tryz.func67.trans (congrArg some (by kernel_rfl))
 f217:=Tryz.func169.trans (congrArg some (by kernel_rfl))
 f219:=Tryz.func142.trans (congrArg some (by kernel_rfl))
 f220:=Tryz.func107.trans (congrArg some (by kernel_rfl))
 f224:=Tryz.func171.trans (congrArg some (by kernel_rfl))
 f225:=Tryz.func170.trans (congrArg some (by kernel_rfl))
 f266:=Tryz.func201.trans (congrArg some (by kernel_rfl))
 f267:=Tryz.func172.trans (congrArg some (by kernel_rfl))
 f314:=Tryz.func202.trans (congrArg some (by kernel_rfl))
 t3:=Tryz.underlying3
 a3:=Tryz.isAgg3
 z3:=Tryz.sizeOf3
 v3:=Tryz.zeroValue3
 t4:=Tryz.underlying4
 a4:=Tryz.isAgg4
 z4:=Tryz.sizeOf4
 v4:=Tryz.zeroValue4
 t5:=Tryz.underlying5
 a5:=Tryz.isAgg5
 z5:=Tryz.sizeOf5
 v5:=Tryz.zeroValue5
 t9:=Tryz.underlying9
 a9:=Tryz.isAgg9
 z9:=Tryz.sizeOf9
 v9:=Tryz.zeroValue9
 t46:=Tryz.underlying208
 a46:=Tryz.isAgg208
 z46:=Tryz.sizeOf208
 v46:=Tryz.zeroValue208
 t51:=Tryz.underlying223
 a51:=Tryz.isAgg223
 z51:=Tryz.sizeOf223
 v51:=Tryz.zeroValue223
 t59:=Tryz.underlying105
 a59:=Tryz.isAgg105
 z59:=Tryz.sizeOf105
 v59:=Tryz.zeroValue105
 t146:=Tryz.underlying245
 a146:=Tryz.isAgg245
 z146:=Tryz.sizeOf245
 v146:=Tryz.zeroValue245
 g1:=by kernel_rfl }
open Go.RowKit Go.Lib in
theorem Tryz.strings_Cut (s sep : ByteArray) (m : Int) (w : World) (hs : s.size < 4294967281) (hm : w.cell? ⟨1,0,none⟩ = some (.int .i64 m)) :
  Calls Tryz.prog 67 #[.string s,.string sep] w fun e w'=>e = .returned (.tuple #[.string ⟨(Lib.cut s.data.toList sep.data.toList).1.toArray⟩,.string ⟨(Lib.cut s.data.toList sep.data.toList).2.1.toArray⟩,.bool (Lib.cut s.data.toList sep.data.toList).2.2])∧∃ n,w' = w.drewN n:=Any.strings_Cut Tryz.lays145 s sep m w hs hm
def Tryz.lays146_ren : Go.Shelf.Ren:=⟨fun | 146=>109 | 221=>118 | 268=>148 | 138=>149 | 143=>150 | 195=>182 | 197=>183 | 218=>184 | 219=>142 | 260=>209 | 217=>169 | 225=>170 | 224=>171 | 267=>172 | 266=>201 | 314=>202 | n=>n,fun | 9=>9 | 31=>101 | 3=>3 | 4=>4 | 0=>0 | 105=>227 | 21=>21 | 5=>5 | 46=>208 | 119=>187 | 139=>282 | 138=>281 | 146=>245 | 51=>223 | n=>n,fun | 1=>1 | 3=>6 | 4=>7 | n=>n⟩
theorem Tryz.lays146 : Go.Proofs.Lays.n146 Tryz.prog Tryz.lays146_ren:={
 mixed:=by kernel_rfl
 f138:=Tryz.func149.trans (congrArg some (by kernel_rfl))
 f143:=Tryz.func150.trans (congrArg some (by kernel_rfl))
 f146:=Tryz.func109.trans (congrArg some (by kernel_rfl))
 f195:=Tryz.func182.trans (congrArg some (by kernel_rfl))
 f197:=Tryz.func183.trans (congrArg some (by kernel_rfl))
 f217:=Tryz.func169.trans (congrArg some (by kernel_rfl))
 f218:=Tryz.func184.trans (congrArg some (by kernel_rfl))
 f219:=Tryz.func142.trans (congrArg some (by kernel_rfl))
 f221:=Tryz.func118.trans (congrArg some (by kernel_rfl))
 f224:=Tryz.func171.trans (congrArg some (by kernel_rfl))
 f225:=Tryz.func170.trans (congrArg some (by kernel_rfl))
 f260:=Tryz.func209.trans (congrArg some (by kernel_rfl))
 f266:=Tryz.func201.trans (congrArg some (by kernel_rfl))
 f267:=Tryz.func172.trans (congrArg some (by kernel_rfl))
 f268:=Tryz.func148.trans (congrArg some (by kernel_rfl))
 f314:=Tryz.func202.trans (congrArg some (by kernel_rfl))
 t0:=Tryz.underlying0
 a0:=Tryz.isAgg0
 z0:=Tryz.sizeOf0
 v0:=Tryz.zeroValue0
 t3:=Tryz.underlying3
 a3:=Tryz.isAgg3
 z3:=Tryz.sizeOf3
 v3:=Tryz.zeroValue3
 t4:=Tryz.underlying4
 a4:=Tryz.isAgg4
 z4:=Tryz.sizeOf4
 v4:=Tryz.zeroValue4
 t5:=Tryz.underlying5
 a5:=Tryz.isAgg5
 z5:=Tryz.sizeOf5
 v5:=Tryz.zeroValue5
 t9:=Tryz.underlying9
 a9:=Tryz.isAgg9
 z9:=Tryz.sizeOf9
 v9:=Tryz.zeroValue9
 t21:=Tryz.underlying21
 a21:=Tryz.isAgg21
 z21:=Tryz.sizeOf21
 v21:=Tryz.zeroValue21
 t31:=Tryz.underlying101
 a31:=Tryz.isAgg101
 z31:=Tryz.sizeOf101
 v31:=Tryz.zeroValue101
 t46:=Tryz.underlying208
 a46:=Tryz.isAgg208
 z46:=Tryz.sizeOf208
 v46:=Tryz.zeroValue208
 t51:=Tryz.underlying223
 a51:=Tryz.isAgg223
 z51:=Tryz.sizeOf223
 v51:=Tryz.zeroValue223
 t105:=Tryz.underlying227
 a105:=Tryz.isAgg227
 z105:=Tryz.sizeOf227
 v105:=Tryz.zeroValue227
 t119:=Tryz.underlying187
 a119:=Tryz.isAgg187
 z119:=Tryz.sizeOf187
 t138:=Tryz.underlying281
 a138:=Tryz.isAgg281
 z138:=Tryz.sizeOf281
 v138:=Tryz.zeroValue281
 t139:=Tryz.underlying282
 a139:=Tryz.isAgg282
 z139:=Tryz.sizeOf282
 v139:=Tryz.zeroValue282
 t146:=Tryz.underlying245
 a146:=Tryz.isAgg245
 z146:=Tryz.sizeOf245
 v146:=Tryz.zeroValue245
 g1:=by kernel_rfl
 g3:=by kernel_rfl
 g4:=by kernel_rfl }
open Go.RowKit Go.Lib in
theorem Tryz.strings_Split (s sep : ByteArray) (m : Int) (w : World) (hs : s.size < 4294967281) (hm : w.cell? ⟨1,0,none⟩ = some (.int .i64 m)) (h1 : 1≤sep.size) :
  Calls Tryz.prog 109 #[.string s,.string sep] w fun e w' =>
   e = .returned (.slice (some ⟨w.heap.size,0,none⟩) (Lib.countB s sep + 1) (Lib.countB s sep + 1))∧w' = w.alloc (.cells ((Lib.splitB sep 0 (Lib.countB s sep) s).map Value.string).toArray 9):=Any.strings_Split Tryz.lays146 (by kernel_rfl) s sep m w hs hm h1
end Go.Proofs
namespace Go.Proofs.YthkgjohhbdipcaaGreatDoor
def wholeS (l : List UInt8) : Int × Bool:=match Lib.parseIntB 64 l with
 | .ok v=>(v,Lib.itoa v == l)
 | .range=>(Lib.intSat 64 l,false)
 | _=>(0,false)
theorem parse_in {l : List UInt8} {v : Int} (h : Lib.parseIntB 64 l = .ok v) : -9223372036854775808≤v∧v≤9223372036854775807:=by
 unfold Lib.parseIntB at h
 split at h
 ·cases h
 ·rename_i c r
  dsimp only at h
  split at h
  ·cases h
  ·cases h
  ·rename_i u _
   split at h
   ·cases h
   ·rename_i h1
    split at h
    ·cases h
    ·rename_i h2
     injection h with h
     subst h
     simp only [Nat.reducePow,Nat.reduceSub] at h1 h2
     split <;> rename_i hn <;> simp [hn] at h1 h2 <;> omega
def valOf (acc : Nat) (l : List UInt8) : Nat:=l.foldl (fun a c=>a * 10 + (c.toNat - 48)) acc
theorem valOf_ge : ∀ (l : List UInt8) (acc : Nat),acc≤valOf acc l
 | [],_=>Nat.le_refl _
 | c :: r,acc=>by
  have:=valOf_ge r (acc * 10 + (c.toNat - 48))
  show acc≤valOf (acc * 10 + (c.toNat - 48)) r
  omega
theorem parse_val : ∀ (l : List UInt8) (acc : Nat),(∀ c ∈ l,48≤c.toNat∧c.toNat≤57) → valOf acc l≤65535 → Lib.parseUintM (2 ^ 64 - 1) acc l = .ok (valOf acc l)
 | [],_,_,_=>rfl
 | c :: r,acc,hd,hv=>by
  have hc:=hd c (List.mem_cons_self ..)
  have h1 : acc * 10 + (c.toNat - 48)≤65535:=Nat.le_trans (valOf_ge r _) hv
  unfold Lib.parseUintM
  rw [if_pos hc,if_neg (by omega),if_neg (by omega)]
  exact parse_val r _ (fun x hx=>hd x (List.mem_cons_of_mem _ hx)) hv
theorem digit_byte {d : Nat} (h : d < 10) : (UInt8.ofNat (48 + d)).toNat = 48 + d:=by
 rw [UInt8.toNat_ofNat'];omega
theorem dec_digits : ∀ (n u : Nat),u≤n → (∀ c ∈ Lib.decDigits u,48≤c.toNat∧c.toNat≤57)∧valOf 0 (Lib.decDigits u) = u∧Lib.decDigits u ≠ []
 | 0,u,h=>by
  obtain rfl : u = 0:=by omega
  rw [Lib.decDigits_one (by omega)]
  refine ⟨fun c hc=>?_,by simp [valOf],by simp⟩
  simp only [List.mem_singleton] at hc
  subst hc
  rw [digit_byte (by omega)];omega
 | n + 1,u,h=>by
  by_cases hu : u < 10
  ·rw [Lib.decDigits_one hu]
   refine ⟨fun c hc=>?_,?_,by simp⟩
   ·simp only [List.mem_singleton] at hc
    subst hc
    rw [digit_byte hu];omega
   ·simp only [valOf,List.foldl_cons,List.foldl_nil]
    rw [digit_byte hu];omega
  ·obtain ⟨h1,h2,h3⟩:=dec_digits n (u / 10) (by omega)
   rw [Lib.decDigits,dif_neg hu]
   refine ⟨fun c hc=>?_,?_,by simp⟩
   ·rcases List.mem_append.1 hc with hc | hc
    ·exact h1 c hc
    ·simp only [List.mem_singleton] at hc
     subst hc
     rw [digit_byte (by omega)];omega
   ·unfold valOf at h2 ⊢
    rw [List.foldl_append,h2]
    simp only [List.foldl_cons,List.foldl_nil]
    rw [digit_byte (by omega)];omega
theorem itoa_digits {v : Int} (h0 : 0≤v) : (∀ c ∈ Lib.itoa v,48≤c.toNat∧c.toNat≤57)∧Lib.itoa v ≠ []:=by
 unfold Lib.itoa
 rw [if_neg (by omega)]
 have:=dec_digits v.toNat v.toNat (Nat.le_refl _)
 exact ⟨this.1,this.2.2⟩
theorem parse_itoa {v : Int} (h0 : 0≤v) (h1 : v≤65535) : Lib.parseIntB 64 (Lib.itoa v) = .ok v:=by
 obtain ⟨n,rfl⟩:=Int.eq_ofNat_of_zero_le h0
 rw [Lib.itoa_nonneg]
 obtain ⟨hd,hv,hne⟩:=dec_digits n n (Nat.le_refl _)
 have hp:=parse_val (Lib.decDigits n) 0 hd (by rw [hv];omega)
 rw [hv] at hp
 cases hl : Lib.decDigits n with
 | nil=>exact absurd hl hne
 | cons c r =>
  rw [hl] at hd hp
  have hc:=hd c (List.mem_cons_self ..)
  have hs : ¬ (c.toNat = 43 ∨ c.toNat = 45):=by omega
  have hn : ¬ c.toNat = 45:=by omega
  unfold Lib.parseIntB
  dsimp only
  rw [if_neg hs]
  have hu : Lib.parseUintB 64 (c :: r) = .ok n:=by
   unfold Lib.parseUintB
   rw [if_neg (by simp)]
   exact hp
  rw [hu]
  simp only [hn,not_false_eq_true,true_and,false_and,if_false]
  rw [if_neg (by simp only [Nat.reducePow,Nat.reduceSub];omega)]
theorem whole_itoa {v : Int} (h0 : 0≤v) (h1 : v≤65535) : wholeS (Lib.itoa v) = (v,true):=by
 unfold wholeS
 rw [parse_itoa h0 h1]
 simp
theorem whole_some {l : List UInt8} (h : (wholeS l).2 = true) : l = Lib.itoa (wholeS l).1:=by
 unfold wholeS at h ⊢
 split at h
 ·exact (beq_iff_eq.1 h).symm
 ·cases h
 ·cases h
end Go.Proofs.YthkgjohhbdipcaaGreatDoor
namespace Go.Proofs.YthkgjohhbdipcaaGreatDoor
open Go.RowKit Go.Shelf
attribute [local go_sem] gives givesUpon
structure Laid (w : World) : Prop where
 ml : ∃ m : Int,w.cell? ⟨1,0,none⟩ = some (.int .i64 m)
 pow : Lib.TabIs Tryz.prog w "internal/strconv.uint64pow10" .u64 Lib.pow10Tab
 syn : ∃ te pe,w.cell? ⟨4,0,none⟩ = some (.iface te pe)
 rng : ∃ te pe,w.cell? ⟨5,0,none⟩ = some (.iface te pe)
theorem Laid.below {w w' : World} (h : Laid w) (hb : Below w.heap.size w w') : Laid w':=by
 obtain ⟨⟨m,h1⟩,h2,⟨te,pe,h3⟩,⟨te',pe',h4⟩⟩:=h
 have st : ∀ (p : Addr) v,w.cell? p = some v → w'.cell? p = some v:=fun p v hv=>(hb.cell (World.block_lt_of_cell? _ _ hv)).trans hv
 exact ⟨⟨m,st _ _ h1⟩,Go.Joins.tab_stays (g:=3) (by kernel_rfl) h2 hb (Nat.le_refl _),⟨te,pe,st _ _ h3⟩,⟨te',pe',st _ _ h4⟩⟩
theorem below_world {w w' : World} {k : Nat} {os : Array Obj} (h : w' = Go.Sort.grow (w.drewN k) os) : Below w.heap.size w w':=by
 subst h
 exact ⟨rfl,rfl,rfl,by simp [Go.Sort.grow],fun i hi=>by
  show ((w.drewN k).heap ++ os)[i]? = _
  rw [Array.getElem?_append_left (by show i < w.heap.size;omega)]
  rfl⟩
theorem parse_bad (s : ByteArray) (hlim : s.size≤281474976710656) (h : ∀ v,Lib.parseIntB 64 s.data.toList ≠ .ok v) (h' : Lib.parseIntB 64 s.data.toList ≠ .range) (ev : Value) (w : World) (hv : w.cell? ⟨4,0,none⟩ = some ev) (hev : ev = .nilIface ∨ ∃ te pe,ev = .iface te pe) :
  Calls Tryz.prog 119 #[.string s,.int .i64 10,.int .i64 64] w fun e w'=>∃ t p,e = .returned (.tuple #[.int .i64 0,.iface t p])∧Below w.heap.size w w':=by
 cases hp : Lib.parseIntB 64 s.data.toList
 ·exact absurd hp (h _)
 ·have c : Calls Tryz.prog 119 #[.string s,.int .i64 10,.int .i64 64] w _:=Any.strconv_ParseInt_10_at64_syntax Tryz.laysC174 s hlim hp ev w hv hev
  exact c.mono fun e w' ⟨N,h1,_,_,h4⟩=>⟨_,_,h1,h4⟩
 ·exact absurd hp h'
set_option maxHeartbeats 1000000 in
theorem whole_any (s : ByteArray) (w : World) (hL : Laid w) (hs : s.size≤281474976710656) :
  Calls Tryz.prog 78 #[.string s] w fun e w'=>e = .returned (.tuple #[.int .i64 (wholeS s.data.toList).1,.bool (wholeS s.data.toList).2])∧Below w.heap.size w w':=by
 have HL:=Lib.hid hL
 clear hL
 cases hp : Lib.parseIntB 64 s.data.toList
 ·rename_i v
  have he : wholeS s.data.toList = (v,Lib.itoa v == s.data.toList):=by unfold wholeS;rw [hp]
  rw [he]
  have Hp:=Lib.hid hp
  obtain ⟨h0,h1⟩:=parse_in hp
  clear hp he
  go_enter Tryz.func78,Tryz.ntmps78
  go_wp2_with fail
  refine (Tryz.strconv_ParseInt_10_at64_ok s (by omega) v Hp.out _).mono ?_
  rintro e w1 ⟨rfl,hw1⟩
  have hb1 : Below w.heap.size w w1:=by
   rcases hw1 with rfl | ⟨t,rfl⟩
   ·exact Below.refl _ _
   ·exact Go.Joins.below_bytesWorld _ _ _ _ (Nat.le_refl _)
  clear hw1
  go_wp2_with fail
  refine (Tryz.strconv_FormatInt_10 v h0 h1 w1 (HL.out.below hb1).pow).mono ?_
  rintro e w2 ⟨rfl,k,os,hw2⟩
  have hb2:=below_world hw2
  clear hw2
  go_wp2
  go_ret2
  exact ⟨by rw [← ByteArray.toList_eq];rfl,bel_call hb1 hb2⟩
 ·have he : wholeS s.data.toList = (0,false):=by unfold wholeS;rw [hp]
  rw [he]
  have h1 : Hid (∀ v,Lib.parseIntB 64 s.data.toList ≠ .ok v):=fun v=>by rw [hp];intro e;cases e
  have h2 : Hid (Lib.parseIntB 64 s.data.toList ≠ .range):=by show _ ≠ _;rw [hp];intro e;cases e
  clear hp he
  obtain ⟨te,pe,hv⟩:=HL.out.syn
  have Hv:=Lib.hid hv
  clear hv
  go_enter Tryz.func78,Tryz.ntmps78
  go_wp2_with fail
  refine (parse_bad s hs h1.out h2.out _ _ Hv.out (.inr ⟨te,pe,rfl⟩)).mono ?_
  rintro e w1 ⟨t1,p1,rfl,hb1⟩
  go_wp2
  go_ret2
  exact ⟨rfl,hb1⟩
 ·have he : wholeS s.data.toList = (Lib.intSat 64 s.data.toList,false):=by unfold wholeS;rw [hp]
  rw [he]
  have Hp:=Lib.hid hp
  clear hp he
  obtain ⟨te,pe,hv⟩:=HL.out.rng
  have Hv:=Lib.hid hv
  clear hv
  go_enter Tryz.func78,Tryz.ntmps78
  go_wp2_with fail
  refine (Tryz.strconv_ParseInt_10_at64_range s hs Hp.out _ _ Hv.out (.inr ⟨te,pe,rfl⟩)).mono ?_
  rintro e w1 ⟨N,rfl,_,_,hb1⟩
  go_wp2
  go_ret2
  exact ⟨rfl,hb1⟩
end Go.Proofs.YthkgjohhbdipcaaGreatDoor
namespace Go.Proofs
open Go.Shelf
def Tryz.laysM171_ren : Go.Shelf.Ren:=⟨fun | 171=>65 | 243=>101 | 246=>140 | 283=>164 | 284=>165 | 285=>166 | 286=>167 | 129=>197 | 317=>196 | 318=>198 | 319=>199 | 320=>200 | 337=>220 | 338=>221 | n=>n,fun | 3=>3 | 9=>9 | 2=>2 | 4=>4 | 171=>199 | 0=>0 | 53=>200 | 37=>23 | 5=>5 | 173=>203 | 212=>242 | 51=>223 | 20=>20 | 213=>243 | 46=>208 | 232=>290 | 233=>291 | n=>n,fun | 17=>3 | 18=>8 | 19=>9 | n=>n⟩
theorem Tryz.laysM171 : Go.Proofs.LaysM.n171 Tryz.prog Tryz.laysM171_ren:={
 mixed:=by kernel_rfl
 f129:=Tryz.func197.trans (congrArg some (by kernel_rfl))
 f171:=Tryz.func65.trans (congrArg some (by kernel_rfl))
 f243:=Tryz.func101.trans (congrArg some (by kernel_rfl))
 f246:=Tryz.func140.trans (congrArg some (by kernel_rfl))
 f283:=Tryz.func164.trans (congrArg some (by kernel_rfl))
 f284:=Tryz.func165.trans (congrArg some (by kernel_rfl))
 f285:=Tryz.func166.trans (congrArg some (by kernel_rfl))
 f286:=Tryz.func167.trans (congrArg some (by kernel_rfl))
 f317:=Tryz.func196.trans (congrArg some (by kernel_rfl))
 f318:=Tryz.func198.trans (congrArg some (by kernel_rfl))
 f319:=Tryz.func199.trans (congrArg some (by kernel_rfl))
 f320:=Tryz.func200.trans (congrArg some (by kernel_rfl))
 f337:=Tryz.func220.trans (congrArg some (by kernel_rfl))
 f338:=Tryz.func221.trans (congrArg some (by kernel_rfl))
 t0:=Tryz.underlying0
 a0:=Tryz.isAgg0
 z0:=Tryz.sizeOf0
 v0:=Tryz.zeroValue0
 t2:=Tryz.underlying2
 a2:=Tryz.isAgg2
 z2:=Tryz.sizeOf2
 v2:=Tryz.zeroValue2
 t3:=Tryz.underlying3
 a3:=Tryz.isAgg3
 z3:=Tryz.sizeOf3
 v3:=Tryz.zeroValue3
 t4:=Tryz.underlying4
 a4:=Tryz.isAgg4
 z4:=Tryz.sizeOf4
 v4:=Tryz.zeroValue4
 t5:=Tryz.underlying5
 a5:=Tryz.isAgg5
 z5:=Tryz.sizeOf5
 v5:=Tryz.zeroValue5
 t9:=Tryz.underlying9
 a9:=Tryz.isAgg9
 z9:=Tryz.sizeOf9
 v9:=Tryz.zeroValue9
 t20:=Tryz.underlying20
 a20:=Tryz.isAgg20
 z20:=Tryz.sizeOf20
 v20:=Tryz.zeroValue20
 t37:=Tryz.underlying23
 a37:=Tryz.isAgg23
 z37:=Tryz.sizeOf23
 v37:=Tryz.zeroValue23
 t46:=Tryz.underlying208
 a46:=Tryz.isAgg208
 z46:=Tryz.sizeOf208
 v46:=Tryz.zeroValue208
 t51:=Tryz.underlying223
 a51:=Tryz.isAgg223
 z51:=Tryz.sizeOf223
 v51:=Tryz.zeroValue223
 t53:=Tryz.underlying200
 a53:=Tryz.isAgg200
 z53:=Tryz.sizeOf200
 v53:=Tryz.zeroValue200
 t171:=Tryz.underlying199
 a171:=Tryz.isAgg199
 z171:=Tryz.sizeOf199
 v171:=Tryz.zeroValue199
 t173:=Tryz.underlying203
 a173:=Tryz.isAgg203
 z173:=Tryz.sizeOf203
 v173:=Tryz.zeroValue203
 t212:=Tryz.underlying242
 a212:=Tryz.isAgg242
 z212:=Tryz.sizeOf242
 v212:=Tryz.zeroValue242
 t213:=Tryz.underlying243
 a213:=Tryz.isAgg243
 z213:=Tryz.sizeOf243
 t232:=Tryz.underlying290
 a232:=Tryz.isAgg290
 z232:=Tryz.sizeOf290
 v232:=Tryz.zeroValue290
 t233:=Tryz.underlying291
 a233:=Tryz.isAgg291
 z233:=Tryz.sizeOf291
 v233:=Tryz.zeroValue291
 g17:=by kernel_rfl
 g18:=by kernel_rfl
 g19:=by kernel_rfl
 i0:=by kernel_rfl
 i2:=by kernel_rfl
 i3:=by kernel_rfl
 i4:=by kernel_rfl
 i5:=by kernel_rfl
 i9:=by kernel_rfl
 i20:=by kernel_rfl
 i37:=by kernel_rfl
 i46:=by kernel_rfl
 i51:=by kernel_rfl
 i53:=by kernel_rfl
 i171:=by kernel_rfl
 i173:=by kernel_rfl
 i212:=by kernel_rfl
 i232:=by kernel_rfl
 i233:=by kernel_rfl
 m17:=by kernel_rfl
 m18:=by kernel_rfl
 m19:=by kernel_rfl }
open Go.RowKit Go.Sort Go.Lib in
theorem Tryz.strconv_Itoa (n : Int) (h0 : -9223372036854775808≤n) (h1 : n≤9223372036854775807) (w : World) (htab : Lib.TabIs Tryz.prog w "internal/strconv.uint64pow10" .u64 Lib.pow10Tab) :
  Calls Tryz.prog 65 #[.int .i64 n] w fun e w'=>e = .returned (.string ⟨(Lib.itoa n).toArray⟩)∧∃ k os,w' = grow (w.drewN k) os:=Any.strconv_Itoa Tryz.laysM171 n h0 h1 w htab
end Go.Proofs
namespace Go.Proofs.YthkgjohhbdipcaaGreatDoor
def condE (c : TCond) : Int :=
 if c.f < 0 ∨ 5≤c.f then 5 else if c.op < 1 ∨ 4 < c.op then 4 else if c.v < 0 ∨ mostOf c.f < c.v then 3 else 0
def condsGo : List TCond → Int
 | []=>0
 | c :: r=>if condE c = 0 then condsGo r else condE c
def ruleE (r : TRule) : Int:=if 10 < r.conds.length then 2 else if r.verdict < 0 ∨ 4 < r.verdict then 3 else condsGo r.conds
def rulesGo : List TRule → Int
 | []=>0
 | x :: r=>if ruleE x = 0 then rulesGo r else ruleE x
def polE (p : TPol) : Int:=if 120 < p.rules.length then 2 else if p.dflt < 0 ∨ 4 < p.dflt then 3 else rulesGo p.rules
theorem condsGo_drop (l : List TCond) (k : Nat) (h : k < l.length) : condsGo (l.drop k) = if condE l[k] = 0 then condsGo (l.drop (k+1)) else condE l[k]:=by
 rw [List.drop_eq_getElem_cons h];rfl
theorem rulesGo_drop (l : List TRule) (k : Nat) (h : k < l.length) : rulesGo (l.drop k) = if ruleE l[k] = 0 then rulesGo (l.drop (k+1)) else ruleE l[k]:=by
 rw [List.drop_eq_getElem_cons h];rfl
structure OkCond (c : TCond) : Prop where
 f0 : 0≤c.f
 f1 : c.f < 5
 o0 : 1≤c.op
 o1 : c.op≤4
 v0 : 0≤c.v
 v1 : c.v≤mostOf c.f
structure OkRule (r : TRule) : Prop where
 len : r.conds.length≤10
 v0 : 0≤r.verdict
 v1 : r.verdict≤4
 conds : ∀ c ∈ r.conds,OkCond c
structure OkPol (p : TPol) : Prop where
 len : p.rules.length≤120
 d0 : 0≤p.dflt
 d1 : p.dflt≤4
 rules : ∀ r ∈ p.rules,OkRule r
theorem okCond_iff (c : TCond) : condE c = 0 ↔ OkCond c:=by
 unfold condE
 constructor
 ·intro h
  split at h
  ·simp at h
  ·split at h
   ·simp at h
   ·split at h
    ·simp at h
    ·constructor <;> omega
 ·rintro ⟨h1,h2,h3,h4,h5,h6⟩
  rw [if_neg (by omega),if_neg (by omega),if_neg (by omega)]
theorem okConds_iff : ∀ l : List TCond,condsGo l = 0 ↔ ∀ c ∈ l,OkCond c
 | []=>by simp [condsGo]
 | c :: r=>by
  simp only [condsGo,List.mem_cons,forall_eq_or_imp]
  rw [← okConds_iff r,← okCond_iff c]
  split
  ·rename_i h;simp [h]
  ·rename_i h;simp [h]
theorem okRule_iff (r : TRule) : ruleE r = 0 ↔ OkRule r:=by
 unfold ruleE
 constructor
 ·intro h
  split at h
  ·simp at h
  ·split at h
   ·simp at h
   ·exact ⟨by omega,by omega,by omega,(okConds_iff _).1 h⟩
 ·rintro ⟨h1,h2,h3,h4⟩
  rw [if_neg (by omega),if_neg (by omega)]
  exact (okConds_iff _).2 h4
theorem okRules_iff : ∀ l : List TRule,rulesGo l = 0 ↔ ∀ c ∈ l,OkRule c
 | []=>by simp [rulesGo]
 | c :: r=>by
  simp only [rulesGo,List.mem_cons,forall_eq_or_imp]
  rw [← okRules_iff r,← okRule_iff c]
  split
  ·rename_i h;simp [h]
  ·rename_i h;simp [h]
theorem okPol_iff (p : TPol) : polE p = 0 ↔ OkPol p:=by
 unfold polE
 constructor
 ·intro h
  split at h
  ·simp at h
  ·split at h
   ·simp at h
   ·exact ⟨by omega,by omega,by omega,(okRules_iff _).1 h⟩
 ·rintro ⟨h1,h2,h3,h4⟩
  rw [if_neg (by omega),if_neg (by omega)]
  exact (okRules_iff _).2 h4
def holdsB (c : TCond) (x : TCall) : Bool :=
 if c.op = 1 then x.get c.f == c.v else if c.op = 2 then x.get c.f != c.v else if c.op = 3 then decide (x.get c.f < c.v) else decide (c.v≤x.get c.f)
def allHold (x : TCall) (l : List TCond) : Bool:=l.all fun c=>holdsB c x
def which (x : TCall) : List TRule → Nat
 | []=>0
 | r :: l=>if allHold x r.conds then 0 else which x l + 1
def verdictAt (p : TPol) (k : Nat) : Int:=match p.rules[k]? with
 | some r=>r.verdict
 | none=>p.dflt
def judged (p : TPol) (x : TCall) : Int × Nat:=(verdictAt p (which x p.rules),which x p.rules)
def judgeE (p : TPol) (x : TCall) : Int × Int × Int:=if polE p ≠ 0 then (0,0,polE p) else if x.ok then ((judged p x).1,(judged p x).2,0) else (0,0,3)
theorem which_le (x : TCall) : ∀ l : List TRule,which x l≤l.length
 | []=>Nat.le_refl _
 | r :: l=>by
  have:=which_le x l
  unfold which
  split
  ·omega
  ·simp;exact this
theorem which_drop (x : TCall) (l : List TRule) (k : Nat) (h : k < l.length) : which x (l.drop k) = if allHold x l[k].conds then 0 else which x (l.drop (k + 1)) + 1:=by
 rw [List.drop_eq_getElem_cons h];rfl
end Go.Proofs.YthkgjohhbdipcaaGreatDoor
namespace Go.Proofs.YthkgjohhbdipcaaGreatDoor
def opOf (b : UInt8) : Int:=if b = 61 then 1 else if b = 33 then 2 else if b = 60 then 3 else if b = 62 then 4 else 0
def opAt : List UInt8 → Nat
 | []=>0
 | b :: l=>if opOf b = 0 then opAt l + 1 else 0
def verdictOf (l : List UInt8) : Option Int :=
 if l = [107,105,108,108] then some 0 else if l = [116,114,97,112] then some 1 else if l = [102,97,105,108] then some 2 else if l = [108,111,103] then some 3 else if l = [97,108,108,111,119] then some 4 else none
def fieldOf (l : List UInt8) : Option Int :=
 if l = [110,114] then some 0 else if l = [107,105,110,100] then some 1 else if l = [97] then some 2 else if l = [98] then some 3 else if l = [99] then some 4 else none
def condOf (u : List UInt8) : Option TCond :=
 if opAt u = u.length then none else
 match fieldOf (u.take (opAt u)) with
 | none=>none
 | some f=>if (wholeS (u.drop (opAt u + 1))).2 then some ⟨f,opOf (u.getD (opAt u) 0),(wholeS (u.drop (opAt u + 1))).1⟩ else none
def condsOf : List (List UInt8) → Option (List TCond)
 | []=>some []
 | u :: r=>match condOf u with
  | none=>none
  | some c=>(condsOf r).map (c :: ·)
def words (t : List UInt8) : List (List UInt8):=Lib.split t [32]
def pread : Nat → List UInt8 → Option TPol
 | 0,_=>none
 | n + 1,s=>match verdictOf ((words (Lib.cut s [59]).1).headD []) with
  | none=>none
  | some v =>
   if (Lib.cut s [59]).2.2 then
    match condsOf (words (Lib.cut s [59]).1).tail with
    | none=>none
    | some cs=>(pread n (Lib.cut s [59]).2.1).map fun p=>⟨⟨cs,v⟩ :: p.rules,p.dflt⟩
   else if 1 < (words (Lib.cut s [59]).1).length then none else some ⟨[],v⟩
def readP (s : List UInt8) : TPol × Int:=match pread (s.length + 1) s with
 | none=>(⟨[],0⟩,1)
 | some p=>if polE p = 0 then (p,0) else (⟨[],0⟩,polE p)
def writtenL : List UInt8:=[107,105,108,108,32,110,114,61,51,32,97,60,53,59,108,111,103,32,107,105,110,100,33,48,59,97,108,108,111,119]
def madeP : TPol:=⟨[⟨[⟨0,1,3⟩,⟨2,3,5⟩],0⟩,⟨[⟨1,2,0⟩],3⟩],4⟩
theorem read_made : readP writtenL = (madeP,0):=by decide +kernel
theorem opAt_spec : ∀ (u : List UInt8) (k : Nat),(∀ j,j < k → ∀ b,u[j]? = some b → opOf b = 0) → k≤u.length → (∀ b,u[k]? = some b → opOf b ≠ 0) → opAt u = k
 | [],k,_,hk,_=>by simp at hk;subst hk;rfl
 | b :: l,0,_,_,h=>by unfold opAt;rw [if_neg (h b rfl)]
 | b :: l,k + 1,h,hk,h'=>by
  unfold opAt
  rw [if_pos (h 0 (by omega) b rfl),opAt_spec l k (fun j hj c hc=>h (j + 1) (by omega) c (by simpa using hc)) (by simpa using hk) (fun c hc=>h' c (by simpa using hc))]
theorem condsOf_drop {ws : List (List UInt8)} {j : Nat} (h : j < ws.length) : condsOf (ws.drop j) = match condOf ws[j] with
  | none=>none
  | some c=>(condsOf (ws.drop (j + 1))).map (c :: ·):=by
 rw [List.drop_eq_getElem_cons h];rfl
theorem pread_step {n : Nat} {t : List UInt8} {u0 : List UInt8} {us : List (List UInt8)} (h : words (Lib.cut t [59]).1 = u0 :: us) : pread (n + 1) t = match verdictOf u0 with
  | none=>none
  | some v =>
   if (Lib.cut t [59]).2.2 then
    match condsOf us with
    | none=>none
    | some cs=>(pread n (Lib.cut t [59]).2.1).map fun p=>⟨⟨cs,v⟩ :: p.rules,p.dflt⟩
   else if 1 < us.length + 1 then none else some ⟨[],v⟩:=by
 conv=>lhs;unfold pread
 rw [h];rfl
theorem readP_none {s : List UInt8} (h : pread (s.length + 1) s = none) : readP s = (⟨[],0⟩,1):=by unfold readP;rw [h]
theorem readP_some {s : List UInt8} {p : TPol} (h : pread (s.length + 1) s = some p) : readP s = if polE p = 0 then (p,0) else (⟨[],0⟩,polE p):=by unfold readP;rw [h]
end Go.Proofs.YthkgjohhbdipcaaGreatDoor
namespace Go.Proofs.YthkgjohhbdipcaaGreatDoor
def verdictW (v : Int) : List UInt8 :=
 if v = 0 then [107,105,108,108] else if v = 1 then [116,114,97,112] else if v = 2 then [102,97,105,108] else if v = 3 then [108,111,103] else [97,108,108,111,119]
def fieldW (f : Int) : List UInt8:=if f = 0 then [110,114] else if f = 1 then [107,105,110,100] else if f = 2 then [97] else if f = 3 then [98] else [99]
def opW (o : Int) : UInt8:=if o = 1 then 61 else if o = 2 then 33 else if o = 3 then 60 else 62
def condW (c : TCond) : List UInt8:=fieldW c.f ++ opW c.op :: Lib.itoa c.v
def ruleW (r : TRule) : List UInt8:=verdictW r.verdict ++ r.conds.flatMap (fun c=>32 :: condW c)
def textP (p : TPol) : List UInt8:=p.rules.flatMap (fun r=>ruleW r ++ [59]) ++ verdictW p.dflt
theorem idx_ne {b c : UInt8} {l : List UInt8} (h : b ≠ c) : Lib.index (b :: l) [c] = if Lib.index l [c] == -1 then -1 else Lib.index l [c] + 1:=by
 conv=>lhs;unfold Lib.index
 rw [if_neg (by simp [List.isPrefixOf,Ne.symm h])]
theorem idx_eq {c : UInt8} {l : List UInt8} : Lib.index (c :: l) [c] = 0:=by
 unfold Lib.index
 rw [if_pos (by simp [List.isPrefixOf])]
theorem idx_none : ∀ {l : List UInt8} {c : UInt8},c ∉ l → Lib.index l [c] = -1
 | [],_,_=>rfl
 | b :: l,c,h=>by
  rw [idx_ne (fun e=>h (by rw [e];exact List.mem_cons_self ..)),idx_none (fun e=>h (List.mem_cons_of_mem _ e))]
  rfl
theorem idx_app : ∀ {a l : List UInt8} {c : UInt8},c ∉ a → Lib.index (a ++ c :: l) [c] = a.length
 | [],_,_,_=>idx_eq
 | b :: a,l,c,h=>by
  rw [List.cons_append,idx_ne (fun e=>h (by rw [e];exact List.mem_cons_self ..)),idx_app (fun e=>h (List.mem_cons_of_mem _ e))]
  rw [if_neg (by rw [beq_iff_eq];omega)]
  simp
theorem cut_none {l : List UInt8} {c : UInt8} (h : c ∉ l) : Lib.cut l [c] = (l,[],false):=by
 unfold Lib.cut
 rw [idx_none h,if_neg (by omega)]
theorem cut_app {a l : List UInt8} {c : UInt8} (h : c ∉ a) : Lib.cut (a ++ c :: l) [c] = (a,l,true):=by
 unfold Lib.cut
 rw [idx_app h,if_pos (by omega)]
 simp
theorem split_none {l : List UInt8} {c : UInt8} (h : c ∉ l) : Lib.split l [c] = [l]:=by
 unfold Lib.split
 rw [Lib.count_one,List.count_eq_zero.2 h]
 rfl
theorem split_app {a l : List UInt8} {c : UInt8} (h : c ∉ a) : Lib.split (a ++ c :: l) [c] = a :: Lib.split l [c]:=by
 unfold Lib.split
 rw [Lib.count_one,List.count_append,List.count_eq_zero.2 h,List.count_cons_self,Nat.zero_add,Lib.count_one]
 conv=>lhs;unfold Lib.splitK
 rw [idx_app h,if_neg (by rw [beq_iff_eq];omega)]
 simp
theorem words_text : ∀ (ws : List (List UInt8)) (w0 : List UInt8),32 ∉ w0 → (∀ u ∈ ws,32 ∉ u) → words (w0 ++ ws.flatMap (fun u=>32 :: u)) = w0 :: ws
 | [],w0,h,_=>by
  simp only [List.flatMap_nil,List.append_nil]
  exact split_none h
 | u :: ws,w0,h,hw=>by
  simp only [List.flatMap_cons,List.cons_append]
  unfold words
  rw [split_app h]
  congr 1
  exact words_text ws u (hw u (List.mem_cons_self ..)) (fun x hx=>hw x (List.mem_cons_of_mem _ hx))
theorem text_words : ∀ (n : Nat) (t : List UInt8),t.length≤n → ∃ w0 ws,words t = w0 :: ws∧t = w0 ++ ws.flatMap (fun u=>32 :: u)
 | n,t,hn=>by
  by_cases h : (32 : UInt8) ∈ t
  ·obtain ⟨a,r,rfl,ha⟩:=List.eq_append_cons_of_mem h
   cases n with
   | zero=>simp at hn
   | succ n =>
    obtain ⟨w0,ws,h1,h2⟩:=text_words n r (by simp at hn;omega)
    refine ⟨a,w0 :: ws,?_,?_⟩
    ·unfold words at h1 ⊢
     rw [split_app ha,h1]
    ·simp only [List.flatMap_cons,List.cons_append]
     rw [← h2]
  ·exact ⟨t,[],split_none h,by simp⟩
theorem verdictOf_W {v : Int} (h0 : 0≤v) (h1 : v≤4) : verdictOf (verdictW v) = some v:=by
 rcases (by omega : v = 0 ∨ v = 1 ∨ v = 2 ∨ v = 3 ∨ v = 4) with rfl | rfl | rfl | rfl | rfl <;> decide
theorem verdictOf_some {l : List UInt8} {v : Int} (h : verdictOf l = some v) : l = verdictW v:=by
 unfold verdictOf at h
 repeat (split at h;· (rename_i e;injection h with h;subst h;rw [e];decide))
 cases h
theorem fieldOf_W {v : Int} (h0 : 0≤v) (h1 : v < 5) : fieldOf (fieldW v) = some v:=by
 rcases (by omega : v = 0 ∨ v = 1 ∨ v = 2 ∨ v = 3 ∨ v = 4) with rfl | rfl | rfl | rfl | rfl <;> decide
theorem fieldOf_some {l : List UInt8} {v : Int} (h : fieldOf l = some v) : l = fieldW v:=by
 unfold fieldOf at h
 repeat (split at h;· (rename_i e;injection h with h;subst h;rw [e];decide))
 cases h
theorem opOf_W {o : Int} (h0 : 1≤o) (h1 : o≤4) : opOf (opW o) = o:=by
 rcases (by omega : o = 1 ∨ o = 2 ∨ o = 3 ∨ o = 4) with rfl | rfl | rfl | rfl <;> decide
theorem opW_of {b : UInt8} (h : opOf b ≠ 0) : opW (opOf b) = b:=by
 unfold opOf at h ⊢
 repeat (split;· (rename_i e;rw [e];decide))
 rename_i h1 h2 h3 h4
 exact absurd rfl (by rw [if_neg h1,if_neg h2,if_neg h3,if_neg h4] at h;exact h)
def plainB (b : UInt8) : Bool:=97≤b && b≤122
theorem verdictW_plain (v : Int) : ∀ b ∈ verdictW v,plainB b = true:=by
 unfold verdictW
 repeat (split;· decide)
 decide
theorem fieldW_plain (v : Int) : ∀ b ∈ fieldW v,plainB b = true:=by
 unfold fieldW
 repeat (split;· decide)
 decide
theorem plain_ne {l : List UInt8} {c : UInt8} (h : ∀ b ∈ l,plainB b = true) (hc : plainB c = false) : c ∉ l:=fun hm=>by
 rw [h c hm] at hc;cases hc
theorem plain_op {b : UInt8} (h : plainB b = true) : opOf b = 0:=by
 have h1 : b ≠ 61:=fun e=>by subst e;cases h
 have h2 : b ≠ 33:=fun e=>by subst e;cases h
 have h3 : b ≠ 60:=fun e=>by subst e;cases h
 have h4 : b ≠ 62:=fun e=>by subst e;cases h
 unfold opOf
 rw [if_neg h1,if_neg h2,if_neg h3,if_neg h4]
theorem opW_cases (o : Int) : opW o = 61 ∨ opW o = 33 ∨ opW o = 60 ∨ opW o = 62:=by
 unfold opW
 repeat (split;· simp)
 simp
theorem opAt_app : ∀ {a r : List UInt8} {b : UInt8},(∀ x ∈ a,opOf x = 0) → opOf b ≠ 0 → opAt (a ++ b :: r) = a.length
 | [],_,_,_,hb=>by
  rw [List.nil_append];unfold opAt;rw [if_neg hb];rfl
 | x :: a,r,b,ha,hb=>by
  rw [List.cons_append];unfold opAt
  rw [if_pos (ha x (List.mem_cons_self ..)),opAt_app (fun y hy=>ha y (List.mem_cons_of_mem _ hy)) hb]
  rfl
theorem condW_no {c : TCond} (h0 : 0≤c.v) {b : UInt8} (hb : plainB b = false) (hb1 : b ≠ 61) (hb2 : b ≠ 33) (hb3 : b ≠ 60) (hb4 : b ≠ 62) (hb5 : b.toNat < 48 ∨ 57 < b.toNat) : b ∉ condW c:=by
 unfold condW
 intro hm
 rcases List.mem_append.1 hm with hm | hm
 ·exact plain_ne (fieldW_plain _) hb hm
 ·rcases List.mem_cons.1 hm with hm | hm
  ·rcases opW_cases c.op with e | e | e | e <;> rw [e] at hm <;> first | exact hb1 hm | exact hb2 hm | exact hb3 hm | exact hb4 hm
  ·have:=(itoa_digits h0).1 b hm;omega
theorem most_le (f : Int) : mostOf f≤65535:=by unfold mostOf;split <;> (try split) <;> omega
theorem condOf_W {c : TCond} (h : OkCond c) : condOf (condW c) = some c:=by
 have h0:=h.v0
 have h1:=h.v1
 have h2:=most_le c.f
 have ho : opOf (opW c.op) = c.op:=opOf_W h.o0 h.o1
 have hat : opAt (condW c) = (fieldW c.f).length:=opAt_app (fun x hx=>plain_op (fieldW_plain _ x hx)) (by rw [ho];have:=h.o0;omega)
 have hd : (condW c).drop ((fieldW c.f).length + 1) = Lib.itoa c.v:=by unfold condW;rw [List.drop_append];simp
 have ht : (condW c).take (fieldW c.f).length = fieldW c.f:=by unfold condW;simp
 have hg : (condW c).getD (fieldW c.f).length 0 = opW c.op:=by
  unfold condW
  rw [List.getD_eq_getElem?_getD,List.getElem?_append_right (Nat.le_refl _)]
  simp
 unfold condOf
 rw [hat,if_neg (by unfold condW;simp),ht,fieldOf_W h.f0 h.f1]
 dsimp only
 rw [hd,hg,whole_itoa h0 (by omega),ho]
 simp
theorem opAt_lt : ∀ (u : List UInt8),opAt u ≠ u.length → ∃ b,u[opAt u]? = some b∧opOf b ≠ 0
 | [],h=>absurd rfl h
 | b :: l,h=>by
  unfold opAt at h ⊢
  by_cases hb : opOf b = 0
  ·rw [if_pos hb] at h ⊢
   obtain ⟨c,h1,h2⟩:=opAt_lt l (by simpa using h)
   exact ⟨c,by simpa using h1,h2⟩
  ·rw [if_neg hb]
   exact ⟨b,rfl,hb⟩
theorem condOf_some {u : List UInt8} {c : TCond} (h : condOf u = some c) : u = condW c:=by
 unfold condOf at h
 split at h
 ·cases h
 ·rename_i hne
  obtain ⟨b,hb,hop⟩:=opAt_lt u hne
  split at h
  ·cases h
  ·rename_i f hf
   split at h
   ·rename_i hw
    injection h with h
    subst h
    have hg : u.getD (opAt u) 0 = b:=by rw [List.getD_eq_getElem?_getD,hb];rfl
    unfold condW
    dsimp only
    rw [hg,opW_of hop,← fieldOf_some hf,← whole_some hw]
    have hlt:=(List.getElem?_eq_some_iff.1 hb).1
    have he:=(List.getElem?_eq_some_iff.1 hb).2
    rw [← he,← List.drop_eq_getElem_cons hlt,List.take_append_drop]
   ·cases h
theorem condsOf_W : ∀ {cs : List TCond},(∀ c ∈ cs,OkCond c) → condsOf (cs.map condW) = some cs
 | [],_=>rfl
 | c :: cs,h=>by
  simp only [List.map_cons,condsOf]
  rw [condOf_W (h c (List.mem_cons_self ..)),condsOf_W (fun x hx=>h x (List.mem_cons_of_mem _ hx))]
  rfl
theorem condsOf_some : ∀ {ws : List (List UInt8)} {cs : List TCond},condsOf ws = some cs → ws = cs.map condW
 | [],cs,h=>by simp only [condsOf,Option.some.injEq] at h;subst h;rfl
 | u :: ws,cs,h=>by
  unfold condsOf at h
  split at h
  ·cases h
  ·rename_i c hc
   cases hr : condsOf ws with
   | none=>rw [hr] at h;cases h
   | some cs' =>
    rw [hr] at h
    simp only [Option.map_some,Option.some.injEq] at h
    subst h
    rw [condOf_some hc,condsOf_some hr]
    rfl
theorem rule_text (r : TRule) : ruleW r = verdictW r.verdict ++ (r.conds.map condW).flatMap (fun u=>32 :: u):=by
 unfold ruleW
 congr 1
 induction r.conds with
 | nil=>rfl
 | cons c cs ih=>simp only [List.flatMap_cons,List.map_cons,ih]
theorem ruleW_no {r : TRule} (h : OkRule r) : (59 : UInt8) ∉ ruleW r:=by
 unfold ruleW
 intro hm
 rcases List.mem_append.1 hm with hm | hm
 ·exact plain_ne (verdictW_plain _) (by decide) hm
 ·obtain ⟨c,hc,hm⟩:=List.mem_flatMap.1 hm
  rcases List.mem_cons.1 hm with hm | hm
  ·exact absurd hm (by decide)
  ·exact condW_no (h.conds c hc).v0 (by decide) (by decide) (by decide) (by decide) (by decide) (by decide) hm
theorem words_rule {r : TRule} (h : OkRule r) : words (ruleW r) = verdictW r.verdict :: r.conds.map condW:=by
 rw [rule_text]
 refine words_text _ _ (plain_ne (verdictW_plain _) (by decide)) fun u hu=>?_
 obtain ⟨c,hc,rfl⟩:=List.mem_map.1 hu
 exact condW_no (h.conds c hc).v0 (by decide) (by decide) (by decide) (by decide) (by decide) (by decide)
theorem read_text : ∀ (rs : List TRule) (d : Int) (n : Nat),(∀ r ∈ rs,OkRule r) → 0≤d → d≤4 → rs.length < n → pread n (textP ⟨rs,d⟩) = some ⟨rs,d⟩
 | [],d,0,_,_,_,hn=>by simp at hn
 | [],d,n + 1,_,h0,h1,_=>by
  have ht : textP ⟨[],d⟩ = verdictW d:=by simp [textP]
  have hc : Lib.cut (verdictW d) [59] = (verdictW d,[],false):=cut_none (plain_ne (verdictW_plain _) (by decide))
  have hw : words (verdictW d) = [verdictW d]:=split_none (plain_ne (verdictW_plain _) (by decide))
  rw [ht,pread_step (u0:=verdictW d) (us:=[]) (by rw [hc];exact hw),verdictOf_W h0 h1,hc]
  simp
 | r :: rs,d,0,_,_,_,hn=>by simp at hn
 | r :: rs,d,n + 1,hr,h0,h1,hn=>by
  have hk:=hr r (List.mem_cons_self ..)
  have ht : textP ⟨r :: rs,d⟩ = ruleW r ++ 59 :: textP ⟨rs,d⟩:=by simp [textP]
  have hc : Lib.cut (ruleW r ++ 59 :: textP ⟨rs,d⟩) [59] = (ruleW r,textP ⟨rs,d⟩,true):=cut_app (ruleW_no hk)
  rw [ht,pread_step (u0:=verdictW r.verdict) (us:=r.conds.map condW) (by rw [hc];exact words_rule hk),verdictOf_W hk.v0 hk.v1,hc]
  dsimp only
  rw [if_pos rfl,condsOf_W hk.conds]
  dsimp only
  rw [read_text rs d n (fun x hx=>hr x (List.mem_cons_of_mem _ hx)) h0 h1 (by simpa using hn)]
  rfl
theorem text_len : ∀ (rs : List TRule) (d : Int),rs.length≤(textP ⟨rs,d⟩).length
 | [],d=>by simp
 | r :: rs,d=>by
  have ht : textP ⟨r :: rs,d⟩ = ruleW r ++ 59 :: textP ⟨rs,d⟩:=by simp [textP]
  have:=text_len rs d
  rw [ht]
  simp only [List.length_append,List.length_cons]
  omega
theorem print_read {p : TPol} (h : OkPol p) : readP (textP p) = (p,0):=by
 have hr : pread ((textP p).length + 1) (textP p) = some p:=read_text p.rules p.dflt _ h.rules h.d0 h.d1 (by have:=text_len p.rules p.dflt;show p.rules.length < (textP ⟨p.rules,p.dflt⟩).length + 1;omega)
 rw [readP_some hr,if_pos ((okPol_iff p).2 h)]
theorem pread_text : ∀ (n : Nat) (s : List UInt8) (p : TPol),pread n s = some p → textP p = s
 | 0,_,_,h=>by cases h
 | n + 1,s,p,h=>by
  obtain ⟨w0,ws,h1,h2⟩:=text_words _ (Lib.cut s [59]).1 (Nat.le_refl _)
  rw [pread_step h1] at h
  cases hv : verdictOf w0 with
  | none=>rw [hv] at h;cases h
  | some v =>
   rw [hv] at h
   dsimp only at h
   have hw0:=verdictOf_some hv
   by_cases hm : (59 : UInt8) ∈ s
   ·obtain ⟨a,r,rfl,ha⟩:=List.eq_append_cons_of_mem hm
    rw [cut_app ha] at h h2
    dsimp only at h h2
    rw [if_pos rfl] at h
    cases hc : condsOf ws with
    | none=>rw [hc] at h;cases h
    | some cs =>
     rw [hc] at h
     dsimp only at h
     cases hp : pread n r with
     | none=>rw [hp] at h;cases h
     | some q =>
      rw [hp] at h
      simp only [Option.map_some,Option.some.injEq] at h
      subst h
      have:=pread_text n r q hp
      have ht : textP ⟨⟨cs,v⟩ :: q.rules,q.dflt⟩ = ruleW ⟨cs,v⟩ ++ 59 :: textP q:=by simp [textP]
      rw [ht,this,rule_text,← condsOf_some hc,← hw0,← h2]
   ·rw [cut_none hm] at h h2
    dsimp only at h h2
    rw [if_neg (by simp)] at h
    split at h
    ·cases h
    ·rename_i hl
     injection h with h
     subst h
     have : ws = []:=List.length_eq_zero_iff.1 (by omega)
     subst this
     simp only [List.flatMap_nil,List.append_nil] at h2
     simp [textP,h2,hw0]
theorem read_print {s : List UInt8} {p : TPol} (h : readP s = (p,0)) : OkPol p∧textP p = s:=by
 unfold readP at h
 split at h
 ·simp at h
 ·rename_i q hq
  split at h
  ·rename_i h0
   simp only [Prod.mk.injEq,and_true] at h
   subst h
   exact ⟨(okPol_iff q).1 h0,pread_text _ _ _ hq⟩
  ·rename_i h0
   simp only [Prod.mk.injEq] at h
   exact absurd h.2 h0
end Go.Proofs.YthkgjohhbdipcaaGreatDoor
namespace Go.Proofs.YthkgjohhbdipcaaGreatDoor
open Go.RowKit
def condR (x : TCond) (cs : List Value) : Prop:=cs = [.int .i64 x.f,.int .i64 x.op,.int .i64 x.v]
def RdConds (w : World) (D : Nat → Prop) (v : Value) (l : List TCond) : Prop:=Sl w D 3 condR v l
theorem RdConds.keep {w w' : World} {D D' : Nat → Prop} {v : Value} {l : List TCond} (h : RdConds w D v l) (hD : ∀ b,D b → b < w.heap.size → D' b)
  (hw : ∀ b,D b → b < w.heap.size → w'.heap[b]? = w.heap[b]?) (hs : w.heap.size≤w'.heap.size) : RdConds w' D' v l:=Sl.mono h hD hw hs (fun _ _ _ h=>h)
theorem RdConds.below {w w' : World} {D : Nat → Prop} {v : Value} {l : List TCond} (h : RdConds w D v l) (hb : Below w.heap.size w w') : RdConds w' D v l :=
 h.keep (fun _ h _=>h) (fun b _ hlt=>hb.block b hlt) hb.size
theorem RdConds.cells {w : World} {D : Nat → Prop} {b o n c : Nat} {s : Option Nat} {l : List TCond} (h : RdConds w D (.slice (some ⟨b,o,s⟩) n c) l) {i : Nat} (hi : i < l.length) :
  w.cell? ⟨b,o + i * 3,none⟩ = some (.int .i64 l[i].f)∧w.cell? ⟨b,o + i * 3 + 1,none⟩ = some (.int .i64 l[i].op)∧w.cell? ⟨b,o + i * 3 + 2,none⟩ = some (.int .i64 l[i].v):=by
 obtain ⟨cs,hcs,hr,hcell⟩:=Sl.get h hi
 unfold condR at hr
 subst hr
 exact ⟨hcell 0 _ rfl,hcell 1 _ rfl,hcell 2 _ rfl⟩
def ruleR (w : World) (D : Nat → Prop) (r : TRule) (cs : List Value) : Prop:=∃ v,cs = [v,.int .i64 r.verdict]∧RdConds w D v r.conds
def RdRules (w : World) (D : Nat → Prop) (v : Value) (l : List TRule) : Prop:=Sl w D 2 (ruleR w D) v l
theorem RdRules.keep {w w' : World} {D D' : Nat → Prop} {v : Value} {l : List TRule} (h : RdRules w D v l) (hD : ∀ b,D b → b < w.heap.size → D' b)
  (hw : ∀ b,D b → b < w.heap.size → w'.heap[b]? = w.heap[b]?) (hs : w.heap.size≤w'.heap.size) : RdRules w' D' v l :=
 Sl.mono h hD hw hs (fun _ _ _ ⟨u,h1,h2⟩=>⟨u,h1,h2.keep hD hw hs⟩)
theorem RdRules.below {w w' : World} {D : Nat → Prop} {v : Value} {l : List TRule} (h : RdRules w D v l) (hb : Below w.heap.size w w') : RdRules w' D v l :=
 h.keep (fun _ h _=>h) (fun b _ hlt=>hb.block b hlt) hb.size
theorem RdRules.cells {w : World} {D : Nat → Prop} {b o n c : Nat} {s : Option Nat} {l : List TRule} (h : RdRules w D (.slice (some ⟨b,o,s⟩) n c) l) {i : Nat} (hi : i < l.length) :
  ∃ (a' : Option Addr) (c' : Nat),w.cell? ⟨b,o + i * 2,none⟩ = some (.slice a' l[i].conds.length c')∧w.cell? ⟨b,o + i * 2 + 1,none⟩ = some (.int .i64 l[i].verdict)∧RdConds w D (.slice a' l[i].conds.length c') l[i].conds ∧
   l[i].conds.length≤c'∧c'≤9223372036854775807∧(0 < l[i].conds.length → ∃ b o,a' = some ⟨b,o,none⟩∧D b∧b < w.heap.size):=by
 obtain ⟨cs,hcs,⟨u,hu,hr⟩,hcell⟩:=Sl.get h hi
 obtain ⟨a',c',hv,h1,h2,h3⟩:=Sl.form hr
 subst hu hv
 exact ⟨a',c',hcell 0 _ rfl,hcell 1 _ rfl,hr,h1,h2,h3⟩
theorem rules_true {w : World} {D : Nat → Prop} {v : Value} {l : List TRule} (h : RdRules w D v l) : RdRules w (fun _=>True) v l:=h.keep (fun _ _ _=>trivial) (fun _ _ _=>rfl) (Nat.le_refl _)
@[reducible] def polV (v : Value) (d : Int) : Value:=.agg #[v,.int .i64 d]
def polR (w : World) (D : Nat → Prop) (p : TPol) (cs : List Value) : Prop:=∃ v,cs = [v,.int .i64 p.dflt]∧RdRules w D v p.rules
def RdPols (w : World) (D : Nat → Prop) (v : Value) (l : List TPol) : Prop:=Sl w D 2 (polR w D) v l
theorem RdPols.below {w w' : World} {D : Nat → Prop} {v : Value} {l : List TPol} (h : RdPols w D v l) (hb : Below w.heap.size w w') : RdPols w' D v l :=
 Sl.mono h (fun _ h _=>h) (fun b _ hlt=>hb.block b hlt) hb.size (fun _ _ _ ⟨u,h1,h2⟩=>⟨u,h1,h2.below hb⟩)
end Go.Proofs.YthkgjohhbdipcaaGreatDoor
namespace Go.Proofs.YthkgjohhbdipcaaGreatDoor
open Go.RowKit
structure RowsOf {α : Type} (sz : Nat) (R : α → List Value → Prop) (xs : List α) (rows : List (List Value)) : Prop where
 len : rows.length = xs.length
 size : ∀ r ∈ rows,r.length = sz
 rel : ∀ (i : Nat) (x : α) (r : List Value),xs[i]? = some x → rows[i]? = some r → R x r
theorem RowsOf.nil {α : Type} {sz : Nat} {R : α → List Value → Prop} : RowsOf sz R ([] : List α) []:=⟨rfl,(fun _ h=>by cases h),(fun i x r h=>by simp at h)⟩
theorem RowsOf.app {α : Type} {sz : Nat} {R : α → List Value → Prop} {xs ys : List α} {r s : List (List Value)} (h : RowsOf sz R xs r) (k : RowsOf sz R ys s) : RowsOf sz R (xs ++ ys) (r ++ s):=by
 refine ⟨by simp [h.len,k.len],fun t ht=>?_,fun i x t hx ht=>?_⟩
 ·rcases List.mem_append.1 ht with ht | ht
  ·exact h.size t ht
  ·exact k.size t ht
 ·rw [List.getElem?_append] at hx ht
  rw [h.len] at ht
  split at hx
  ·rename_i hl;rw [if_pos hl] at ht;exact h.rel i x t hx ht
  ·rename_i hl;rw [if_neg hl] at ht;exact k.rel _ x t hx ht
theorem RowsOf.mono {α : Type} {sz : Nat} {R R' : α → List Value → Prop} {xs : List α} {r : List (List Value)} (h : RowsOf sz R xs r) (hR : ∀ x ∈ xs,∀ cs,R x cs → R' x cs) : RowsOf sz R' xs r :=
 ⟨h.len,h.size,fun i x t hx ht=>hR x (List.mem_of_getElem? hx) t (h.rel i x t hx ht)⟩
theorem flat_len {sz : Nat} : ∀ (rows : List (List Value)),(∀ r ∈ rows,r.length = sz) → rows.flatten.length = rows.length * sz
 | [],_=>by simp
 | r :: rows,h=>by
  rw [List.flatten_cons,List.length_append,flat_len rows (fun r hr=>h r (List.mem_cons_of_mem _ hr)),h r (List.mem_cons_self ..),List.length_cons,Nat.add_mul];omega
theorem flat_get {sz : Nat} : ∀ (rows : List (List Value)) (i : Nat) (r : List Value),(∀ r ∈ rows,r.length = sz) → rows[i]? = some r → ∀ j,j < sz → rows.flatten[i * sz + j]? = r[j]?
 | [],_,_,_,h=>by simp at h
 | r0 :: rows,i,r,hs,h=>fun j hj=>by
  have h0:=hs r0 (List.mem_cons_self ..)
  cases i with
  | zero =>
   simp at h;subst h
   rw [List.flatten_cons,List.getElem?_append_left (by omega)];simp
  | succ i =>
   have e : (i + 1) * sz + j = r0.length + (i * sz + j):=by rw [h0,Nat.add_mul];omega
   rw [List.flatten_cons,e,List.getElem?_append_right (by omega),Nat.add_sub_cancel_left]
   exact flat_get rows i r (fun r hr=>hs r (List.mem_cons_of_mem _ hr)) (by simpa using h) j hj
theorem Sl.rows {α : Type} {w : World} {D : Nat → Prop} {sz : Nat} {R : α → List Value → Prop} {v : Value} {xs : List α} (h : Sl w D sz R v xs) :
  ∃ (a : Option Addr) (c : Nat) (rows : List (List Value)),v = .slice a xs.length c∧RowsOf sz R xs rows∧c≤maxLen∧(a = none → c = 0∧xs = [])∧∀ ad,a = some ad → ∀ j u,rows.flatten[j]? = some u → w.cell? (ad.add j) = some u:=by
 obtain ⟨a,c,hv,hl,hm,hn,h⟩:=h
 by_cases h0 : 0 < xs.length
 ·obtain ⟨b,o,ha,hDb,hb,hc⟩:=h h0
  have hex : ∀ (n : Nat),n≤xs.length → ∃ rows : List (List Value),RowsOf sz R (xs.take n) rows∧∀ j u,rows.flatten[j]? = some u → w.cell? ⟨b,o + j,none⟩ = some u:=by
   intro n
   induction n with
   | zero=>intro _;exact ⟨[],by simpa using RowsOf.nil,fun j u hu=>by simp at hu⟩
   | succ n ih =>
    intro hn'
    obtain ⟨rows,hr,hcell⟩:=ih (by omega)
    have hlt : n < xs.length:=by omega
    obtain ⟨cs,hcs,hR,hcc⟩:=hc n xs[n] (List.getElem?_eq_getElem hlt)
    refine ⟨rows ++ [cs],?_,fun j u hu=>?_⟩
    ·rw [List.take_succ_eq_append_getElem hlt]
     exact hr.app ⟨rfl,fun r hr=>by simp at hr;rw [hr];exact hcs,fun i x r hx hr=>by
      cases i with
      | zero=>simp at hx hr;subst hx hr;exact hR
      | succ i=>simp at hx⟩
    ·rw [List.flatten_append,List.flatten_singleton,List.getElem?_append] at hu
     have hfl : rows.flatten.length = n * sz:=by rw [flat_len rows hr.size,hr.len,List.length_take,Nat.min_eq_left (by omega)]
     split at hu
     ·exact hcell j u hu
     ·rename_i hge
      have:=hcc _ u hu
      rw [hfl] at this
      rwa [show o + (n * sz + (j - n * sz)) = o + j by omega] at this
  obtain ⟨rows,hr,hcell⟩:=hex xs.length (Nat.le_refl _)
  rw [List.take_length] at hr
  refine ⟨a,c,rows,hv,hr,hm,(fun e=>by rw [e] at ha;cases ha),fun ad had j u hu=>?_⟩
  rw [ha] at had
  injection had with had
  subst had
  have : ((⟨b,o,none⟩ : Addr).add j) = ⟨b,o + j,none⟩:=by unfold Addr.add;split <;> simp_all
  rw [this];exact hcell j u hu
 ·have hx : xs = []:=List.length_eq_zero_iff.1 (by omega)
  subst hx
  exact ⟨a,c,[],hv,RowsOf.nil,hm,(fun e=>⟨hn e,rfl⟩),(fun ad _ j u hu=>by simp at hu)⟩
def OwnSl {α : Type} (w : World) (base : Nat) (e : TypeId) (sz : Nat) (R : α → List Value → Prop) (v : Value) (xs : List α) : Prop :=
 ∃ rows,RowsOf sz R xs rows∧w.ownsRow base e sz v xs.length rows.flatten
section
variable {α : Type} {w w' : World} {base : Nat} {e : TypeId} {sz : Nat} {R R' : α → List Value → Prop} {v : Value} {xs : List α}
theorem OwnSl.nil : OwnSl w base e sz R (.slice none 0 0) ([] : List α):=⟨[],RowsOf.nil,by simp,.inl ⟨rfl,rfl⟩⟩
theorem OwnSl.monoR (h : OwnSl w base e sz R v xs) (hR : ∀ x ∈ xs,∀ cs,R x cs → R' x cs) : OwnSl w base e sz R' v xs:=by
 obtain ⟨rows,hr,ho⟩:=h
 exact ⟨rows,hr.mono hR,ho⟩
theorem ownsRow_keep {n : Nat} {cells : List Value} (h : w.ownsRow base e sz v n cells) (hb : ∀ b,base≤b → b < w.heap.size → w'.heap[b]? = w.heap[b]?) : w'.ownsRow base e sz v n cells:=by
 obtain ⟨h1,h2⟩:=h
 refine ⟨h1,?_⟩
 rcases h2 with h2 | ⟨g,cap,cur,hv,hg,hh,r⟩
 ·exact .inl h2
 ·exact .inr ⟨g,cap,cur,hv,hg,by rw [hb g hg (Array.getElem?_eq_some_iff.1 hh).1];exact hh,r⟩
theorem OwnSl.block (h : OwnSl w base e sz R v xs) : ∀ g,v.ownBlock = some g → base≤g:=by
 obtain ⟨rows,_,_,h2⟩:=h
 intro g hg
 rcases h2 with ⟨hv,_⟩ | ⟨g',cap,cur,hv,hg',_⟩
 ·subst hv;simp [Value.ownBlock] at hg
 ·subst hv;simp [Value.ownBlock] at hg;omega
theorem OwnSl.grown {B : Nat} {w0 : World} (h : OwnSl w base e sz R v xs) (hb : Below B w0 w) (hg : w.grownBy w' v.ownBlock) (hB : B≤w.heap.size) (hbase : B≤base) : Below B w0 w' :=
 hb.grown hg hB fun g hk=>Nat.le_trans hbase (h.block g hk)
theorem OwnSl.below (h : OwnSl w base e sz R v xs) (hb : Below w.heap.size w w') : OwnSl w' base e sz R v xs:=by
 obtain ⟨rows,hr,ho⟩:=h
 exact ⟨rows,hr,ownsRow_keep ho (fun b _ hlt=>hb.block b hlt)⟩
theorem OwnSl.sl {D : Nat → Prop} (h : OwnSl w base e sz R v xs) (hD : ∀ b,base≤b → D b) : Sl w D sz R v xs:=by
 obtain ⟨rows,hr,ho1,ho2⟩:=h
 rcases ho2 with ⟨hv,hn⟩ | ⟨g,cap,cur,hv,hg,hh,hnc,hcm,hcs,htk⟩
 ·have hx : xs = []:=List.length_eq_zero_iff.1 hn
  subst hx
  exact ⟨none,0,hv,by simp,by unfold maxLen;omega,fun _=>rfl,fun h=>absurd h (by simp)⟩
 ·refine ⟨some ⟨g,0,none⟩,cap,hv,hnc,hcm,(fun h=>by cases h),fun h0=>⟨g,0,rfl,hD g hg,(Array.getElem?_eq_some_iff.1 hh).1,fun i x hx=>?_⟩⟩
  have hi : i < rows.length:=by rw [hr.len];exact (List.getElem?_eq_some_iff.1 hx).1
  have hri : rows[i]? = some rows[i]:=List.getElem?_eq_getElem hi
  have hsz:=hr.size _ (List.getElem_mem hi)
  refine ⟨rows[i],hsz,hr.rel i x _ hx hri,fun j u hu=>?_⟩
  have hj : j < sz:=by rw [← hsz];exact (List.getElem?_eq_some_iff.1 hu).1
  have h1:=flat_get rows i _ hr.size hri j hj
  rw [hu,← htk] at h1
  have hlt : i * sz + j < xs.length * sz:=by
   have:=(List.getElem?_eq_some_iff.1 hx).1
   calc i * sz + j < i * sz + sz:=by omega
    _ = (i + 1) * sz:=by rw [Nat.add_mul];omega
    _≤xs.length * sz:=Nat.mul_le_mul_right _ this
  rw [List.getElem?_take_of_lt hlt] at h1
  simp only [World.cell?,hh,Nat.zero_add]
  simpa using h1
end
theorem wpList_app {α : Type} {P : Program} {w : World} {ops : Array Oper} {rest : List Oper} {o : Oper} {a : Act} {Q : Exit → Act → World → Prop} {R : α → List Value → Prop} {D : Nat → Prop} (hgd : o.guard = none) (s x : Operand) (t : TypeId)
  (ho : o.op = .call { callee:=.builtin .append,args:=#[s,x],argTypes:=#[t,t] })
  (base : Nat) (e : TypeId) (i : TypeInfo) (z : Value) (size bytes : Nat) (ht : P.underlying t = some (.slice e)) (hi : P.info? e = some i) (hz : i.zero = some z)
  (hsize : i.size = size) (hby : i.bytes = bytes) (hzs : z.cells.size = size) (hsz : 0 < size)
  (v : Value) (xs : List α) (hs : a.eval s = v) (hown : OwnSl w base e size R v xs)
  (u : Value) (ys : List α) (hx : a.eval x = u) (hu : Sl w D size R u ys) (h1 : ∀ y ∈ ys,∀ cs,R y cs → ∀ c ∈ cs,c.oneCell' = true)
  (h63 : xs.length + ys.length≤maxLen) (hbytes : (xs.length + ys.length) * bytes≤140737488355328) (hbase : base≤w.heap.size)
  (h : ∀ v' w',OwnSl w' base e size R v' (xs ++ ys) → w.grownBy w' v.ownBlock → wpList P ops Q rest (a.put o.dst v') w') : wpList P ops Q (o :: rest) a w:=by
 obtain ⟨au,cu,rows,hv,hr,hcm,hnone,hcell⟩:=hu.rows
 obtain ⟨rows0,hr0,ho0⟩:=hown
 cases au with
 | none =>
  obtain ⟨hc0,hy⟩:=hnone rfl
  subst hc0 hy
  refine wpList_append_own_none hgd s x t ho base e i size ht hi v xs.length rows0.flatten hs ho0 (by rw [hx,hv];rfl) (h v w ⟨rows0,by simpa using hr0,by simpa using ho0⟩ ⟨rfl,rfl,rfl,Nat.le_refl _,fun _ _ _=>rfl⟩)
 | some ad =>
  refine wpList_append_own w hgd s x t ho base e i z size bytes ht hi hz hsize hby hzs hsz v xs.length rows0.flatten hs ho0 ad ys.length cu rows.flatten (by rw [hx,hv]) (by rw [flat_len rows hr.size,hr.len]) (hcell ad rfl) ?_ h63 hbytes hbase
   fun v' w' hown' hg _=>h v' w' ⟨rows0 ++ rows,hr0.app hr,by simpa using hown'⟩ hg
  intro c hc
  obtain ⟨r,hrm,hcr⟩:=List.mem_flatten.1 hc
  obtain ⟨k,hk⟩:=List.getElem?_of_mem hrm
  have hkl : k < ys.length:=by rw [← hr.len];exact (List.getElem?_eq_some_iff.1 hk).1
  exact h1 ys[k] (List.getElem_mem hkl) r (hr.rel k _ r (List.getElem?_eq_getElem hkl) hk) c hcr
def lenTo {α : Type} (ls : List (List α)) (k : Nat) : Nat:=(ls.take k).flatten.length
theorem flat_take_succ {α : Type} (ls : List (List α)) (k : Nat) (h : k < ls.length) : (ls.take k).flatten ++ ls[k] = (ls.take (k + 1)).flatten:=by
 rw [List.take_succ_eq_append_getElem h,List.flatten_append,List.flatten_singleton]
theorem lenTo_succ {α : Type} (ls : List (List α)) (k : Nat) (h : k < ls.length) : lenTo ls (k + 1) = lenTo ls k + ls[k].length:=by
 unfold lenTo;rw [← flat_take_succ ls k h,List.length_append]
theorem lenTo_le {α : Type} (ls : List (List α)) (k : Nat) (_h : k≤ls.length) : lenTo ls k≤lenTo ls ls.length:=by
 unfold lenTo
 have:=congrArg (fun l=>l.flatten.length) (List.take_append_drop k ls)
 rw [List.take_length]
 simp only [List.flatten_append,List.length_append] at this
 omega
end Go.Proofs.YthkgjohhbdipcaaGreatDoor
namespace Go.Proofs.YthkgjohhbdipcaaGreatDoor
open Go.RowKit
theorem RowsOf.cons {α : Type} {sz : Nat} {R : α → List Value → Prop} {x : α} {xs : List α} {r : List Value} {rows : List (List Value)} (h : RowsOf sz R xs rows) (hx : R x r) (hl : r.length = sz) : RowsOf sz R (x :: xs) (r :: rows):=by
 refine ⟨by simp [h.len],fun t ht=>?_,fun i y t hy ht=>?_⟩
 ·rcases List.mem_cons.1 ht with rfl | ht
  ·exact hl
  ·exact h.size t ht
 ·cases i with
  | zero=>simp at hy ht;subst hy ht;exact hx
  | succ i=>exact h.rel i y t (by simpa using hy) (by simpa using ht)
theorem sl_block {α : Type} {w : World} {D : Nat → Prop} {sz b : Nat} {R : α → List Value → Prop} {xs : List α} {rows : List (List Value)} {cs : List Value} {T : TypeId} {fr : Nat × Nat} (hr : RowsOf sz R xs rows)
  (hb : w.heap[b]? = some (.cells cs.toArray T fr)) (hcs : cs = rows.flatten) (hD : D b) (hm : xs.length≤maxLen) : Sl w D sz R (.slice (some ⟨b,0,none⟩) xs.length xs.length) xs:=by
 refine ⟨some ⟨b,0,none⟩,xs.length,rfl,Nat.le_refl _,hm,(fun h=>by cases h),fun _=>⟨b,0,rfl,hD,(Array.getElem?_eq_some_iff.1 hb).1,fun i x hx=>?_⟩⟩
 have hi : i < rows.length:=by rw [hr.len];exact (List.getElem?_eq_some_iff.1 hx).1
 have hri : rows[i]? = some rows[i]:=List.getElem?_eq_getElem hi
 have hsz:=hr.size _ (List.getElem_mem hi)
 refine ⟨rows[i],hsz,hr.rel i x _ hx hri,fun j u hu=>?_⟩
 have hj : j < sz:=by rw [← hsz];exact (List.getElem?_eq_some_iff.1 hu).1
 have h1:=flat_get rows i _ hr.size hri j hj
 rw [hu,← hcs] at h1
 simp only [World.cell?,hb,Nat.zero_add]
 simpa using h1
theorem Sl.at_ {α : Type} {w : World} {D : Nat → Prop} {sz n c : Nat} {a : Option Addr} {R : α → List Value → Prop} {xs : List α} (h : Sl w D sz R (.slice a n c) xs) (h0 : 0 < xs.length) : ∃ b o,a = some ⟨b,o,none⟩∧D b∧b < w.heap.size:=by
 obtain ⟨a',c',hv,_,_,_,hat⟩:=h
 injection hv with h1 _ _
 subst h1
 obtain ⟨b,o,ha,hD,hb,_⟩:=hat h0
 exact ⟨b,o,ha,hD,hb⟩
theorem Sl.belowR {α : Type} {w w' : World} {D : Nat → Prop} {sz : Nat} {R R' : α → List Value → Prop} {v : Value} {xs : List α} (h : Sl w D sz R v xs) (hb : Below w.heap.size w w') (hR : ∀ x ∈ xs,∀ cs,R x cs → R' x cs) : Sl w' D sz R' v xs :=
 Sl.mono h (fun _ h _=>h) (fun b _ hlt=>hb.block b hlt) hb.size hR
theorem set_at {W : World} {b o : Nat} {cs : Array Value} {T : TypeId} {fr : Nat × Nat} {v : Value} (h : W.heap[b]? = some (.cells cs T fr)) : (W.setCell ⟨b,o,none⟩ v).heap[b]? = some (.cells (cs.setIfInBounds o v) T fr):=by
 show (W.heap.modify b _)[b]? = _
 rw [Array.getElem?_modify,if_pos rfl,h]
 rfl
theorem set_other {W : World} {a : Addr} {v : Value} {k : Nat} (h : k ≠ a.block) : (W.setCell a v).heap[k]? = W.heap[k]?:=by
 show (W.heap.modify a.block _)[k]? = _
 rw [Array.getElem?_modify,if_neg (fun e=>h e.symm)]
theorem set_size (W : World) (a : Addr) (v : Value) : (W.setCell a v).heap.size = W.heap.size:=by
 show (W.heap.modify a.block _).size = _
 rw [Array.size_modify]
theorem set_below {B : Nat} {w W : World} {a : Addr} {v : Value} (h : Below B w W) (hb : B≤a.block) : Below B w (W.setCell a v) :=
 h.trans ⟨rfl,rfl,rfl,by rw [set_size];exact Nat.le_refl _,fun k hk=>set_other (by omega)⟩
theorem not_frozen {W : World} {b : Nat} {cs : Array Value} {T : TypeId} (h : W.heap[b]? = some (.cells cs T)) (j : Nat) : W.frozen? ⟨b,j,none⟩ = false:=by
 simp only [World.frozen?,h];simp
theorem cells_of {W : World} {b : Nat} {cs : Array Value} {T : TypeId} {fr : Nat × Nat} (h : W.heap[b]? = some (.cells cs T fr)) (j : Nat) : W.cell? ⟨b,j,none⟩ = cs[j]?:=by simp [World.cell?,h]
theorem heap_setCells (g : Nat) : ∀ (vs : List Value) (o : Nat) (w : World),(w.setCells g o vs).os = w.os∧(w.setCells g o vs).tape = w.tape∧(w.setCells g o vs).output = w.output∧(w.setCells g o vs).heap.size = w.heap.size∧∀ b,b ≠ g → (w.setCells g o vs).heap[b]? = w.heap[b]?
 | [],_,_=>⟨rfl,rfl,rfl,rfl,fun _ _=>rfl⟩
 | v :: vs,o,w=>by
  obtain ⟨h1,h2,h3,h4,h5⟩:=heap_setCells g vs (o + 1) (w.setCell ⟨g,o,none⟩ v)
  exact ⟨h1,h2,h3,h4.trans (set_size _ _ _),fun b hb=>(h5 b hb).trans (set_other hb)⟩
theorem blk_setCells {g : Nat} {T : TypeId} {fr : Nat × Nat} : ∀ (vs : List Value) (o : Nat) (w : World) (cur : Array Value),w.heap[g]? = some (.cells cur T fr) → ∃ cur' : Array Value,cur'.size = cur.size∧(w.setCells g o vs).heap[g]? = some (.cells cur' T fr)
 | [],_,_,cur,h=>⟨cur,rfl,h⟩
 | v :: vs,o,w,cur,h=>by
  obtain ⟨cur',h1,h2⟩:=blk_setCells vs (o + 1) (w.setCell ⟨g,o,none⟩ v) _ (set_at h)
  exact ⟨cur',by simpa using h1,h2⟩
end Go.Proofs.YthkgjohhbdipcaaGreatDoor
namespace Go.Proofs.YthkgjohhbdipcaaGreatDoor
open Go.RowKit
structure Bx (w : World) (bs : List Obj) (W : World) : Prop where
 bel : Below w.heap.size w W
 at_ : ∀ (i : Nat) (o : Obj),bs[i]? = some o → W.heap[w.heap.size + i]? = some o
section
variable {w W W' : World} {bs : List Obj}
theorem Bx.nil : Bx w [] w:=⟨Below.refl _ _,fun i o h=>by simp at h⟩
theorem Bx.push (h : Bx w bs W) (hs : W.heap.size = w.heap.size + bs.length) (o : Obj) : Bx w (bs ++ [o]) (W.alloc o):=by
 refine ⟨bel_alloc h.bel o,fun i x hx=>?_⟩
 rw [List.getElem?_append] at hx
 split at hx
 ·exact blk_old (h.at_ i x hx)
 ·rename_i hge
  have hi : i - bs.length = 0:=by
   have:=(List.getElem?_eq_some_iff.1 hx).1
   simp at this;exact this
  rw [hi] at hx
  simp at hx
  subst hx
  exact blk_at (by omega)
theorem Bx.two {o o' : Obj} : Bx w [o,o'] ((w.alloc o).alloc o'):=(Bx.nil.push (by simp) o).push (by simp) o'
theorem Bx.one {o : Obj} : Bx w [o] (w.alloc o):=Bx.nil.push (by simp) o
theorem Bx.three {o o' o2 : Obj} : Bx w [o,o',o2] (((w.alloc o).alloc o').alloc o2):=Bx.two.push (by simp) o2
theorem Bx.below (h : Bx w bs W) (hb : Below W.heap.size W W') : Bx w bs W':=⟨bel_call h.bel hb,fun i o ho=>blk_below (h.at_ i o ho) hb⟩
theorem Bx.alloc (h : Bx w bs W) (o : Obj) : Bx w bs (W.alloc o):=h.below (bel_alloc (Below.refl _ _) o)
theorem Bx.lift {B : Nat} (h : Bx w bs W) (hb : Below B W W') (hB : w.heap.size + bs.length≤B) : Bx w bs W':=⟨h.bel.trans (hb.mono (by omega)),fun i o ho=>(hb.block _ (by have:=(List.getElem?_eq_some_iff.1 ho).1;omega)).trans (h.at_ i o ho)⟩
theorem Bx.top (h : Bx w bs W) : w.heap.size + bs.length≤W.heap.size:=by
 rcases Nat.eq_zero_or_pos bs.length with h0 | h0
 ·have:=h.bel.size;omega
 ·have hl : bs.length - 1 < bs.length:=by omega
  have:=(Array.getElem?_eq_some_iff.1 (h.at_ (bs.length - 1) _ (List.getElem?_eq_getElem hl))).1
  omega
theorem Bx.drew (h : Bx w bs W) : Bx w bs W.drew:=h.below (Below.refl _ _).drew
theorem Bx.cells (h : Bx w bs W) {i : Nat} {cs : Array Value} {T : TypeId} (hi : bs[i]? = some (.cells cs T)) (j : Nat) : W.cell? ⟨w.heap.size + i,j,none⟩ = cs[j]?:=cells_of (h.at_ i _ hi) j
theorem Bx.free (h : Bx w bs W) {i : Nat} {cs : Array Value} {T : TypeId} (hi : bs[i]? = some (.cells cs T)) (j : Nat) : W.frozen? ⟨w.heap.size + i,j,none⟩ = false:=not_frozen (h.at_ i _ hi) j
theorem Bx.cells0 {cs : Array Value} {T : TypeId} {r : List Obj} (h : Bx w (.cells cs T :: r) W) (j : Nat) : W.cell? ⟨w.heap.size,j,none⟩ = cs[j]?:=h.cells (i:=0) rfl j
theorem Bx.cells1 {o : Obj} {cs : Array Value} {T : TypeId} {r : List Obj} (h : Bx w (o :: .cells cs T :: r) W) (j : Nat) : W.cell? ⟨w.heap.size + 1,j,none⟩ = cs[j]?:=h.cells (i:=1) rfl j
theorem Bx.cells2 {o o' : Obj} {cs : Array Value} {T : TypeId} {r : List Obj} (h : Bx w (o :: o' :: .cells cs T :: r) W) (j : Nat) : W.cell? ⟨w.heap.size + 1 + 1,j,none⟩ = cs[j]?:=h.cells (i:=2) rfl j
theorem Bx.free0 {cs : Array Value} {T : TypeId} {r : List Obj} (h : Bx w (.cells cs T :: r) W) (j : Nat) : W.frozen? ⟨w.heap.size,j,none⟩ = false:=h.free (i:=0) rfl j
theorem Bx.free1 {o : Obj} {cs : Array Value} {T : TypeId} {r : List Obj} (h : Bx w (o :: .cells cs T :: r) W) (j : Nat) : W.frozen? ⟨w.heap.size + 1,j,none⟩ = false:=h.free (i:=1) rfl j
theorem Bx.size (h : Bx w bs W) {i : Nat} (hi : i < bs.length) : w.heap.size + i < W.heap.size :=
 (Array.getElem?_eq_some_iff.1 (h.at_ i _ (List.getElem?_eq_getElem hi))).1
theorem Bx.set (h : Bx w bs W) {i : Nat} {cs : Array Value} {T : TypeId} (hi : bs[i]? = some (.cells cs T)) (j : Nat) (v : Value) : Bx w (bs.set i (.cells (cs.setIfInBounds j v) T)) (W.setCell ⟨w.heap.size + i,j,none⟩ v):=by
 refine ⟨set_below h.bel (by show w.heap.size≤w.heap.size + i;omega),fun k o ho=>?_⟩
 by_cases e : k = i
 ·subst e
  have hlt:=(List.getElem?_eq_some_iff.1 hi).1
  rw [List.getElem?_set_self hlt] at ho
  injection ho with ho
  subst ho
  exact set_at (h.at_ k _ hi)
 ·rw [List.getElem?_set_ne (Ne.symm e)] at ho
  rw [set_other (by show w.heap.size + k ≠ w.heap.size + i;omega)]
  exact h.at_ k o ho
end
theorem Bx.setCall2 {w W : World} {x y : TCall} {T : TypeId} {o o' : Obj} {r : List Obj} (h : Bx w (o :: o' :: .cells #[.int .i64 x.a0,.int .i64 x.a1,.int .i64 x.a2,.int .i64 x.a3,.int .i64 x.a4] T :: r) W) :
  Bx w (o :: o' :: .cells #[.int .i64 y.a0,.int .i64 y.a1,.int .i64 y.a2,.int .i64 y.a3,.int .i64 y.a4] T :: r) (((((W.setCell ⟨w.heap.size + 1 + 1,0,none⟩ (.int .i64 y.a0)).setCell ⟨w.heap.size + 1 + 1,1,none⟩ (.int .i64 y.a1)).setCell ⟨w.heap.size + 1 + 1,2,none⟩ (.int .i64 y.a2)).setCell ⟨w.heap.size + 1 + 1,3,none⟩ (.int .i64 y.a3)).setCell ⟨w.heap.size + 1 + 1,4,none⟩ (.int .i64 y.a4)) :=
 ((((h.set (i:=2) rfl 0 (.int .i64 y.a0)).set (i:=2) rfl 1 (.int .i64 y.a1)).set (i:=2) rfl 2 (.int .i64 y.a2)).set (i:=2) rfl 3 (.int .i64 y.a3)).set (i:=2) rfl 4 (.int .i64 y.a4)
theorem Bx.free2 {o o' : Obj} {cs : Array Value} {T : TypeId} {r : List Obj} {w W : World} (h : Bx w (o :: o' :: .cells cs T :: r) W) (j : Nat) : W.frozen? ⟨w.heap.size + 1 + 1,j,none⟩ = false:=h.free (i:=2) rfl j
end Go.Proofs.YthkgjohhbdipcaaGreatDoor
namespace Go.Proofs.YthkgjohhbdipcaaGreatDoor
open Go.RowKit Go.Shelf
attribute [local go_sem] gives givesUpon
def bsL (l : List UInt8) : ByteArray:=⟨l.toArray⟩
theorem itoa_any (n : Int) (h0 : -9223372036854775808≤n) (h1 : n≤9223372036854775807) (w : World) (hL : Laid w) :
  Calls Tryz.prog 65 #[.int .i64 n] w fun e w'=>e = .returned (.string (bsL (Lib.itoa n)))∧Below w.heap.size w w' :=
 (Tryz.strconv_Itoa n h0 h1 w hL.pow).mono fun _ _ ⟨he,_,_,hw⟩=>⟨he,below_world hw⟩
theorem bsL_app (l m : List UInt8) : bsL l ++ bsL m = bsL (l ++ m):=by
 unfold bsL
 apply ByteArray.ext
 simp [ByteArray.data_append]
theorem verdict_cell {v : Int} (h0 : 0≤v) (h1 : v≤4) : (#[Value.string (bsL [107,105,108,108]),.string (bsL [116,114,97,112]),.string (bsL [102,97,105,108]),.string (bsL [108,111,103]),.string (bsL [97,108,108,111,119])] : Array Value)[v.toNat]? = some (.string (bsL (verdictW v))):=by
 rcases (by omega : v = 0 ∨ v = 1 ∨ v = 2 ∨ v = 3 ∨ v = 4) with rfl | rfl | rfl | rfl | rfl <;> rfl
theorem field_cell {v : Int} (h0 : 0≤v) (h1 : v≤4) : (#[Value.string (bsL [110,114]),.string (bsL [107,105,110,100]),.string (bsL [97]),.string (bsL [98]),.string (bsL [99])] : Array Value)[v.toNat]? = some (.string (bsL (fieldW v))):=by
 rcases (by omega : v = 0 ∨ v = 1 ∨ v = 2 ∨ v = 3 ∨ v = 4) with rfl | rfl | rfl | rfl | rfl <;> rfl
theorem add_bs {P : Program} (x y : List UInt8) (h : x.length + y.length≤1000000) (W : World) : (Op.stringOp .add (bsL x) (bsL y)).run P W = .ok (.string (bsL (x ++ y))) W:=by
 rw [run_string_add_sum W (bsL x) (bsL y) (by show x.toArray.size + y.toArray.size≤_;simp;omega),bsL_app]
def headP (l : List TRule) : List UInt8:=l.flatMap fun r=>ruleW r ++ [59]
theorem headP_take {l : List TRule} {k : Nat} (h : k < l.length) : headP (l.take (k + 1)) = headP (l.take k) ++ (ruleW l[k] ++ [59]):=by
 unfold headP
 rw [List.take_succ_eq_append_getElem h,List.flatMap_append];simp
def headC (l : List TCond) : List UInt8:=l.flatMap fun c=>32 :: condW c
theorem headC_take {l : List TCond} {k : Nat} (h : k < l.length) : headC (l.take (k + 1)) = headC (l.take k) ++ 32 :: condW l[k]:=by
 unfold headC
 rw [List.take_succ_eq_append_getElem h,List.flatMap_append];simp
theorem verdictW_len (v : Int) : (verdictW v).length≤5:=by unfold verdictW;split <;> (try split) <;> (try split) <;> (try split) <;> simp
theorem fieldW_len (v : Int) : (fieldW v).length≤4:=by unfold fieldW;split <;> (try split) <;> (try split) <;> (try split) <;> simp
theorem condW_len {c : TCond} (h : OkCond c) : (32 :: condW c).length≤27:=by
 have h1:=fieldW_len c.f
 have h2:=Lib.itoa_length_le c.v (by have:=h.v0;omega) (by have:=h.v1;have : mostOf c.f≤65535:=(by unfold mostOf;split <;> (try split) <;> omega);omega)
 unfold condW
 simp only [List.length_cons,List.length_append];omega
theorem headC_len : ∀ (l : List TCond),(∀ c ∈ l,OkCond c) → (headC l).length≤27 * l.length
 | [],_=>by simp [headC]
 | c :: l,h=>by
  have h1:=condW_len (h c (List.mem_cons_self ..))
  have h2:=headC_len l (fun x hx=>h x (List.mem_cons_of_mem _ hx))
  unfold headC at h2 ⊢
  rw [List.flatMap_cons,List.length_append]
  have h3 : (c :: l).length = l.length + 1:=rfl
  omega
theorem ruleW_len {r : TRule} (h : OkRule r) : (ruleW r ++ [59]).length≤280:=by
 have h1:=headC_len r.conds h.conds
 have h2:=verdictW_len r.verdict
 have h3:=h.len
 unfold headC at h1
 unfold ruleW
 simp only [List.length_append,List.length_singleton];omega
theorem headP_len : ∀ (l : List TRule),(∀ r ∈ l,OkRule r) → (headP l).length≤280 * l.length
 | [],_=>by simp [headP]
 | r :: l,h=>by
  have h1:=ruleW_len (h r (List.mem_cons_self ..))
  have h2:=headP_len l (fun x hx=>h x (List.mem_cons_of_mem _ hx))
  unfold headP at h2 ⊢
  rw [List.flatMap_cons,List.length_append,List.length_cons];omega
attribute [-go_sem] run_string_add_if run_slice_string_if run_slice_string
end Go.Proofs.YthkgjohhbdipcaaGreatDoor
namespace Go.Proofs.YthkgjohhbdipcaaGreatDoor
open Go.RowKit
theorem index5 (x : TCall) (k : Nat) (h : k < 5) (w : World) : (Instr.index 46 (callV x) (.int .i64 (k : Int))).run Tryz.prog w = .ok (.int .i64 (x.get k)) w:=by
 have hk : k = 0 ∨ k = 1 ∨ k = 2 ∨ k = 3 ∨ k = 4:=by omega
 rcases hk with rfl | rfl | rfl | rfl | rfl <;> (change _ = _;kernel_rfl)
theorem cell5 (x : TCall) (k : Nat) (h : k < 5) : (#[Value.int .i64 x.a0,.int .i64 x.a1,.int .i64 x.a2,.int .i64 x.a3,.int .i64 x.a4] : Array Value)[k]? = some (.int .i64 (x.get k)):=by
 match k,h with
 | 0,_=>rfl
 | 1,_=>rfl
 | 2,_=>rfl
 | 3,_=>rfl
 | 4,_=>rfl
theorem most_any (k : Int) (w : World) : Calls Tryz.prog 135 #[.int .i64 k] w fun e w'=>e = .returned (.int .i64 (mostOf k))∧w = w':=by
 by_cases h0 : k = 0
 ·have b0 : (k == 0) = true:=by simpa using h0
  have e : mostOf k = 63:=by simp [mostOf,h0]
  rw [e];clear h0 e
  go_enter Tryz.func135,Tryz.ntmps135
  go_wp2
  go_ret
  exact ⟨rfl,rfl⟩
 ·have b0 : (k == 0) = false:=by simpa using h0
  by_cases h1 : k = 1
  ·have b1 : (k == 1) = true:=by simpa using h1
   have e : mostOf k = 3:=by simp [mostOf,h1]
   rw [e];clear h0 h1 e
   go_enter Tryz.func135,Tryz.ntmps135
   go_wp2
   go_ret
   exact ⟨rfl,rfl⟩
  ·have b1 : (k == 1) = false:=by simpa using h1
   have e : mostOf k = 65535:=by simp [mostOf,h0,h1]
   rw [e];clear h0 h1 e
   go_enter Tryz.func135,Tryz.ntmps135
   go_wp2
   go_ret
   exact ⟨rfl,rfl⟩
def okTo (x : TCall) (k : Nat) : Prop:=∀ j : Nat,j < k → 0≤x.get j∧x.get j≤mostOf j
theorem okTo_all {x : TCall} (h : okTo x 5) : callE x = 0:=if_pos (TCall.ok_of h)
theorem okTo_not {x : TCall} {k : Nat} (hk : k < 5) (h : ¬ (0≤x.get k∧x.get k≤mostOf k)) : callE x = 3:=if_neg fun hx=>h (TCall.ok_get hx hk)
set_option maxHeartbeats 1000000 in
theorem callcheck_any (x : TCall) (w : World) : Calls Tryz.prog 96 #[callV x] w fun e w'=>e = .returned (.int .i64 (callE x))∧Below w.heap.size w w':=by
 go_enter Tryz.func96,Tryz.ntmps96
 go_wp2_with fail
 go_loop [6] (fun i=>∃ k : Nat,k≤5∧i = .int .i64 k∧Hid (okTo x k)) (fun i=>5 - (intOf i).toNat)
 case atStart=>exact ⟨0,by omega,rfl,fun j hj=>absurd hj (by omega)⟩
 case round =>
  obtain ⟨k,hk,rfl,hok⟩:=hrel
  by_cases hlt : k < 5
  ·have hi:=fun W=>index5 x k hlt W
   by_cases h1 : x.get k < 0
   ·have he:=Lib.hid (okTo_not hlt (x:=x) (by omega))
    go_wp2_with (go_at_call 135;refine (most_any _ _).mono ?_;rintro e w1 ⟨rfl,rfl⟩)
    go_ret
    exact ⟨ret_int he.out.symm,bel_alloc (Below.refl _ _) _⟩
   ·by_cases h2 : mostOf k < x.get k
    ·have he:=Lib.hid (okTo_not hlt (x:=x) (by omega))
     go_wp2_with (go_at_call 135;refine (most_any _ _).mono ?_;rintro e w1 ⟨rfl,rfl⟩)
     go_ret
     exact ⟨ret_int he.out.symm,bel_alloc (Below.refl _ _) _⟩
    ·go_wp2_with (go_at_call 135;refine (most_any _ _).mono ?_;rintro e w1 ⟨rfl,rfl⟩)
     go_round
     case rel =>
      refine ⟨k + 1,by omega,by go_num,fun j hj=>?_⟩
      by_cases e : j = k
      ·subst e;omega
      ·exact hok.out j (by omega)
     case measure=>simp [intOf];omega
  ·obtain rfl : k = 5:=by omega
   go_wp2
   go_ret
   exact ⟨ret_int (okTo_all hok.out).symm,bel_alloc (Below.refl _ _) _⟩
def inB (n a b : Int) : Bool:=decide (a≤n∧n≤b)
theorem inB_yes {n a b : Int} (h : a≤n) (h' : n≤b) : inB n a b = true:=by simp [inB,h,h']
theorem inB_no {n a b : Int} (h : ¬ (a≤n∧n≤b)) : inB n a b = false:=by unfold inB;exact decide_eq_false h
theorem in_any (n a b : Int) (w : World) : Calls Tryz.prog 56 #[.int .i64 n,.int .i64 a,.int .i64 b] w fun e w'=>e = .returned (.bool (inB n a b))∧w = w':=by
 go_enter Tryz.func56,Tryz.ntmps56
 go_wp2
 all_goals go_ret
 all_goals refine ⟨ret_bool ?_,rfl⟩
 ·rename_i h1;simp [inB,h1]
 ·rename_i h1;have h2 : ¬ a≤n:=by omega
  simp [inB,h2]
def mostMap : Array MapEntry:=#[⟨.int .i64 0,.int .i64 63,0⟩,⟨.int .i64 1,.int .i64 3,1⟩]
theorem most_find0 : Instr.findNow (.int .i64) (.int .i64 0) mostMap.toList 0 = some (some (0,.int .i64 63)):=rfl
theorem most_find1 : Instr.findNow (.int .i64) (.int .i64 1) mostMap.toList 0 = some (some (1,.int .i64 3)):=rfl
theorem most_find2 {k : Int} (h0 : k ≠ 0) (h1 : k ≠ 1) : Instr.findNow (.int .i64) (.int .i64 k) mostMap.toList 0 = some none:=by
 have b0 : (k == 0) = false:=beq_eq_false_iff_ne.2 h0
 have b1 : (k == 1) = false:=beq_eq_false_iff_ne.2 h1
 simp [mostMap,Instr.findNow,Instr.sameNow,b0,b1]
theorem mostof_find (k : Int) : ∃ f,Instr.findNow (.int .i64) (.int .i64 k) mostMap.toList 0 = some f∧((f = none∧mostOf k = 65535) ∨ ∃ j,f = some (j,.int .i64 (mostOf k))):=by
 by_cases h0 : k = 0
 ·subst h0;exact ⟨_,most_find0,.inr ⟨_,rfl⟩⟩
 ·by_cases h1 : k = 1
  ·subst h1;exact ⟨_,most_find1,.inr ⟨_,rfl⟩⟩
  ·exact ⟨_,most_find2 h0 h1,.inl ⟨rfl,by simp [mostOf,h0,h1]⟩⟩
theorem mostof_any (k : Int) (w : World) : Calls Tryz.prog 62 #[.int .i64 k] w fun e w'=>e = .returned (.int .i64 (mostOf k))∧Below w.heap.size w w':=by
 have hmm:=@run_makeMap Tryz.prog
 have h1:=run_insert_new (P:=Tryz.prog) (w:=w) (t:=139) (es:=#[]) (c:=0) (key:=.int .i64 0) (v:=.int .i64 63) Tryz.underlying139 Tryz.underlying3 rfl rfl
 have h2:=run_insert_new (P:=Tryz.prog) (w:=w) (t:=139) (es:=#[⟨.int .i64 0,.int .i64 63,0⟩]) (c:=1) (key:=.int .i64 1) (v:=.int .i64 3) Tryz.underlying139 Tryz.underlying3 rfl rfl
 have hz : (zeroValue 3).run Tryz.prog (w.alloc (.map mostMap 2)) = .ok (.int .i64 0) (w.alloc (.map mostMap 2)):=by kernel_rfl
 simp only [List.push_toArray,List.nil_append,List.cons_append,Nat.reduceAdd] at h1 h2
 obtain ⟨f,hf,hv⟩:=mostof_find k
 have h3:=run_lookup_ok (key:=.int .i64 k) (t:=139) Tryz.underlying139 Tryz.underlying3 (heap_last w (.map mostMap 2)) hz rfl hf
 unfold mostMap at h3
 clear hz hf
 rcases hv with ⟨rfl,hv⟩ | ⟨j,rfl⟩
 ·rw [hv];clear hv
  simp only [Option.map_none,Option.getD_none,Option.isSome_none] at h3
  go_enter Tryz.func62,Tryz.ntmps62
  go_wp2
  go_ret
  exact ⟨rfl,bel_alloc (Below.refl _ _) _⟩
 ·simp only [Option.map_some,Option.getD_some,Option.isSome_some] at h3
  go_enter Tryz.func62,Tryz.ntmps62
  go_wp2
  go_ret
  exact ⟨rfl,bel_alloc (Below.refl _ _) _⟩
end Go.Proofs.YthkgjohhbdipcaaGreatDoor
namespace Go.Proofs.YthkgjohhbdipcaaGreatDoor
open Go.RowKit
attribute [local go_sem] gives givesUpon
set_option maxHeartbeats 2000000 in
theorem cond_any (c : TCond) (w : World) : Calls Tryz.prog 117 #[.agg #[.int .i64 c.f,.int .i64 c.op,.int .i64 c.v]] w fun e w'=>e = .returned (.int .i64 (condE c))∧Below w.heap.size w w':=by
 obtain ⟨f,op,v⟩:=c
 dsimp only
 by_cases h1 : f < 0 ∨ 5≤f
 ·have he : condE ⟨f,op,v⟩ = 5:=by unfold condE;rw [if_pos h1]
  rw [he];clear he
  rcases h1 with h1 | h1
  ·go_enter Tryz.func117,Tryz.ntmps117
   go_wp2
   go_ret
   exact ⟨rfl,bel_alloc (Below.refl _ _) _⟩
  ·have h0 : ¬ f < 0:=by omega
   go_enter Tryz.func117,Tryz.ntmps117
   go_wp2
   go_ret
   exact ⟨rfl,bel_alloc (Below.refl _ _) _⟩
 ·by_cases h2 : op < 1 ∨ 4 < op
  ·have he : condE ⟨f,op,v⟩ = 4:=by unfold condE;rw [if_neg h1,if_pos h2]
   rw [he];clear he
   have g0 : ¬ f < 0:=by omega
   have g1 : ¬ 5≤f:=by omega
   clear h1
   rcases h2 with h2 | h2
   ·go_enter Tryz.func117,Tryz.ntmps117
    go_wp2
    go_ret
    exact ⟨rfl,bel_alloc (Below.refl _ _) _⟩
   ·have h0 : ¬ op < 1:=by omega
    go_enter Tryz.func117,Tryz.ntmps117
    go_wp2
    go_ret
    exact ⟨rfl,bel_alloc (Below.refl _ _) _⟩
  ·have g0 : ¬ f < 0:=by omega
   have g1 : ¬ 5≤f:=by omega
   have g2 : ¬ op < 1:=by omega
   have g3 : ¬ 4 < op:=by omega
   have hc : ∀ W,Cls (w.heap.size + 1) (w.alloc (.cells #[.int .i64 f,.int .i64 op,.int .i64 v] 153)) W → ∀ j : Nat,W.cell? ⟨w.heap.size,j,none⟩ = (#[Value.int .i64 f,.int .i64 op,.int .i64 v] : Array Value)[j]?:=fun W hW j=>box_cells hW.2 j
   have Hc:=Lib.hid hc
   have He : Hid (condE ⟨f,op,v⟩ = if v < 0 ∨ mostOf f < v then 3 else 0):=by show condE _ = _;unfold condE;rw [if_neg h1,if_neg h2]
   clear hc h1 h2
   by_cases h3 : v < 0
   ·have hv : decide (v < 0) = true:=decide_eq_true h3
    rw [He.out,if_pos (.inl h3)]
    go_enter Tryz.func117,Tryz.ntmps117
    go_wp2_with fail
    refine wp_region_exact (w.heap.size + 1) (by simp) (by kernel_rfl) (by kernel_rfl) ?_
    repeat (refine monoE_step (fun K hK=>?_);apply Exists.intro;refine ⟨fun W hC R hR=>?_,?_⟩;(have hcell:=Hc.out W hC;go_simp;exact hR _ _ (Below.refl _ _) rfl);(go_simp;refine hK _ ?_;clear hK K))
    intro w2 hC2
    go_wp2
    go_ret
    exact ⟨rfl,bel_box hC2.2⟩
   ·have hv : decide (v < 0) = false:=decide_eq_false h3
    by_cases h4 : mostOf f < v
    ·have hv4 : decide (mostOf f < v) = true:=decide_eq_true h4
     rw [He.out,if_pos (.inr h4)]
     go_enter Tryz.func117,Tryz.ntmps117
     go_wp2_with fail
     refine wp_region_exact (w.heap.size + 1) (by simp) (by kernel_rfl) (by kernel_rfl) ?_
     repeat (refine monoE_step (fun K hK=>?_);apply Exists.intro;refine ⟨fun W hC R hR=>?_,?_⟩;(first
      | (have hcell:=Hc.out W hC;go_simp;refine hR _ _ (Below.refl _ _) rfl)
      | (go_simp;go_at_call 135;refine (most_any _ _).mono ?_;rintro e w1 ⟨rfl,rfl⟩;exact ⟨_,rfl,hR _ _ (Below.refl _ _) rfl⟩));(go_simp;refine hK _ ?_;clear hK K))
     intro w2 hC2
     go_wp2
     go_ret
     exact ⟨rfl,bel_box hC2.2⟩
    ·have hv4 : decide (mostOf f < v) = false:=decide_eq_false h4
     rw [He.out,if_neg (by omega)]
     go_enter Tryz.func117,Tryz.ntmps117
     go_wp2_with fail
     refine wp_region_exact (w.heap.size + 1) (by simp) (by kernel_rfl) (by kernel_rfl) ?_
     repeat (refine monoE_step (fun K hK=>?_);apply Exists.intro;refine ⟨fun W hC R hR=>?_,?_⟩;(first
      | (have hcell:=Hc.out W hC;go_simp;refine hR _ _ (Below.refl _ _) rfl)
      | (go_simp;go_at_call 135;refine (most_any _ _).mono ?_;rintro e w1 ⟨rfl,rfl⟩;exact ⟨_,rfl,hR _ _ (Below.refl _ _) rfl⟩));(go_simp;refine hK _ ?_;clear hK K))
     intro w2 hC2
     go_wp2
     go_ret
     exact ⟨rfl,bel_box hC2.2⟩
end Go.Proofs.YthkgjohhbdipcaaGreatDoor
namespace Go.Proofs.YthkgjohhbdipcaaGreatDoor
open Go.RowKit
set_option maxHeartbeats 4000000 in
theorem polcheck_any (v : Value) (p : TPol) (D : Nat → Prop) (w : World) (h : RdRules w D v p.rules) : Calls Tryz.prog 74 #[polV v p.dflt] w fun e w'=>e = .returned (.int .i64 (polE p))∧Below w.heap.size w w':=by
 obtain ⟨rs,d⟩:=p
 dsimp only at h ⊢
 obtain ⟨a,c,rfl,hlc,hcm,hat⟩:=Sl.form h
 have H:=Lib.hid h
 clear h
 by_cases h1 : 120 < rs.length
 ·have he : polE ⟨rs,d⟩ = 2:=by unfold polE;rw [if_pos h1]
  have hz : 120 < (rs.length : Int):=by omega
  rw [he];clear he h1 hat H
  go_enter Tryz.func74,Tryz.ntmps74
  go_wp2
  go_ret
  exact ⟨rfl,bel_alloc (Below.refl _ _) _⟩
 ·have hz : ¬ 120 < (rs.length : Int):=by omega
  by_cases h2 : d < 0 ∨ 4 < d
  ·have he : polE ⟨rs,d⟩ = 3:=by unfold polE;rw [if_neg h1,if_pos h2]
   rw [he];clear he hat H h1
   rcases h2 with h2 | h2
   ·go_enter Tryz.func74,Tryz.ntmps74
    go_wp2
    go_ret
    exact ⟨rfl,bel_alloc (Below.refl _ _) _⟩
   ·have h0 : ¬ d < 0:=by omega
    go_enter Tryz.func74,Tryz.ntmps74
    go_wp2
    go_ret
    exact ⟨rfl,bel_alloc (Below.refl _ _) _⟩
  ·have g0 : ¬ d < 0:=by omega
   have g1 : ¬ 4 < d:=by omega
   have He:=Lib.hid (show polE ⟨rs,d⟩ = rulesGo rs by unfold polE;rw [if_neg h1,if_neg h2])
   clear h1 h2
   go_enter Tryz.func74,Tryz.ntmps74
   go_wp2_with fail
   go_loopw [23] (fun i wr=>∃ k : Nat,k≤rs.length∧i = .int .i64 k∧rulesGo rs = rulesGo (rs.drop k)∧Below w.heap.size w wr) (fun i _=>rs.length - (intOf i).toNat)
   case atStart=>exact ⟨0,by omega,rfl,rfl,bel_alloc (Below.refl _ _) _⟩
   case round =>
    obtain ⟨k,hk,rfl,hgo,hbw⟩:=hrel
    have Hgo:=Lib.hid hgo
    have hsz:=hbw.size
    clear hgo
    by_cases hlt : k < rs.length
    ·obtain ⟨b,o,rfl,hDb,hb⟩:=hat (by omega)
     obtain ⟨a',c',k0,k1,hr,hlc',hcm',hat'⟩:=RdRules.cells (RdRules.below H.out hbw) hlt
     have Hr:=Lib.hid hr
     have bad : ∀ e : Int,ruleE rs[k] = e → e ≠ 0 → ∀ wz,Below w.heap.size w wz → Ending.returned (.int .i64 e) = .returned (.int .i64 (polE ⟨rs,d⟩))∧Below w.heap.size w wz:=fun e he h0 wz hz=>by
      refine ⟨ret_int ?_,hz⟩
      rw [He.out,Hgo.out,rulesGo_drop rs k hlt,he,if_neg h0]
     have good : ruleE rs[k] = 0 → rulesGo rs = rulesGo (rs.drop (k + 1)):=fun he=>by rw [Hgo.out,rulesGo_drop rs k hlt,if_pos he]
     have Hbad:=Lib.hid bad
     have Hgood:=Lib.hid good
     clear bad good hr
     generalize hX : rs[k] = X at *
     clear hX
     obtain ⟨cs,vd⟩:=X
     dsimp only at k0 k1 hlc' hat'
     have Hr' : Hid (RdConds wr D (.slice a' cs.length c') cs):=Hr
     clear Hr
     by_cases h3 : 10 < cs.length
     ·have Hb:=Lib.hid (Hbad.out 2 (by unfold ruleE;rw [if_pos h3]) (by decide))
      have hz3 : 10 < (cs.length : Int):=by omega
      clear Hbad Hgood hat' h3
      go_wp2
      go_ret
      exact Hb.out _ (bel_alloc hbw _)
     ·have hz3 : ¬ 10 < (cs.length : Int):=by omega
      by_cases h4 : vd < 0 ∨ 4 < vd
      ·have Hb:=Lib.hid (Hbad.out 3 (by unfold ruleE;rw [if_neg h3,if_pos h4]) (by decide))
       clear Hbad Hgood hat' h3
       rcases h4 with h4 | h4
       ·go_wp2
        go_ret
        exact Hb.out _ (bel_alloc hbw _)
       ·have h40 : ¬ vd < 0:=by omega
        go_wp2
        go_ret
        exact Hb.out _ (bel_alloc hbw _)
      ·have g3 : ¬ vd < 0:=by omega
       have g4 : ¬ 4 < vd:=by omega
       have Hre:=Lib.hid (show ruleE ⟨cs,vd⟩ = condsGo cs by unfold ruleE;rw [if_neg h3,if_neg h4])
       clear h3 h4
       go_wp2_with fail
       go_loopw [42] (fun i wi=>∃ j : Nat,j≤cs.length∧i = .int .i64 j∧condsGo cs = condsGo (cs.drop j)∧Below w.heap.size w wi∧Below wr.heap.size wr wi) (fun i _=>cs.length - (intOf i).toNat)
       case atStart=>exact ⟨0,by omega,rfl,rfl,bel_alloc hbw _,bel_alloc (Below.refl _ _) _⟩
       case round =>
        obtain ⟨j,hj,rfl,hgo,hbi,hbi'⟩:=hrel
        have Hgi:=Lib.hid hgo
        have hszi:=hbi.size
        clear hgo
        by_cases hlj : j < cs.length
        ·obtain ⟨b',o',rfl,hDb',hb'⟩:=hat' (by omega)
         obtain ⟨c0,c1,c2⟩:=RdConds.cells (RdConds.below Hr'.out hbi') hlj
         have Hd:=Lib.hid (condsGo_drop cs j hlj)
         go_wp2_with (go_at_call 117;refine (cond_any cs[j] _).mono ?_;rintro e w1 ⟨rfl,hb1⟩)
         ·rename_i ht
          have ht':=bne_iff_ne.1 ht
          go_ret
          exact Hbad.out _ (by rw [Hre.out,Hgi.out,Hd.out,if_neg ht']) ht' _ (bel_alloc_call hbi hb1)
         ·rename_i ht
          have ht':=bne_eq_false_iff_eq.1 ht
          go_roundw
          case rel=>exact ⟨j + 1,by omega,by go_num,by rw [Hgi.out,Hd.out,if_pos ht'],bel_alloc_call hbi hb1,bel_alloc_call hbi' hb1⟩
          case measure=>simp [intOf];omega
        ·obtain rfl : j = cs.length:=by omega
         have Hg:=Lib.hid (Hgood.out (by rw [Hre.out,Hgi.out,List.drop_length];rfl))
         go_wp2
         go_roundw
         case rel=>exact ⟨k + 1,by omega,by go_num,Hg.out,hbi⟩
         case measure=>simp [intOf];omega
    ·obtain rfl : k = rs.length:=by omega
     go_wp2
     go_ret
     exact ⟨ret_int (by rw [He.out,Hgo.out,List.drop_length];rfl),hbw⟩
end Go.Proofs.YthkgjohhbdipcaaGreatDoor
