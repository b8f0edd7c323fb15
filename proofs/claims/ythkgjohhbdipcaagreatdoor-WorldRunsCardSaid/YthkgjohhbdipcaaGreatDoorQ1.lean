/- Texts laid one behind the other: Shelf, Whole, Mono. No condition beyond theirs. -/
import Derived.Shelf.Strings.Builder1
import Derived.Shelf.Small.Utf8
import Derived.Shelf.Small.Bits
import Derived.Shelf.Small.Strs
import Derived.Shelf.Small.Wraps
import Derived.Shelf.Utf8.RuneCount
import Derived.Shelf.Strconv.Atoi
import Derived.Shelf.Strconv.Itoa0
import Derived.Shelf.Strconv.Itoa1
import Derived.Shelf.LaysM
import Derived.Shelf.Strconv.Itoa2
import Derived.Shelf.Strconv.Itoa3
import Derived.Shelf.Strconv.Itoa4
import Derived.Shelf.Strconv.AtoiErrFast
import Derived.Shelf.Strconv.ParseIntEmpty
import Derived.Shelf.Strconv.AtoiFail
import Derived.Shelf.Strconv.Clone
import Derived.Shelf.Strconv.SyntaxError
import Derived.Shelf.LaysC
import Derived.Shelf.Strconv.ToError
import Derived.Shelf.Strconv.Lower
import Derived.Shelf.Strconv.ParseUint10
import Derived.Shelf.Strconv.ParseUint10Empty
import Derived.Shelf.Strconv.ParseUint10Any
import Derived.Shelf.Strconv.ParseInt10
import Derived.Shelf.Strconv.AtoiLong
import Derived.Shelf.Strconv.AtoiInnerAll
import Derived.Shelf.Strconv.RangeError
import Derived.Shelf.Strconv.ToErrorRange
import Derived.Shelf.Strconv.AtoiAll
import Derived.Shelf.Strconv.ParseUintEmpty
import Derived.Shelf.Strconv.ParseUint10b64
import Derived.Shelf.Strconv.ParseUint10b32
import Derived.Shelf.Strconv.ParseUint10b16
import Derived.Shelf.Strconv.ParseUint10b8
import Derived.Shelf.Strconv.ParseUint10At
import Derived.Shelf.Strconv.ParseInt10At64
import Derived.Shelf.Strconv.ParseInt10At32
import Derived.Shelf.Strconv.ParseInt10At16
import Derived.Shelf.Strconv.ParseInt10At8
import Derived.Shelf.Strconv.ParseInt10All
import Derived.Shelf.Strconv.ParseIntPublic10
import Derived.Shelf.Strconv.ErrVarParseInt
import Derived.Shelf.Strings.Search1
import Derived.Shelf.Strings.Search2
import Derived.Shelf.Strings.Search3
import Derived.Shelf.Strings.Cut
import Derived.Shelf.Strings.Count
import Derived.Shelf.Strings.Shaped
import Derived.Shelf.Sort.Plain
import Derived.Shelf.Strings.Prefix
import Derived.Shelf.Strings.Split
import Derived.Shelf.Strings.Fields
import Derived.Shelf.Strings.SplitShaped
import Derived.Shelf.Unicode.Latin
import Derived.Shelf.Unicode.Decode
import Derived.Shelf.Strings.Runes
import Derived.Shelf.Strings.RuneCount
import Derived.Shelf.Strings.IndexAny
import Derived.Shelf.Strings.AsciiSet
import Derived.Shelf.Strings.IndexAnyAll
import Derived.Shelf.Strings.Explode
import Derived.Shelf.Unicode.DecodeSlow
import Derived.Shelf.Unicode.DecodeAny
import Derived.Shelf.Unicode.Is16White
import Derived.Shelf.Unicode.IsSpaceAny
import Derived.Shelf.Unicode.Is16Any
import Derived.Shelf.Unicode.Is32Any
import Derived.Shelf.Unicode.ExclAny
import Derived.Shelf.Slices.Turned
import Derived.Ground.Names2Prog
import Derived.Shelf.Slices.CompactI
import Derived.Shelf.Slices.SearchI
import Derived.Shelf.Slices.Cells
import Derived.Shelf.Slices.In.SortNone
import Derived.Test.YthkgjohhbdipcaaGreatDoorProg
import Derived.Lib.ParseIntB
import Derived.Lib.ItoaMem
import Derived.WalkKit
import Derived.Lib.Hide
set_option linter.all false
set_option maxHeartbeats 64000000
set_option maxRecDepth 100000
namespace Go.RowKit
theorem Hid.o{p:Prop}(h:Hid p):p:=h
end Go.RowKit
namespace Go.Proofs.YthkgjohhbdipcaaGreatDoor
open Go.RowKit
theorem Zh{p:Prop}(h:p):Hid p:=Lib.hid h
theorem Zbr{B:Nat}{w:World}:Below B w w:=Below.refl _ _
theorem Znl{n:Nat}:n≤n:=Nat.le_refl _
end Go.Proofs.YthkgjohhbdipcaaGreatDoor
namespace Go.Proofs
open Go.Shelf
theorem Zs{α:Type}{a:Option α}{b c:α}(h:a=some b)(h':b=c:=by kernel_rfl):a=some c:=h.trans (congrArg some h')
def Tryz.laysM173_ren:Go.Shelf.Ren:=⟨λ|173=>120|246=>140|283=>164|284=>165|285=>166|286=>167|129=>197|317=>196|318=>198|319=>199|320=>200|337=>220|338=>221|n=>n,λ|2=>2|3=>3|9=>9|4=>4|171=>199|0=>0|53=>200|37=>23|5=>5|173=>203|212=>242|51=>223|20=>20|213=>243|46=>208|232=>290|233=>291|n=>n,λ|17=>3|18=>8|19=>9|n=>n⟩
theorem Tryz.laysM173:Go.Proofs.LaysM.n173 prog Tryz.laysM173_ren:={ 
 mixed:=by kernel_rfl
 f129:=Zs func197
 f173:=Zs func120
 f246:=Zs func140
 f283:=Zs func164
 f284:=Zs func165
 f285:=Zs func166
 f286:=Zs func167
 f317:=Zs func196
 f318:=Zs func198
 f319:=Zs func199
 f320:=Zs func200
 f337:=Zs func220
 f338:=Zs func221
 t0:=underlying0
 a0:=Tryz.isAgg0
 z0:=Tryz.sizeOf0
 v0:=Tryz.zeroValue0
 t2:=underlying2
 a2:=Tryz.isAgg2
 z2:=Tryz.sizeOf2
 v2:=Tryz.zeroValue2
 t3:=underlying3
 a3:=Tryz.isAgg3
 z3:=Tryz.sizeOf3
 v3:=Tryz.zeroValue3
 t4:=underlying4
 a4:=Tryz.isAgg4
 z4:=Tryz.sizeOf4
 v4:=Tryz.zeroValue4
 t5:=underlying5
 a5:=Tryz.isAgg5
 z5:=Tryz.sizeOf5
 v5:=Tryz.zeroValue5
 t9:=underlying9
 a9:=Tryz.isAgg9
 z9:=Tryz.sizeOf9
 v9:=Tryz.zeroValue9
 t20:=underlying20
 a20:=Tryz.isAgg20
 z20:=Tryz.sizeOf20
 v20:=Tryz.zeroValue20
 t37:=underlying23
 a37:=Tryz.isAgg23
 z37:=Tryz.sizeOf23
 v37:=Tryz.zeroValue23
 t46:=underlying208
 a46:=Tryz.isAgg208
 z46:=Tryz.sizeOf208
 v46:=Tryz.zeroValue208
 t51:=underlying223
 a51:=Tryz.isAgg223
 z51:=Tryz.sizeOf223
 v51:=Tryz.zeroValue223
 t53:=underlying200
 a53:=Tryz.isAgg200
 z53:=Tryz.sizeOf200
 v53:=Tryz.zeroValue200
 t171:=underlying199
 a171:=Tryz.isAgg199
 z171:=Tryz.sizeOf199
 v171:=Tryz.zeroValue199
 t173:=underlying203
 a173:=Tryz.isAgg203
 z173:=Tryz.sizeOf203
 v173:=Tryz.zeroValue203
 t212:=underlying242
 a212:=Tryz.isAgg242
 z212:=Tryz.sizeOf242
 v212:=Tryz.zeroValue242
 t213:=underlying243
 a213:=Tryz.isAgg243
 z213:=Tryz.sizeOf243
 t232:=underlying290
 a232:=Tryz.isAgg290
 z232:=Tryz.sizeOf290
 v232:=Tryz.zeroValue290
 t233:=underlying291
 a233:=Tryz.isAgg291
 z233:=Tryz.sizeOf291
 v233:=Tryz.zeroValue291
 g17:=by kernel_rfl
 g18:=by kernel_rfl
 g19:=by kernel_rfl
 i0:=by kernel_rfl
 i2:=by kernel_rfl
 i3:=by kernel_rfl
 i4:=by kernel_rfl
 i5:=by kernel_rfl
 i9:=by kernel_rfl
 i20:=by kernel_rfl
 i37:=by kernel_rfl
 i46:=by kernel_rfl
 i51:=by kernel_rfl
 i53:=by kernel_rfl
 i171:=by kernel_rfl
 i173:=by kernel_rfl
 i212:=by kernel_rfl
 i232:=by kernel_rfl
 i233:=by kernel_rfl
 m17:=by kernel_rfl
 m18:=by kernel_rfl
 m19:=by kernel_rfl}
open Go.RowKit Go.Sort Go.Lib in
theorem Tryz.strconv_FormatInt_10(n:Int)(h0: -9223372036854775808<=n)(h1:n<=9223372036854775807)(w:World)(htab:Lib.TabIs prog w "internal/strconv.uint64pow10" .u64 Lib.pow10Tab):
  Calls prog 120 #[.int .i64 n,.int .i64 10] w λe w'=>e=.returned (.string ⟨(Lib.itoa n).toArray⟩)/\∃k os,w'=grow (w.drewN k) os:=Any.strconv_FormatInt_10 Tryz.laysM173 n h0 h1 w htab
def Tryz.laysC174_ren:Go.Shelf.Ren:=⟨λ|174=>119|247=>151|245=>144|287=>185|279=>173|280=>174|281=>175|282=>176|321=>210|322=>211|316=>203|171=>65|205=>204|243=>101|246=>140|283=>164|284=>165|285=>166|286=>167|129=>197|317=>196|318=>198|319=>199|320=>200|337=>220|338=>221|n=>n,λ|9=>9|3=>3|2=>2|75=>149|85=>165|4=>4|167=>209|5=>5|53=>200|175=>229|46=>208|168=>210|37=>23|0=>0|210=>249|21=>21|127=>184|145=>277|143=>275|171=>199|173=>203|212=>242|51=>223|20=>20|213=>243|232=>290|233=>291|80=>154|n=>n,λ|15=>4|16=>5|17=>3|18=>8|19=>9|n=>n⟩
theorem Tryz.laysC174:Go.Proofs.LaysC.n174 prog Tryz.laysC174_ren:={ Tryz.laysM173 with
 f171:=Zs func65
 f174:=Zs func119
 f205:=Zs func204
 f243:=Zs func101
 f245:=Zs func144
 f247:=Zs func151
 f279:=Zs func173
 f280:=Zs func174
 f281:=Zs func175
 f282:=Zs func176
 f287:=Zs func185
 f316:=Zs func203
 f321:=Zs func210
 f322:=Zs func211
 t21:=underlying21
 a21:=Tryz.isAgg21
 z21:=Tryz.sizeOf21
 v21:=Tryz.zeroValue21
 t75:=underlying149
 a75:=Tryz.isAgg149
 z75:=Tryz.sizeOf149
 v75:=Tryz.zeroValue149
 t85:=underlying165
 a85:=Tryz.isAgg165
 z85:=Tryz.sizeOf165
 v85:=Tryz.zeroValue165
 t127:=underlying184
 a127:=Tryz.isAgg184
 z127:=Tryz.sizeOf184
 v127:=Tryz.zeroValue184
 t143:=underlying275
 a143:=Tryz.isAgg275
 z143:=Tryz.sizeOf275
 v143:=Tryz.zeroValue275
 t145:=underlying277
 a145:=Tryz.isAgg277
 z145:=Tryz.sizeOf277
 v145:=Tryz.zeroValue277
 t167:=underlying209
 a167:=Tryz.isAgg209
 z167:=Tryz.sizeOf209
 v167:=Tryz.zeroValue209
 t168:=underlying210
 a168:=Tryz.isAgg210
 z168:=Tryz.sizeOf210
 v168:=Tryz.zeroValue210
 t175:=underlying229
 a175:=Tryz.isAgg229
 z175:=Tryz.sizeOf229
 v175:=Tryz.zeroValue229
 t210:=underlying249
 a210:=Tryz.isAgg249
 z210:=Tryz.sizeOf249
 v210:=Tryz.zeroValue249
 g15:=by kernel_rfl
 g16:=by kernel_rfl
 t80:=underlying154
 a80:=Tryz.isAgg154
 z80:=Tryz.sizeOf154
 v80:=Tryz.zeroValue154
 i21:=by kernel_rfl
 i75:=by kernel_rfl
 i80:=by kernel_rfl
 i85:=by kernel_rfl
 i127:=by kernel_rfl
 i143:=by kernel_rfl
 i145:=by kernel_rfl
 i167:=by kernel_rfl
 i168:=by kernel_rfl
 i175:=by kernel_rfl
 i210:=by kernel_rfl
 m15:=by kernel_rfl
 m16:=by kernel_rfl
 c0:=by kernel_rfl
 c2:=by kernel_rfl
 c3:=by kernel_rfl
 c4:=by kernel_rfl
 c5:=by kernel_rfl
 c9:=by kernel_rfl
 c20:=by kernel_rfl
 c21:=by kernel_rfl
 c37:=by kernel_rfl
 c46:=by kernel_rfl
 c51:=by kernel_rfl
 c53:=by kernel_rfl
 c75:=by kernel_rfl
 c80:=by kernel_rfl
 c85:=by kernel_rfl
 c127:=by kernel_rfl
 c143:=by kernel_rfl
 c145:=by kernel_rfl
 c167:=by kernel_rfl
 c168:=by kernel_rfl
 c171:=by kernel_rfl
 c173:=by kernel_rfl
 c175:=by kernel_rfl
 c210:=by kernel_rfl
 c212:=by kernel_rfl
 c213:=by kernel_rfl
 c232:=by kernel_rfl
 c233:=by kernel_rfl}
open Go.RowKit in
theorem Tryz.strconv_ParseInt_10_at64_ok(s:ByteArray)(hmax:s.size<=9223372036854775806)(v:Int)(h:Lib.parseIntB 64 s.data.toList=.ok v)(w:World):
  Calls prog 119 #[.string s,.int .i64 10,.int .i64 64] w λe w'=>e=.returned (.tuple #[.int .i64 v,.nilIface])/\(w'=w\/∃t,w'=Lib.bytesWorld w 5 t):=Any.strconv_ParseInt_10_at64_ok Tryz.laysC174 s hmax v h w
open Go.RowKit in
theorem Tryz.strconv_ParseInt_10_at64_range(s:ByteArray)(hlim:s.size<=281474976710656)(h:Lib.parseIntB 64 s.data.toList=.range)(ev:Value)(w:World)(hv:w.cell? ⟨5,0,none⟩=some ev)(hev:ev=.nilIface\/∃te pe,ev=.iface te pe):
  Calls prog 119 #[.string s,.int .i64 10,.int .i64 64] w λe w'=>∃N,e=.returned (.tuple #[.int .i64 (Lib.intSat 64 s.data.toList),.iface 210 (.pointer (some ⟨N,0,none⟩))])/\w.heap.size<=N/\w'.heap[N]?=some (.cells #[.string ⟨#[80,97,114,115,101,73,110,116]⟩,.string s,ev] 249 (0,0))/\Below w.heap.size w w':=Any.strconv_ParseInt_10_at64_range Tryz.laysC174 s hlim h ev w hv hev
def Tryz.lays145_ren:Go.Shelf.Ren:=⟨λ|145=>67|220=>107|219=>142|217=>169|225=>170|224=>171|267=>172|266=>201|314=>202|n=>n,λ|9=>9|4=>4|59=>105|3=>3|5=>5|46=>208|146=>245|51=>223|n=>n,λ|1=>1|n=>n⟩
theorem Tryz.lays145:Go.Proofs.Lays.n145 prog Tryz.lays145_ren:={ Tryz.laysM173 with
 f145:=Zs func67
 f217:=Zs func169
 f219:=Zs func142
 f220:=Zs func107
 f224:=Zs func171
 f225:=Zs func170
 f266:=Zs func201
 f267:=Zs func172
 f314:=Zs func202
 t59:=underlying105
 a59:=Tryz.isAgg105
 z59:=Tryz.sizeOf105
 v59:=Tryz.zeroValue105
 t146:=underlying245
 a146:=Tryz.isAgg245
 z146:=Tryz.sizeOf245
 v146:=Tryz.zeroValue245
 g1:=by kernel_rfl}
open Go.RowKit Go.Lib in
theorem Tryz.strings_Cut(s sep:ByteArray)(m:Int)(w:World)(hs:s.size<4294967281)(hm:w.cell? ⟨1,0,none⟩=some (.int .i64 m)):
  Calls prog 67 #[.string s,.string sep] w λe w'=>e=.returned (.tuple #[.string ⟨(Lib.cut s.data.toList sep.data.toList).1.toArray⟩,.string ⟨(Lib.cut s.data.toList sep.data.toList).2.1.toArray⟩,.bool (Lib.cut s.data.toList sep.data.toList).2.2])/\∃n,w'=w.drewN n:=Any.strings_Cut Tryz.lays145 s sep m w hs hm
def Tryz.lays146_ren:Go.Shelf.Ren:=⟨λ|146=>109|221=>118|268=>148|138=>149|143=>150|195=>182|197=>183|218=>184|219=>142|260=>209|217=>169|225=>170|224=>171|267=>172|266=>201|314=>202|n=>n,λ|9=>9|31=>101|3=>3|4=>4|0=>0|105=>227|21=>21|5=>5|46=>208|119=>187|139=>282|138=>281|146=>245|51=>223|n=>n,λ|1=>1|3=>6|4=>7|n=>n⟩
theorem Tryz.lays146:Go.Proofs.Lays.n146 prog Tryz.lays146_ren:={ Tryz.lays145 with
 f138:=Zs func149
 f143:=Zs func150
 f146:=Zs func109
 f195:=Zs func182
 f197:=Zs func183
 f218:=Zs func184
 f221:=Zs func118
 f260:=Zs func209
 f268:=Zs func148
 t0:=underlying0
 a0:=Tryz.isAgg0
 z0:=Tryz.sizeOf0
 v0:=Tryz.zeroValue0
 t21:=underlying21
 a21:=Tryz.isAgg21
 z21:=Tryz.sizeOf21
 v21:=Tryz.zeroValue21
 t31:=underlying101
 a31:=Tryz.isAgg101
 z31:=Tryz.sizeOf101
 v31:=Tryz.zeroValue101
 t105:=underlying227
 a105:=Tryz.isAgg227
 z105:=Tryz.sizeOf227
 v105:=Tryz.zeroValue227
 t119:=underlying187
 a119:=Tryz.isAgg187
 z119:=Tryz.sizeOf187
 t138:=underlying281
 a138:=Tryz.isAgg281
 z138:=Tryz.sizeOf281
 v138:=Tryz.zeroValue281
 t139:=underlying282
 a139:=Tryz.isAgg282
 z139:=Tryz.sizeOf282
 v139:=Tryz.zeroValue282
 g3:=by kernel_rfl
 g4:=by kernel_rfl}
open Go.RowKit Go.Lib in
theorem Tryz.strings_Split(s sep:ByteArray)(m:Int)(w:World)(hs:s.size<4294967281)(hm:w.cell? ⟨1,0,none⟩=some (.int .i64 m))(h1:1<=sep.size):
  Calls prog 109 #[.string s,.string sep] w λe w'=>
   e=.returned (.slice (some ⟨w.heap.size,0,none⟩) (Lib.countB s sep+1) (Lib.countB s sep+1))/\w'=w.alloc (.cells ((Lib.splitB sep 0 (Lib.countB s sep) s).map Value.string).toArray 9):=Any.strings_Split Tryz.lays146 (by kernel_rfl) s sep m w hs hm h1
end Go.Proofs
namespace Go.Proofs.YthkgjohhbdipcaaGreatDoor
open Tryz
def Ug(l:List UInt8):Int×Bool:=match Lib.parseIntB 64 l with
 |.ok v=>(v,Lib.itoa v==l)
 |.range=>(Lib.intSat 64 l,false)
 |_=>(0,false)
theorem Qbz{l:List UInt8}{v:Int}(h:Lib.parseIntB 64 l=.ok v): -9223372036854775808<=v/\v<=9223372036854775807:=by
 unfold Lib.parseIntB at h;split at h
 .cases h
 rename_i c r;dsimp only at h;split at h
 .cases h
 .cases h
 rename_i u _;split at h
 .cases h
 rename_i h1;split at h
 .cases h
 rename_i h2;injection h with h;subst h;simp only[Nat.reducePow,Nat.reduceSub]at h1 h2;split<;>rename_i hn<;>simp[hn]at h1 h2<;>omega
def valOf(acc:Nat)(l:List UInt8):Nat:=l.foldl (λa c=>a*10+(c.toNat-48)) acc
theorem QeA:∀(l:List UInt8)(acc:Nat),acc<=valOf acc l
 |[],_=>Nat.le_refl _
 |c::r,acc=>by
  have:=QeA r (acc*10+(c.toNat-48));show acc<=valOf (acc*10+(c.toNat-48)) r;omega
theorem Qcx:∀(l:List UInt8)(acc:Nat),(∀c∈l,48<=c.toNat/\c.toNat<=57)->valOf acc l<=65535->Lib.parseUintM (2 ^ 64-1) acc l=.ok (valOf acc l)
 |[],_,_,_=>rfl
 |c::r,acc,hd,hv=>by
  have hc:=hd c (List.mem_cons_self ..);have h1:acc*10+(c.toNat-48)<=65535:=Nat.le_trans (QeA r _) hv;unfold Lib.parseUintM;rw[if_pos hc,if_neg (by omega),if_neg (by omega)];exact Qcx r _ (λx hx=>hd x (List.mem_cons_of_mem _ hx)) hv
theorem Zg{d:Nat}(h:d<10):(UInt8.ofNat (48+d)).toNat=48+d:=by
 rw[UInt8.toNat_ofNat'];omega
theorem OA:∀(n u:Nat),u<=n->(∀c∈Lib.decDigits u,48<=c.toNat/\c.toNat<=57)/\valOf 0 (Lib.decDigits u)=u/\Lib.decDigits u≠[]
 |0,u,h=>by
  obtain rfl:u=0:=by omega
  rw[Lib.decDigits_one (by omega)];refine⟨λc hc=>?_,by simp[valOf],by simp⟩;simp only[List.mem_singleton]at hc;subst hc;rw[Zg (by omega)];omega
 |n+1,u,h=>by
  by_cases hu:u<10
  .rw[Lib.decDigits_one hu];refine⟨λc hc=>?_,?_,by simp⟩
   .simp only[List.mem_singleton]at hc;subst hc;rw[Zg hu];omega
   simp only[valOf,List.foldl_cons,List.foldl_nil];rw[Zg hu];omega
  obtain⟨h1,h2,h3⟩:=OA n (u / 10) (by omega);rw[Lib.decDigits,dif_neg hu];refine⟨λc hc=>?_,?_,by simp⟩
  .rcases List.mem_append.1 hc with hc|hc
   .exact h1 c hc
   simp only[List.mem_singleton]at hc;subst hc;rw[Zg (by omega)];omega
  unfold valOf at h2⊢;rw[List.foldl_append,h2];simp only[List.foldl_cons,List.foldl_nil];rw[Zg (by omega)];omega
theorem EH{v:Int}(h0:0<=v):(∀c∈Lib.itoa v,48<=c.toNat/\c.toNat<=57)/\Lib.itoa v≠[]:=by
 unfold Lib.itoa;rw[if_neg (by omega)];have:=OA v.toNat v.toNat Znl;exact⟨this.1,this.2.2⟩
theorem Qfd{v:Int}(h0:0<=v)(h1:v<=65535):Lib.parseIntB 64 (Lib.itoa v)=.ok v:=by
 obtain⟨n,rfl⟩:=Int.eq_ofNat_of_zero_le h0;rw[Lib.itoa_nonneg];obtain⟨hd,hv,hne⟩:=OA n n Znl;have hp:=Qcx (Lib.decDigits n) 0 hd (by rw[hv];omega);rw[hv]at hp
 cases hl:Lib.decDigits n with
 |nil=>exact absurd hl hne
 |cons c r=>
  rw[hl]at hd hp;have hc:=hd c (List.mem_cons_self ..);have hs:¬(c.toNat=43\/c.toNat=45):=by omega
  have hn:¬c.toNat=45:=by omega
  unfold Lib.parseIntB;dsimp only;rw[if_neg hs]
  have hu:Lib.parseUintB 64 (c::r)=.ok n:=by
   unfold Lib.parseUintB;rw[if_neg (by simp)];exact hp
  rw[hu];simp only[hn,not_false_eq_true,true_and,false_and,if_false];rw[if_neg (by simp only[Nat.reducePow,Nat.reduceSub];omega)]
theorem O4{v:Int}(h0:0<=v)(h1:v<=65535):Ug (Lib.itoa v)=(v,true):=by
 unfold Ug;rw[Qfd h0 h1];simp
theorem Zu{l:List UInt8}(h:(Ug l).2=true):l=Lib.itoa (Ug l).1:=by
 unfold Ug at h⊢;split at h
 .exact(beq_iff_eq.1 h).symm
 .cases h
 cases h
section
open Go.RowKit
def QG(P:Program)(R:Value->World->Prop):Result Next->Prop
 |.ok (.value v) w'=>R v w'
 |.ok .skip w'=>R undef w'
 |.ok (.enter f args) w'=>Calls P f args w' λe w''=>∃v,e=.returned v/\R v w''
 |_=>False
def gives(P:Program)(o:Oper)(a:Act)(w:World)(R:Value->World->Prop):Prop:=QG P R ((execOp a.eval o).run P w)
structure Spec where
 exact?:Option Value
 pred:Value->World->Prop
@[reducible] def ex(x:Value):Spec:=⟨some x,λv _=>v=x⟩
@[reducible] def pr(p:Value->World->Prop):Spec:=⟨none,p⟩
def Spec.holds(s:Spec)(v:Value)(w:World):Prop:=match s.exact? with
 |some x=>v=x
 |none=>s.pred v w
def Spec.fact(s:Spec)(v:Value)(w:World):Prop:=match s.exact? with
 |some _=>True
 |none=>s.pred v w
def Jt(o:Oper)(fs:List (World->Prop))(w:World):Prop:=∀k:Nat,k∈o.after.toList.map (λe=>e.on)->(fs.getD k (λ_:World=>True)) w
def Qh0(P:Program)(ops:Array Oper)(C:World->Prop)(T:World->World->Prop)(s:Spec)(o:Oper)(a:Act)(fs:List (World->Prop)):Prop:=
 ∀w,C w->Jt o fs w->∀R:Value->World->Prop,(∀v w',T w w'->s.holds v w'->R v w') ->
  if Region.wanted o (yielded ops a.tmps)then gives P o a w R else R undef w
def YS(P:Program)(ops:Array Oper)(C:World->Prop)(T:Nat->World->World->Prop)(Q:Act->World->Prop):
  List Oper->List Spec->Nat->Act->List (World->Prop)->(World->Prop)->Prop
 |[],_,_,a,_,F=>∀w:World,C w->F w->Q a w
 |_::_,[],_,_,_,_=>False
 |o::l,s::ss,i,a,fs,F=>Qh0 P ops C (T i) s o a fs /\
   match s.exact? with
   |some x=>YS P ops C T Q l ss (i+1) (a.put o.dst x) (fs++[λ_:World=>True]) F
   |none=>∀v:Value,YS P ops C T Q l ss (i+1) (a.put o.dst v) (fs++[s.pred v]) (λw:World=>F w/\s.pred v w)
def Ut(vals:Nat->Value):List Oper->Nat->Act->Act
 |[],_,a=>a
 |o::l,i,a=>Ut vals l (i+1) (a.put o.dst (vals i))
def QaR(vals:Nat->Value):List Spec->Nat->Prop
 |[],_=>True
 |s::ss,i=>(∀x,s.exact?=some x->vals i=x)/\QaR vals ss (i+1)
def Jn(vals:Nat->Value):List Spec->Nat->World->Prop
 |[],_,_=>True
 |s::ss,i,w=>s.fact (vals i) w/\Jn vals ss (i+1) w
def XK(vals:Nat->Value):List Spec->Nat->List (World->Prop)
 |[],_=>[]
 |s::ss,i=>(s.fact (vals i))::XK vals ss (i+1)
theorem Qef{P:Program}{ops:Array Oper}{C:World->Prop}{T:Nat->World->World->Prop}{Q:Act->World->Prop}(vals:Nat->Value):
  ∀(l:List Oper)(ss:List Spec)(i:Nat)(a:Act)(fs:List (World->Prop))(F:World->Prop),QaR vals ss i->YS P ops C T Q l ss i a fs F ->
   (∀j o s,l[j]?=some o->ss[j]?=some s->Qh0 P ops C (T (i+j)) s o (Ut vals (l.take j) i a) (fs++XK vals (ss.take j) i)) /\
   (∀w,C w->F w->Jn vals (ss.take l.length) i w->Q (Ut vals l i a) w)/\l.length<=ss.length:=by
 intro l
 induction l with
 |nil=>intro ss i a fs F _ h;exact⟨λj o s hj _=>by simp at hj,λw hC hF _=>h w hC hF,by simp⟩
 |cons o l ih=>
  intro ss i a fs F hv h
  cases ss with
  |nil=>exact h.elim
  |cons s ss=>
   obtain⟨hx,hv'⟩:=hv;obtain⟨hob,hrest⟩:=h
   have key:∃F':World->Prop,YS P ops C T Q l ss (i+1) (a.put o.dst (vals i)) (fs++[s.fact (vals i)]) F'/\∀w,F w->s.fact (vals i) w->F' w:=by
    unfold Spec.fact
    cases he:s.exact? with
    |some x=>
     rw[he]at hrest;rw[hx x he];exact⟨F,hrest,λw h _=>h⟩
    |none=>
     rw[he]at hrest;exact⟨_,hrest (vals i),λw h h'=>⟨h,h'⟩⟩
   obtain⟨F',hk,hF'⟩:=key;obtain⟨h1,h2,h3⟩:=ih ss (i+1) _ _ F' hv' hk;refine⟨λj o' s' hj hs=>?_,λw hC hF hall=>?_,by simp;omega⟩
   .cases j with
    |zero=>
     simp only[List.getElem?_cons_zero,Option.some.injEq]at hj hs;subst hj hs;simpa[Ut,XK]using hob
    |succ j=>
     have:=h1 j o' s' (by simpa using hj) (by simpa using hs);simpa[Ut,XK,List.append_assoc,Nat.add_comm,Nat.add_left_comm,Nat.add_assoc]using this
   simp only[List.length_cons,List.take_succ_cons,Jn]at hall;exact h2 w hC (hF' w hF hall.1) hall.2
theorem ZC(vals:Nat->Value):∀(l:List Oper)(k:Nat)(a:Act),(Ut vals l k a).tmps.size=a.tmps.size/\(Ut vals l k a).defers=a.defers
 |[],_,_=>⟨rfl,rfl⟩
 |o::l,k,a=>by
  have h:=ZC vals l (k+1) (a.put o.dst (vals k));simp only[Ut];rw[h.1,h.2];cases o.dst<;>simp[Act.put]
theorem VL{a:Act}{dst:Option Tmp}{v:Value}{t:Nat}(h:dst≠some t):(a.put dst v).tmps[t]?=a.tmps[t]?:=by
 cases dst with
 |none=>rfl
 |some d=>
  have hne:d≠t:=λe=>h (by rw[e]);simp[Act.put,Array.getElem?_setIfInBounds_ne hne]
theorem YV{a:Act}{t:Nat}{v:Value}(h:t<a.tmps.size):(a.put (some t) v).tmps[t]?=some v:=by
 simp[Act.put,h]
theorem Va(vals:Nat->Value){t:Nat}:∀(l:List Oper)(k:Nat)(a:Act),(∀o∈l,o.dst≠some t)->(Ut vals l k a).tmps[t]?=a.tmps[t]?
 |[],_,_,_=>rfl
 |o::l,k,a,h=>by
  simp only[Ut];rw[Va vals l (k+1) _ (λo' ho=>h o' (List.mem_cons_of_mem _ ho)),VL (h o (List.mem_cons_self ..))]
theorem Xu(vals:Nat->Value){t:Nat}:∀(l:List Oper)(k:Nat)(a:Act)(j:Nat)(o:Oper),l[j]?=some o->o.dst=some t->(∀(j':Nat)(o':Oper),l[j']?=some o'->j'≠j->o'.dst≠some t)->t<a.tmps.size ->
  (Ut vals l k a).tmps[t]?=some (vals (k+j))
 |[],_,_,_,_,hj,_,_,_=>by simp at hj
 |o::l,k,a,j,o',hj,hd,hu,hlt=>by
  have hsz:(a.put o.dst (vals k)).tmps.size=a.tmps.size:=by cases o.dst<;>simp[Act.put]
  simp only[Ut]
  cases j with
  |zero=>
   simp only[List.getElem?_cons_zero,Option.some.injEq]at hj;subst hj;rw[Va vals l (k+1) _ (λo' ho=>?_),hd,YV hlt]
   .rfl
   obtain⟨i,hi⟩:=List.getElem?_of_mem ho;exact hu (i+1) o' (by simpa using hi) (by omega)
  |succ j=>
   rw[Xu vals l (k+1) _ j o' (by simpa using hj) hd (λj' o'' h1 h2=>hu (j'+1) o'' (by simpa using h1) (by omega)) (by rw[hsz];exact hlt)];congr 2;omega
def Qgi(l:List Oper)(size:Nat):Bool:=
 (l.zipIdx.all λ(o,i)=>
  (match o.op with|.select ..=>false|_=>true) &&
  o.after.toList.all (λe=>decide (e.on<i)&&Region.binds .any e) &&
  (o.looksAt l.toArray).all (λs=>l.zipIdx.all λ(o',j)=>o'.dst != some s || (decide (j<i)&&(o.after.toList.map (·.on)).contains j)) &&
  (match o.dst with|some d=>decide (d<size)&&l.zipIdx.all (λ(o',j)=>j==i || o'.dst != some d)|none=>true))
theorem Qe2{l:List Oper}{size:Nat}(h:Qgi l size=true){i:Nat}{o:Oper}(hi:l[i]?=some o):
  (∀cs b,o.op ≠ .select cs b)/\(∀e∈o.after,e.on<i/\Region.binds .any e=true) /\
  (∀s∈o.looksAt l.toArray,∀(j:Nat)(o':Oper),l[j]?=some o'->o'.dst=some s->j<i/\∃e∈o.after,e.on=j) /\
  (∀d,o.dst=some d->d<size/\∀(j:Nat)(o':Oper),l[j]?=some o'->j≠i->o'.dst≠some d):=by
 have hz:∀{j:Nat} {o':Oper},l[j]?=some o'->(o',j)∈l.zipIdx:=λ{j o'} hj=>by
  rw[List.mem_zipIdx_iff_getElem?];exact hj
 have h1:=List.all_eq_true.1 h _ (hz hi);simp only[Bool.and_eq_true]at h1;obtain⟨⟨⟨ha,hb⟩,hc⟩,hd⟩:=h1;refine⟨λcs b e=>?_,λe he=>?_,λs hs j o' hj hds=>?_,λd hd'=>?_⟩
 .rw[e]at ha;simp at ha
 .have:=List.all_eq_true.1 hb e (by simpa using he);simpa using this
 .have h2:=List.all_eq_true.1 (List.all_eq_true.1 hc s hs) _ (hz hj);simp[hds]at h2;exact⟨h2.1,h2.2⟩
 simp only[hd',Bool.and_eq_true,decide_eq_true_eq]at hd;refine⟨hd.1,λj o' hj hne e=>?_⟩;have:=List.all_eq_true.1 hd.2 _ (hz hj);simp[hne,e]at this
structure Qc7(l:List Oper)(ss:List Spec)(C:World->Prop)(a:Act)(vf:Nat->Value)(listed:Array Bool)(a':Act)(w':World):Prop where
 cls:C w'
 lsize:listed.size=l.length
 defers:a'.defers=a.defers
 size:a'.tmps.size=a.tmps.size
 dn:∀(j:Nat)(o:Oper)(s:Spec),l[j]?=some o->ss[j]?=some s->listed[j]?=some true->s.holds (vf j) w'/\∀d,o.dst=some d->a'.tmps[d]?=some (vf j)
 rest:∀t,(∀(j:Nat)(o:Oper),l[j]?=some o->listed[j]?=some true->o.dst≠some t)->a'.tmps[t]?=a.tmps[t]?
def undone(listed:Array Bool)(n:Nat):List Nat:=(List.range n).filter λi=>listed[i]? != some true
theorem O0{listed:Array Bool}{n i:Nat}(hi:i<n)(hn:n<=listed.size)(h:listed[i]?≠some true):(undone (listed.setIfInBounds i true) n).length<(undone listed n).length:=by
 have e:undone (listed.setIfInBounds i true) n=(undone listed n).filter (λj=>j != i):=by
  unfold undone;rw[List.filter_filter];apply List.filter_congr;intro j hj;have hj':=List.mem_range.1 hj;by_cases e:j=i
  .subst e;rw[Array.getElem?_setIfInBounds_self_of_lt (by omega)];simp
  rw[Array.getElem?_setIfInBounds_ne (Ne.symm e)];simp[e]
 rw[e,List.length_filter_lt_length_iff_exists];exact⟨i,by simp[undone,hi,h],by simp⟩
def Ur(ss:List Spec)(listed:Array Bool)(vf:Nat->Value)(j:Nat):Value:=
 if listed[j]?=some true then vf j else match ss[j]? with
  |some s=>s.exact?.getD undef
  |none=>undef
theorem ET{vals:Nat->Value}:∀(ss:List Spec)(i:Nat),(∀(j:Nat)(s:Spec)(x:Value),ss[j]?=some s->s.exact?=some x->vals (i+j)=x)->QaR vals ss i
 |[],_,_=>trivial
 |s::ss,i,h=>⟨λx hx=>h 0 s x rfl hx,ET ss (i+1) (λj s' x hj hx=>by
   have:=h (j+1) s' x (by simpa using hj) hx
   rwa [show i+1+j=i+(j+1) by omega])⟩
theorem JX{vals:Nat->Value}{w:World}:∀(ss:List Spec)(i:Nat),(∀(j:Nat)(s:Spec),ss[j]?=some s->s.fact (vals (i+j)) w)->Jn vals ss i w
 |[],_,_=>trivial
 |s::ss,i,h=>⟨h 0 s rfl,JX ss (i+1) (λj s' hj=>by
   have:=h (j+1) s' (by simpa using hj)
   rwa [show i+1+j=i+(j+1) by omega])⟩
theorem Z7{vals:Nat->Value}:∀(ss:List Spec)(i k:Nat)(s:Spec),ss[k]?=some s->(XK vals ss i)[k]?=some (s.fact (vals (i+k)))
 |[],_,_,_,h=>by simp at h
 |s::ss,i,0,s',h=>by simp at h;subst h;rfl
 |s::ss,i,k+1,s',h=>by
  have:=Z7 (vals:=vals) ss (i+1) k s' (by simpa using h);simp only[XK,List.getElem?_cons_succ,this];congr 3;omega
theorem Spec.fact_of_holds{s:Spec}{v:Value}{w:World}(h:s.holds v w):s.fact v w:=by
 unfold Spec.holds at h;unfold Spec.fact;split<;>simp_all
theorem Gs{P:Program}{o:Oper}{a:Act}{w:World}{K:Act->World->Prop}{Q:Exit->Act->World->Prop}{R:Value->World->Prop}(h:gives P o a w R)(hk:∀v w',R v w'->K (a.put o.dst v) w'):o.wp P a w K Q:=by
 unfold gives at h;unfold Oper.wp;generalize(execOp a.eval o).run P w=r at *
 cases r with
 |halt x w'=>simp[QG]at h
 |ok n w'=>
  cases n<;>simp only[QG]at h<;>simp only[Oper.upon]
  case value u=>exact hk _ _ h
  case skip=>exact hk _ _ h
  case enter f args=>
   exact h.mono λe w'' ⟨v,he,hr⟩=>by subst he;exact hk _ _ hr
section
variable{P:Program}{l:List Oper}{C:World->Prop}{T:Nat->World->World->Prop}{Q:Exit->Act->World->Prop}{a:Act}{ss:List Spec}
theorem QfE(hB:Qgi l a.tmps.size=true)(hCT:∀i w w',C w->T i w w'->C w')
  (hst:∀(i k:Nat)(s:Spec),i≠k->ss[k]?=some s->∀v w w',C w->C w'->T i w w'->s.fact v w->s.fact v w')
  (h:YS P l.toArray C T (Q .normal) l ss 0 a [] (λ_=>True)):
  ∀(fuel:Nat)(listed:Array Bool)(vf:Nat->Value)(a':Act)(w':World),(undone listed l.length).length<=fuel->Qc7 l ss C a vf listed a' w'->wpAny P .any l.toArray Q fuel listed a' w':=by
 have hS:=λ{i:Nat} {o:Oper} (hi:l[i]?=some o)=>Qe2 hB hi
 -- the values as far as they are there
 have hok:∀(listed:Array Bool)(vf:Nat->Value)(a':Act)(w':World),Qc7 l ss C a vf listed a' w'->QaR (Ur ss listed vf) ss 0:=by
  intro listed vf a' w' hI;refine ET ss 0 λj s x hj hx=>?_;rw[Nat.zero_add];unfold Ur;split
  .rename_i hl
   have hlt:j<l.length:=by
    have:=(Array.getElem?_eq_some_iff.1 hl).1;rw[hI.lsize]at this;exact this
   have:=(hI.dn j l[j] s (List.getElem?_eq_getElem hlt) hj hl).1;unfold Spec.holds at this;rw[hx]at this;exact this
  rw[hj];simp[hx]
 have hfill:∀(listed:Array Bool)(vf:Nat->Value)(j:Nat),listed[j]?=some true->Ur ss listed vf j=vf j:=λlisted vf j hl=>by unfold Ur;rw[if_pos hl]
 have fin:∀(listed:Array Bool)(vf:Nat->Value)(a':Act)(w':World),(∀j,j<l.length->listed[j]?=some true)->Qc7 l ss C a vf listed a' w'->Q .normal a' w':=by
  intro listed vf a' w' hall hI;obtain⟨_,h2,h3⟩:=Qef (Ur ss listed vf) l ss 0 a [] _ (hok listed vf a' w' hI) h
  have hq:=h2 w' hI.cls trivial (JX _ 0 λj s hj=>by
   rw[Nat.zero_add]
   have hjl:j<l.length:=by
    have:=(List.getElem?_eq_some_iff.1 hj).1;simp at this;omega
   have hj':ss[j]?=some s:=by rw[List.getElem?_take_of_lt hjl]at hj;exact hj
   rw[hfill _ _ _ (hall j hjl)];exact Spec.fact_of_holds (hI.dn j l[j] s (List.getElem?_eq_getElem hjl) hj' (hall j hjl)).1)
  have ea:a'=Ut (Ur ss listed vf) l 0 a:=by
   obtain⟨hz,hd⟩:=ZC (Ur ss listed vf) l 0 a
   have ht:a'.tmps=(Ut (Ur ss listed vf) l 0 a).tmps:=by
    apply Array.ext_getElem?;intro t;by_cases hex:∃(j:Nat)(o:Oper),l[j]?=some o/\o.dst=some t
    .obtain⟨j,o,hj,hdt⟩:=hex;have hjl:=(List.getElem?_eq_some_iff.1 hj).1;obtain⟨hlt,huniq⟩:=(hS hj).2.2.2 t hdt;rw[Xu _ l 0 a j o hj hdt huniq hlt,Nat.zero_add,hfill _ _ _ (hall j hjl)];have hjs:ss[j]?=some ss[j]:=List.getElem?_eq_getElem (by omega);exact(hI.dn j o _ hj hjs (hall j hjl)).2 t hdt
    have hn:∀(j:Nat)(o:Oper),l[j]?=some o->o.dst≠some t:=λj o hj e=>hex ⟨j,o,hj,e⟩;rw[Va _ l 0 a (λo ho=>by obtain⟨j,hj⟩:=List.getElem?_of_mem ho;exact hn j o hj)];exact hI.rest t (λj o hj _=>hn j o hj)
   cases a';cases hx:Ut (Ur ss listed vf) l 0 a
   rw[hx]at ht hd;have:=hI.defers
   simp_all
  rw[ea];exact hq
 have allIf:∀(listed:Array Bool),listed.size=l.length->Region.ready .any l.toArray listed=[]->∀j,j<l.length->listed[j]?=some true:=by
  intro listed hsz hr j
  induction j using Nat.strongRecOn with
  |ind j ih=>
   intro hj;have hsome:listed[j]?=some listed[j]:=Array.getElem?_eq_getElem (by omega)
   cases hb:listed[j]with
   |true=>rw[hsome,hb]
   |false=>
    have:j∈Region.ready .any l.toArray listed:=by
     rw[mem_ready];refine⟨by simp[Array.getD_eq_getD_getElem?,hsome,hb],l[j],by simp[hj],λe he _=>?_⟩;have h1:=((hS (List.getElem?_eq_getElem hj)).2.1 e he).1;have h2:=ih e.on h1 (by omega);simp[Array.getD_eq_getD_getElem?,h2]
    rw[hr]at this;cases this
 intro fuel
 induction fuel with
 |zero=>
  intro listed vf a' w' hf hI
  have hall:∀j,j<l.length->listed[j]?=some true:=by
   intro j hj;have h0:undone listed l.length=[]:=List.eq_nil_of_length_eq_zero (by omega);unfold undone at h0;rw[List.filter_eq_nil_iff]at h0;simpa using h0 j (List.mem_range.2 hj)
  refine⟨?_,fin _ _ _ _ hall hI⟩;rw[List.eq_nil_iff_forall_not_mem];intro j hj;obtain⟨h0,o,ho,_⟩:=mem_ready.1 hj
  have hj':j<l.length:=by
   have:=(Array.getElem?_eq_some_iff.1 ho).1;simpa using this
  simp[Array.getD_eq_getD_getElem?,hall j hj']at h0
 |succ fuel ih=>
  intro listed vf a' w' hf hI;refine⟨λhr=>fin _ _ _ _ (allIf listed hI.lsize hr) hI,λi hi=>?_⟩;obtain⟨h0,o,ho,hdep⟩:=mem_ready.1 hi;have hil:l[i]?=some o:=by simpa using ho
  have hilt:i<l.length:=(List.getElem?_eq_some_iff.1 hil).1;have hnl:listed[i]?≠some true:=λe=>by simp[Array.getD_eq_getD_getElem?,e]at h0
  obtain⟨hsel,hafter,hlooks,hdst⟩:=hS hil
  have hdone:∀e∈o.after,listed[e.on]?=some true:=λe he=>by
   have:=hdep e he (hafter e he).2;rw[Array.getD_eq_getD_getElem?]at this
   cases hx:listed[e.on]? with
   |none=>simp[hx]at this
   |some b=>simp[hx]at this;rw[this]
  obtain⟨h1,_,h3⟩:=Qef (Ur ss listed vf) l ss 0 a [] _ (hok listed vf a' w' hI) h;have hsi:ss[i]?=some ss[i]:=List.getElem?_eq_getElem (by omega);have hob:=h1 i o ss[i] hil hsi;rw[Nat.zero_add,List.nil_append]at hob
  -- the lexical act looks alike to this operation
  have hsame:∀t∈o.looksAt l.toArray,(Ut (Ur ss listed vf) (l.take i) 0 a).tmps[t]?=a'.tmps[t]?:=by
   intro t ht;by_cases hex:∃(j:Nat)(o':Oper),l[j]?=some o'/\o'.dst=some t
   .obtain⟨j,o',hj,hdt⟩:=hex;obtain⟨hji,e,he,hej⟩:=hlooks t ht j o' hj hdt;have hlj:listed[j]?=some true:=hej▸hdone e he;obtain⟨hlt,huniq⟩:=(hS hj).2.2.2 t hdt;have hjs:ss[j]?=some ss[j]:=List.getElem?_eq_getElem (by omega)
    rw[Xu _ (l.take i) 0 a j o' (by rw[List.getElem?_take_of_lt hji];exact hj) hdt (λj' o'' hj' hne=>huniq j' o'' (by
     have hlt':j'<i:=by
      have:=(List.getElem?_eq_some_iff.1 hj').1;simp at this;omega
     rw[List.getElem?_take_of_lt hlt']at hj';exact hj') hne) hlt,Nat.zero_add,hfill _ _ _ hlj]
    exact((hI.dn j o' _ hj hjs hlj).2 t hdt).symm
   have hn:∀(j:Nat)(o:Oper),l[j]?=some o->o.dst≠some t:=λj o hj e=>hex ⟨j,o,hj,e⟩;rw[Va _ (l.take i) 0 a (λo' ho'=>by obtain⟨j,hj⟩:=List.getElem?_of_mem (List.mem_of_mem_take ho');exact hn j o' hj)];exact(hI.rest t (λj o hj _=>hn j o hj)).symm
  have hexec:execOp (Ut (Ur ss listed vf) (l.take i) 0 a).eval o=execOp a'.eval o:=by
   refine execOp_congr o hsel λx hx=>?_
   cases x with
   |tmp t=>
    have:=hsame t (List.mem_append_left _ (List.mem_filterMap.2 ⟨.tmp t,by simpa using hx,rfl⟩));simp[Act.eval,Array.getD_eq_getD_getElem?,this]
   |_=>rfl
  have hwant:Region.wanted o (yielded l.toArray (Ut (Ur ss listed vf) (l.take i) 0 a).tmps)=Region.wanted o (yielded l.toArray a'.tmps):=by
   unfold Region.wanted
   cases hg:o.guard with
   |none=>rfl
   |some gw=>
    obtain⟨g,want⟩:=gw
    have hy:yielded l.toArray (Ut (Ur ss listed vf) (l.take i) 0 a).tmps g=yielded l.toArray a'.tmps g:=by
     unfold yielded
     cases ht:(l.toArray[g]?).bind (·.dst)with
     |none=>rfl
     |some t=>
      have:=hsame t (by simp only[Oper.looksAt,hg,ht];simp);simp only[Option.bind_some,this]
    simp only[hy]
  have hfacts:Jt o ([]++XK (Ur ss listed vf) (ss.take i) 0) w':=by
   intro k hk;rw[List.nil_append];obtain⟨e,he,rfl⟩:=List.mem_map.1 hk;have he':e∈o.after:=by simpa using he
   have hlt:=(hafter e he').1;have hlk:=hdone e he';have hks:ss[e.on]?=some ss[e.on]:=List.getElem?_eq_getElem (by omega);rw[List.getD_eq_getElem?_getD,Z7 (ss.take i) 0 e.on ss[e.on] (by rw[List.getElem?_take_of_lt hlt];exact hks),Nat.zero_add,hfill _ _ _ hlk];exact Spec.fact_of_holds (hI.dn e.on l[e.on] _ (List.getElem?_eq_getElem (by omega)) hks hlk).1
  rw[List.nil_append]at hfacts;have hres:=hob w' hI.cls hfacts (λv w''=>T i w' w''/\ss[i].holds v w'') (λv w'' h1 h2=>⟨h1,h2⟩);rw[hwant]at hres
  have next:∀v w'',T i w' w''->ss[i].holds v w''->wpAny P .any l.toArray Q fuel (listed.setIfInBounds i true) (a'.put o.dst v) w'':=by
   intro v w'' hT hv;have hu:=O0 hilt (by rw[hI.lsize];exact Nat.le_refl _) hnl;refine ih _ (λj=>if j=i then v else vf j) _ _ (by omega) ⟨hCT i _ _ hI.cls hT,by simp[hI.lsize],?_,?_,?_,?_⟩
   .rw[<-hI.defers];cases o.dst<;>rfl
   .rw[<-hI.size];cases o.dst<;>simp[Act.put]
   .intro j o' s hj hjs hlj;by_cases e:j=i
    .subst e;rw[hil]at hj;obtain rfl:o=o':=by simpa using hj
     rw[hsi]at hjs;obtain rfl:ss[j]=s:=by simpa using hjs
     rw[if_pos rfl];refine⟨hv,λd hd=>?_⟩;rw[hd,YV (by rw[hI.size];exact(hdst d hd).1)]
    rw[Array.getElem?_setIfInBounds_ne (Ne.symm e)]at hlj;rw[if_neg e];obtain⟨g1,g2⟩:=hI.dn j o' s hj hjs hlj;refine⟨?_,λd hd=>?_⟩
    .have hf:=hst i j s (Ne.symm e) hjs (vf j) w' w'' hI.cls (hCT i _ _ hI.cls hT) hT (Spec.fact_of_holds g1);unfold Spec.holds at g1⊢;unfold Spec.fact at hf;split<;>simp_all
    rw[VL (λe'=>(hdst d e').2 j o' hj e hd)];exact g2 d hd
   intro t ht;have hti:o.dst≠some t:=ht i o hil (by rw[Array.getElem?_setIfInBounds_self_of_lt (by rw[hI.lsize];exact hilt)]);rw[VL hti];refine hI.rest t λj o' hj hlj=>?_;by_cases e:j=i
   .subst e;exact absurd hlj hnl
   exact ht j o' hj (by rw[Array.getElem?_setIfInBounds_ne (Ne.symm e)];exact hlj)
  unfold wpOp;rw[ho];by_cases hw:Region.wanted o (yielded l.toArray a'.tmps)=true
  .simp only[hw,if_true]at hres⊢;refine .inl (Gs (R:=λv w''=>T i w' w''/\ss[i].holds v w'') ?_ λv w'' ⟨h1,h2⟩=>next v w'' h1 h2);unfold gives at hres⊢;rw[<-hexec];exact hres
  simp only[hw]at hres⊢;exact next _ _ hres.1 hres.2
theorem Qae{id:Nat}{w:World}(ss:List Spec)(C:World->Prop)(T:Nat->World->World->Prop)(hm:P.follows .mixedOrders=true)(hB:Qgi l a.tmps.size=true)
  (hCT:∀i w w',C w->T i w w'->C w')
  (hst:∀(i k:Nat)(s:Spec),i≠k->ss[k]?=some s->∀v w w',C w->C w'->T i w w'->s.fact v w->s.fact v w') (hC:C w.drew)
  (h:YS P l.toArray C T (Q .normal) l ss 0 a [] (λ_=>True)):(Code.region id l.toArray true).wp P Q a w:=by
 refine wp_region_any hm (QfE hB hCT hst h _ _ (λ_=>undef) _ _ ?_ ⟨hC,by simp,rfl,rfl,?_,λ_ _=>rfl⟩)
 .have:=List.length_filter_le (λi=>(Array.replicate l.toArray.size false)[i]? != some true) (List.range l.length);simpa[undone]using this
 intro j o s hj _ hl;rw[Array.getElem?_replicate]at hl;split at hl<;>simp at hl
end
def Cls(B:Nat)(W0 W:World):Prop:=B<=W.heap.size/\Below B W0 W
def TB(_:Nat)(w w':World):Prop:=Below w.heap.size w w'
theorem Cls.step{B:Nat}{W0 w w':World}(h:Cls B W0 w)(h':Below w.heap.size w w'):Cls B W0 w':=⟨Nat.le_trans h.1 h'.size,h.2.trans (h'.mono h.1)⟩
def QdP(s:Spec):Prop:=∀v w w',Below w.heap.size w w'->s.fact v w->s.fact v w'
theorem QcV(x:Value):QdP (ex x):=λ_ _ _ _ _=>trivial
theorem NS{P:Program}{l:List Oper}{Q:Exit->Act->World->Prop}{a:Act}{id:Nat}{w:World}(ss:List Spec)(B:Nat)(hBw:B<=w.heap.size)(hm:P.follows .mixedOrders=true)(hB:Qgi l a.tmps.size=true)
  (hst:∀s∈ss,QdP s) (h:YS P l.toArray (Cls B w) TB (Q .normal) l ss 0 a [] (λ_=>True)):(Code.region id l.toArray true).wp P Q a w:=
 Qae ss (Cls B w) TB hm hB (λ_ _ _ hC hT=>hC.step hT) (λ_ _ s _ hk v w1 w2 _ _ hT hf=>hst s (List.mem_of_getElem? hk) v w1 w2 hT hf) ⟨hBw,Zbr.drew⟩ h
def Qbt(P:Program)(ops:Array Oper)(C:World->Prop)(T:Nat->World->World->Prop)(Q:Act->World->Prop):List Oper->Nat->Act->Prop
 |[],_,a=>∀w:World,C w->Q a w
 |o::l,i,a=>∃x:Value,(∀w:World,C w->∀R:Value->World->Prop,(∀(v:Value)(w':World),T i w w'->v=x->R v w')->if Region.wanted o (yielded ops a.tmps)then gives P o a w R else R undef w) /\
   Qbt P ops C T Q l (i+1) (a.put o.dst x)
theorem QL{P:Program}{ops:Array Oper}{C:World->Prop}{T:Nat->World->World->Prop}{Q:Act->World->Prop}{o:Oper}{l:List Oper}{i:Nat}{a:Act}
  (h:∀K:Act->Prop,(∀a,Qbt P ops C T Q l (i+1) a->K a)->∃x:Value,(∀w:World,C w->∀R:Value->World->Prop,(∀(v:Value)(w':World),T i w w'->v=x->R v w')->if Region.wanted o (yielded ops a.tmps)then gives P o a w R else R undef w)/\K (a.put o.dst x)):
  Qbt P ops C T Q (o::l) i a:=h _ (λ_ h=>h)
theorem QaL{P:Program}{ops:Array Oper}{C:World->Prop}{T:Nat->World->World->Prop}{Q:Act->World->Prop}:∀(l:List Oper)(i:Nat)(a:Act)(fs:List (World->Prop)),
  Qbt P ops C T Q l i a->∃xs:List Value,YS P ops C T Q l (xs.map ex) i a fs (λ_=>True)
 |[],_,_,_,h=>⟨[],λw hC _=>h w hC⟩
 |o::l,i,a,fs,⟨x,hob,hrest⟩=>by
  obtain⟨xs,hx⟩:=QaL l (i+1) _ (fs++[λ_:World=>True]) hrest;exact⟨x::xs,λw hC _ R hR=>hob w hC R hR,hx⟩
theorem VG{P:Program}{l:List Oper}{Q:Exit->Act->World->Prop}{a:Act}{id:Nat}{w:World}(B:Nat)(hBw:B<=w.heap.size)(hm:P.follows .mixedOrders=true)(hB:Qgi l a.tmps.size=true)
  (h:Qbt P l.toArray (Cls B w) TB (Q .normal) l 0 a):(Code.region id l.toArray true).wp P Q a w:=by
 obtain⟨xs,hx⟩:=QaL l 0 a [] h;refine NS (xs.map ex) B hBw hm hB (λs hs=>?_) hx;obtain⟨x,_,rfl⟩:=List.mem_map.1 hs;exact QcV x
end
end Go.Proofs.YthkgjohhbdipcaaGreatDoor
