/- Texts laid one behind the other: ShelfMore, PolSpec, ReadSpec, ReadLib, Own, Blk, ShelfText, Text. No condition beyond theirs. -/
import Derived.WalkKit
import Derived.WalkLawsBesides
import Derived.WalkSpells
import Derived.Lib.Hide
import Derived.MapKept
import Derived.Lib.SmallJoins
import Derived.Lib.QuietBelow
import Derived.KernelRfl
import Derived.Lib.Split
import Derived.Lib.SplitLaws
import Derived.Shelf.Strings.Builder1
import Derived.Shelf.Small.Utf8
import Derived.Shelf.Small.Bits
import Derived.Shelf.Small.Strs
import Derived.Shelf.Small.Wraps
import Derived.Shelf.Utf8.RuneCount
import Derived.Shelf.Strconv.Atoi
import Derived.Shelf.Strconv.Itoa0
import Derived.Shelf.Strconv.Itoa1
import Derived.Shelf.LaysM
import Derived.Shelf.Strconv.Itoa2
import Derived.Shelf.Strconv.Itoa3
import Derived.Shelf.Strconv.Itoa4
import Derived.Shelf.Strconv.AtoiErrFast
import Derived.Shelf.Strconv.ParseIntEmpty
import Derived.Shelf.Strconv.AtoiFail
import Derived.Shelf.Strconv.Clone
import Derived.Shelf.Strconv.SyntaxError
import Derived.Shelf.LaysC
import Derived.Shelf.Strconv.ToError
import Derived.Shelf.Strconv.Lower
import Derived.Shelf.Strconv.ParseUint10
import Derived.Shelf.Strconv.ParseUint10Empty
import Derived.Shelf.Strconv.ParseUint10Any
import Derived.Shelf.Strconv.ParseInt10
import Derived.Shelf.Strconv.AtoiLong
import Derived.Shelf.Strconv.AtoiInnerAll
import Derived.Shelf.Strconv.RangeError
import Derived.Shelf.Strconv.ToErrorRange
import Derived.Shelf.Strconv.AtoiAll
import Derived.Shelf.Strconv.ParseUintEmpty
import Derived.Shelf.Strconv.ParseUint10b64
import Derived.Shelf.Strconv.ParseUint10b32
import Derived.Shelf.Strconv.ParseUint10b16
import Derived.Shelf.Strconv.ParseUint10b8
import Derived.Shelf.Strconv.ParseUint10At
import Derived.Shelf.Strconv.ParseInt10At64
import Derived.Shelf.Strconv.ParseInt10At32
import Derived.Shelf.Strconv.ParseInt10At16
import Derived.Shelf.Strconv.ParseInt10At8
import Derived.Shelf.Strconv.ParseInt10All
import Derived.Shelf.Strconv.ParseIntPublic10
import Derived.Shelf.Strconv.ErrVarParseInt
import Derived.Shelf.Strings.Search1
import Derived.Shelf.Strings.Search2
import Derived.Shelf.Strings.Search3
import Derived.Shelf.Strings.Cut
import Derived.Shelf.Strings.Count
import Derived.Shelf.Strings.Shaped
import Derived.Shelf.Sort.Plain
import Derived.Shelf.Strings.Prefix
import Derived.Shelf.Strings.Split
import Derived.Shelf.Strings.Fields
import Derived.Shelf.Strings.SplitShaped
import Derived.Shelf.Unicode.Latin
import Derived.Shelf.Unicode.Decode
import Derived.Shelf.Strings.Runes
import Derived.Shelf.Strings.RuneCount
import Derived.Shelf.Strings.IndexAny
import Derived.Shelf.Strings.AsciiSet
import Derived.Shelf.Strings.IndexAnyAll
import Derived.Shelf.Strings.Explode
import Derived.Shelf.Unicode.DecodeSlow
import Derived.Shelf.Unicode.DecodeAny
import Derived.Shelf.Unicode.Is16White
import Derived.Shelf.Unicode.IsSpaceAny
import Derived.Shelf.Unicode.Is16Any
import Derived.Shelf.Unicode.Is32Any
import Derived.Shelf.Unicode.ExclAny
import Derived.Shelf.Slices.Turned
import Derived.Ground.Names2Prog
import Derived.Shelf.Slices.CompactI
import Derived.Shelf.Slices.SearchI
import Derived.Shelf.Slices.Cells
import Derived.Shelf.Slices.In.SortNone
import Derived.Test.YthkgjohhbdipcaaGreatDoorProg
import Derived.Laws.AppendOwnNone
import Derived.Lib.AppendZeros
import Derived.Laws.IdiomCopy
import Derived.Test.YthkgjohhbdipcaaGreatDoorQ2
import Derived.Test.YthkgjohhbdipcaaGreatDoorQ1
set_option linter.all false
set_option maxHeartbeats 64000000
set_option maxRecDepth 100000
namespace Go.Proofs
open Go.Shelf
def Tryz.lays119_ren:Go.Shelf.Ren:=⟨λ|119=>206|n=>n,λ|21=>21|4=>4|n=>n,λ|n=>n⟩
theorem Tryz.lays119:Go.Proofs.Lays.n119 prog Tryz.lays119_ren:={ Tryz.laysC174 with
 f119:=Zs func206}
theorem Tryz.utf8_ValidRune(r:Int)(w:World):
  Calls prog 206 #[.int .i32 r] w λe w'=>e=.returned (.bool (Lib.validRune r))/\w'=w:=Any.utf8_ValidRune Tryz.lays119 r w
def Tryz.lays137_ren:Go.Shelf.Ren:=⟨λ|137=>205|217=>169|266=>201|n=>n,λ|9=>9|5=>5|3=>3|n=>n,λ|n=>n⟩
theorem Tryz.lays137:Go.Proofs.Lays.n137 prog Tryz.lays137_ren:={ Tryz.lays145 with
 f137:=Zs func205}
open Go.RowKit in
theorem Tryz.strings_IndexByte(s:ByteArray)(c:Int)(w:World):
  Calls prog 205 #[.string s,.int .u8 c] w λe w'=>e=.returned (.int .i64 (Lib.indexByte s.data.toList c.toNat.toUInt8))/\w'=w:=Any.strings_IndexByte Tryz.lays137 s c w
def Tryz.laysC172_ren:Go.Shelf.Ren:=⟨λ|172=>108|244=>143|245=>144|247=>151|279=>173|280=>174|281=>175|282=>176|287=>185|316=>203|171=>65|205=>204|321=>210|322=>211|243=>101|246=>140|283=>164|284=>165|285=>166|286=>167|129=>197|317=>196|318=>198|319=>199|320=>200|337=>220|338=>221|n=>n,λ|9=>9|3=>3|75=>149|76=>150|4=>4|5=>5|167=>209|37=>23|0=>0|85=>165|2=>2|168=>210|53=>200|175=>229|46=>208|210=>249|127=>184|145=>277|143=>275|21=>21|171=>199|173=>203|212=>242|51=>223|20=>20|213=>243|232=>290|233=>291|80=>154|n=>n,λ|15=>4|16=>5|17=>3|18=>8|19=>9|n=>n⟩
theorem Tryz.laysC172:Go.Proofs.LaysC.n172 prog Tryz.laysC172_ren:={ Tryz.laysC174 with
 f172:=Zs func108
 f244:=Zs func143
 t76:=underlying150
 a76:=Tryz.isAgg150
 z76:=Tryz.sizeOf150
 v76:=Tryz.zeroValue150
 i76:=by kernel_rfl
 c76:=by kernel_rfl}
open Go.RowKit in
theorem Tryz.strconv_Atoi_ok(s:ByteArray)(hmax:s.size<=9223372036854775806)(v:Int)(h:Lib.atoiAll s.data.toList=.ok v)(w:World):
  Calls prog 108 #[.string s] w λe w'=>e=.returned (.tuple #[.int .i64 v,.nilIface])/\(w'=w\/∃t,w'=Lib.bytesWorld w 5 t):=Any.strconv_Atoi_ok Tryz.laysC172 s hmax v h w
open Go.RowKit in
theorem Tryz.strconv_Atoi_range(s:ByteArray)(hlim:s.size<=281474976710656)(h:Lib.atoiAll s.data.toList=.range)(ev:Value)(w:World)(hv:w.cell? ⟨5,0,none⟩=some ev)(hev:ev=.nilIface\/∃te pe,ev=.iface te pe):
  Calls prog 108 #[.string s] w λe w'=>∃N,e=.returned (.tuple #[.int .i64 (Lib.atoiSat s.data.toList),.iface 210 (.pointer (some ⟨N,0,none⟩))])/\w.heap.size<=N/\w'.heap[N]?=some (.cells #[.string ⟨#[65,116,111,105]⟩,.string s,ev] 249 (0,0))/\Below w.heap.size w w':=Any.strconv_Atoi_range Tryz.laysC172 s hlim h ev w hv hev
def Tryz.lays100_ren:Go.Shelf.Ren:=⟨λ|100=>124|207=>152|n=>n,λ|9=>9|4=>4|3=>3|n=>n,λ|n=>n⟩
theorem Tryz.lays100:Go.Proofs.Lays.n100 prog Tryz.lays100_ren:={ Tryz.laysM173 with
 f100:=Zs func124
 f207:=Zs func152}
open Go.RowKit Go.Lib in
theorem Tryz.strings_HasSuffix(s p:ByteArray)(w:World)(hs:s.size<=9223372036854775807):
  Calls prog 124 #[.string s,.string p] w λe w'=>e=.returned (.bool (Lib.hasSuffix s.data.toList p.data.toList))/\w'=w:=Any.strings_HasSuffix Tryz.lays100 s p w hs
def Tryz.lays221_ren:Go.Shelf.Ren:=⟨λ|221=>118|268=>148|138=>149|143=>150|195=>182|197=>183|218=>184|219=>142|260=>209|217=>169|225=>170|224=>171|267=>172|266=>201|314=>202|n=>n,λ|9=>9|3=>3|31=>101|4=>4|0=>0|105=>227|21=>21|5=>5|46=>208|119=>187|139=>282|138=>281|146=>245|51=>223|n=>n,λ|1=>1|3=>6|4=>7|n=>n⟩
theorem Tryz.lays221:Go.Proofs.Lays.n221 prog Tryz.lays221_ren:={ Tryz.lays146 with}
open Go.RowKit Go.Lib in
theorem Tryz.strings_genSplit(s sep:ByteArray)(sv:Nat)(n:Int)(N:Nat)(m:Int)(w:World)(hs:s.size<4294967281)(hm:w.cell? ⟨1,0,none⟩=some (.int .i64 m))(h1:1<=sep.size)(hsv:sv<=sep.size)(hn0:n≠0)(hn63:n<=9223372036854775807)(hN:(N:Int)=min (if n<0 then(Lib.countB s sep:Int)+1 else n) ((s.size:Int)+1)):
  Calls prog 118 #[.string s,.string sep,.int .i64 sv,.int .i64 n] w λe w'=>
   e=.returned (.slice (some ⟨w.heap.size,0,none⟩) (Lib.splitB sep sv (N-1) s).length N)/\w'=w.alloc (.cells (Lib.cellsOf (Lib.splitB sep sv (N-1) s) N) 9):=Any.strings_genSplit Tryz.lays221 (by kernel_rfl) s sep sv n N m w hs hm h1 hsv hn0 hn63 hN
def Tryz.lays152_ren:Go.Shelf.Ren:=⟨λ|152=>177|137=>205|119=>206|224=>171|225=>170|217=>169|266=>201|n=>n,λ|9=>9|21=>21|3=>3|4=>4|5=>5|0=>0|46=>208|n=>n,λ|n=>n⟩
theorem Tryz.lays152:Go.Proofs.Lays.n152 prog Tryz.lays152_ren:={ Tryz.lays146 with
 f119:=Zs func206
 f137:=Zs func205
 f152:=Zs func177}
open Go.RowKit Go.Lib in
theorem Tryz.strings_IndexRune_ascii(s:ByteArray)(r:Int)(w:World)(h0:0<=r)(h1:r<128):
  Calls prog 177 #[.string s,.int .i32 r] w λe w'=>e=.returned (.int .i64 (Lib.indexByte s.data.toList r.toNat.toUInt8))/\w'=w:=Any.strings_IndexRune_ascii Tryz.lays152 s r w h0 h1
def Tryz.lays226_ren:Go.Shelf.Ren:=⟨λ|226=>178|n=>n,λ|3=>3|4=>4|n=>n,λ|n=>n⟩
theorem Tryz.lays226:Go.Proofs.Lays.n226 prog Tryz.lays226_ren:={ Tryz.laysM173 with
 f226:=Zs func178}
open Go.RowKit Go.Lib in
theorem Tryz.strings_shouldUseASCIISet(n:Int)(w:World):
  Calls prog 178 #[.int .i64 n] w λe w'=>e=.returned (.bool (decide (8<n)))/\w'=w:=Any.strings_shouldUseASCIISet Tryz.lays226 n w
def Tryz.lays153_ren:Go.Shelf.Ren:=⟨λ|153=>145|152=>177|226=>178|227=>179|228=>180|137=>205|119=>206|224=>171|225=>170|217=>169|266=>201|n=>n,λ|9=>9|3=>3|4=>4|5=>5|21=>21|117=>217|116=>216|0=>0|46=>208|124=>251|n=>n,λ|n=>n⟩
theorem Tryz.lays153:Go.Proofs.Lays.n153 prog Tryz.lays153_ren:={ Tryz.lays152 with
 f153:=Zs func145
 f226:=Zs func178
 f227:=Zs func179
 f228:=Zs func180
 t116:=underlying216
 a116:=Tryz.isAgg216
 z116:=Tryz.sizeOf216
 t117:=underlying217
 a117:=Tryz.isAgg217
 z117:=Tryz.sizeOf217
 v117:=Tryz.zeroValue217
 t124:=underlying251
 a124:=Tryz.isAgg251
 z124:=Tryz.sizeOf251
 v124:=Tryz.zeroValue251}
open Go.RowKit Go.Lib in
theorem Tryz.strings_IndexAny_long(hv116:∀w,(zeroValue 216).run prog w=.ok (.agg (Array.replicate 256 (.bool false))) w)(s chars:ByteArray)(w:World)(h2:2<=chars.size)(h8:8<s.size)(hs:s.size<4294967281)(hcs:chars.size<4294967281)(hascii:∀(j:Nat) b,chars.data.toList[j]?=some b->b.toNat<128):
  Calls prog 145 #[.string s,.string chars] w λe w'=>e=.returned (.int .i64 (Lib.indexAny s.data.toList chars.data.toList))/\w'=((w.alloc (.cells (Lib.setCells chars.data.toList) 216)).alloc (.cells (Lib.setCells chars.data.toList) 216)):=Any.strings_IndexAny_long Tryz.lays153 hv116 (by kernel_rfl) s chars w h2 h8 hs hcs hascii
def Tryz.lays109_ren:Go.Shelf.Ren:=⟨λ|109=>69|n=>n,λ|31=>101|9=>9|3=>3|0=>0|4=>4|n=>n,λ|n=>n⟩
theorem Tryz.lays109:Go.Proofs.Lays.n109 prog Tryz.lays109_ren:={ Tryz.lays146 with
 f109:=Zs func69}
open Go.Lib in
theorem Tryz.slices_Index_string(b off n c:Nat)(zs:List ByteArray)(x:ByteArray)(w:World)(hz:n<=zs.length)(hbig:n<=9223372036854775807)(hc:∀j,j<zs.length->w.cell? ⟨b,off+j,none⟩=some (.string (zs.getD j ByteArray.empty))):
  Calls prog 69 #[.slice (some ⟨b,off,none⟩) n c,.string x] w λe w'=>e=.returned (.int .i64 (Lib.idxOfS (zs.take n) x))/\w'=w:=Any.slices_Index_string Tryz.lays109 b off n c zs x w hz hbig hc
end Go.Proofs
namespace Go.Proofs.YthkgjohhbdipcaaGreatDoor
open Tryz
def Zd(c:TCond):Int:=
 if c.f<0\/5<=c.f then 5 else if c.op<1\/4<c.op then 4 else if c.v<0\/QY c.f<c.v then 3 else 0
def Xt:List TCond->Int
 |[]=>0
 |c::r=>if Zd c=0 then Xt r else Zd c
def ZJ(r:TRule):Int:=if 10<r.cd.length then 2 else if r.vd<0\/4<r.vd then 3 else Xt r.cd
def V7:List TRule->Int
 |[]=>0
 |x::r=>if ZJ x=0 then V7 r else ZJ x
def UZ(p:TPol):Int:=if 120<p.ru.length then 2 else if p.df<0\/4<p.df then 3 else V7 p.ru
theorem ZZ(l:List TCond)(k:Nat)(h:k<l.length):Xt (l.drop k)=if Zd l[k]=0 then Xt (l.drop (k+1))else Zd l[k]:=by
 rw[List.drop_eq_getElem_cons h];rfl
theorem YX(l:List TRule)(k:Nat)(h:k<l.length):V7 (l.drop k)=if ZJ l[k]=0 then V7 (l.drop (k+1))else ZJ l[k]:=by
 rw[List.drop_eq_getElem_cons h];rfl
structure YL(c:TCond):Prop where
 f0:0<=c.f
 f1:c.f<5
 o0:1<=c.op
 o1:c.op<=4
 v0:0<=c.v
 v1:c.v<=QY c.f
structure JM(r:TRule):Prop where
 len:r.cd.length<=10
 v0:0<=r.vd
 v1:r.vd<=4
 cd:∀c∈r.cd,YL c
structure UT(p:TPol):Prop where
 len:p.ru.length<=120
 d0:0<=p.df
 d1:p.df<=4
 ru:∀r∈p.ru,JM r
theorem Qe8(c:TCond):Zd c=0↔YL c:=by
 unfold Zd;constructor
 .intro h;split at h
  .simp at h
  split at h
  .simp at h
  split at h
  .simp at h
  constructor<;>omega
 rintro ⟨h1,h2,h3,h4,h5,h6⟩;rw[if_neg (by omega),if_neg (by omega),if_neg (by omega)]
theorem J9:∀l:List TCond,Xt l=0↔∀c∈l,YL c
 |[]=>by simp[Xt]
 |c::r=>by
  simp only[Xt,List.mem_cons,forall_eq_or_imp];rw[<-J9 r,<-Qe8 c];split
  .rename_i h;simp[h]
  rename_i h;simp[h]
theorem Qe9(r:TRule):ZJ r=0↔JM r:=by
 unfold ZJ;constructor
 .intro h;split at h
  .simp at h
  split at h
  .simp at h
  exact⟨by omega,by omega,by omega,(J9 _).1 h⟩
 rintro ⟨h1,h2,h3,h4⟩;rw[if_neg (by omega),if_neg (by omega)];exact(J9 _).2 h4
theorem Gf:∀l:List TRule,V7 l=0↔∀c∈l,JM c
 |[]=>by simp[V7]
 |c::r=>by
  simp only[V7,List.mem_cons,forall_eq_or_imp];rw[<-Gf r,<-Qe9 c];split
  .rename_i h;simp[h]
  rename_i h;simp[h]
theorem UN(p:TPol):UZ p=0↔UT p:=by
 unfold UZ;constructor
 .intro h;split at h
  .simp at h
  split at h
  .simp at h
  exact⟨by omega,by omega,by omega,(Gf _).1 h⟩
 rintro ⟨h1,h2,h3,h4⟩;rw[if_neg (by omega),if_neg (by omega)];exact(Gf _).2 h4
def holdsB(c:TCond)(x:TCall):Bool:=
 if c.op=1 then x.get c.f==c.v else if c.op=2 then x.get c.f != c.v else if c.op=3 then decide (x.get c.f<c.v)else decide (c.v<=x.get c.f)
def QN(x:TCall)(l:List TCond):Bool:=l.all λc=>holdsB c x
def which(x:TCall):List TRule->Nat
 |[]=>0
 |r::l=>if QN x r.cd then 0 else which x l+1
def VA(p:TPol)(k:Nat):Int:=match p.ru[k]? with
 |some r=>r.vd
 |none=>p.df
def judged(p:TPol)(x:TCall):Int×Nat:=(VA p (which x p.ru),which x p.ru)
def Jc(p:TPol)(x:TCall):Int×Int×Int:=if UZ p≠0 then(0,0,UZ p)else if x.ok then((judged p x).1,(judged p x).2,0)else(0,0,3)
theorem QbM(x:TCall):∀l:List TRule,which x l<=l.length
 |[]=>Nat.le_refl _
 |r::l=>by
  have:=QbM x l;unfold which;split
  .omega
  simp;exact this
theorem O3(x:TCall)(l:List TRule)(k:Nat)(h:k<l.length):which x (l.drop k)=if QN x l[k].cd then 0 else which x (l.drop (k+1))+1:=by
 rw[List.drop_eq_getElem_cons h];rfl
def Xc(b:UInt8):Int:=if b=61 then 1 else if b=33 then 2 else if b=60 then 3 else if b=62 then 4 else 0
def opAt:List UInt8->Nat
 |[]=>0
 |b::l=>if Xc b=0 then opAt l+1 else 0
def Q4(l:List UInt8):Option Int:=
 if l=[107,105,108,108]then some 0 else if l=[116,114,97,112]then some 1 else if l=[102,97,105,108]then some 2 else if l=[108,111,103]then some 3 else if l=[97,108,108,111,119]then some 4 else none
def VU(l:List UInt8):Option Int:=
 if l=[110,114]then some 0 else if l=[107,105,110,100]then some 1 else if l=[97]then some 2 else if l=[98]then some 3 else if l=[99]then some 4 else none
def Xh(u:List UInt8):Option TCond:=
 if opAt u=u.length then none else
 match VU (u.take (opAt u))with
 |none=>none
 |some f=>if(Ug (u.drop (opAt u+1))).2 then some ⟨f,Xc (u.getD (opAt u) 0),(Ug (u.drop (opAt u+1))).1⟩else none
def Ue:List (List UInt8)->Option (List TCond)
 |[]=>some []
 |u::r=>match Xh u with
  |none=>none
  |some c=>(Ue r).map (c:: ·)
def words(t:List UInt8):List (List UInt8):=Lib.split t [32]
def pread:Nat->List UInt8->Option TPol
 |0,_=>none
 |n+1,s=>match Q4 ((words (Lib.cut s [59]).1).headD [])with
  |none=>none
  |some v=>
   if(Lib.cut s [59]).2.2 then
    match Ue (words (Lib.cut s [59]).1).tail with
    |none=>none
    |some cs=>(pread n (Lib.cut s [59]).2.1).map λp=>⟨⟨cs,v⟩::p.ru,p.df⟩
   else if 1<(words (Lib.cut s [59]).1).length then none else some ⟨[],v⟩
def VE(s:List UInt8):TPol×Int:=match pread (s.length+1) s with
 |none=>(⟨[],0⟩,1)
 |some p=>if UZ p=0 then(p,0)else(⟨[],0⟩,UZ p)
def QbP:List UInt8:=[107,105,108,108,32,110,114,61,51,32,97,60,53,59,108,111,103,32,107,105,110,100,33,48,59,97,108,108,111,119]
def JK:TPol:=⟨[⟨[⟨0,1,3⟩,⟨2,3,5⟩],0⟩,⟨[⟨1,2,0⟩],3⟩],4⟩
theorem Qgy:VE QbP=(JK,0):=by decide +kernel
theorem EU:∀(u:List UInt8)(k:Nat),(∀j,j<k->∀b,u[j]?=some b->Xc b=0)->k<=u.length->(∀b,u[k]?=some b->Xc b≠0)->opAt u=k
 |[],k,_,hk,_=>by simp at hk;subst hk;rfl
 |b::l,0,_,_,h=>by unfold opAt;rw[if_neg (h b rfl)]
 |b::l,k+1,h,hk,h'=>by
  unfold opAt;rw[if_pos (h 0 (by omega) b rfl),EU l k (λj hj c hc=>h (j+1) (by omega) c (by simpa using hc)) (by simpa using hk) (λc hc=>h' c (by simpa using hc))]
theorem Ib{ws:List (List UInt8)}{j:Nat}(h:j<ws.length):Ue (ws.drop j)=match Xh ws[j]with
  |none=>none
  |some c=>(Ue (ws.drop (j+1))).map (c:: ·):=by
 rw[List.drop_eq_getElem_cons h];rfl
theorem Zo{n:Nat}{t:List UInt8}{u0:List UInt8}{us:List (List UInt8)}(h:words (Lib.cut t [59]).1=u0::us):pread (n+1) t=match Q4 u0 with
  |none=>none
  |some v=>
   if(Lib.cut t [59]).2.2 then
    match Ue us with
    |none=>none
    |some cs=>(pread n (Lib.cut t [59]).2.1).map λp=>⟨⟨cs,v⟩::p.ru,p.df⟩
   else if 1<us.length+1 then none else some ⟨[],v⟩:=by
 conv=>lhs;unfold pread
 rw[h];rfl
theorem OI{s:List UInt8}(h:pread (s.length+1) s=none):VE s=(⟨[],0⟩,1):=by unfold VE;rw[h]
theorem Qa0{s:List UInt8}{p:TPol}(h:pread (s.length+1) s=some p):VE s=if UZ p=0 then(p,0)else(⟨[],0⟩,UZ p):=by unfold VE;rw[h]
section
open Go.RowKit
theorem QcU(t:ByteArray):(Lib.splitB ⟨#[32]⟩ 0 (Lib.countB t ⟨#[32]⟩) t).map (·.data.toList)=words t.data.toList:=by
 rw[Lib.splitB_data];rfl
theorem Jk(sep:ByteArray):∀(k:Nat)(t:ByteArray),∀u∈Lib.splitB sep 0 k t,u.size<=t.size
 |0,t,u,h=>by simp[Lib.splitB_zero]at h;subst h;exact Nat.le_refl _
 |k+1,t,u,h=>by
  unfold Lib.splitB at h;split at h
  .simp at h;subst h;exact Nat.le_refl _
  rcases List.mem_cons.1 h with h|h
  .subst h;simp[ByteArray.size_extract];omega
  have:=Jk sep k _ u h;simp[ByteArray.size_extract]at this;omega
theorem QgN(t:ByteArray)(w:World)(hL:Laid w)(hs:t.size<4294967281):Calls prog 109 #[.string t,.string ⟨#[32]⟩] w λe w'=>
  ∃ws:List ByteArray,e=.returned (.slice (some ⟨w.heap.size,0,none⟩) ws.length ws.length)/\w'=w.alloc (.cells (ws.map Value.string).toArray 9)/\ws.map (·.data.toList)=words t.data.toList/\0<ws.length/\ws.length<=t.size+1/\∀u∈ws,u.size<=t.size:=by
 obtain⟨m,hm⟩:=hL.ml;have hl:=Lib.splitB_all ⟨#[32]⟩ (by decide) 0 _ t rfl;have hc:=Lib.countB_le ⟨#[32]⟩ (by decide) _ t Znl
 have hN:((Lib.countB t ⟨#[32]⟩+1:Nat):Int)=min (if(-1:Int)<0 then(Lib.countB t ⟨#[32]⟩:Int)+1 else -1) ((t.size:Int)+1):=by
  rw[if_pos (by decide)];omega
 have HN:=Zh hN;have Hm:=Zh hm;have Hl:=Zh hl;have Hc:=Zh hc;clear hN hm hl hc;go_enter func109,ntmps109;go_wp2_with fail
 refine(Tryz.strings_genSplit t ⟨#[32]⟩ 0 (-1) (Lib.countB t ⟨#[32]⟩+1) m w hs Hm.o (by decide) (by decide) (by decide) (by decide) HN.o).mono ?_;rintro e w1⟨rfl,rfl⟩;go_wp2;go_ret;have e1:Lib.countB t ⟨#[32]⟩+1-1=Lib.countB t ⟨#[32]⟩:=rfl
 have e2:Lib.cellsOf (Lib.splitB ⟨#[32]⟩ 0 (Lib.countB t ⟨#[32]⟩) t) (Lib.countB t ⟨#[32]⟩+1)=((Lib.splitB ⟨#[32]⟩ 0 (Lib.countB t ⟨#[32]⟩) t).map Value.string).toArray:=by
  unfold Lib.cellsOf;rw[Hl.o,Nat.sub_self];simp
 refine⟨Lib.splitB ⟨#[32]⟩ 0 (Lib.countB t ⟨#[32]⟩) t,by rw[Hl.o]<;>rfl,by first|rw[e2]|rw[e1,e2],QcU t,by rw[Hl.o];omega,by rw[Hl.o];have:=Hc.o;omega,Jk _ _ t⟩
theorem Qia(t:ByteArray)(w:World)(hL:Laid w)(hs:t.size<4294967281):Calls prog 67 #[.string t,.string ⟨#[59]⟩] w λe w'=>
  ∃(a r:ByteArray)(more:Bool),e=.returned (.tuple #[.string a,.string r,.bool more])/\a.data.toList=(Lib.cut t.data.toList [59]).1/\r.data.toList=(Lib.cut t.data.toList [59]).2.1/\more=(Lib.cut t.data.toList [59]).2.2/\a.size<=t.size/\(more=true->r.size<t.size)/\Below w.heap.size w w':=by
 obtain⟨m,hm⟩:=hL.ml;refine(Tryz.strings_Cut t ⟨#[59]⟩ m w hs hm).mono ?_;rintro e w1⟨rfl,n,rfl⟩;refine⟨_,_,_,rfl,by simp,by simp,rfl,?_,?_,Go.Joins.below_draws _ _ _⟩
 .show((Lib.cut t.data.toList [59]).1.toArray).size<=t.data.size;unfold Lib.cut;split
  .simp;omega
  simp
 intro h;show((Lib.cut t.data.toList [59]).2.1.toArray).size<t.data.size;revert h;show(Lib.cut t.data.toList [59]).2.2=true->_;unfold Lib.cut;split
 .rename_i h0;intro _;have hne:t.data.toList≠[]:=λe=>by rw[e]at h0;simp[Lib.index]at h0
  have:0<t.data.toList.length:=List.length_pos_iff.2 hne;simp at this⊢;omega
 intro h;cases h
end
section
open Go.RowKit
structure Qq{α:Type}(sz:Nat)(R:α->List Value->Prop)(xs:List α)(rows:List (List Value)):Prop where
 len:rows.length=xs.length
 size:∀r∈rows,r.length=sz
 rel:∀(i:Nat)(x:α)(r:List Value),xs[i]?=some x->rows[i]?=some r->R x r
theorem Qq.nil{α:Type}{sz:Nat}{R:α->List Value->Prop}:Qq sz R ([]:List α) []:=⟨rfl,(λ_ h=>by cases h),(λi x r h=>by simp at h)⟩
theorem Qq.app{α:Type}{sz:Nat}{R:α->List Value->Prop}{xs ys:List α}{r s:List (List Value)}(h:Qq sz R xs r)(k:Qq sz R ys s):Qq sz R (xs++ys) (r++s):=by
 refine⟨by simp[h.len,k.len],λt ht=>?_,λi x t hx ht=>?_⟩
 .rcases List.mem_append.1 ht with ht|ht
  .exact h.size t ht
  exact k.size t ht
 rw[List.getElem?_append]at hx ht;rw[h.len]at ht;split at hx
 .rename_i hl;rw[if_pos hl]at ht;exact h.rel i x t hx ht
 rename_i hl;rw[if_neg hl]at ht;exact k.rel _ x t hx ht
theorem Qq.mono{α:Type}{sz:Nat}{R R':α->List Value->Prop}{xs:List α}{r:List (List Value)}(h:Qq sz R xs r)(hR:∀x∈xs,∀cs,R x cs->R' x cs):Qq sz R' xs r:=
 ⟨h.len,h.size,λi x t hx ht=>hR x (List.mem_of_getElem? hx) t (h.rel i x t hx ht)⟩
theorem YP{sz:Nat}:∀(rows:List (List Value)),(∀r∈rows,r.length=sz)->rows.flatten.length=rows.length*sz
 |[],_=>by simp
 |r::rows,h=>by
  rw[List.flatten_cons,List.length_append,YP rows (λr hr=>h r (List.mem_cons_of_mem _ hr)),h r (List.mem_cons_self ..),List.length_cons,Nat.add_mul];omega
theorem flat_get{sz:Nat}:∀(rows:List (List Value))(i:Nat)(r:List Value),(∀r∈rows,r.length=sz)->rows[i]?=some r->∀j,j<sz->rows.flatten[i*sz+j]?=r[j]?
 |[],_,_,_,h=>by simp at h
 |r0::rows,i,r,hs,h=>λj hj=>by
  have h0:=hs r0 (List.mem_cons_self ..)
  cases i with
  |zero=>
   simp at h;subst h;rw[List.flatten_cons,List.getElem?_append_left (by omega)];simp
  |succ i=>
   have e:(i+1)*sz+j=r0.length+(i*sz+j):=by rw[h0,Nat.add_mul];omega
   rw[List.flatten_cons,e,List.getElem?_append_right (by omega),Nat.add_sub_cancel_left];exact flat_get rows i r (λr hr=>hs r (List.mem_cons_of_mem _ hr)) (by simpa using h) j hj
theorem Sl.rows{α:Type}{w:World}{D:Nat->Prop}{sz:Nat}{R:α->List Value->Prop}{v:Value}{xs:List α}(h:Sl w D sz R v xs):
  ∃(a:Option Addr)(c:Nat)(rows:List (List Value)),v=.slice a xs.length c/\Qq sz R xs rows/\c<=maxLen/\(a=none->c=0/\xs=[])/\∀ad,a=some ad->∀j u,rows.flatten[j]?=some u->w.cell? (ad.add j)=some u:=by
 obtain⟨a,c,hv,hl,hm,hn,h⟩:=h;by_cases h0:0<xs.length
 .obtain⟨b,o,ha,hDb,hb,hc⟩:=h h0
  have hex:∀(n:Nat),n<=xs.length->∃rows:List (List Value),Qq sz R (xs.take n) rows/\∀j u,rows.flatten[j]?=some u->w.cell? ⟨b,o+j,none⟩=some u:=by
   intro n
   induction n with
   |zero=>intro _;exact⟨[],by simpa using Qq.nil,λj u hu=>by simp at hu⟩
   |succ n ih=>
    intro hn';obtain⟨rows,hr,hcell⟩:=ih (by omega);have hlt:n<xs.length:=by omega
    obtain⟨cs,hcs,hR,hcc⟩:=hc n xs[n] (List.getElem?_eq_getElem hlt);refine⟨rows++[cs],?_,λj u hu=>?_⟩
    .rw[List.take_succ_eq_append_getElem hlt]
     exact hr.app ⟨rfl,λr hr=>by simp at hr;rw[hr];exact hcs,λi x r hx hr=>by
      cases i with
      |zero=>simp at hx hr;subst hx hr;exact hR
      |succ i=>simp at hx⟩
    rw[List.flatten_append,List.flatten_singleton,List.getElem?_append]at hu;have hfl:rows.flatten.length=n*sz:=by rw[YP rows hr.size,hr.len,List.length_take,Nat.min_eq_left (by omega)]
    split at hu
    .exact hcell j u hu
    rename_i hge;have:=hcc _ u hu;rw[hfl]at this
    rwa [show o+(n*sz+(j-n*sz))=o+j by omega]at this
  obtain⟨rows,hr,hcell⟩:=hex xs.length Znl;rw[List.take_length]at hr;refine⟨a,c,rows,hv,hr,hm,(λe=>by rw[e]at ha;cases ha),λad had j u hu=>?_⟩;rw[ha]at had;injection had with had;subst had;have:((⟨b,o,none⟩:Addr).add j)=⟨b,o+j,none⟩:=by unfold Addr.add;split<;>simp_all
  rw[this];exact hcell j u hu
 have hx:xs=[]:=List.length_eq_zero_iff.1 (by omega);subst hx;exact⟨a,c,[],hv,Qq.nil,hm,(λe=>⟨hn e,rfl⟩),(λad _ j u hu=>by simp at hu)⟩
def Qg{α:Type}(w:World)(base:Nat)(e:TypeId)(sz:Nat)(R:α->List Value->Prop)(v:Value)(xs:List α):Prop:=
 ∃rows,Qq sz R xs rows/\w.ownsRow base e sz v xs.length rows.flatten
section
variable{α:Type}{w w':World}{base:Nat}{e:TypeId}{sz:Nat}{R R':α->List Value->Prop}{v:Value}{xs:List α}
theorem Qg.nil:Qg w base e sz R (.slice none 0 0) ([]:List α):=⟨[],Qq.nil,by simp,.inl ⟨rfl,rfl⟩⟩
theorem Qg.monoR(h:Qg w base e sz R v xs)(hR:∀x∈xs,∀cs,R x cs->R' x cs):Qg w base e sz R' v xs:=by
 obtain⟨rows,hr,ho⟩:=h;exact⟨rows,hr.mono hR,ho⟩
theorem Jh{n:Nat}{cells:List Value}(h:w.ownsRow base e sz v n cells)(hb:∀b,base<=b->b<w.heap.size->w'.heap[b]?=w.heap[b]?):w'.ownsRow base e sz v n cells:=by
 obtain⟨h1,h2⟩:=h;refine⟨h1,?_⟩;rcases h2 with h2|⟨g,cap,cur,hv,hg,hh,r⟩
 .exact .inl h2
 exact .inr ⟨g,cap,cur,hv,hg,by rw[hb g hg (Array.getElem?_eq_some_iff.1 hh).1];exact hh,r⟩
theorem Qg.block(h:Qg w base e sz R v xs):∀g,v.ownBlock=some g->base<=g:=by
 obtain⟨rows,_,_,h2⟩:=h;intro g hg;rcases h2 with⟨hv,_⟩|⟨g',cap,cur,hv,hg',_⟩
 .subst hv;simp[Value.ownBlock]at hg
 subst hv;simp[Value.ownBlock]at hg;omega
theorem Qg.grown{B:Nat}{w0:World}(h:Qg w base e sz R v xs)(hb:Below B w0 w)(hg:w.grownBy w' v.ownBlock)(hB:B<=w.heap.size)(hbase:B<=base):Below B w0 w':=
 hb.grown hg hB λg hk=>Nat.le_trans hbase (h.block g hk)
theorem Qg.below(h:Qg w base e sz R v xs)(hb:Below w.heap.size w w'):Qg w' base e sz R v xs:=by
 obtain⟨rows,hr,ho⟩:=h;exact⟨rows,hr,Jh ho (λb _ hlt=>hb.block b hlt)⟩
theorem Qg.sl{D:Nat->Prop}(h:Qg w base e sz R v xs)(hD:∀b,base<=b->D b):Sl w D sz R v xs:=by
 obtain⟨rows,hr,ho1,ho2⟩:=h;rcases ho2 with⟨hv,hn⟩|⟨g,cap,cur,hv,hg,hh,hnc,hcm,hcs,htk⟩
 .have hx:xs=[]:=List.length_eq_zero_iff.1 hn;subst hx;exact⟨none,0,hv,by simp,by unfold maxLen;omega,λ_=>rfl,λh=>absurd h (by simp)⟩
 refine⟨some ⟨g,0,none⟩,cap,hv,hnc,hcm,(λh=>by cases h),λh0=>⟨g,0,rfl,hD g hg,(Array.getElem?_eq_some_iff.1 hh).1,λi x hx=>?_⟩⟩;have hi:i<rows.length:=by rw[hr.len];exact(List.getElem?_eq_some_iff.1 hx).1
 have hri:rows[i]?=some rows[i]:=List.getElem?_eq_getElem hi;have hsz:=hr.size _ (List.getElem_mem hi);refine⟨rows[i],hsz,hr.rel i x _ hx hri,λj u hu=>?_⟩;have hj:j<sz:=by rw[<-hsz];exact(List.getElem?_eq_some_iff.1 hu).1
 have h1:=flat_get rows i _ hr.size hri j hj;rw[hu,<-htk]at h1
 have hlt:i*sz+j<xs.length*sz:=by
  have:=(List.getElem?_eq_some_iff.1 hx).1
  calc i*sz+j<i*sz+sz:=by omega
   _=(i+1)*sz:=by rw[Nat.add_mul];omega
   _<=xs.length*sz:=Nat.mul_le_mul_right _ this
 rw[List.getElem?_take_of_lt hlt]at h1;simp only[World.cell?,hh,Nat.zero_add];simpa using h1
end
theorem U6{α:Type}{P:Program}{w:World}{ops:Array Oper}{rest:List Oper}{o:Oper}{a:Act}{Q:Exit->Act->World->Prop}{R:α->List Value->Prop}{D:Nat->Prop}(hgd:o.guard=none)(s x:Operand)(t:TypeId)
  (ho:o.op=.call { callee:=.builtin .append,args:=#[s,x],argTypes:=#[t,t] })
  (base:Nat) (e:TypeId) (i:TypeInfo) (z:Value) (size bytes:Nat) (ht:P.underlying t=some (.slice e)) (hi:P.info? e=some i) (hz:i.zero=some z)
  (hsize:i.size=size) (hby:i.bytes=bytes) (hzs:z.cells.size=size) (hsz:0<size)
  (v:Value) (xs:List α) (hs:a.eval s=v) (hown:Qg w base e size R v xs)
  (u:Value) (ys:List α) (hx:a.eval x=u) (hu:Sl w D size R u ys) (h1:∀y∈ys,∀cs,R y cs->∀c∈cs,c.oneCell'=true)
  (h63:xs.length+ys.length<=maxLen) (hbytes:(xs.length+ys.length)*bytes<=140737488355328) (hbase:base<=w.heap.size)
  (h:∀v' w',Qg w' base e size R v' (xs++ys)->w.grownBy w' v.ownBlock->wpList P ops Q rest (a.put o.dst v') w'):wpList P ops Q (o::rest) a w:=by
 obtain⟨au,cu,rows,hv,hr,hcm,hnone,hcell⟩:=hu.rows;obtain⟨rows0,hr0,ho0⟩:=hown
 cases au with
 |none=>
  obtain⟨hc0,hy⟩:=hnone rfl;subst hc0 hy;refine wpList_append_own_none hgd s x t ho base e i size ht hi v xs.length rows0.flatten hs ho0 (by rw[hx,hv];rfl) (h v w ⟨rows0,by simpa using hr0,by simpa using ho0⟩ ⟨rfl,rfl,rfl,Nat.le_refl _,λ_ _ _=>rfl⟩)
 |some ad=>
  refine wpList_append_own w hgd s x t ho base e i z size bytes ht hi hz hsize hby hzs hsz v xs.length rows0.flatten hs ho0 ad ys.length cu rows.flatten (by rw[hx,hv]) (by rw[YP rows hr.size,hr.len]) (hcell ad rfl) ?_ h63 hbytes hbase
   λv' w' hown' hg _=>h v' w' ⟨rows0++rows,hr0.app hr,by simpa using hown'⟩ hg
  intro c hc;obtain⟨r,hrm,hcr⟩:=List.mem_flatten.1 hc;obtain⟨k,hk⟩:=List.getElem?_of_mem hrm;have hkl:k<ys.length:=by rw[<-hr.len];exact(List.getElem?_eq_some_iff.1 hk).1
  exact h1 ys[k] (List.getElem_mem hkl) r (hr.rel k _ r (List.getElem?_eq_getElem hkl) hk) c hcr
def Vy{α:Type}(ls:List (List α))(k:Nat):Nat:=(ls.take k).flatten.length
theorem U1{α:Type}(ls:List (List α))(k:Nat)(h:k<ls.length):(ls.take k).flatten++ls[k]=(ls.take (k+1)).flatten:=by
 rw[List.take_succ_eq_append_getElem h,List.flatten_append,List.flatten_singleton]
theorem XA{α:Type}(ls:List (List α))(k:Nat)(h:k<ls.length):Vy ls (k+1)=Vy ls k+ls[k].length:=by
 unfold Vy;rw[<-U1 ls k h,List.length_append]
theorem YQ{α:Type}(ls:List (List α))(k:Nat)(_h:k<=ls.length):Vy ls k<=Vy ls ls.length:=by
 unfold Vy;have:=congrArg (λl=>l.flatten.length) (List.take_append_drop k ls);rw[List.take_length];simp only[List.flatten_append,List.length_append]at this;omega
end
section
open Go.RowKit
theorem Qq.cons{α:Type}{sz:Nat}{R:α->List Value->Prop}{x:α}{xs:List α}{r:List Value}{rows:List (List Value)}(h:Qq sz R xs rows)(hx:R x r)(hl:r.length=sz):Qq sz R (x::xs) (r::rows):=by
 refine⟨by simp[h.len],λt ht=>?_,λi y t hy ht=>?_⟩
 .rcases List.mem_cons.1 ht with rfl|ht
  .exact hl
  exact h.size t ht
 cases i with
 |zero=>simp at hy ht;subst hy ht;exact hx
 |succ i=>exact h.rel i y t (by simpa using hy) (by simpa using ht)
theorem Ub{α:Type}{w:World}{D:Nat->Prop}{sz b:Nat}{R:α->List Value->Prop}{xs:List α}{rows:List (List Value)}{cs:List Value}{T:TypeId}{fr:Nat×Nat}(hr:Qq sz R xs rows)
  (hb:w.heap[b]?=some (.cells cs.toArray T fr)) (hcs:cs=rows.flatten) (hD:D b) (hm:xs.length<=maxLen):Sl w D sz R (.slice (some ⟨b,0,none⟩) xs.length xs.length) xs:=by
 refine⟨some ⟨b,0,none⟩,xs.length,rfl,Nat.le_refl _,hm,(λh=>by cases h),λ_=>⟨b,0,rfl,hD,(Array.getElem?_eq_some_iff.1 hb).1,λi x hx=>?_⟩⟩;have hi:i<rows.length:=by rw[hr.len];exact(List.getElem?_eq_some_iff.1 hx).1
 have hri:rows[i]?=some rows[i]:=List.getElem?_eq_getElem hi;have hsz:=hr.size _ (List.getElem_mem hi);refine⟨rows[i],hsz,hr.rel i x _ hx hri,λj u hu=>?_⟩;have hj:j<sz:=by rw[<-hsz];exact(List.getElem?_eq_some_iff.1 hu).1
 have h1:=flat_get rows i _ hr.size hri j hj;rw[hu,<-hcs]at h1;simp only[World.cell?,hb,Nat.zero_add];simpa using h1
theorem Sl.at_{α:Type}{w:World}{D:Nat->Prop}{sz n c:Nat}{a:Option Addr}{R:α->List Value->Prop}{xs:List α}(h:Sl w D sz R (.slice a n c) xs)(h0:0<xs.length):∃b o,a=some ⟨b,o,none⟩/\D b/\b<w.heap.size:=by
 obtain⟨a',c',hv,_,_,_,hat⟩:=h;injection hv with h1 _ _;subst h1;obtain⟨b,o,ha,hD,hb,_⟩:=hat h0;exact⟨b,o,ha,hD,hb⟩
theorem Sl.monoD{α:Type}{w:World}{D D':Nat->Prop}{sz:Nat}{R:α->List Value->Prop}{v:Value}{xs:List α}(h:Sl w D sz R v xs)(hD:∀b,D b->D' b):Sl w D' sz R v xs:=
 Sl.mono h (λb hb _=>hD b hb) (λ_ _ _=>rfl) Znl (λ_ _ _ h=>h)
theorem Sl.belowR{α:Type}{w w':World}{D:Nat->Prop}{sz:Nat}{R R':α->List Value->Prop}{v:Value}{xs:List α}(h:Sl w D sz R v xs)(hb:Below w.heap.size w w')(hR:∀x∈xs,∀cs,R x cs->R' x cs):Sl w' D sz R' v xs:=
 Sl.mono h (λ_ h _=>h) (λb _ hlt=>hb.block b hlt) hb.size hR
theorem QJ{W:World}{b o:Nat}{cs:Array Value}{T:TypeId}{fr:Nat×Nat}{v:Value}(h:W.heap[b]?=some (.cells cs T fr)):(W.setCell ⟨b,o,none⟩ v).heap[b]?=some (.cells (cs.setIfInBounds o v) T fr):=by
 show(W.heap.modify b _)[b]?=_;rw[Array.getElem?_modify,if_pos rfl,h];rfl
theorem Qm{W:World}{a:Addr}{v:Value}{k:Nat}(h:k≠a.block):(W.setCell a v).heap[k]?=W.heap[k]?:=by
 show(W.heap.modify a.block _)[k]?=_;rw[Array.getElem?_modify,if_neg (λe=>h e.symm)]
theorem Qr(W:World)(a:Addr)(v:Value):(W.setCell a v).heap.size=W.heap.size:=by
 show(W.heap.modify a.block _).size=_;rw[Array.size_modify]
theorem Qw{B:Nat}{w W:World}{a:Addr}{v:Value}(h:Below B w W)(hb:B<=a.block):Below B w (W.setCell a v):=
 h.trans ⟨rfl,rfl,rfl,by rw[Qr];exact Nat.le_refl _,λk hk=>Qm (by omega)⟩
theorem Qp{W:World}{b:Nat}{cs:Array Value}{T:TypeId}(h:W.heap[b]?=some (.cells cs T))(j:Nat):W.frozen? ⟨b,j,none⟩=false:=by
 simp only[World.frozen?,h];simp
theorem Qb{W:World}{b:Nat}{cs:Array Value}{T:TypeId}{fr:Nat×Nat}(h:W.heap[b]?=some (.cells cs T fr))(j:Nat):W.cell? ⟨b,j,none⟩=cs[j]?:=by simp[World.cell?,h]
theorem GV(g:Nat):∀(vs:List Value)(o:Nat)(w:World),(w.setCells g o vs).os=w.os/\(w.setCells g o vs).tape=w.tape/\(w.setCells g o vs).output=w.output/\(w.setCells g o vs).heap.size=w.heap.size/\∀b,b≠g->(w.setCells g o vs).heap[b]?=w.heap[b]?
 |[],_,_=>⟨rfl,rfl,rfl,rfl,λ_ _=>rfl⟩
 |v::vs,o,w=>by
  obtain⟨h1,h2,h3,h4,h5⟩:=GV g vs (o+1) (w.setCell ⟨g,o,none⟩ v);exact⟨h1,h2,h3,h4.trans (Qr _ _ _),λb hb=>(h5 b hb).trans (Qm hb)⟩
theorem O8{g:Nat}{T:TypeId}{fr:Nat×Nat}:∀(vs:List Value)(o:Nat)(w:World)(cur:Array Value),w.heap[g]?=some (.cells cur T fr)->∃cur':Array Value,cur'.size=cur.size/\(w.setCells g o vs).heap[g]?=some (.cells cur' T fr)
 |[],_,_,cur,h=>⟨cur,rfl,h⟩
 |v::vs,o,w,cur,h=>by
  obtain⟨cur',h1,h2⟩:=O8 vs (o+1) (w.setCell ⟨g,o,none⟩ v) _ (QJ h);exact⟨cur',by simpa using h1,h2⟩
end
end Go.Proofs.YthkgjohhbdipcaaGreatDoor
namespace Go.Proofs
open Go.Shelf
def Tryz.laysM171_ren:Go.Shelf.Ren:=⟨λ|171=>65|243=>101|246=>140|283=>164|284=>165|285=>166|286=>167|129=>197|317=>196|318=>198|319=>199|320=>200|337=>220|338=>221|n=>n,λ|3=>3|9=>9|2=>2|4=>4|171=>199|0=>0|53=>200|37=>23|5=>5|173=>203|212=>242|51=>223|20=>20|213=>243|46=>208|232=>290|233=>291|n=>n,λ|17=>3|18=>8|19=>9|n=>n⟩
theorem Tryz.laysM171:Go.Proofs.LaysM.n171 prog Tryz.laysM171_ren:={ Tryz.laysC174 with}
open Go.RowKit Go.Sort Go.Lib in
theorem Tryz.strconv_Itoa(n:Int)(h0: -9223372036854775808<=n)(h1:n<=9223372036854775807)(w:World)(htab:Lib.TabIs prog w "internal/strconv.uint64pow10" .u64 Lib.pow10Tab):
  Calls prog 65 #[.int .i64 n] w λe w'=>e=.returned (.string ⟨(Lib.itoa n).toArray⟩)/\∃k os,w'=grow (w.drewN k) os:=Any.strconv_Itoa Tryz.laysM171 n h0 h1 w htab
def Tryz.lays157_ren:Go.Shelf.Ren:=⟨λ|157=>113|229=>146|199=>147|261=>181|311=>207|312=>208|n=>n,λ|9=>9|31=>101|3=>3|5=>5|4=>4|119=>187|0=>0|40=>189|152=>220|21=>21|154=>222|51=>223|141=>225|196=>255|193=>252|198=>258|49=>256|194=>253|201=>261|226=>278|46=>208|227=>279|n=>n,λ|0=>0|6=>2|n=>n⟩
theorem Tryz.lays157:Go.Proofs.Lays.n157 prog Tryz.lays157_ren:={ Tryz.lays146 with
 f157:=Zs func113
 f199:=Zs func147
 f229:=Zs func146
 f261:=Zs func181
 f311:=Zs func207
 f312:=Zs func208
 t40:=underlying189
 a40:=Tryz.isAgg189
 z40:=Tryz.sizeOf189
 v40:=Tryz.zeroValue189
 t49:=underlying256
 a49:=Tryz.isAgg256
 z49:=Tryz.sizeOf256
 v49:=Tryz.zeroValue256
 t141:=underlying225
 a141:=Tryz.isAgg225
 z141:=Tryz.sizeOf225
 v141:=Tryz.zeroValue225
 t152:=underlying220
 a152:=Tryz.isAgg220
 z152:=Tryz.sizeOf220
 v152:=Tryz.zeroValue220
 t154:=underlying222
 a154:=Tryz.isAgg222
 z154:=Tryz.sizeOf222
 v154:=Tryz.zeroValue222
 t193:=underlying252
 a193:=Tryz.isAgg252
 z193:=Tryz.sizeOf252
 v193:=Tryz.zeroValue252
 t194:=underlying253
 a194:=Tryz.isAgg253
 z194:=Tryz.sizeOf253
 v194:=Tryz.zeroValue253
 t196:=underlying255
 a196:=Tryz.isAgg255
 z196:=Tryz.sizeOf255
 v196:=Tryz.zeroValue255
 t198:=underlying258
 a198:=Tryz.isAgg258
 z198:=Tryz.sizeOf258
 v198:=Tryz.zeroValue258
 t201:=underlying261
 a201:=Tryz.isAgg261
 z201:=Tryz.sizeOf261
 v201:=Tryz.zeroValue261
 t226:=underlying278
 a226:=Tryz.isAgg278
 z226:=Tryz.sizeOf278
 v226:=Tryz.zeroValue278
 t227:=underlying279
 a227:=Tryz.isAgg279
 z227:=Tryz.sizeOf279
 v227:=Tryz.zeroValue279
 g0:=by kernel_rfl
 g6:=by kernel_rfl}
open Go.RowKit Go.Lib in
theorem Tryz.strings_Fields(s:ByteArray)(w:World)(hs:s.size<4294967281)(hascii:∀(j:Nat) b,s.data.toList[j]?=some b->b.toNat<128)(htab:Lib.TabIs prog w "strings.asciiSpace" .u8 Lib.asciiSpaceTab):
  Calls prog 113 #[.string s] w λe w'=>
   e=.returned (.slice (some ⟨w.heap.size,0,none⟩) (Lib.fields s.data.toList).length (Lib.fields s.data.toList).length)/\w'=w.alloc (.cells ((Lib.fields s.data.toList).map λl=>Value.string ⟨l.toArray⟩).toArray 9):=Any.strings_Fields Tryz.lays157 (by kernel_rfl) (by kernel_rfl) s w hs hascii htab
end Go.Proofs
namespace Go.Proofs.YthkgjohhbdipcaaGreatDoor
open Tryz
def QO(v:Int):List UInt8:=
 if v=0 then[107,105,108,108]else if v=1 then[116,114,97,112]else if v=2 then[102,97,105,108]else if v=3 then[108,111,103]else[97,108,108,111,119]
def Xo(f:Int):List UInt8:=if f=0 then[110,114]else if f=1 then[107,105,110,100]else if f=2 then[97]else if f=3 then[98]else[99]
def opW(o:Int):UInt8:=if o=1 then 61 else if o=2 then 33 else if o=3 then 60 else 62
def condW(c:TCond):List UInt8:=Xo c.f++opW c.op::Lib.itoa c.v
def ZW(r:TRule):List UInt8:=QO r.vd++r.cd.flatMap (λc=>32::condW c)
def Vo(p:TPol):List UInt8:=p.ru.flatMap (λr=>ZW r++[59])++QO p.df
theorem QhZ{b c:UInt8}{l:List UInt8}(h:b≠c):Lib.index (b::l) [c]=if Lib.index l [c] == -1 then -1 else Lib.index l [c]+1:=by
 conv=>lhs;unfold Lib.index
 rw[if_neg (by simp[List.isPrefixOf,Ne.symm h])]
theorem QiN{c:UInt8}{l:List UInt8}:Lib.index (c::l) [c]=0:=by
 unfold Lib.index;rw[if_pos (by simp[List.isPrefixOf])]
theorem Qd6:∀{l:List UInt8} {c:UInt8},c∉l->Lib.index l [c] = -1
 |[],_,_=>rfl
 |b::l,c,h=>by
  rw[QhZ (λe=>h (by rw[e];exact List.mem_cons_self ..)),Qd6 (λe=>h (List.mem_cons_of_mem _ e))];rfl
theorem Qbm:∀{a l:List UInt8} {c:UInt8},c∉a->Lib.index (a++c::l) [c]=a.length
 |[],_,_,_=>QiN
 |b::a,l,c,h=>by
  rw[List.cons_append,QhZ (λe=>h (by rw[e];exact List.mem_cons_self ..)),Qbm (λe=>h (List.mem_cons_of_mem _ e))];rw[if_neg (by rw[beq_iff_eq];omega)];simp
theorem Jr{l:List UInt8}{c:UInt8}(h:c∉l):Lib.cut l [c]=(l,[],false):=by
 unfold Lib.cut;rw[Qd6 h,if_neg (by omega)]
theorem Z4{a l:List UInt8}{c:UInt8}(h:c∉a):Lib.cut (a++c::l) [c]=(a,l,true):=by
 unfold Lib.cut;rw[Qbm h,if_pos (by omega)];simp
theorem Zt{l:List UInt8}{c:UInt8}(h:c∉l):Lib.split l [c]=[l]:=by
 unfold Lib.split;rw[Lib.count_one,List.count_eq_zero.2 h];rfl
theorem Oi{a l:List UInt8}{c:UInt8}(h:c∉a):Lib.split (a++c::l) [c]=a::Lib.split l [c]:=by
 unfold Lib.split;rw[Lib.count_one,List.count_append,List.count_eq_zero.2 h,List.count_cons_self,Nat.zero_add,Lib.count_one]
 conv=>lhs;unfold Lib.splitK
 rw[Qbm h,if_neg (by rw[beq_iff_eq];omega)];simp
theorem Qbb:∀(ws:List (List UInt8))(w0:List UInt8),32∉w0->(∀u∈ws,32∉u)->words (w0++ws.flatMap (λu=>32::u))=w0::ws
 |[],w0,h,_=>by
  simp only[List.flatMap_nil,List.append_nil];exact Zt h
 |u::ws,w0,h,hw=>by
  simp only[List.flatMap_cons,List.cons_append];unfold words;rw[Oi h];congr 1
  exact Qbb ws u (hw u (List.mem_cons_self ..)) (λx hx=>hw x (List.mem_cons_of_mem _ hx))
theorem JF:∀(n:Nat)(t:List UInt8),t.length<=n->∃w0 ws,words t=w0::ws/\t=w0++ws.flatMap (λu=>32::u)
 |n,t,hn=>by
  by_cases h:(32:UInt8)∈t
  .obtain⟨a,r,rfl,ha⟩:=List.eq_append_cons_of_mem h
   cases n with
   |zero=>simp at hn
   |succ n=>
    obtain⟨w0,ws,h1,h2⟩:=JF n r (by simp at hn;omega);refine⟨a,w0::ws,?_,?_⟩
    .unfold words at h1⊢;rw[Oi ha,h1]
    simp only[List.flatMap_cons,List.cons_append];rw[<-h2]
  exact⟨t,[],Zt h,by simp⟩
theorem NL{v:Int}(h0:0<=v)(h1:v<=4):Q4 (QO v)=some v:=by
 rcases(by omega:v=0\/v=1\/v=2\/v=3\/v=4)with rfl|rfl|rfl|rfl|rfl<;>decide
theorem JV{l:List UInt8}{v:Int}(h:Q4 l=some v):l=QO v:=by
 unfold Q4 at h
 repeat(split at h;· (rename_i e;injection h with h;subst h;rw[e];decide))
 cases h
theorem Qf1{v:Int}(h0:0<=v)(h1:v<5):VU (Xo v)=some v:=by
 rcases(by omega:v=0\/v=1\/v=2\/v=3\/v=4)with rfl|rfl|rfl|rfl|rfl<;>decide
theorem Qcc{l:List UInt8}{v:Int}(h:VU l=some v):l=Xo v:=by
 unfold VU at h
 repeat(split at h;· (rename_i e;injection h with h;subst h;rw[e];decide))
 cases h
theorem QiT{o:Int}(h0:1<=o)(h1:o<=4):Xc (opW o)=o:=by
 rcases(by omega:o=1\/o=2\/o=3\/o=4)with rfl|rfl|rfl|rfl<;>decide
theorem QiU{b:UInt8}(h:Xc b≠0):opW (Xc b)=b:=by
 unfold Xc at h⊢
 repeat(split;· (rename_i e;rw[e];decide))
 rename_i h1 h2 h3 h4;exact absurd rfl (by rw[if_neg h1,if_neg h2,if_neg h3,if_neg h4]at h;exact h)
def EW(b:UInt8):Bool:=97<=b&&b<=122
theorem VC(v:Int):∀b∈QO v,EW b=true:=by
 unfold QO
 repeat(split;· decide)
 decide
theorem Ig(v:Int):∀b∈Xo v,EW b=true:=by
 unfold Xo
 repeat(split;· decide)
 decide
theorem X9{l:List UInt8}{c:UInt8}(h:∀b∈l,EW b=true)(hc:EW c=false):c∉l:=λhm=>by
 rw[h c hm]at hc;cases hc
theorem Qhv{b:UInt8}(h:EW b=true):Xc b=0:=by
 have h1:b≠61:=λe=>by subst e;cases h
 have h2:b≠33:=λe=>by subst e;cases h
 have h3:b≠60:=λe=>by subst e;cases h
 have h4:b≠62:=λe=>by subst e;cases h
 unfold Xc;rw[if_neg h1,if_neg h2,if_neg h3,if_neg h4]
theorem Qgn(o:Int):opW o=61\/opW o=33\/opW o=60\/opW o=62:=by
 unfold opW
 repeat(split;· simp)
 simp
theorem Qel:∀{a r:List UInt8} {b:UInt8},(∀x∈a,Xc x=0)->Xc b≠0->opAt (a++b::r)=a.length
 |[],_,_,_,hb=>by
  rw[List.nil_append];unfold opAt;rw[if_neg hb];rfl
 |x::a,r,b,ha,hb=>by
  rw[List.cons_append];unfold opAt;rw[if_pos (ha x (List.mem_cons_self ..)),Qel (λy hy=>ha y (List.mem_cons_of_mem _ hy)) hb];rfl
theorem Qbj{c:TCond}(h0:0<=c.v){b:UInt8}(hb:EW b=false)(hb1:b≠61)(hb2:b≠33)(hb3:b≠60)(hb4:b≠62)(hb5:b.toNat<48\/57<b.toNat):b∉condW c:=by
 unfold condW;intro hm;rcases List.mem_append.1 hm with hm|hm
 .exact X9 (Ig _) hb hm
 rcases List.mem_cons.1 hm with hm|hm
 .rcases Qgn c.op with e|e|e|e<;>rw[e]at hm<;>first|exact hb1 hm|exact hb2 hm|exact hb3 hm|exact hb4 hm
 have:=(EH h0).1 b hm;omega
theorem Qik(f:Int):QY f<=65535:=by unfold QY;split<;>(try split)<;>omega
theorem Qg7{c:TCond}(h:YL c):Xh (condW c)=some c:=by
 have h0:=h.v0;have h1:=h.v1;have h2:=Qik c.f;have ho:Xc (opW c.op)=c.op:=QiT h.o0 h.o1;have hat:opAt (condW c)=(Xo c.f).length:=Qel (λx hx=>Qhv (Ig _ x hx)) (by rw[ho];have:=h.o0;omega);have hd:(condW c).drop ((Xo c.f).length+1)=Lib.itoa c.v:=by unfold condW;rw[List.drop_append];simp
 have ht:(condW c).take (Xo c.f).length=Xo c.f:=by unfold condW;simp
 have hg:(condW c).getD (Xo c.f).length 0=opW c.op:=by
  unfold condW;rw[List.getD_eq_getElem?_getD,List.getElem?_append_right Znl];simp
 unfold Xh;rw[hat,if_neg (by unfold condW;simp),ht,Qf1 h.f0 h.f1];dsimp only;rw[hd,hg,O4 h0 (by omega),ho];simp
theorem Qdz:∀(u:List UInt8),opAt u≠u.length->∃b,u[opAt u]?=some b/\Xc b≠0
 |[],h=>absurd rfl h
 |b::l,h=>by
  unfold opAt at h⊢;by_cases hb:Xc b=0
  .rw[if_pos hb]at h⊢;obtain⟨c,h1,h2⟩:=Qdz l (by simpa using h);exact⟨c,by simpa using h1,h2⟩
  rw[if_neg hb];exact⟨b,rfl,hb⟩
theorem Qdk{u:List UInt8}{c:TCond}(h:Xh u=some c):u=condW c:=by
 unfold Xh at h;split at h
 .cases h
 rename_i hne;obtain⟨b,hb,hop⟩:=Qdz u hne;split at h
 .cases h
 rename_i f hf;split at h
 .rename_i hw;injection h with h;subst h;have hg:u.getD (opAt u) 0=b:=by rw[List.getD_eq_getElem?_getD,hb];rfl
  unfold condW;dsimp only;rw[hg,QiU hop,<-Qcc hf,<-Zu hw];have hlt:=(List.getElem?_eq_some_iff.1 hb).1;have he:=(List.getElem?_eq_some_iff.1 hb).2;rw[<-he,<-List.drop_eq_getElem_cons hlt,List.take_append_drop]
 cases h
theorem Qb8:∀{cs:List TCond},(∀c∈cs,YL c)->Ue (cs.map condW)=some cs
 |[],_=>rfl
 |c::cs,h=>by
  simp only[List.map_cons,Ue];rw[Qg7 (h c (List.mem_cons_self ..)),Qb8 (λx hx=>h x (List.mem_cons_of_mem _ hx))];rfl
theorem Ic:∀{ws:List (List UInt8)} {cs:List TCond},Ue ws=some cs->ws=cs.map condW
 |[],cs,h=>by simp only[Ue,Option.some.injEq]at h;subst h;rfl
 |u::ws,cs,h=>by
  unfold Ue at h;split at h
  .cases h
  rename_i c hc
  cases hr:Ue ws with
  |none=>rw[hr]at h;cases h
  |some cs'=>
   rw[hr]at h;simp only[Option.map_some,Option.some.injEq]at h;subst h;rw[Qdk hc,Ic hr];rfl
theorem QcK(r:TRule):ZW r=QO r.vd++(r.cd.map condW).flatMap (λu=>32::u):=by
 unfold ZW;congr 1
 induction r.cd with
 |nil=>rfl
 |cons c cs ih=>simp only[List.flatMap_cons,List.map_cons,ih]
theorem QhF{r:TRule}(h:JM r):(59:UInt8)∉ZW r:=by
 unfold ZW;intro hm;rcases List.mem_append.1 hm with hm|hm
 .exact X9 (VC _) (by decide) hm
 obtain⟨c,hc,hm⟩:=List.mem_flatMap.1 hm;rcases List.mem_cons.1 hm with hm|hm
 .exact absurd hm (by decide)
 exact Qbj (h.cd c hc).v0 (by decide) (by decide) (by decide) (by decide) (by decide) (by decide) hm
theorem QfD{r:TRule}(h:JM r):words (ZW r)=QO r.vd::r.cd.map condW:=by
 rw[QcK];refine Qbb _ _ (X9 (VC _) (by decide)) λu hu=>?_;obtain⟨c,hc,rfl⟩:=List.mem_map.1 hu;exact Qbj (h.cd c hc).v0 (by decide) (by decide) (by decide) (by decide) (by decide) (by decide)
theorem QcC:∀(rs:List TRule)(d:Int)(n:Nat),(∀r∈rs,JM r)->0<=d->d<=4->rs.length<n->pread n (Vo ⟨rs,d⟩)=some ⟨rs,d⟩
 |[],d,0,_,_,_,hn=>by simp at hn
 |[],d,n+1,_,h0,h1,_=>by
  have ht:Vo ⟨[],d⟩=QO d:=by simp[Vo]
  have hc:Lib.cut (QO d) [59]=(QO d,[],false):=Jr (X9 (VC _) (by decide));have hw:words (QO d)=[QO d]:=Zt (X9 (VC _) (by decide));rw[ht,Zo (u0:=QO d) (us:=[]) (by rw[hc];exact hw),NL h0 h1,hc];simp
 |r::rs,d,0,_,_,_,hn=>by simp at hn
 |r::rs,d,n+1,hr,h0,h1,hn=>by
  have hk:=hr r (List.mem_cons_self ..);have ht:Vo ⟨r::rs,d⟩=ZW r++59::Vo ⟨rs,d⟩:=by simp[Vo]
  have hc:Lib.cut (ZW r++59::Vo ⟨rs,d⟩) [59]=(ZW r,Vo ⟨rs,d⟩,true):=Z4 (QhF hk);rw[ht,Zo (u0:=QO r.vd) (us:=r.cd.map condW) (by rw[hc];exact QfD hk),NL hk.v0 hk.v1,hc];dsimp only;rw[if_pos rfl,Qb8 hk.cd];dsimp only;rw[QcC rs d n (λx hx=>hr x (List.mem_cons_of_mem _ hx)) h0 h1 (by simpa using hn)];rfl
theorem Qew:∀(rs:List TRule)(d:Int),rs.length<=(Vo ⟨rs,d⟩).length
 |[],d=>by simp
 |r::rs,d=>by
  have ht:Vo ⟨r::rs,d⟩=ZW r++59::Vo ⟨rs,d⟩:=by simp[Vo]
  have:=Qew rs d;rw[ht];simp only[List.length_append,List.length_cons];omega
theorem Qfe{p:TPol}(h:UT p):VE (Vo p)=(p,0):=by
 have hr:pread ((Vo p).length+1) (Vo p)=some p:=QcC p.ru p.df _ h.ru h.d0 h.d1 (by have:=Qew p.ru p.df;show p.ru.length<(Vo ⟨p.ru,p.df⟩).length+1;omega);rw[Qa0 hr,if_pos ((UN p).2 h)]
theorem QaX:∀(n:Nat)(s:List UInt8)(p:TPol),pread n s=some p->Vo p=s
 |0,_,_,h=>by cases h
 |n+1,s,p,h=>by
  obtain⟨w0,ws,h1,h2⟩:=JF _ (Lib.cut s [59]).1 Znl;rw[Zo h1]at h
  cases hv:Q4 w0 with
  |none=>rw[hv]at h;cases h
  |some v=>
   rw[hv]at h;dsimp only at h;have hw0:=JV hv;by_cases hm:(59:UInt8)∈s
   .obtain⟨a,r,rfl,ha⟩:=List.eq_append_cons_of_mem hm;rw[Z4 ha]at h h2;dsimp only at h h2;rw[if_pos rfl]at h
    cases hc:Ue ws with
    |none=>rw[hc]at h;cases h
    |some cs=>
     rw[hc]at h;dsimp only at h
     cases hp:pread n r with
     |none=>rw[hp]at h;cases h
     |some q=>
      rw[hp]at h;simp only[Option.map_some,Option.some.injEq]at h;subst h;have:=QaX n r q hp;have ht:Vo ⟨⟨cs,v⟩::q.ru,q.df⟩=ZW ⟨cs,v⟩++59::Vo q:=by simp[Vo]
      rw[ht,this,QcK,<-Ic hc,<-hw0,<-h2]
   rw[Jr hm]at h h2;dsimp only at h h2;rw[if_neg (by simp)]at h;split at h
   .cases h
   rename_i hl;injection h with h;subst h;have:ws=[]:=List.length_eq_zero_iff.1 (by omega);subst this;simp only[List.flatMap_nil,List.append_nil]at h2;simp[Vo,h2,hw0]
theorem Qfj{s:List UInt8}{p:TPol}(h:VE s=(p,0)):UT p/\Vo p=s:=by
 unfold VE at h;split at h
 .simp at h
 rename_i q hq;split at h
 .rename_i h0;simp only[Prod.mk.injEq,and_true]at h;subst h;exact⟨(UN q).1 h0,QaX _ _ _ hq⟩
 rename_i h0;simp only[Prod.mk.injEq]at h;exact absurd h.2 h0
end Go.Proofs.YthkgjohhbdipcaaGreatDoor
