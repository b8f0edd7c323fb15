/- Texts laid one behind the other: ShelfSort, SortI, Cuts, CutsE, Points, Judge2, Judge3. No condition beyond theirs. -/
import Derived.Laws.ResultCell
import Derived.Test.YthkgjohhbdipcaaGreatDoorProg
import Derived.Maps.OwnSet
import Derived.KernelRfl
import Derived.Lib.SliceRun
import Derived.Deep.MidRow
import Derived.Shelf.Strings.Builder1
import Derived.Shelf.Small.Utf8
import Derived.Shelf.Small.Bits
import Derived.Shelf.Small.Strs
import Derived.Shelf.Small.Wraps
import Derived.Shelf.Utf8.RuneCount
import Derived.Shelf.Strconv.Atoi
import Derived.Shelf.Strconv.Itoa0
import Derived.Shelf.Strconv.Itoa1
import Derived.Shelf.LaysM
import Derived.Shelf.Strconv.Itoa2
import Derived.Shelf.Strconv.Itoa3
import Derived.Shelf.Strconv.Itoa4
import Derived.Shelf.Strconv.AtoiErrFast
import Derived.Shelf.Strconv.ParseIntEmpty
import Derived.Shelf.Strconv.AtoiFail
import Derived.Shelf.Strconv.Clone
import Derived.Shelf.Strconv.SyntaxError
import Derived.Shelf.LaysC
import Derived.Shelf.Strconv.ToError
import Derived.Shelf.Strconv.Lower
import Derived.Shelf.Strconv.ParseUint10
import Derived.Shelf.Strconv.ParseUint10Empty
import Derived.Shelf.Strconv.ParseUint10Any
import Derived.Shelf.Strconv.ParseInt10
import Derived.Shelf.Strconv.AtoiLong
import Derived.Shelf.Strconv.AtoiInnerAll
import Derived.Shelf.Strconv.RangeError
import Derived.Shelf.Strconv.ToErrorRange
import Derived.Shelf.Strconv.AtoiAll
import Derived.Shelf.Strconv.ParseUintEmpty
import Derived.Shelf.Strconv.ParseUint10b64
import Derived.Shelf.Strconv.ParseUint10b32
import Derived.Shelf.Strconv.ParseUint10b16
import Derived.Shelf.Strconv.ParseUint10b8
import Derived.Shelf.Strconv.ParseUint10At
import Derived.Shelf.Strconv.ParseInt10At64
import Derived.Shelf.Strconv.ParseInt10At32
import Derived.Shelf.Strconv.ParseInt10At16
import Derived.Shelf.Strconv.ParseInt10At8
import Derived.Shelf.Strconv.ParseInt10All
import Derived.Shelf.Strconv.ParseIntPublic10
import Derived.Shelf.Strconv.ErrVarParseInt
import Derived.Shelf.Strings.Search1
import Derived.Shelf.Strings.Search2
import Derived.Shelf.Strings.Search3
import Derived.Shelf.Strings.Cut
import Derived.Shelf.Strings.Count
import Derived.Shelf.Strings.Shaped
import Derived.Shelf.Sort.Plain
import Derived.Shelf.Strings.Prefix
import Derived.Shelf.Strings.Split
import Derived.Shelf.Strings.Fields
import Derived.Shelf.Strings.SplitShaped
import Derived.Shelf.Unicode.Latin
import Derived.Shelf.Unicode.Decode
import Derived.Shelf.Strings.Runes
import Derived.Shelf.Strings.RuneCount
import Derived.Shelf.Strings.IndexAny
import Derived.Shelf.Strings.AsciiSet
import Derived.Shelf.Strings.IndexAnyAll
import Derived.Shelf.Strings.Explode
import Derived.Shelf.Unicode.DecodeSlow
import Derived.Shelf.Unicode.DecodeAny
import Derived.Shelf.Unicode.Is16White
import Derived.Shelf.Unicode.IsSpaceAny
import Derived.Shelf.Unicode.Is16Any
import Derived.Shelf.Unicode.Is32Any
import Derived.Shelf.Unicode.ExclAny
import Derived.Shelf.Slices.Turned
import Derived.Ground.Names2Prog
import Derived.Shelf.Slices.CompactI
import Derived.Shelf.Slices.SearchI
import Derived.Shelf.Slices.Cells
import Derived.Shelf.Slices.In.SortNone
import Derived.Lib.SlicesCompact
import Derived.Sort.OwnSortedInts
import Derived.Test.YthkgjohhbdipcaaGreatDoorQ20
import Derived.Test.YthkgjohhbdipcaaGreatDoorQ21
import Derived.Test.YthkgjohhbdipcaaGreatDoorQ8
set_option linter.all false
set_option maxHeartbeats 64000000
set_option maxRecDepth 100000
namespace Go.Proofs
open Go.Shelf
def Tryz.lays189_ren:Go.Shelf.Ren:=⟨λ|189=>222|125=>228|257=>227|128=>242|129=>197|294=>233|295=>234|296=>235|297=>236|298=>237|299=>238|216=>239|300=>240|301=>241|328=>247|329=>248|330=>249|331=>250|332=>251|215=>252|343=>254|n=>n,λ|28=>231|3=>3|46=>208|0=>0|51=>223|53=>200|4=>4|183=>298|182=>297|131=>107|5=>5|9=>9|218=>307|222=>311|228=>314|229=>99|n=>n,λ|n=>n⟩
theorem Tryz.lays189:Go.Proofs.Lays.n189 prog Tryz.lays189_ren:={
 mixed:=by kernel_rfl
 f125:=func228.trans (congrArg some (by kernel_rfl))
 f128:=func242.trans (congrArg some (by kernel_rfl))
 f129:=func197.trans (congrArg some (by kernel_rfl))
 f189:=func222.trans (congrArg some (by kernel_rfl))
 f215:=func252.trans (congrArg some (by kernel_rfl))
 f216:=func239.trans (congrArg some (by kernel_rfl))
 f257:=func227.trans (congrArg some (by kernel_rfl))
 f294:=func233.trans (congrArg some (by kernel_rfl))
 f295:=func234.trans (congrArg some (by kernel_rfl))
 f296:=func235.trans (congrArg some (by kernel_rfl))
 f297:=func236.trans (congrArg some (by kernel_rfl))
 f298:=func237.trans (congrArg some (by kernel_rfl))
 f299:=func238.trans (congrArg some (by kernel_rfl))
 f300:=func240.trans (congrArg some (by kernel_rfl))
 f301:=func241.trans (congrArg some (by kernel_rfl))
 f328:=func247.trans (congrArg some (by kernel_rfl))
 f329:=func248.trans (congrArg some (by kernel_rfl))
 f330:=func249.trans (congrArg some (by kernel_rfl))
 f331:=func250.trans (congrArg some (by kernel_rfl))
 f332:=func251.trans (congrArg some (by kernel_rfl))
 f343:=func254.trans (congrArg some (by kernel_rfl))
 t0:=underlying0
 a0:=Tryz.isAgg0
 z0:=Tryz.sizeOf0
 v0:=Tryz.zeroValue0
 t3:=underlying3
 a3:=Tryz.isAgg3
 z3:=Tryz.sizeOf3
 v3:=Tryz.zeroValue3
 t4:=underlying4
 a4:=Tryz.isAgg4
 z4:=Tryz.sizeOf4
 v4:=Tryz.zeroValue4
 t5:=underlying5
 a5:=Tryz.isAgg5
 z5:=Tryz.sizeOf5
 v5:=Tryz.zeroValue5
 t9:=underlying9
 a9:=Tryz.isAgg9
 z9:=Tryz.sizeOf9
 v9:=Tryz.zeroValue9
 t28:=underlying231
 a28:=Tryz.isAgg231
 z28:=Tryz.sizeOf231
 v28:=Tryz.zeroValue231
 t46:=underlying208
 a46:=Tryz.isAgg208
 z46:=Tryz.sizeOf208
 v46:=Tryz.zeroValue208
 t51:=underlying223
 a51:=Tryz.isAgg223
 z51:=Tryz.sizeOf223
 v51:=Tryz.zeroValue223
 t53:=underlying200
 a53:=Tryz.isAgg200
 z53:=Tryz.sizeOf200
 v53:=Tryz.zeroValue200
 t131:=underlying107
 a131:=Tryz.isAgg107
 z131:=Tryz.sizeOf107
 v131:=Tryz.zeroValue107
 t182:=underlying297
 a182:=Tryz.isAgg297
 z182:=Tryz.sizeOf297
 v182:=Tryz.zeroValue297
 t183:=underlying298
 a183:=Tryz.isAgg298
 z183:=Tryz.sizeOf298
 v183:=Tryz.zeroValue298
 t218:=underlying307
 a218:=Tryz.isAgg307
 z218:=Tryz.sizeOf307
 v218:=Tryz.zeroValue307
 t222:=underlying311
 a222:=Tryz.isAgg311
 z222:=Tryz.sizeOf311
 v222:=Tryz.zeroValue311
 t228:=underlying314
 a228:=Tryz.isAgg314
 z228:=Tryz.sizeOf314
 v228:=Tryz.zeroValue314
 t229:=underlying99
 a229:=Tryz.isAgg99
 z229:=Tryz.sizeOf99
 v229:=Tryz.zeroValue99 }
open Go.Sort Go.RowKit in
theorem Tryz.slices_Sort_int(blk off cap:Nat)(zs:List Int)(w:World)(hH:Holds (Value.int .i64) w blk off zs.toArray)(hblk:blk<w.heap.size)(hsz:zs.length<4611686018427387904):
 Calls prog 222 #[.slice (some ⟨blk,off,none⟩) zs.length cap] w λe w'=>
  e=.returned (.tuple #[])/\∃n os,w'=grow (putRow (Value.int .i64) (Sort.ahead w n) blk off (zs.mergeSort λx y=>decide (x<=y)).toArray) os:=Any.slices_Sort_int Tryz.lays189 blk off cap zs w hH hblk hsz
def Tryz.laysNm220_ren:Go.Shelf.Ren:=⟨λ|20=>243|n=>n,λ|22=>231|3=>3|4=>4|0=>0|n=>n,λ|n=>n⟩
theorem Tryz.laysNm220:Go.Proofs.Lays2.n20 prog Tryz.laysNm220_ren:={
 mixed:=by kernel_rfl
 f20:=func243.trans (congrArg some (by kernel_rfl))
 t0:=underlying0
 a0:=Tryz.isAgg0
 z0:=Tryz.sizeOf0
 v0:=Tryz.zeroValue0
 t3:=underlying3
 a3:=Tryz.isAgg3
 z3:=Tryz.sizeOf3
 v3:=Tryz.zeroValue3
 t4:=underlying4
 a4:=Tryz.isAgg4
 z4:=Tryz.sizeOf4
 v4:=Tryz.zeroValue4
 t22:=underlying231
 a22:=Tryz.isAgg231
 z22:=Tryz.sizeOf231
 v22:=Tryz.zeroValue231
 i3:=by kernel_rfl }
open Go.RowKit Go.Lib Go.Sort in
theorem Tryz.slices_Compact_int(blk off cap:Nat)(zs:List Int)(w:World)(hH:Holds (Value.int .i64) w blk off zs.toArray)(hsz:zs.length<=9223372036854775807)(hcap:zs.length<=cap):
 Calls prog 243 #[.slice (some ⟨blk,off,none⟩) zs.length cap] w λe w'=>e=.returned (.slice (some ⟨blk,off,none⟩) (Lib.compact zs).length cap)/\∃q,w'=putRow (Value.int .i64) (Sort.ahead w q) blk off (Lib.compact zs++List.replicate (zs.length-(Lib.compact zs).length) 0).toArray:=Any.slices_Compact_int Tryz.laysNm220 blk off cap zs w hH hsz hcap
end Go.Proofs
namespace Go.Proofs.YthkgjohhbdipcaaGreatDoor
open Tryz
section
open Go.RowKit Go.Sort
theorem QgD:∀(l:List Int)(rows:List (List Value)),Qq 1 JI l rows->rows=l.map λx=>[Value.int .i64 x]:=by
 intro l rows h;apply List.ext_getElem?;intro i;rw[List.getElem?_map];rcases Nat.lt_or_ge i l.length with hi|hi
 .have hr:i<rows.length:=by rw[h.len];exact hi
  have:=h.rel i l[i] rows[i] (List.getElem?_eq_getElem hi) (List.getElem?_eq_getElem hr);rw[List.getElem?_eq_getElem hi,List.getElem?_eq_getElem hr];exact congrArg some this
 rw[List.getElem?_eq_none (by rw[h.len];exact hi),List.getElem?_eq_none hi];rfl
theorem Ey:∀l:List Int,(l.map λx=>[Value.int .i64 x]).flatten=l.map (Value.int .i64)
 |[]=>rfl
 |x::l=>by simp[Ey l]
theorem Qg.ints{w:World}{base:Nat}{e:TypeId}{v:Value}{l:List Int}(h:Qg w base e 1 JI v l):w.ownsRow base e 1 v l.length (l.map (Value.int .i64)):=by
 obtain⟨rows,hr,ho⟩:=h;rw[QgD l rows hr,Ey]at ho;exact ho
theorem Qg.of_ints{w:World}{base:Nat}{e:TypeId}{v:Value}{l:List Int}(h:w.ownsRow base e 1 v l.length (l.map (Value.int .i64))):Qg w base e 1 JI v l:=by
 refine⟨l.map λx=>[.int .i64 x],⟨by simp,λr hr=>?_,λi x r hx hr=>?_⟩,by rw[Ey];exact h⟩
 .obtain⟨x,_,rfl⟩:=List.mem_map.1 hr;rfl
 rw[List.getElem?_map,hx]at hr;simp at hr;exact hr.symm
theorem Qem{w:World}{base g cap q:Nat}{e:TypeId}{os:Array Obj}{cur:Array Value}{l ts:List Int}(hl:ts.length=l.length)(hbase:base<=g)(hb:w.heap[g]?=some (.cells cur e (0,0)))(h1:l.length<=cap)(h2:cap<=maxLen)(h3:cur.size=cap*1){m:Nat}(hm:m<=ts.length):
  Qg (grow (putRow (Value.int .i64) (Sort.ahead w q) g 0 ts.toArray) os) base e 1 JI (.slice (some ⟨g,0,none⟩) m cap) (ts.take m):=by
 have hlm:(ts.take m).length=m:=by rw[List.length_take];omega
 refine Qg.of_ints ⟨by simp,.inr ⟨g,cap,_,by rw[hlm],hbase,heap_sortedI _ hb,by omega,h2,by simp[putCells,h3],?_⟩⟩;rw[hlm,Nat.mul_one,List.map_take,<-take_putCellsI cur ts (by omega),List.take_take,Nat.min_eq_left hm]
theorem Vw(zs:List Int)(j:Nat)(h:j<zs.length):(zs.toArray)[j]! = zs[j]:=by
 rw[getElem!_pos _ j (by simpa using h)];simp
theorem Qdi(zs:List Int)(x:Int):x∈Lib.compact zs↔x∈zs:=by
 unfold Lib.compact Lib.compactUpTo;rw[List.mem_map];constructor
 .rintro ⟨j,hj,rfl⟩;have hlt:=List.mem_range.1 (List.mem_filter.1 hj).1;rw[Vw zs j hlt];exact List.getElem_mem hlt
 intro hx;obtain⟨j,hj,rfl⟩:=List.getElem_of_mem hx
 have key:∀(n j:Nat)(hj:j<zs.length),j<=n->∃a,a∈(List.range zs.length).filter (Lib.keeps zs.toArray)/\zs.toArray[a]! = zs[j]:=by
  intro n
  induction n with
  |zero=>
   intro j hj hn;obtain rfl:j=0:=by omega
   exact⟨0,List.mem_filter.2 ⟨List.mem_range.2 hj,Lib.keeps_lt_one _ 0 (by omega)⟩,Vw zs 0 hj⟩
  |succ n ih=>
   intro j hj hn;by_cases hk:Lib.keeps zs.toArray j=true
   .exact⟨j,List.mem_filter.2 ⟨List.mem_range.2 hj,hk⟩,Vw zs j hj⟩
   have h0:j≠0/\zs.toArray[j]! = zs.toArray[j-1]!:=by
    simp only[Lib.keeps,decide_eq_true_eq,not_or,Decidable.not_not]at hk;exact hk
   obtain⟨a,h1,h2⟩:=ih (j-1) (by omega) (by omega);refine⟨a,h1,?_⟩;rw[h2,<-Vw zs (j-1) (by omega),<-h0.2,Vw zs j hj]
 exact key j j hj Znl
theorem NY(zs:List Int)(hs:zs.Pairwise (·<=·)):XP (Lib.compact zs):=by
 unfold XP Lib.compact Lib.compactUpTo;rw[List.pairwise_map];have h0:(List.range zs.length).Pairwise (· < ·):=List.pairwise_lt_range;have h1:((List.range zs.length).filter (Lib.keeps zs.toArray)).Pairwise (· < ·):=List.Pairwise.sublist List.filter_sublist h0;refine List.Pairwise.imp_of_mem (λ{i j} hi hj hij=>?_) h1;have hil:=List.mem_range.1 (List.mem_filter.1 hi).1;have hjl:=List.mem_range.1 (List.mem_filter.1 hj).1;have hk:=(List.mem_filter.1 hj).2;simp only[Lib.keeps,decide_eq_true_eq]at hk;have hne:zs.toArray[j]! ≠ zs.toArray[j-1]!:=by rcases hk with h|h;omega;exact h
 rw[Vw zs j hjl,Vw zs (j-1) (by omega)]at hne;rw[Vw zs i hil,Vw zs j hjl]
 have a1:zs[i]<=zs[j-1]:=by
  rcases Nat.lt_or_ge i (j-1)with h|h
  .exact List.pairwise_iff_getElem.1 hs i (j-1) hil (by omega) h
  obtain rfl:i=j-1:=by omega
  exact Int.le_refl _
 have a2:=List.pairwise_iff_getElem.1 hs (j-1) j (by omega) hjl (by omega);omega
theorem QcT(vals:List Int):Lib.compact (vals.mergeSort λx y=>decide (x<=y))=setOf vals:=by
 have hs:(vals.mergeSort λx y=>decide (x<=y)).Pairwise (·<=·):=by
  have:=List.pairwise_mergeSort (le:=λx y:Int=>decide (x<=y)) (λa b c h1 h2=>by simp at h1 h2⊢;omega) (λa b=>by simp;omega) vals;exact this.imp (by intro a b h;simpa using h)
 refine ZH _ _ (NY _ hs) (YW _) λz=>?_;rw[Qdi,EO,List.mem_mergeSort]
theorem QcS(v:Value)(l:List Int)(base:Nat)(w:World)(hown:Qg w base 3 1 JI v l)(hl:l≠[])(hsz:l.length<4611686018427387904):
  Calls prog 222 #[v] w λe w'=>e=.returned (.tuple #[])/\Qg w' base 3 1 JI v (l.mergeSort λx y=>decide (x<=y))/\w.grownBy w' v.ownBlock:=by
 obtain⟨h1,h2⟩:=hown.ints;rcases h2 with⟨_,h0⟩|⟨g,cap,cur,rfl,hg,hh,hnc,hcm,hcs,htk⟩
 .exact absurd (List.length_eq_zero_iff.1 h0) hl
 rw[Nat.mul_one]at htk;refine(Tryz.slices_Sort_int g 0 cap l w (holds_of_blockI hh htk) (Array.getElem?_eq_some_iff.1 hh).1 hsz).mono ?_;rintro e w'⟨rfl,n,os,rfl⟩;refine⟨rfl,?_,grownBy_sortedI _⟩;have hml:(l.mergeSort λx y=>decide (x<=y)).length=l.length:=List.length_mergeSort ..;have:=Qem (q:=n) (os:=os) (base:=base) (e:=3) hml hg hh hnc hcm hcs (m:=l.length) (by omega)
 rwa [List.take_of_length_le (by omega)]at this
theorem Qb4(v:Value)(l:List Int)(base:Nat)(w:World)(hown:Qg w base 3 1 JI v l)(hl:l≠[])(hsz:l.length<=9223372036854775807):
  Calls prog 243 #[v] w λe w'=>∃v',e=.returned v'/\Qg w' base 3 1 JI v' (Lib.compact l)/\w.grownBy w' v.ownBlock/\v'.ownBlock=v.ownBlock:=by
 obtain⟨h1,h2⟩:=hown.ints;rcases h2 with⟨_,h0⟩|⟨g,cap,cur,rfl,hg,hh,hnc,hcm,hcs,htk⟩
 .exact absurd (List.length_eq_zero_iff.1 h0) hl
 rw[Nat.mul_one]at htk;refine(Tryz.slices_Compact_int g 0 cap l w (holds_of_blockI hh htk) hsz hnc).mono ?_;rintro e w'⟨rfl,q,rfl⟩
 have hc:(Lib.compact l).length<=l.length:=by
  unfold Lib.compact Lib.compactUpTo;rw[List.length_map];exact Nat.le_trans (List.length_filter_le _ _) (by simp)
 obtain⟨ts,hts⟩:∃ts,ts=Lib.compact l++List.replicate (l.length-(Lib.compact l).length) 0:=⟨_,rfl⟩;have htl:ts.length=l.length:=by rw[hts,List.length_append,List.length_replicate];omega
 have:=Qem (q:=q) (os:=#[]) (base:=base) (e:=3) htl hg hh hnc hcm hcs (m:=(Lib.compact l).length) (by omega);have e1:ts.take (Lib.compact l).length=Lib.compact l:=by rw[hts];exact List.take_left' rfl
 rw[e1,grow_empty]at this;have e2:(Lib.compact l++List.replicate (l.length-(Lib.compact l).length) 0).toArray=ts.toArray:=by rw[hts]
 refine⟨_,rfl,?_,?_,rfl⟩
 .rw[e2];exact this
 have:=grownBy_sortedI (w:=w) (g:=g) (n:=q) (os:=#[]) (Lib.compact l++List.replicate (l.length-(Lib.compact l).length) 0).toArray;rw[grow_empty]at this;exact this
end
section
open Go.RowKit
theorem Qha(v:Value)(l:List TPol)(f:Int)(D:Nat->Prop)(w:World)(h:Xy w D v l)(hok:∀p∈l,UT p)(hn:(U2 l f).length*8<=140737488355328):
  Calls prog 229 #[v,.int .i64 f] w λe w'=>∃v',e=.returned v'/\Qg w' w.heap.size 3 1 JI v' (Q5 l f)/\Below w.heap.size w w':=by
 have H:=Zh h;obtain⟨a,c,rfl,hlc,hcm,hat⟩:=Sl.form h;obtain⟨i0,hi,hz0,hz1,hz2⟩:=info_parts Qga;have Hi:=Zh hi;have Hok:=Zh hok;have Hn:=Zh hn;clear h hi hok hn;go_enter func229,ntmps229;go_wp2_with fail
 go_loopw[5,15](λov kv wr=>∃(k:Nat)(vs:Value),kv=.int .i64 k/\vs=ov/\k<=l.length/\Qg wr (w.heap.size+1) 3 1 JI vs (0::(l.take k).flatMap (Ym f))/\Below (w.heap.size+1) (w.alloc (.cells #[.int .i64 f] 3)) wr) (λ_ kv _=>l.length-(intOf kv).toNat)
 case atStart=>
  refine⟨0,_,rfl,rfl,by omega,?_,Zbr.alloc (by simp) _⟩;exact⟨[[.int .i64 0]],Qq.cons Qq.nil rfl rfl,by simp,.inr ⟨w.heap.size+1,1,_,rfl,Nat.le_refl _,UM (by simp),by simp,by simp[maxLen],by simp,by simp⟩⟩
 case round=>
  obtain⟨k,vs,rfl,rfl,hk,hown,hb⟩:=hrel;have hbc:=UU hb;have hbw:=UL hb;have hsz:=U5 hb;have Hown:=Zh hown;have Hb:=Zh hb;have Hbw:=Zh hbw;clear hown hb hbw;by_cases hlt:k<l.length
  .obtain⟨b,o,rfl,hDb,hblt⟩:=hat (by omega);obtain⟨ca,cc,hc0w,hc1w,hrd,hcl,hcmx,hcat⟩:=Xy.cells H.o hlt;have Hs:=Zh (YO (Ym f) l k hlt);have Hle:=Zh (YB (Ym f) l (k+1));obtain⟨p,hp⟩:∃p,l[k]=p:=⟨_,rfl⟩;have Hkp:=Zh (Hok.o l[k] (List.getElem_mem hlt));rw[hp]at hc0w hc1w hrd hcl hcat Hkp Hs;have Hrd:=Zh hrd;have hc0:=(Hbw.o.cell (p:=⟨b,o+k*2,none⟩) hblt).trans hc0w;have hc1:=(Hbw.o.cell (p:=⟨b,o+k*2+1,none⟩) hblt).trans hc1w
   have Hll:Hid ((0::(l.take k).flatMap (Ym f)).length+(p.ru.flatMap (Xe f)).length<=(U2 l f).length):=by
    show _<=_;have h1:=Hle.o;rw[Hs.o,List.length_append]at h1;unfold U2;simp only[List.length_cons];unfold Ym at h1⊢;omega
   obtain⟨wo,rfl⟩:∃wo:World,wo=wr:=⟨_,rfl⟩;obtain⟨L,hL⟩:∃L,L=0::(l.take k).flatMap (Ym f):=⟨_,rfl⟩;rw[<-hL]at Hown Hll;have HL:=Zh hL;clear hrd hp hc0w hc1w hL;go_wp2_with fail
   clear hc0 hc1 hbc
   go_loopw[5,22](λov kv wr=>∃(j:Nat)(vs:Value),kv=.int .i64 j/\vs=ov/\j<=p.ru.length/\Qg wr (w.heap.size+1) 3 1 JI vs (L++(p.ru.take j).flatMap (Xe f))/\Below (w.heap.size+1) (w.alloc (.cells #[.int .i64 f] 3)) wr) (λ_ kv _=>p.ru.length-(intOf kv).toNat)
   case atStart=>exact⟨0,vs,rfl,rfl,by omega,by simpa using Hown.o.below (Qa Zbr _),Hb.o.trans ((Qa (Below.refl _ wo) _).mono hsz)⟩
   case round=>
    obtain⟨j,vj,rfl,rfl,hj,hown,hb⟩:=hrel;have hbw:=UL hb;have hszj:=U5 hb;have Hownj:=Zh hown;have Hbj:=Zh hb;have Hbwj:=Zh hbw;clear hown hb hbw Hown Hb Hbw;by_cases hjl:j<p.ru.length
    .obtain⟨b2,o2,rfl,hDb2,hblt2⟩:=hcat (by omega);obtain⟨da,dc,hd0w,hd1w,hrd2,hdl,hdmx,hdat⟩:=Qc.cells Hrd.o hjl;have Hs2:=Zh (YO (Xe f) p.ru j hjl);have Hle2:=Zh (YB (Xe f) p.ru (j+1));obtain⟨r,hr⟩:∃r,p.ru[j]=r:=⟨_,rfl⟩;have Hkr:=Zh (Hkp.o.ru p.ru[j] (List.getElem_mem hjl));rw[hr]at hd0w hd1w hrd2 hdl hdat Hkr Hs2;have Hrd2:=Zh hrd2;have hd0:=(Hbwj.o.cell (p:=⟨b2,o2+j*2,none⟩) hblt2).trans hd0w;have hd1:=(Hbwj.o.cell (p:=⟨b2,o2+j*2+1,none⟩) hblt2).trans hd1w
     have Hll2:Hid ((L++(p.ru.take j).flatMap (Xe f)).length+(r.cd.flatMap (Uo f)).length<=(U2 l f).length):=by
      show _<=_;have h1:=Hle2.o;have h2:=Hll.o;rw[Hs2.o,List.length_append]at h1;rw[List.length_append];have e:(Xe f r).length=(r.cd.flatMap (Uo f)).length:=rfl;omega
     obtain⟨wp,rfl⟩:∃wp:World,wp=wr:=⟨_,rfl⟩;obtain⟨M,hM⟩:∃M,M=L++(p.ru.take j).flatMap (Xe f):=⟨_,rfl⟩;rw[<-hM]at Hownj Hll2;have HM:=Zh hM;clear hrd2 hr hd0w hd1w hM;go_wp2_with fail
     clear hd0 hd1
     go_loopw[5,29](λov kv wr=>∃(i:Nat)(vs:Value),kv=.int .i64 i/\vs=ov/\i<=r.cd.length/\Qg wr (w.heap.size+1) 3 1 JI vs (M++(r.cd.take i).flatMap (Uo f))/\Below (w.heap.size+1) (w.alloc (.cells #[.int .i64 f] 3)) wr) (λ_ kv _=>r.cd.length-(intOf kv).toNat)
     case atStart=>exact⟨0,vj,rfl,rfl,by omega,by simpa using Hownj.o.below (Qa Zbr _),Hbj.o.trans ((Qa (Below.refl _ wp) _).mono hszj)⟩
     case round=>
      obtain⟨i,vi,rfl,rfl,hi,hown,hb⟩:=hrel;have hbci:=UU hb;have hbw:=UL hb;have hszi:=U5 hb;have Howni:=Zh hown;have Hbi:=Zh hb;have Hbwi:=Zh hbw;clear hown hb hbw Hownj Hbj Hbwj;by_cases hil:i<r.cd.length
      .obtain⟨b3,o3,rfl,hDb3,hblt3⟩:=hdat (by omega);obtain⟨he0,he1,he2⟩:=QF.cells (Hrd2.o.below Hbwi.o) hil;have Hs3:=Zh (YO (Uo f) r.cd i hil);have Hle3:=Zh (YB (Uo f) r.cd (i+1));have Hoc:=Zh (Hkr.o.cd r.cd[i] (List.getElem_mem hil));obtain⟨⟨cf,cop,cv⟩,hcj⟩:∃y:TCond,r.cd[i]=y:=⟨_,rfl⟩;rw[hcj]at he0 he1 he2 Hs3 Hoc;have hv0:0<=cv:=Hoc.o.v0;have hv1:cv<=65535:=Int.le_trans Hoc.o.v1 (by show QY cf<=65535;unfold QY;split<;>(try split)<;>omega);have ho0:1<=cop:=Hoc.o.o0;have ho1:cop<=4:=Hoc.o.o1;dsimp only at he0 he1 he2;clear hcj
       have Hll3:Hid ((M++(r.cd.take i).flatMap (Uo f)).length+(Uo f ⟨cf,cop,cv⟩).length<=(U2 l f).length):=by
        show _<=_;have h1:=Hle3.o;have h2:=Hll2.o;rw[Hs3.o,List.length_append]at h1;rw[List.length_append];omega
       obtain⟨wi,rfl⟩:∃wi:World,wi=wr:=⟨_,rfl⟩;have Hobn:Hid (∀g,vi.ownBlock=some g->g<wi.heap.size):=λg hg=>by obtain⟨rows,_,hrw⟩:=Howni.o;exact(hrw.lt _ hg).2
       by_cases hcf:cf=f
       .subst hcf;have hb2:=Hbi.o.trans ((Qa (Below.refl _ wi) (.cells #[.int .i64 cf,.int .i64 cop,.int .i64 cv] 153)).mono hszi);have hbc2:=UU hb2;clear hbci hb2
        have hlen3:(M++(r.cd.take i).flatMap (Uo cf)).length+2<=17592186044416+1:=by
         have h1:=Hll3.o;have h2:=Hn.o;have h3:1<=(Uo cf ⟨cf,cop,cv⟩).length:=by unfold Uo;rw[if_pos rfl];split<;>simp
         omega
        have Hown3:=Zh (Howni.o.below (Qa (Qa (Below.refl _ wi) (.cells #[.int .i64 cf,.int .i64 cop,.int .i64 cv] 153)) (.cells #[.int .i64 cv] 3)));have Hbox3:=Zh (QQ (o:=(.cells #[.int .i64 cv] 3)) (Qh wi (.cells #[.int .i64 cf,.int .i64 cop,.int .i64 cv] 153)));have Hbi3:=Zh (Hbi.o.trans ((Qa (Qa (Below.refl _ wi) (.cells #[.int .i64 cf,.int .i64 cop,.int .i64 cv] 153)) (.cells #[.int .i64 cv] 3)).mono hszi));rcases(by omega:(cop=1\/cop=2)\/(cop=3\/cop=4))with ho|ho
        .have Hcc:Hid (Uo cf ⟨cf,cop,cv⟩=[cv]++[cv+1]):=by show _=_;unfold Uo;rw[if_pos rfl,if_pos ho];rfl
         have hlen4:(M++(r.cd.take i).flatMap (Uo cf)).length+2<=17592186044416:=by
          have h1:=Hll3.o;have h2:=Hn.o;rw[Hcc.o]at h1;simp only[List.length_append,List.length_singleton]at h1⊢;omega
         have hw1:IntKind.i64.wrap (cv+1)=cv+1:=by rw[IntKind.wrap_i64];omega
         rcases ho with rfl|rfl
         all_goals
          go_wp2_with(at_builtin;first|(refine QK rfl _ _ 231 rfl (w.heap.size+1) 3 i0 _ 1 8 underlying231 Hi.o hz0 hz1 hz2 rfl (by decide) _ _ rfl Hown3.o _ _ rfl (Qbx (by simp)) (λy _ cs h=>IM y cs h) (by show _+1<=maxLen;unfold maxLen;omega) (by show(_+1)*8<=_;omega) (by simp;omega) ?_;intro v' w3 hown' hg hat';have Hown':=Zh hown';have Hb3:=Zh (Hown3.o.grown Hbi3.o hg (by simp;omega) Znl);have Hx3:=Zh ((hg.block wi.heap.size (by simp;omega) (λe=>by have:=Hobn.o _ e.symm;omega)).trans Hbox3.o);have hx3:=Qb Hx3.o;have hs3:wi.heap.size<w3.heap.size:=(by have:=hg.size;simp at this;omega);have hs4:w.heap.size+1<=w3.heap.size:=(by omega);have Hown4:=Zh (Hown'.o.below (Qa (Below.refl _ w3) (.cells #[.int .i64 (cv+1)] 3)));have Hbi4:=Zh (Hb3.o.trans ((Qa (Below.refl _ w3) (.cells #[.int .i64 (cv+1)] 3)).mono hs4));clear hown' hg hat' hbc2)|(refine QK rfl _ _ 231 rfl (w.heap.size+1) 3 i0 _ 1 8 underlying231 Hi.o hz0 hz1 hz2 rfl (by decide) _ _ rfl Hown4.o _ _ rfl (Qbx (by simp)) (λy _ cs h=>IM y cs h) (by show _+1<=maxLen;unfold maxLen;rw[List.length_append];show _+1+1<=_;omega) (by rw[List.length_append];show(_+1+1)*8<=_;omega) (by simp;omega) ?_;intro v'' w4 hown'' hg' hat'';have Hown5:=Zh hown'';have Hb5:=Zh (Hown4.o.grown Hbi4.o hg' (by simp;omega) Znl);clear hown'' hg' hat'' hx3))
          go_roundw
          case rel=>exact⟨i+1,v'',by go_num,rfl,by omega,by rw[Hs3.o,Hcc.o,<-List.append_assoc,<-List.append_assoc];exact Hown5.o,Hb5.o⟩
          case measure=>simp[intOf];omega
        have Hcc:Hid (Uo cf ⟨cf,cop,cv⟩=[cv]):=by show _=_;unfold Uo;rw[if_pos rfl,if_neg (by show ¬(cop=1\/cop=2);omega)]
        rcases ho with rfl|rfl
        all_goals
         go_wp2_with(at_builtin;refine QK rfl _ _ 231 rfl (w.heap.size+1) 3 i0 _ 1 8 underlying231 Hi.o hz0 hz1 hz2 rfl (by decide) _ _ rfl Hown3.o _ _ rfl (Qbx (by simp)) (λy _ cs h=>IM y cs h) (by show _+1<=maxLen;unfold maxLen;omega) (by show(_+1)*8<=_;omega) (by simp;omega) ?_;intro v' w3 hown' hg hat';have Hown':=Zh hown';have Hb3:=Zh (Hown3.o.grown Hbi3.o hg (by simp;omega) Znl);have Hx3:=Zh ((hg.block wi.heap.size (by simp;omega) (λe=>by have:=Hobn.o _ e.symm;omega)).trans Hbox3.o);have hx3:=Qb Hx3.o;have hs3:wi.heap.size<w3.heap.size:=(by have:=hg.size;simp at this;omega);have hs4:w.heap.size+1<=w3.heap.size:=(by omega);have hbc3:=UU Hb3.o;clear hown' hg hat' hbc2)
         go_roundw
         case rel=>exact⟨i+1,v',by go_num,rfl,by omega,by rw[Hs3.o,Hcc.o,<-List.append_assoc];exact Hown'.o,Hb3.o⟩
         case measure=>simp[intOf];omega
       have hb0:(cf != f)=true:=bne_iff_ne.2 hcf;have Hcc:Hid (Uo f ⟨cf,cop,cv⟩=[]):=if_neg hcf;have hb2:=Hbi.o.trans ((Qa (Below.refl _ wi) (.cells #[.int .i64 cf,.int .i64 cop,.int .i64 cv] 153)).mono hszi);have hbc2:=UU hb2;have Hb2:=Zh hb2;clear hbci hcf hb2;go_wp2_with fail
       go_roundw
       case rel=>exact⟨i+1,vi,by go_num,rfl,by omega,by rw[Hs3.o,Hcc.o,List.append_nil];exact Howni.o.below (Qa Zbr _),Hb2.o⟩
       case measure=>simp[intOf];omega
      obtain rfl:i=r.cd.length:=by omega
      go_wp2
      go_roundw
      case rel=>exact⟨j+1,vi,by go_num,rfl,by omega,by have:=Howni.o;rw[List.take_length,HM.o,List.append_assoc]at this;rw[Hs2.o];exact this,Hbi.o⟩
      case measure=>simp[intOf];omega
    obtain rfl:j=p.ru.length:=by omega
    go_wp2
    go_roundw
    case rel=>exact⟨k+1,vj,by go_num,rfl,by omega,by have:=Hownj.o;rw[List.take_length,HL.o]at this;rw[Hs.o];exact this,Hbj.o⟩
    case measure=>simp[intOf];omega
  obtain rfl:k=l.length:=by omega
  have HV:Hid (Qg wr (w.heap.size+1) 3 1 JI vs (U2 l f)):=by have:=Hown.o;rw[List.take_length]at this;exact this
  have hbn:(U2 l f).length<=17592186044416:=by have:=Hn.o;omega
  have hlen:0<(U2 l f).length:=by simp[U2]
  clear hbc;go_wp2_with fail
  refine(QcS vs (U2 l f) (w.heap.size+1) wr HV.o (by simp[U2]) (by omega)).mono ?_;rintro e w1⟨rfl,ho1,hg1⟩;have Ho1:=Zh ho1;have Hb1:=Zh (Hown.o.grown Hb.o hg1 hsz Znl);have hz1:w.heap.size+1<=w1.heap.size:=Nat.le_trans hsz hg1.size;clear ho1 hg1;go_wp2_with fail
  refine(Qb4 vs _ (w.heap.size+1) w1 Ho1.o (λe=>by have:=congrArg List.length e;rw[List.length_mergeSort]at this;simp[U2]at this) (by rw[List.length_mergeSort];omega)).mono ?_;rw[QcT];rintro e w2⟨v2,rfl,ho2,hg2,hk2⟩;have Ho2:=Zh ho2;have Hb2:=Zh (Ho1.o.grown Hb1.o hg2 hz1 Znl);have hz2:w.heap.size+1<=w2.heap.size:=Nat.le_trans hz1 hg2.size;have hbc2:=UU Hb2.o 0;have Hne:Hid (v2.ownBlock≠some w.heap.size):=λe=>by have:=Ho2.o.block _ e;omega
  clear ho2 hg2 hk2;go_wp2_with fail
  refine(Eo v2 _ f w.heap.size (w.heap.size+1) w2 Ho2.o (YW _) hbc2 Hne.o).mono ?_;rintro e w3⟨v3,rfl,ho3,hg3,hk3⟩;have Ho3:=Zh ho3;have Hb3:=Zh (Ho2.o.grown Hb2.o hg3 hz2 Znl);clear ho3 hg3 hk3;go_wp2;go_ret;exact⟨_,rfl,Ho3.o.base (by omega),UL Hb3.o⟩
end
section
open Go.RowKit
def Z5(l:List TPol)(f:Int):List Int×Int:=if VD l≠0 then([],VD l)else if f<0\/5<=f then([],5)else(Q5 l f,0)
theorem QfV(v:Value)(l:List TPol)(f:Int)(D:Nat->Prop)(w:World)(h:Xy w D v l)(hn:VD l=0->0<=f->f<5->(U2 l f).length*8<=140737488355328):
  Calls prog 224 #[v,.int .i64 f] w λe w'=>∃v',e=.returned (.tuple #[v',.int .i64 (Z5 l f).2])/\Qg w' w.heap.size 3 1 JI v' (Z5 l f).1/\Below w.heap.size w w':=by
 have H:=Zh h;obtain⟨a,c,rfl,hlc,hcm,hat⟩:=Sl.form h;have Hn:=Zh hn;clear h hn;go_enter func224,ntmps224;go_wp2_with fail
 go_loopw[11](λkv wr=>∃k:Nat,kv=.int .i64 k/\k<=l.length/\VD (l.drop k)=VD l/\Below w.heap.size w wr) (λkv _=>l.length-(intOf kv).toNat)
 case atStart=>exact⟨0,rfl,Nat.zero_le _,rfl,Below.refl _ _⟩
 case round=>
  obtain⟨k,rfl,hk,hdr,hb⟩:=hrel;have Hdr:=Zh hdr;have Hb:=Zh hb;have hsz:=hb.size;clear hdr hb;by_cases hlt:k<l.length
  .obtain⟨b,o,rfl,hDb,hblt⟩:=hat (by omega);obtain⟨ca,cc,hc0w,hc1w,hrd,hcl,hcmx,hcat⟩:=Xy.cells H.o hlt;have Hs:=Zh (QaW l k hlt);obtain⟨p,hp⟩:∃p,l[k]=p:=⟨_,rfl⟩;rw[hp]at hc0w hc1w hrd hcl hcat Hs;have Hrd:=Zh hrd;have hc0:=(Hb.o.cell (p:=⟨b,o+k*2,none⟩) hblt).trans hc0w;have hc1:=(Hb.o.cell (p:=⟨b,o+k*2+1,none⟩) hblt).trans hc1w;clear hrd hp hc0w hc1w;go_wp2_with fail
   refine(UO _ p D _ (Qc.below Hrd.o (Qa Hb.o _))).mono ?_;rintro e w1⟨rfl,hb1⟩;have Hb1:=Zh (UI Hb.o hb1);clear hb1 hc0 hc1;by_cases h0:UZ p=0
   .have H0:=Zh h0;rw[h0];clear h0;go_wp2
    go_roundw
    case rel=>exact⟨k+1,by go_num,by omega,by have:=Hs.o;rw[if_pos H0.o,Hdr.o]at this;exact this.symm,Hb1.o⟩
    case measure=>simp[intOf];omega
   have hb0:(UZ p != 0)=true:=bne_iff_ne.2 h0
   have HE:Hid (Z5 l f=([],UZ p)):=by
    have e:VD l=UZ p:=by have:=Hs.o;rw[if_neg h0,Hdr.o]at this;exact this
    show Z5 l f=_;unfold Z5;rw[e,if_pos h0]
   clear h0;go_wp2;go_ret2;rw[HE.o];exact⟨_,rfl,Qg.nil,Hb1.o⟩
  obtain rfl:k=l.length:=by omega
  have h0:VD l=0:=by have:=Hdr.o;rw[List.drop_length]at this;exact this.symm
  have H0:=Zh h0;clear h0;by_cases hf:f<0\/5<=f
  .have HE:Hid (Z5 l f=([],5)):=by
    show Z5 l f=_;unfold Z5;rw[if_neg (by rw[H0.o];simp),if_pos hf]
   by_cases hf0:f<0
   .have hd:decide (f<0)=true:=decide_eq_true hf0;clear hf;go_wp2;go_ret2;rw[HE.o];exact⟨_,rfl,Qg.nil,Hb.o⟩
   have hd:decide (f<0)=false:=decide_eq_false hf0;have hd2:decide (5<=f)=true:=decide_eq_true (by omega);clear hf;go_wp2;go_ret2;rw[HE.o];exact⟨_,rfl,Qg.nil,Hb.o⟩
  have HE:Hid (Z5 l f=(Q5 l f,0)):=by
   show Z5 l f=_;unfold Z5;rw[if_neg (by rw[H0.o];simp),if_neg hf]
  have hd:decide (f<0)=false:=decide_eq_false (by omega);have hd2:decide (5<=f)=false:=decide_eq_false (by omega);have Hn2:=Zh (Hn.o H0.o (by omega) (by omega));clear hf;go_wp2_with fail
  refine(Qha _ l f D _ (Xy.below H.o Hb.o) ((Yf l).1 H0.o) Hn2.o).mono ?_;rintro e w1⟨v1,rfl,ho1,hb1⟩;have Ho1:=Zh ho1;have Hb1:=Zh (Ql Hb.o hb1);obtain⟨a1,c1,rfl⟩:=ho1.slice;clear ho1 hb1;go_wp2;go_ret2;rw[HE.o];exact⟨_,rfl,Ho1.o.base hsz,Hb1.o⟩
end
section
open Go.RowKit
theorem Qd7:(prog.info? 46).map (λi=>(i.zero,i.size,i.bytes))=some (some (.agg #[.int .i64 0,.int .i64 0,.int .i64 0,.int .i64 0,.int .i64 0]),5,40):=by kernel_rfl
def Oz(x:TCall)(cs:List Value):Prop:=cs=[.int .i64 x.a0,.int .i64 x.a1,.int .i64 x.a2,.int .i64 x.a3,.int .i64 x.a4]
def Xj(w:World)(D:Nat->Prop)(v:Value)(l:List TCall):Prop:=Sl w D 5 Oz v l
theorem Xj.below{w w':World}{D:Nat->Prop}{v:Value}{l:List TCall}(h:Xj w D v l)(hb:Below w.heap.size w w'):Xj w' D v l:=
 Sl.mono h (λ_ h _=>h) (λb _ hlt=>hb.block b hlt) hb.size (λ_ _ _ h=>h)
theorem Xj.cells{w:World}{D:Nat->Prop}{b o n c:Nat}{s:Option Nat}{l:List TCall}(h:Xj w D (.slice (some ⟨b,o,s⟩) n c) l){i:Nat}(hi:i<l.length):
  w.cell? ⟨b,o+i*5,none⟩=some (.int .i64 l[i].a0)/\w.cell? ⟨b,o+i*5+1,none⟩=some (.int .i64 l[i].a1)/\w.cell? ⟨b,o+i*5+2,none⟩=some (.int .i64 l[i].a2)/\w.cell? ⟨b,o+i*5+3,none⟩=some (.int .i64 l[i].a3)/\w.cell? ⟨b,o+i*5+4,none⟩=some (.int .i64 l[i].a4):=by
 obtain⟨cs,hcs,hr,hcell⟩:=Sl.get h hi;unfold Oz at hr;subst hr;exact⟨hcell 0 _ rfl,hcell 1 _ rfl,hcell 2 _ rfl,hcell 3 _ rfl,hcell 4 _ rfl⟩
theorem Qb1(y:TCall)(cs:List Value)(h:Oz y cs):∀c∈cs,c.oneCell'=true:=by
 unfold Oz at h;subst h;intro c hc;simp at hc;rcases hc with rfl|rfl|rfl|rfl|rfl<;>rfl
@[reducible] def Vr(x:TCall):Array Value:=#[.int .i64 x.a0,.int .i64 x.a1,.int .i64 x.a2,.int .i64 x.a3,.int .i64 x.a4]
theorem Ed(x:TCall)(k:Nat)(h:k<5)(n:Int):(Vr x).setIfInBounds k (.int .i64 n)=Vr (x.set k n):=by
 match k,h with
 |0,_=>rfl
 |1,_=>rfl
 |2,_=>rfl
 |3,_=>rfl
 |4,_=>rfl
theorem Ec(x:TCall)(k:Nat)(h:k<5):(Vr x)[k]?=some (.int .i64 (x.get k)):=by
 match k,h with
 |0,_=>rfl
 |1,_=>rfl
 |2,_=>rfl
 |3,_=>rfl
 |4,_=>rfl
theorem Qiu(x:TCall)(k:Nat)(m n:Int):(x.set k m).set k n=x.set k n:=by
 match k with
 |0=>rfl
 |1=>rfl
 |2=>rfl
 |3=>rfl
 |k+4=>rfl
theorem Qej{W:World}{x:TCall}{T:TypeId}{b:Nat}(hb:b=W.heap.size):Xj (W.alloc (.cells (Vr x) T)) (λ_=>True) (.slice (some ⟨b,0,none⟩) 1 1) [x]:=
 Ub (R:=Oz) (sz:=5) (xs:=[x]) (rows:=[[.int .i64 x.a0,.int .i64 x.a1,.int .i64 x.a2,.int .i64 x.a3,.int .i64 x.a4]]) (Qq.cons Qq.nil rfl rfl) (UM hb) rfl trivial (by simp[maxLen])
theorem Iq{l:List TPol}(h0:VD l=0){k:Nat}(hk:k<5)(h:1000<sizes l (k+1)):Q8 l=([],2):=by
 unfold Q8;rw[if_neg (by rw[h0];simp),if_pos (Nat.lt_of_lt_of_le h (Qeu l (by omega)))]
theorem QaV(v:Value)(l:List TPol)(D:Nat->Prop)(w:World)(h:Xy w D v l)(hn:VD l=0->∀f:Int,0<=f->f<5->(U2 l f).length*8<=140737488355328):
  Calls prog 216 #[v] w λe w'=>∃v',e=.returned (.tuple #[v',.int .i64 (Q8 l).2])/\Qg w' w.heap.size 46 5 Oz v' (Q8 l).1/\Below w.heap.size w w':=by
 have H:=Zh h;have Hn:=Zh hn;obtain⟨i0,hi,hz0,hz1,hz2⟩:=info_parts Qd7;have Hi:=Zh hi;clear h hn hi;go_enter func216,ntmps216;go_wp2_with fail
 go_loopw[4,15](λov kv wr=>∃(k:Nat)(vs:Value),kv=.int .i64 k/\vs=ov/\k<=5/\(k≠0->VD l=0)/\sizes l k<=1000/\Qg wr w.heap.size 46 5 Oz vs (stage l k)/\Below w.heap.size w wr) (λ_ kv _=>5-(intOf kv).toNat)
 case atStart=>
  refine⟨0,_,rfl,rfl,by omega,λh=>absurd rfl h,by simp[sizes],?_,Zbr.alloc Znl _⟩;exact⟨[[.int .i64 0,.int .i64 0,.int .i64 0,.int .i64 0,.int .i64 0]],Qq.cons Qq.nil rfl rfl,by simp[stage],.inr ⟨w.heap.size,1,_,rfl,Nat.le_refl _,Qh _ _,by simp[stage],by simp[maxLen],by simp,by simp[stage]⟩⟩
 case round=>
  obtain⟨k,vs,rfl,rfl,hk,hp0,hs,hown,hb⟩:=hrel;have Hp0:=Zh hp0;have Hown:=Zh hown;have Hb:=Zh hb;have hsz:=hb.size;have Hs:=Zh hs;obtain⟨a,c,rfl⟩:=hown.slice;clear hp0 hown hb hs;by_cases hlt:k<5
  .go_wp2_with fail
   refine(QfV v l k D _ (H.o.belowR Hb.o (λ_ _ _ ⟨u,h1,h2⟩=>⟨u,h1,h2.below Hb.o⟩)) (λh0 h1 h2=>Hn.o h0 _ h1 h2)).mono ?_;rintro e w1⟨v1,rfl,ho1,hb1⟩;have Hb1:=Zh (Ql Hb.o hb1);have Hbr:=Zh hb1;have Ho1:=Zh ho1;have hsz1:=hb1.size;obtain⟨a1,c1,rfl⟩:=ho1.slice;clear ho1 hb1;by_cases h0:VD l=0
   .have H0:=Zh h0
    have HE:Hid (Z5 l k=(Q5 l k,0)):=by
     show Z5 l k=_;unfold Z5;rw[if_neg (by rw[h0];simp),if_neg (by omega)]
    have Ho2:Hid (UR w1 (λ_=>True) (.slice a1 (Q5 l k).length c1) (Q5 l k)):=by
     have:=Ho1.o.sl (D:=λ_=>True) (λ_ _=>trivial);rw[HE.o]at this;exact this
    have hlen:(Q5 l k).length<=17592186044416:=by
     have h1:=Hn.o h0 k (by omega) (by omega)
     have h2:(Q5 l k).length<=(U2 l k).length:=by
      unfold Q5;refine Nat.le_trans (List.length_filter_le _ _) ?_
      have h3:∀m:List Int,(setOf m).length<=m.length:=λm=>by
       have h4:∀(x:Int)(m:List Int),(Qd9 x m).length<=m.length+1:=λx m=>by
        induction m with
        |nil=>simp[Qd9]
        |cons y m ih=>unfold Qd9;split<;>(try split)<;>simp<;>omega
       induction m with
       |nil=>simp[setOf]
       |cons x m ih=>have:=h4 x (setOf m);simp[setOf];omega
      exact h3 _
     omega
    have Hss:Hid (sizes l (k+1)=sizes l k*(Q5 l k).length):=rfl;have Hst:Hid ((stage l k).length=sizes l k):=VJ l k;rw[HE.o];obtain⟨C,hC⟩:∃C,C=Q5 l k:=⟨_,rfl⟩;rw[<-hC]at Ho2 hlen Hss⊢;have HC:=Zh hC;have hmul:(((stage l k).length:Int)*(C.length:Int))=(((stage l k).length*C.length:Nat):Int):=by rw[Int.natCast_mul]
    have hmb:(stage l k).length*C.length<=1000*17592186044416:=Nat.mul_le_mul (by rw[Hst.o];exact Hs.o) hlen;have hwr:IntKind.i64.wrap (((stage l k).length:Int)*(C.length:Int))=((stage l k).length:Int)*(C.length:Int):=by rw[hmul,IntKind.wrap_i64];omega
    clear h0 hC hmul;by_cases hbig:1000<sizes l (k+1)
    .have hd:decide ((1000:Int)<((stage l k).length:Int)*(C.length:Int))=true:=decide_eq_true (by rw[<-Int.natCast_mul,Hst.o,<-Hss.o];omega);have HP:Hid (Q8 l=([],2)):=Iq H0.o hlt hbig;have Hhb:=Zh hbig;clear hbig hmb;go_wp2_with fail
     go_ret2;rw[HP.o];exact⟨_,rfl,Qg.nil,Hb1.o⟩
    have hd:decide ((1000:Int)<((stage l k).length:Int)*(C.length:Int))=false:=decide_eq_false (by rw[<-Int.natCast_mul,Hst.o,<-Hss.o];omega);have Hhb:=Zh hbig;clear hbig hmb;have Hsl:Hid (Xj w1 (λ_=>True) (.slice a (stage l k).length c) (stage l k)):=(Hown.o.sl (λ_ _=>trivial)).belowR Hbr.o (λ_ _ _ h=>h);obtain⟨S,hS⟩:∃S,S=stage l k:=⟨_,rfl⟩;have Hnext:Hid (stage l (k+1)=S.flatMap λx=>C.map λn=>x.set k n):=by show _=_;rw[hS,HC.o];rfl
    have hSl:S.length<=1000:=by rw[hS,Hst.o];exact Hs.o
    have hsl1:S.length*C.length<=1000:=by have:=Hhb.o;rw[Hss.o,<-Hst.o,<-hS]at this;omega
    rw[<-hS]at Hsl hd hwr⊢
    have Hpl:=Zh (show ∀j,j<=S.length->((S.take j).flatMap λx=>C.map λn=>x.set k n).length=j*C.length from λj hj=>by
     rw[List.length_flatMap]
     have:((S.take j).map λx=>(C.map λn=>x.set k n).length)=List.replicate j C.length:=by
      apply List.ext_getElem
      .simp;omega
      intro i h1 h2;simp
     rw[this,List.sum_replicate_nat])
    clear hS;go_wp2_with fail
    clear hd hwr;have hatS:=λh0=>Sl.at_ Hsl.o h0;have hatC:=λh0=>Sl.at_ Ho2.o h0
    go_loopw[8,35](λov jv wr=>∃(j:Nat)(vn:Value),jv=.int .i64 j/\vn=ov/\j<=S.length/\Qg wr w1.heap.size 46 5 Oz vn ((S.take j).flatMap λx=>C.map λn=>x.set k n)/\Below w1.heap.size w1 wr) (λ_ jv _=>S.length-(intOf jv).toNat)
    case atStart=>exact⟨0,_,rfl,rfl,Nat.zero_le _,Qg.nil,Below.refl _ _⟩
    case round=>
     obtain⟨j,vn,rfl,rfl,hj,hownn,hbn⟩:=hrel;have Hownn:=Zh hownn;have Hbn:=Zh hbn;have hszn:=hbn.size;clear hownn hbn;by_cases hjl:j<S.length
     .obtain⟨b,o,hab,_,hblt⟩:=hatS (by omega);subst hab;obtain⟨h0c,h1c,h2c,h3c,h4c⟩:=Xj.cells (Hsl.o.below Hbn.o) hjl;have Hs1:=Zh (YO (λx:TCall=>C.map λn=>x.set k n) S j hjl);obtain⟨x,hx⟩:∃x,S[j]=x:=⟨_,rfl⟩;rw[hx]at h0c h1c h2c h3c h4c Hs1;have Hpj:=Zh (Hpl.o j (by omega));obtain⟨L,hL⟩:∃L,L=(S.take j).flatMap λx=>C.map λn=>x.set k n:=⟨_,rfl⟩;rw[<-hL]at Hownn Hs1 Hpj
      have hjc:j*C.length+C.length<=1000:=by
       have:(j+1)*C.length<=S.length*C.length:=Nat.mul_le_mul_right _ hjl;rw[Nat.add_mul]at this;omega
      obtain⟨wo,rfl⟩:∃wo:World,wo=wr:=⟨_,rfl⟩;have hob:vn.ownBlock≠some wo.heap.size:=λe=>by obtain⟨rows,_,hrw⟩:=Hownn.o;have:=(hrw.lt _ e).2;omega
      have Hob:=Zh hob;clear hx hL hob;go_wp2_with fail
      clear h0c h1c h2c h3c h4c
      go_loopw[8,41](λov iv wr=>∃(i:Nat)(vi:Value)(y:TCall),iv=.int .i64 i/\vi=ov/\i<=C.length/\Qg wr w1.heap.size 46 5 Oz vi (L++(C.take i).map λn=>x.set k n)/\Below w1.heap.size w1 wr/\wr.heap[wo.heap.size]?=some (.cells (Vr y) 46)/\(∀n,y.set k n=x.set k n)/\vi.ownBlock≠some wo.heap.size/\wo.heap.size<wr.heap.size) (λ_ iv _=>C.length-(intOf iv).toNat)
      case atStart=>exact⟨0,vn,x,rfl,rfl,by omega,by simpa using Hownn.o.below (Qa Zbr _),Hbn.o.trans ((Qa (Below.refl _ wo) _).mono hszn),Qh _ _,λ_=>rfl,Hob.o,by simp⟩
      case round=>
       obtain⟨i,vi,y,rfl,rfl,hi,howni,hbi,hbox,hys,hnob,hszi⟩:=hrel;have Howni:=Zh howni;have Hbi:=Zh hbi;have Hbox:=Zh hbox;have Hys:=Zh hys;have Hnob:=Zh hnob;have hszj:=hbi.size;clear howni hbi hbox hys hnob;by_cases hil:i<C.length
       .obtain⟨b2,o2,hab2,_,hblt2⟩:=hatC (by omega);subst hab2;have hc0:=UR.cell (Ho2.o.belowR Hbi.o (λ_ _ _ h=>h)) hil;have Hta:=Zh (List.take_succ_eq_append_getElem hil);obtain⟨n,hn⟩:∃n,C[i]=n:=⟨_,rfl⟩;rw[hn]at hc0 Hta;obtain⟨z,hz⟩:∃z,y.set k n=z:=⟨_,rfl⟩;have Hz:=Zh hz;have hbc:=Qb Hbox.o;have hbf:=Qp Hbox.o;have hgetk:(Vr y)[k]?=some (.int .i64 (y.get k)):=Ec y k hlt
        have Hset:Hid ((wr.setCell ⟨wo.heap.size,k,none⟩ (.int .i64 n)).heap[wo.heap.size]?=some (.cells (Vr z) 46)):=by
         have:=QJ (o:=k) (v:=.int .i64 n) Hbox.o
         rwa [Ed y k hlt,hz]at this
        have hsc:=Qb Hset.o;clear hn hz;have Hown3:=Zh ((Howni.o.set (a:=⟨wo.heap.size,k,none⟩) (x:=.int .i64 n) Hnob.o).below (Qa Zbr (.cells (Vr z) 46)));have Hbi3:=Zh ((Qw (a:=⟨wo.heap.size,k,none⟩) (v:=.int .i64 n) Hbi.o hszn).alloc (by rw[Qr];exact hszj) (.cells (Vr z) 46));have Hbox3:=Zh (QQ (o:=(.cells (Vr z) 46)) Hset.o)
        have Hll:Hid ((L++(C.take i).map λn=>x.set k n).length+1<=1000):=by
         show _<=_;rw[List.length_append,List.length_map,List.length_take,Hpj.o];omega
        go_wp2_with(at_builtin;refine QK rfl _ _ 232 rfl w1.heap.size 46 i0 _ 5 40 underlying232 Hi.o hz0 hz1 hz2 rfl (by decide) _ _ rfl Hown3.o _ _ rfl (Qej (x:=z) (by simp)) (λy _ cs h=>Qb1 y cs h) (by have:=Hll.o;show _+1<=maxLen;unfold maxLen;omega) (by have:=Hll.o;show(_+1)*40<=_;omega) (by simp;omega) ?_;intro v' w3 hown' hg hat';have Hown':=Zh hown';have Hb3:=Zh (Hown3.o.grown Hbi3.o hg (by simp;omega) Znl);have Hx3:=Zh ((hg.block wo.heap.size (by simp;omega) (λe=>Hnob.o e.symm)).trans Hbox3.o);have Hn3:Hid (v'.ownBlock≠some wo.heap.size):=(λe=>hat'.elim (λe'=>Hnob.o (e'.symm.trans e)) (λe'=>by have:=e'.symm.trans e;simp at this;omega));have hs3:wo.heap.size<w3.heap.size:=(by have:=hg.size;simp at this;omega);clear hown' hg hat')
        go_roundw
        case rel=>exact⟨i+1,v',z,by go_num,rfl,by omega,by rw[Hta.o,List.map_append,<-List.append_assoc];have:=Hown'.o;rw[<-Hz.o,Hys.o]at this;exact this,Hb3.o,Hx3.o,λm=>by rw[<-Hz.o,Qiu];exact Hys.o m,Hn3.o,hs3⟩
        case measure=>simp[intOf];omega
       obtain rfl:i=C.length:=by omega
       have Hr:Hid (Qg wr w1.heap.size 46 5 Oz vi ((S.take (j+1)).flatMap λx=>C.map λn=>x.set k n)):=by
        have:=Howni.o;rw[List.take_length]at this;show Qg _ _ _ _ _ _ _;rw[Hs1.o];exact this
       go_wp2
       go_roundw
       case rel=>exact⟨j+1,vi,by go_num,rfl,by omega,Hr.o,Hbi.o⟩
       case measure=>simp[intOf];omega
     obtain rfl:j=S.length:=by omega
     go_wp2
     go_roundw
     case rel=>exact⟨k+1,vn,by go_num,rfl,by omega,λ_=>H0.o,by have:=Hhb.o;omega,by have:=Hownn.o;rw[List.take_length]at this;rw[Hnext.o];exact this.base (by omega),Hb1.o.trans (Hbn.o.mono (by omega))⟩
     case measure=>simp[intOf];omega
   have hk0:k=0:=by
    rcases Nat.eq_zero_or_pos k with h|h
    .exact h
    exact absurd (Hp0.o (by omega)) h0
   have HE:Hid (Z5 l k=([],VD l)):=by show Z5 l k=_;unfold Z5;rw[if_pos h0]
   have HP:Hid (Q8 l=([],VD l)):=by show Q8 l=_;unfold Q8;rw[if_pos h0]
   have hb0:(VD l != 0)=true:=bne_iff_ne.2 h0;rw[HE.o];clear h0;go_wp2;go_ret2;rw[HP.o];exact⟨_,rfl,Qg.nil,Hb1.o⟩
  obtain rfl:k=5:=by omega
  have HP:Hid (Q8 l=(stage l 5,0)):=by
   show Q8 l=_;unfold Q8;rw[if_neg (by rw[Hp0.o (by omega)];simp),if_neg (by have:=Hs.o;omega)]
  go_wp2;go_ret2;rw[HP.o];exact⟨_,rfl,Hown.o,Hb.o⟩
end
section
open Go.RowKit
theorem QgZ(v:Value)(p:TPol)(x:TCall)(D:Nat->Prop)(w:World)(h:Qc w D v p.ru)(hok:UT p):
  Calls prog 225 #[U8 v p.df,Yk x] w λe w'=>e=.returned (.int .i64 (which x p.ru))/\Below w.heap.size w w':=by
 obtain⟨rs,d⟩:=p;dsimp only at h⊢;obtain⟨a,c,rfl,hlc,hcm,hat⟩:=Sl.form h;have H:=Zh h;have Hok:=Zh hok;have hmk:∀(fn:Fn)(first cap:Array Value)(w:World),(Instr.makeFunc fn first cap).run prog w=.ok (.func fn first cap) w:=λ_ _ _ _=>rfl;clear h hok;go_enter func225,ntmps225;go_wp2_with fail
 go_loopw[10](λi wr=>∃k:Nat,k<=rs.length/\i=.int .i64 k/\which x rs=k+which x (rs.drop k)/\Below (w.heap.size+2) ((w.alloc (.cells #[.slice a rs.length c,.int .i64 d] 38)).alloc (.cells (Xl x) 46)) wr) (λi _=>rs.length-(intOf i).toNat)
 case atStart=>exact⟨0,by omega,rfl,by simp,Below.refl _ _⟩
 case round=>
  obtain⟨k,hk,rfl,hgo,hbx⟩:=hrel;have Hgo:=Zh hgo;have hsz:=Zr hbx;have Hb:=Zh (XG hbx);obtain⟨hc1,hc2⟩:=VS hbx;clear hgo;by_cases hlt:k<rs.length
  .obtain⟨b,o,rfl,hDb,hb⟩:=hat (by omega);obtain⟨a',c',k0,k1,hr,hlc',hcm',hat'⟩:=Qc.cells (Qc.below H.o Hb.o) hlt;have Hr:=Zh hr;have Hd:=Zh (O3 x rs k hlt);have Hrok:=Zh (Hok.o.ru _ (List.getElem_mem hlt));have HC:=Zh hc2;clear hr hc1 hc2 hat';go_wp2_with fail
   refine(IB _ rs[k].cd x (w.heap.size+1) D _ (QF.below Hr.o (Qa Zbr _)) Hrok.o.cd (λj=>(World.cell?_alloc_lt _ _ ⟨w.heap.size+1,j,none⟩ (show w.heap.size+1<wr.heap.size by omega)).trans (HC.o j)) (by simp;omega)).mono ?_;rintro e w1⟨rfl,hb1⟩;have hb2:Below (w.heap.size+2) wr w1:=(Zbr.alloc (by omega) _).trans (hb1.mono (by simp;omega));have Hb1:=Zh (hbx.trans hb2);clear hb1 hb2
   cases hh:QN x rs[k].cd with
   |true=>
    have Hn:=Zh (show which x rs=k by rw[Hgo.o,Hd.o,if_pos hh];omega);clear hh;go_wp2;go_ret;exact⟨Q3 (by rw[Hn.o]),XG Hb1.o⟩
   |false=>
    have Hn:=Zh (show which x rs=(k+1:Nat)+which x (rs.drop (k+1)) by rw[Hgo.o,Hd.o,hh];simp;omega);clear hh;go_wp2
    go_roundw
    case rel=>exact⟨k+1,by omega,by go_num,Hn.o,Hb1.o⟩
    case measure=>simp[intOf];omega
  obtain rfl:k=rs.length:=by omega
  have Hn:=Zh (show which x rs=rs.length by rw[Hgo.o,List.drop_length];rfl);go_wp2;go_ret;exact⟨Q3 (by rw[Hn.o]),Hb.o⟩
end
section
open Go.RowKit
theorem Gv{w wr w1:World}{o o':Obj}(hb:Below (w.heap.size+2) ((w.alloc o).alloc o') wr)(h1:Below wr.heap.size wr w1):Below (w.heap.size+2) ((w.alloc o).alloc o') w1:=hb.trans (h1.mono (Zr hb))
theorem EI(v:Value)(p:TPol)(x:TCall)(D:Nat->Prop)(w:World)(h:Qc w D v p.ru):
  Calls prog 217 #[U8 v p.df,Yk x] w λe w'=>e=.returned (.tuple #[.int .i64 (Jc p x).1,.int .i64 (Jc p x).2.1,.int .i64 (Jc p x).2.2])/\Below w.heap.size w w':=by
 have H:=Zh h;obtain⟨a,c,rfl,hlc,hcm,hat⟩:=Sl.form h;clear h;by_cases hp:UZ p=0
 .have Hp:=Zh hp;by_cases hx:x.ok
  .have e:Jc p x=((judged p x).1,((judged p x).2:Int),0):=by unfold Jc;rw[if_neg (by omega),if_pos hx]
   have hxe:Hid (JZ x=0):=if_pos hx;have Hle:=Zh (QbM x p.ru);rw[e];clear e hp hx;go_enter func217,ntmps217;go_wp2_with fail
   refine(UO _ p D _ (Qc.below H.o (Qa (Qa Zbr _) _))).mono ?_;rw[Hp.o];rintro e w1⟨rfl,hb1⟩;have hb1':Below (w.heap.size+2) _ w1:=hb1.mono (by simp);obtain⟨hc1,hc2⟩:=VS hb1';clear hb1;go_wp2_with fail
   refine(XI x _).mono ?_;rw[hxe.o];rintro e w2⟨rfl,hb2⟩;have hb2':=Gv hb1' hb2;clear hc1 hc2 hb1' hb2;obtain⟨hc1,hc2⟩:=VS hb2';go_wp2_with fail
   refine(QgZ _ p x D _ (Qc.below H.o (XG hb2')) ((UN p).1 Hp.o)).mono ?_;rintro e w3⟨rfl,hb3⟩;have hb3':=Gv hb2' hb3;clear hc1 hc2 hb2' hb3;obtain⟨hc1,hc2⟩:=VS hb3';have Hb:=Zh (XG hb3');have hsz:=Zr hb3';by_cases hw:which x p.ru=p.ru.length
   .have hj:Hid (judged p x=(p.df,p.ru.length)):=by
     show judged p x=_;unfold judged VA;rw[hw,List.getElem?_eq_none Znl]
    have b0:((which x p.ru:Int)==(p.ru.length:Int))=true:=beq_iff_eq.2 (by omega);have b1:(which x p.ru==p.ru.length)=true:=beq_iff_eq.2 hw;have Hw:=Zh hw;clear hw;go_wp2
    go_ret3
    exact⟨by rw[hj.o,Hw.o];rfl,Hb.o⟩
   have hlt:which x p.ru<p.ru.length:=by have:=Hle.o;omega
   have hj:Hid (judged p x=(p.ru[which x p.ru].vd,which x p.ru)):=by
    show judged p x=_;unfold judged VA;rw[List.getElem?_eq_getElem hlt]
   have b0:((which x p.ru:Int)==(p.ru.length:Int))=false:=beq_eq_false_iff_ne.2 (by omega);have b1:(which x p.ru==p.ru.length)=false:=beq_eq_false_iff_ne.2 hw;obtain⟨b,o,rfl,hDb,hbb⟩:=hat (by omega);obtain⟨a',c',k0,k1,hr,hlc',hcm',hat'⟩:=Qc.cells (Qc.below H.o Hb.o) hlt;clear hw hr hat' k0;go_wp2
   go_ret3
   exact⟨by rw[hj.o];rfl,Hb.o⟩
  have e:Jc p x=(0,0,3):=by unfold Jc;rw[if_neg (by omega),if_neg hx]
  have hxe:Hid (JZ x=3):=if_neg hx;rw[e];clear e hp hx;go_enter func217,ntmps217;go_wp2_with fail
  refine(UO _ p D _ (Qc.below H.o (Qa (Qa Zbr _) _))).mono ?_;rw[Hp.o];rintro e w1⟨rfl,hb1⟩;have hb1':Below (w.heap.size+2) _ w1:=hb1.mono (by simp);obtain⟨hc1,hc2⟩:=VS hb1';clear hb1;go_wp2_with fail
  refine(XI x _).mono ?_;rw[hxe.o];rintro e w2⟨rfl,hb2⟩;have hb2':=Gv hb1' hb2;clear hc1 hc2 hb1' hb2;go_wp2
  go_ret3
  exact⟨rfl,XG hb2'⟩
 have e:Jc p x=(0,0,UZ p):=by unfold Jc;rw[if_pos hp]
 have d:(UZ p != 0)=true:=bne_iff_ne.2 hp;rw[e];clear e hp;go_enter func217,ntmps217;go_wp2_with fail
 refine(UO _ p D _ (Qc.below H.o (Qa (Qa Zbr _) _))).mono ?_;rintro e w1⟨rfl,hb1⟩;have hb1':Below (w.heap.size+2) _ w1:=hb1.mono (by simp);clear hb1;go_wp2
 go_ret3
 exact⟨rfl,XG hb1'⟩
end
end Go.Proofs.YthkgjohhbdipcaaGreatDoor
