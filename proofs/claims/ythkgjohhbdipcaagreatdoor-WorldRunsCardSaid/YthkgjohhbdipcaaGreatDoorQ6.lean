/- Texts laid one behind the other: ConcatIns, CloneIns, CloneChain, PointSpec, OrderSpec, CompSpec. No condition beyond theirs. -/
import Derived.Test.YthkgjohhbdipcaaGreatDoorProg
import Derived.Test.YthkgjohhbdipcaaGreatDoorQ3
import Derived.KernelRfl
import Derived.Deep.LoopGhost
set_option linter.all false
set_option maxHeartbeats 64000000
set_option maxRecDepth 100000
namespace Go.Proofs.YthkgjohhbdipcaaGreatDoor
open Tryz
section
open Go.RowKit
theorem EF:(prog.info? 141).map (λi=>(i.zero,i.size,i.bytes))=some (some (.agg #[.int .i64 0,.int .i64 0,.int .i64 0,.int .i64 0]),4,32):=by kernel_rfl
theorem Qdq(n:Nat)(w:World)(hn:n*32<=140737488355328):Calls prog 223 #[.slice none 0 0,.int .i64 n] w λe w'=>∃v,e=.returned v/\Qg w' w.heap.size 141 4 Gt v ([]:List TIns)/\Below w.heap.size w w':=by
 by_cases h0:n=0
 .subst h0;go_enter func223,ntmps223;go_wp2;go_ret;exact⟨_,rfl,Qg.nil,Below.refl _ _⟩
 obtain⟨i0,hi,hz0,hz1,hz2⟩:=info_parts EF;have hrun:=λ(W:World)(ty:TypeId)=>Lib.run_append_nil_zeros (P:=prog) W 98 3 ty 141 i0 (.agg #[.int .i64 0,.int .i64 0,.int .i64 0,.int .i64 0]) .i64 .i64 underlying98 underlying3 hi hz0 n (by omega) (by rw[hz1];omega) (by omega) (by rw[hz2];omega);have hgc:∀W:World,grownCap W n 0 141<=maxLen:=λW=>grownCap_le_maxLen W n 0 141 (by unfold maxLen;omega);have h1:0<(n:Int):=by omega
 have h2:(n:Int)<=9223372036854775807:=by omega
 have Hrun:=Zh hrun;have Hz:=Zh hz1;clear hrun hi hz0 hz1 hz2 h0 hn;go_enter func223,ntmps223;go_wp2_with(at_builtin;refine Lib.wpList_append_run _ rfl _ _ _ _ rfl _ _ rfl rfl _ _ (Hrun.o _ _) ?_)
 go_ret;refine⟨_,rfl,⟨[],Qq.nil,by simp,.inr ⟨w.heap.size,grownCap w n 0 141,_,rfl,Nat.le_refl _,UM rfl,by simp,hgc w,?_,by simp⟩⟩,(Qa Zbr _).drew⟩;have hge:=grownCap_ge w n 0 141;simp[size_zeroCells];omega
theorem QiS(y:TIns)(cs:List Value)(h:Gt y cs):∀c∈cs,c.oneCell'=true:=by
 unfold Gt at h;subst h;simp[Value.oneCell']
def Qer(w:World)(D:Nat->Prop)(l:List TIns)(cs:List Value):Prop:=∃u,cs=[u]/\Sl w D 4 Gt u l
theorem Yq(v:Value)(ls:List (List TIns))(D:Nat->Prop)(w:World)(h:Sl w D 1 (Qer w D) v ls)(hn:Vy ls ls.length*32<=140737488355328):
  Calls prog 215 #[v] w λe w'=>∃v',e=.returned v'/\Qg w' w.heap.size 141 4 Gt v' ls.flatten/\Below w.heap.size w w':=by
 obtain⟨a,c,rfl,hlc,hcm,hat⟩:=Sl.form h;obtain⟨i0,hi,hz0,hz1,hz2⟩:=info_parts EF;have H:=Zh h;clear h
 have hrow:∀k (hk:k<ls.length) b o,a=some ⟨b,o,none⟩->∃(u:Value)(cu:Option Addr×Nat),u=Value.slice cu.1 ls[k].length cu.2/\Sl w D 4 Gt u ls[k]/\∀wr,Below w.heap.size w wr->wr.cell? ⟨b,o+k,none⟩=some u:=λk hk b o e=>by
  subst e;obtain⟨cs,hcs,⟨u,hu,hs⟩,hcell⟩:=Sl.get H.o hk;obtain⟨a',c',hv,_⟩:=Sl.form hs;refine⟨u,(a',c'),hv,hs,λwr hb=>?_⟩;subst hu;have hc:=hcell 0 u rfl;rw[Nat.mul_one]at hc;exact(hb.cell (p:=⟨b,o+k,none⟩) (World.block_lt_of_cell? _ _ hc)).trans hc
 have Hrow:=Zh hrow;have Hn:=Zh hn;have hn':Vy ls ls.length<=140737488355328:=by omega
 clear hrow hn;go_enter func215,ntmps215;go_wp2_with fail
 go_loop [3,11](λs i=>∃k:Nat,k<=ls.length/\i=.int .i64 k/\s=.int .i64 (Vy ls k)) (λ_ i=>ls.length-(intOf i).toNat)
 case atStart=>exact⟨0,by omega,rfl,rfl⟩
 case round=>
  obtain⟨k,hk,rfl,rfl⟩:=hrel;by_cases hlt:k<ls.length
  .obtain⟨b,o,rfl,hDb,hb⟩:=hat (by omega);obtain⟨u,⟨a',c'⟩,rfl,hs,hc⟩:=Hrow.o k hlt b o rfl;have hcw:=hc w Zbr;have hle:=YQ ls (k+1) (by omega);have Hs:=Zh (XA ls k hlt);have hle':Vy ls k+ls[k].length<=140737488355328:=by have:=Hs.o;omega
   clear hs hc;go_wp2
   go_round
   case rel=>exact⟨k+1,by omega,by go_num,by rw[Hs.o];go_num⟩
   case measure=>simp[intOf];omega
  obtain rfl:k=ls.length:=by omega
  go_wp2_with fail
  refine(Qdq (Vy ls ls.length) _ Hn.o).mono ?_;rintro e w1⟨vg,rfl,hown,hb1⟩;go_wp2_with fail
  go_loopw[6,27](λs i wr=>∃(k:Nat)(vs:Value),k<=ls.length/\i=.int .i64 k/\vs=s/\Qg wr w.heap.size 141 4 Gt vs (ls.take k).flatten/\Below w.heap.size w wr) (λ_ i _=>ls.length-(intOf i).toNat)
  case atStart=>exact⟨0,vg,by omega,rfl,rfl,by simpa using hown,hb1⟩
  case round=>
   obtain⟨k,vs,hk,rfl,rfl,hown,hbw⟩:=hrel;have Hown:=Zh hown;have hsz:=hbw.size;clear hown;by_cases hlt:k<ls.length
   .obtain⟨b,o,rfl,hDb,hb⟩:=hat (by omega);obtain⟨u,⟨a',c'⟩,rfl,hs,hc⟩:=Hrow.o k hlt b o rfl;have hcw:=hc wr hbw;have hle:=YQ ls (k+1) (by omega);have Hl:=Zh (XA ls k hlt);have hs':Sl wr D 4 Gt (.slice a' ls[k].length c') ls[k]:=Sl.mono hs (λ_ h _=>h) (λb _ hlt=>hbw.block b hlt) hbw.size (λ_ _ _ h=>h);have Hs':=Zh hs';have Hs:=Zh (U1 ls k hlt);clear hs hc hs';go_wp2_with(at_builtin;refine U6 rfl _ _ 98 rfl w.heap.size 141 i0 _ 4 32 underlying98 hi hz0 hz1 hz2 rfl (by decide) _ _ rfl Hown.o _ _ rfl Hs'.o (λy _ cs h=>QiS y cs h) (by have:=Hl.o;unfold Vy at *;unfold maxLen;omega) (by have:=Hn.o;have:=Hl.o;unfold Vy at *;omega) hsz ?_;intro v' w2 hown' hg)
    go_roundw
    case rel=>exact⟨k+1,v',by omega,by go_num,rfl,by rw[<-U1 ls k hlt];exact hown',Hown.o.grown hbw hg hsz Znl⟩
    case measure=>simp[intOf];omega
   obtain rfl:k=ls.length:=by omega
   have Hf:Hid (Qg wr w.heap.size 141 4 Gt vs ls.flatten):=by have:=Hown.o;rwa [List.take_length]at this
   go_wp2;go_ret;exact⟨_,rfl,Hf.o,hbw⟩
end
section
open Go.RowKit
theorem Qb2{α:Type}(R:α->List Value->Prop)(h1R:∀(y:α)(cs:List Value),R y cs->∀c∈cs,c.oneCell'=true)(v:Value)(xs:List α)(D:Nat->Prop)(w:World)(h:Sl w D 4 R v xs)(hn:xs.length*32<=140737488355328):
  Calls prog 154 #[v] w λe w'=>∃v',e=.returned v'/\Qg w' w.heap.size 141 4 R v' xs/\Below w.heap.size w w':=by
 obtain⟨i0,hi,hz0,hz1,hz2⟩:=info_parts EF;have H:=Zh h;obtain⟨a,c,rfl,hlc,hcm,hnil,hat⟩:=h;have Hi:=Zh hi;clear hi
 cases a with
 |none=>
  have hc:=hnil rfl;subst hc;have hx:xs=[]:=List.length_eq_zero_iff.1 (by omega);subst hx;have hq:=λ(a:Option Addr)(n c:Nat)(W:World)=>Lib.run_eql_slice_nil (P:=prog) W 98 141 a n c 0 0 underlying98;go_enter func154,ntmps154;go_wp2;go_ret;exact⟨_,rfl,Qg.nil,Below.refl _ _⟩
 |some ad=>
  have H2:=Zh (H.o.belowR (Qa (Below.refl _ w) (.cells #[] 141)) (λ_ _ _ h=>h))
  have Hown:Hid (Qg (w.alloc (.cells #[] 141)) w.heap.size 141 4 R (.slice (some ⟨w.heap.size,0,none⟩) 0 0) ([]:List α)):=
   ⟨[],Qq.nil,by simp,.inr ⟨w.heap.size,0,#[],rfl,Nat.le_refl _,Qh _ _,by simp,by simp,by simp,by simp⟩⟩
  clear hat hnil;have hq:=λ(a:Option Addr)(n c:Nat)(W:World)=>Lib.run_eql_slice_nil (P:=prog) W 98 141 a n c 0 0 underlying98;go_enter func154,ntmps154;go_wp2_with(at_builtin;refine U6 rfl _ _ 98 rfl w.heap.size 141 i0 _ 4 32 underlying98 Hi.o hz0 hz1 hz2 rfl (by decide) _ _ rfl Hown.o _ _ rfl H2.o (λy _ cs h=>h1R y cs h) (by show 0+_<=maxLen;unfold maxLen;omega) (by show(0+_)*32<=_;omega) (by simp) ?_;intro v' w3 hown' hg)
  go_ret;exact⟨_,rfl,hown',Hown.o.grown (Qa Zbr _) hg (by simp) Znl⟩
end
section
open Go.RowKit
theorem OE:(prog.info? 98).map (λi=>(i.zero,i.size,i.bytes))=some (some (.slice none 0 0),1,24):=by kernel_rfl
theorem NW{α:Type}(R:α->List Value->Prop)(h1R:∀(y:α)(cs:List Value),R y cs->∀c∈cs,c.oneCell'=true)(v:Value)(xs:List α)(D:Nat->Prop)(w:World)(h:Sl w D 1 R v xs)(hn:xs.length*24<=140737488355328):
  Calls prog 153 #[v] w λe w'=>∃v',e=.returned v'/\Qg w' w.heap.size 98 1 R v' xs/\Below w.heap.size w w':=by
 obtain⟨i0,hi,hz0,hz1,hz2⟩:=info_parts OE;have H:=Zh h;obtain⟨a,c,rfl,hlc,hcm,hnil,hat⟩:=h;have Hi:=Zh hi;clear hi
 cases a with
 |none=>
  have hc:=hnil rfl;subst hc;have hx:xs=[]:=List.length_eq_zero_iff.1 (by omega);subst hx;have hq:=λ(a:Option Addr)(n c:Nat)(W:World)=>Lib.run_eql_slice_nil (P:=prog) W 50 98 a n c 0 0 underlying50;go_enter func153,ntmps153;go_wp2;go_ret;exact⟨_,rfl,Qg.nil,Below.refl _ _⟩
 |some ad=>
  have H2:=Zh (H.o.belowR (Qa (Below.refl _ w) (.cells #[] 98)) (λ_ _ _ h=>h))
  have Hown:Hid (Qg (w.alloc (.cells #[] 98)) w.heap.size 98 1 R (.slice (some ⟨w.heap.size,0,none⟩) 0 0) ([]:List α)):=
   ⟨[],Qq.nil,by simp,.inr ⟨w.heap.size,0,#[],rfl,Nat.le_refl _,Qh _ _,by simp,by simp,by simp,by simp⟩⟩
  clear hat hnil;have hq:=λ(a:Option Addr)(n c:Nat)(W:World)=>Lib.run_eql_slice_nil (P:=prog) W 50 98 a n c 0 0 underlying50;go_enter func153,ntmps153;go_wp2_with(at_builtin;refine U6 rfl _ _ 50 rfl w.heap.size 98 i0 _ 1 24 underlying50 Hi.o hz0 hz1 hz2 rfl (by decide) _ _ rfl Hown.o _ _ rfl H2.o (λy _ cs h=>h1R y cs h) (by show 0+_<=maxLen;unfold maxLen;omega) (by show(0+_)*24<=_;omega) (by simp) ?_;intro v' w3 hown' hg)
  go_ret;exact⟨_,rfl,hown',Hown.o.grown (Qa Zbr _) hg (by simp) Znl⟩
end
def Qd9(x:Int):List Int->List Int
 |[]=>[x]
 |y::l=>if x<y then x::y::l else if x=y then y::l else y::Qd9 x l
def XP(l:List Int):Prop:=l.Pairwise (· < ·)
theorem Qbs(x z:Int):∀l:List Int,z∈Qd9 x l↔z=x\/z∈l
 |[]=>by simp[Qd9]
 |y::l=>by
  unfold Qd9;split
  .simp
  split
  .rename_i h;subst h;simp
  simp only[List.mem_cons,Qbs x z l];constructor
  .rintro (h|h|h)<;>simp[h]
  rintro (h|h|h)<;>simp[h]
theorem Nj(x:Int):∀l:List Int,XP l->XP (Qd9 x l)
 |[],_=>by simp[Qd9,XP]
 |y::l,h=>by
  unfold XP at h;obtain⟨h1,h2⟩:=List.pairwise_cons.1 h;unfold Qd9;split
  .rename_i hlt;refine List.pairwise_cons.2 ⟨λz hz=>?_,h⟩;rcases List.mem_cons.1 hz with rfl|hz
   .exact hlt
   have:=h1 z hz;omega
  split
  .exact h
  rename_i h3 h4;refine List.pairwise_cons.2 ⟨λz hz=>?_,Nj x l h2⟩;rcases(Qbs x z l).1 hz with rfl|hz
  .omega
  exact h1 z hz
def setOf:List Int->List Int
 |[]=>[]
 |x::l=>Qd9 x (setOf l)
theorem EO(z:Int):∀l:List Int,z∈setOf l↔z∈l
 |[]=>by simp[setOf]
 |x::l=>by simp[setOf,Qbs,EO z l]
theorem YW:∀l:List Int,XP (setOf l)
 |[]=>List.Pairwise.nil
 |x::l=>Nj x _ (YW l)
theorem ZH:∀(l m:List Int),XP l->XP m->(∀z,z∈l↔z∈m)->l=m
 |[],[],_,_,_=>rfl
 |[],y::m,_,_,h=>by have:=(h y).2 (List.mem_cons_self ..);simp at this
 |x::l,[],_,_,h=>by have:=(h x).1 (List.mem_cons_self ..);simp at this
 |x::l,y::m,hl,hm,h=>by
  obtain⟨h1,h2⟩:=List.pairwise_cons.1 hl;obtain⟨h3,h4⟩:=List.pairwise_cons.1 hm
  have hxy:x=y:=by
   have a:=(h x).1 (List.mem_cons_self ..);have b:=(h y).2 (List.mem_cons_self ..);rcases List.mem_cons.1 a with a|a
   .exact a
   rcases List.mem_cons.1 b with b|b
   .exact b.symm
   have:=h1 _ b;have:=h3 _ a;omega
  subst hxy;rw[ZH l m h2 h4 (λz=>?_)];constructor
  .intro hz;rcases List.mem_cons.1 ((h z).1 (List.mem_cons_of_mem _ hz))with rfl|hz'
   .have:=h1 _ hz;omega
   exact hz'
  intro hz;rcases List.mem_cons.1 ((h z).2 (List.mem_cons_of_mem _ hz))with rfl|hz'
  .have:=h3 _ hz;omega
  exact hz'
theorem QbB{l:List Int}(p:Int->Bool)(h:XP l):XP (l.filter p):=List.Pairwise.sublist (List.filter_sublist) h
def Uo(f:Int)(c:TCond):List Int:=if c.f=f then(if c.op=1\/c.op=2 then[c.v,c.v+1]else[c.v])else[]
def Xe(f:Int)(r:TRule):List Int:=r.cd.flatMap (Uo f)
def Ym(f:Int)(p:TPol):List Int:=p.ru.flatMap (Xe f)
def U2(l:List TPol)(f:Int):List Int:=0::l.flatMap (Ym f)
def Q5(l:List TPol)(f:Int):List Int:=(setOf (U2 l f)).filter λn=>decide (n<=QY f)
theorem Nh(l:List TPol)(f:Int):XP (Q5 l f):=QbB _ (YW _)
theorem G5{l:List TPol}{f n:Int}:n∈Q5 l f↔n∈U2 l f/\n<=QY f:=by
 unfold Q5;rw[List.mem_filter,EO];simp
theorem Qhq(f:Int):0<=QY f:=by unfold QY;split<;>(try split)<;>omega
theorem QbQ(l:List TPol)(f:Int):0∈Q5 l f:=G5.2 ⟨List.mem_cons_self ..,Qhq f⟩
theorem Js(l:List TPol)(f:Int):0<(Q5 l f).length:=List.length_pos_of_mem (QbQ l f)
theorem IU{l:List TPol}{f n:Int}:n∈U2 l f↔n=0\/∃p∈l,∃r∈p.ru,∃c∈r.cd,n∈Uo f c:=by
 unfold U2 Ym Xe;simp only[List.mem_cons,List.mem_flatMap]
theorem YR{f n:Int}{c:TCond}:n∈Uo f c↔c.f=f/\(n=c.v\/((c.op=1\/c.op=2)/\n=c.v+1)):=by
 unfold Uo;split
 .rename_i h;split
  .rename_i h';simp[h,h']
  rename_i h';simp[h,h']
 rename_i h;simp[h]
def VD:List TPol->Int
 |[]=>0
 |p::l=>if UZ p=0 then VD l else UZ p
theorem Yf:∀l:List TPol,VD l=0↔∀p∈l,UT p
 |[]=>by simp[VD]
 |p::l=>by
  simp only[VD,List.mem_cons,forall_eq_or_imp];rw[<-Yf l,<-UN p];split
  .rename_i h;simp[h]
  rename_i h;simp[h]
theorem QaW(l:List TPol)(k:Nat)(h:k<l.length):VD (l.drop k)=if UZ l[k]=0 then VD (l.drop (k+1))else UZ l[k]:=by
 rw[List.drop_eq_getElem_cons h];rfl
theorem Yv{l:List TPol}(h:∀p∈l,UT p){f n:Int}(hn:n∈Q5 l f):0<=n/\n<=QY f:=by
 obtain⟨h1,h2⟩:=G5.1 hn;refine⟨?_,h2⟩;rcases IU.1 h1 with rfl|⟨p,hp,r,hr,c,hc,hm⟩
 .omega
 have:=((h p hp).ru r hr).cd c hc;obtain⟨_,h|⟨_,h⟩⟩:=YR.1 hm<;>have:=this.v0<;>omega
def best(n:Int):List Int->Int->Int
 |[],b=>b
 |m::l,b=>if m<=n then best n l m else best n l b
theorem Eb(n:Int):∀(l:List Int)(b:Int),XP l->(∀m∈l,b<m)->b<=n->(best n l b=b\/best n l b∈l)/\best n l b<=n/\b<=best n l b/\∀m∈l,m<=n->m<=best n l b
 |[],b,_,_,hb=>by simp[best];exact hb
 |m::l,b,h,hm,hb=>by
  obtain⟨h1,h2⟩:=List.pairwise_cons.1 h;unfold best;split
  .rename_i hle;obtain⟨a1,a2,a3,a4⟩:=Eb n l m h2 h1 hle;have:=hm m (List.mem_cons_self ..);refine⟨?_,a2,by omega,λz hz hzn=>?_⟩
   .rcases a1 with a1|a1
    .right;rw[a1];exact List.mem_cons_self ..
    right;exact List.mem_cons_of_mem _ a1
   rcases List.mem_cons.1 hz with rfl|hz
   .exact a3
   exact a4 z hz hzn
  rename_i hle;obtain⟨a1,a2,a3,a4⟩:=Eb n l b h2 (λz hz=>hm z (List.mem_cons_of_mem _ hz)) hb;refine⟨?_,a2,a3,λz hz hzn=>?_⟩
  .rcases a1 with a1|a1
   .exact .inl a1
   right;exact List.mem_cons_of_mem _ a1
  rcases List.mem_cons.1 hz with rfl|hz
  .omega
  exact a4 z hz hzn
def Y3(l:List TPol)(f n:Int):Int:=best n (Q5 l f) 0
theorem QfP{n:Int}{l:List Int}(hr:XP l)(h0:0∈l)(hp:∀m∈l,0<=m)(hn:0<=n):best n l 0∈l/\best n l 0<=n/\∀m∈l,m<=n->m<=best n l 0:=by
 cases l with
 |nil=>simp at h0
 |cons z l=>
  obtain⟨h1,h2⟩:=List.pairwise_cons.1 hr
  have hz:z=0:=by
   rcases List.mem_cons.1 h0 with h|h
   .exact h.symm
   have:=h1 _ h;have:=hp z (List.mem_cons_self ..);omega
  subst hz;obtain⟨a1,a2,a3,a4⟩:=Eb n l 0 h2 h1 hn
  have e:best n (0::l) 0=best n l 0:=by
   show(if(0:Int)<=n then _ else _)=_;rw[if_pos hn]
  rw[e];refine⟨?_,a2,λm hm hmn=>?_⟩
  .rcases a1 with a1|a1
   .rw[a1];exact List.mem_cons_self ..
   exact List.mem_cons_of_mem _ a1
  rcases List.mem_cons.1 hm with rfl|hm
  .exact a3
  exact a4 m hm hmn
theorem Ij{l:List TPol}(h:∀p∈l,UT p){f n:Int}(hn:0<=n):Y3 l f n∈Q5 l f/\Y3 l f n<=n/\∀m∈Q5 l f,m<=n->m<=Y3 l f n:=
 QfP (Nh l f) (QbQ l f) (λ_ hm=>(Yv h hm).1) hn
def Ik(l:List TPol)(x:TCall):TCall:=⟨Y3 l 0 x.a0,Y3 l 1 x.a1,Y3 l 2 x.a2,Y3 l 3 x.a3,Y3 l 4 x.a4⟩
theorem Qhh(l:List TPol)(x:TCall){f:Int}(h0:0<=f)(h1:f<5):(Ik l x).get f=Y3 l f (x.get f):=by
 have hf:f=0\/f=1\/f=2\/f=3\/f=4:=by omega
 rcases hf with rfl|rfl|rfl|rfl|rfl<;>rfl
theorem ok_get{x:TCall}(h:x.ok){f:Int}(h0:0<=f)(h1:f<5):0<=x.get f/\x.get f<=QY f:=by
 have:=TCall.ok_get h (k:=f.toNat) (by omega)
 rwa [Int.toNat_of_nonneg h0]at this
theorem Qaz{l:List TPol}(h:∀p∈l,UT p){x:TCall}(hx:x.ok){p:TPol}(hp:p∈l){r:TRule}(hr:r∈p.ru){c:TCond}(hc:c∈r.cd):holdsB c (Ik l x)=holdsB c x:=by
 have ok:=((h p hp).ru r hr).cd c hc;have hg:=ok_get hx ok.f0 ok.f1;obtain⟨a1,a2,a3⟩:=Ij h (f:=c.f) hg.1;have hv:c.v∈Q5 l c.f:=G5.2 ⟨IU.2 (.inr ⟨p,hp,r,hr,c,hc,YR.2 ⟨rfl,.inl rfl⟩⟩),ok.v1⟩;have hv1:(c.op=1\/c.op=2)->c.v+1<=QY c.f->c.v+1∈Q5 l c.f:=λho hle=>G5.2 ⟨IU.2 (.inr ⟨p,hp,r,hr,c,hc,YR.2 ⟨rfl,.inr ⟨ho,rfl⟩⟩⟩),hle⟩;unfold holdsB;rw[Qhh l x ok.f0 ok.f1];generalize hn:x.get c.f=n at *;generalize hh:Y3 l c.f n=m at *
 have key1:(c.op=1\/c.op=2)->(m=c.v↔n=c.v):=by
  intro ho;constructor
  .intro e;by_cases e':n=c.v
   .exact e'
   have:=a3 _ (hv1 ho (by omega)) (by omega);omega
  intro e;have:=a3 _ hv (by omega);omega
 have key2:(m<c.v↔n<c.v):=by
  constructor
  .intro e;by_cases e':n<c.v
   .exact e'
   have:=a3 _ hv (by omega);omega
  intro e;omega
 split
 .rename_i ho;rw[Bool.eq_iff_iff];simp[key1 (.inl ho)]
 split
 .rename_i ho;rw[Bool.eq_iff_iff];simp[key1 (.inr ho)]
 split
 .rw[Bool.eq_iff_iff];simp[key2]
 rw[Bool.eq_iff_iff];simp;omega
theorem QbS{l:List TPol}(h:∀p∈l,UT p){x:TCall}(hx:x.ok){p:TPol}(hp:p∈l){r:TRule}(hr:r∈p.ru):QN (Ik l x) r.cd=QN x r.cd:=by
 unfold QN;rw[Bool.eq_iff_iff,List.all_eq_true,List.all_eq_true];constructor
 .intro a c hc;rw[<-Qaz h hx hp hr hc];exact a c hc
 intro a c hc;rw[Qaz h hx hp hr hc];exact a c hc
theorem NQ{x y:TCall}:∀(l:List TRule),(∀r∈l,QN x r.cd=QN y r.cd)->which x l=which y l
 |[],_=>rfl
 |r::l,h=>by
  unfold which;rw[h r (List.mem_cons_self ..),NQ l (λr hr=>h r (List.mem_cons_of_mem _ hr))]
theorem Qba{l:List TPol}(h:∀p∈l,UT p){x:TCall}(hx:x.ok){p:TPol}(hp:p∈l):which (Ik l x) p.ru=which x p.ru:=
 NQ _ λ_ hr=>QbS h hx hp hr
theorem Qdt{l:List TPol}(h:∀p∈l,UT p){x:TCall}(hx:x.ok){p:TPol}(hp:p∈l):judged p (Ik l x)=judged p x:=by
 unfold judged;rw[Qba h hx hp]
def TCall.set(x:TCall)(k:Nat)(n:Int):TCall:=match k with
 |0=>{ x with a0:=n }|1=>{ x with a1:=n }|2=>{ x with a2:=n }|3=>{ x with a3:=n }|_=>{ x with a4:=n }
def stage(l:List TPol):Nat->List TCall
 |0=>[⟨0,0,0,0,0⟩]
 |k+1=>(stage l k).flatMap λx=>(Q5 l k).map λn=>x.set k n
def sizes(l:List TPol):Nat->Nat
 |0=>1
 |k+1=>sizes l k*(Q5 l k).length
theorem VJ(l:List TPol):∀k,(stage l k).length=sizes l k
 |0=>rfl
 |k+1=>by
  simp only[stage,sizes,List.length_flatMap,List.length_map];rw[<-VJ l k];generalize(Q5 l k).length=m
  induction stage l k with
  |nil=>simp
  |cons x r ih=>simp[ih,Nat.add_mul];omega
theorem Qfr(l:List TPol)(k:Nat):sizes l k<=sizes l (k+1):=Nat.le_mul_of_pos_right _ (Js l k)
theorem Qeu(l:List TPol){k m:Nat}(h:k<=m):sizes l k<=sizes l m:=by
 induction h with
 |refl=>exact Nat.le_refl _
 |step _ ih=>exact Nat.le_trans ih (Qfr l _)
def Q8(l:List TPol):List TCall×Int:=if VD l≠0 then([],VD l)else if 1000<sizes l 5 then([],2)else(stage l 5,0)
theorem Xq{l:List TPol}{y:TCall}:∀{k:Nat},y∈stage l (k+1)↔∃x∈stage l k,∃n∈Q5 l k,y=x.set k n:=by
 intro k;simp only[stage,List.mem_flatMap,List.mem_map];constructor
 .rintro ⟨x,hx,n,hn,rfl⟩;exact⟨x,hx,n,hn,rfl⟩
 rintro ⟨x,hx,n,hn,rfl⟩;exact⟨x,hx,n,hn,rfl⟩
theorem QaK{l:List TPol}{y:TCall}:y∈stage l 5↔y.a0∈Q5 l 0/\y.a1∈Q5 l 1/\y.a2∈Q5 l 2/\y.a3∈Q5 l 3/\y.a4∈Q5 l 4:=by
 constructor
 .intro h;obtain⟨x4,h4,n4,m4,rfl⟩:=Xq.1 h;obtain⟨x3,h3,n3,m3,rfl⟩:=Xq.1 h4;obtain⟨x2,h2,n2,m2,rfl⟩:=Xq.1 h3;obtain⟨x1,h1,n1,m1,rfl⟩:=Xq.1 h2;obtain⟨x0,h0,n0,m0,rfl⟩:=Xq.1 h1;exact⟨m0,m1,m2,m3,m4⟩
 rintro ⟨m0,m1,m2,m3,m4⟩;refine Xq.2 ⟨⟨y.a0,y.a1,y.a2,y.a3,0⟩,Xq.2 ⟨⟨y.a0,y.a1,y.a2,0,0⟩,Xq.2 ⟨⟨y.a0,y.a1,0,0,0⟩,Xq.2 ⟨⟨y.a0,0,0,0,0⟩,Xq.2 ⟨⟨0,0,0,0,0⟩,List.mem_cons_self ..,y.a0,m0,rfl⟩,y.a1,m1,rfl⟩,y.a2,m2,rfl⟩,y.a3,m3,rfl⟩,y.a4,m4,rfl⟩
theorem QaA{l:List TPol}(h:∀p∈l,UT p){x:TCall}(hx:x.ok):Ik l x∈stage l 5:=by
 have g:=λ(f:Int)(h0:0<=f)(h1:f<5)=>(Ij h (f:=f) (ok_get hx h0 h1).1).1;exact QaK.2 ⟨g 0 (by omega) (by omega),g 1 (by omega) (by omega),g 2 (by omega) (by omega),g 3 (by omega) (by omega),g 4 (by omega) (by omega)⟩
theorem IV{l:List TPol}(h:∀p∈l,UT p){x:TCall}(hx:x∈stage l 5):x.ok:=by
 obtain⟨m0,m1,m2,m3,m4⟩:=QaK.1 hx;exact⟨Yv h m0,Yv h m1,Yv h m2,Yv h m3,Yv h m4⟩
theorem Yw{l:List TPol}(h:(Q8 l).2=0):(∀p∈l,UT p)/\sizes l 5<=1000/\Q8 l=(stage l 5,0):=by
 unfold Q8 at h⊢;split at h
 .rename_i h1;exact absurd h h1
 rename_i h1;split at h
 .simp at h
 rename_i h2;exact⟨(Yf l).1 (by simpa using h1),by omega,by rw[if_neg h1,if_neg h2]⟩
theorem QaU{l:List TPol}(h:∀p∈l,UT p)(hs:sizes l 5<=1000):Q8 l=(stage l 5,0):=by
 unfold Q8;rw[if_neg (by rw[(Yf l).2 h];simp),if_neg (by omega)]
def ZQ:TCall:=⟨0,0,0,0,0⟩
def says(p:TPol)(x:TCall):Int:=(judged p x).1
def UY(p q:TPol)(x:TCall):Bool:=decide (says q x<says p x)
def Uw(p q:TPol):Bool×TCall×Int:=
 if(Q8 [p,q]).2≠0 then(false,ZQ,(Q8 [p,q]).2)else match(Q8 [p,q]).1.find? (UY p q)with
  |some x=>(true,x,0)
  |none=>(false,ZQ,0)
theorem QcP{l:List TPol}(h:∀p∈l,UT p){x:TCall}(hx:x.ok){p:TPol}(hp:p∈l):says p (Ik l x)=says p x:=by unfold says;rw[Qdt h hx hp]
theorem NJ{p:TPol}(h:UT p)(k:Nat):0<=VA p k/\VA p k<=4:=by
 unfold VA
 cases hk:p.ru[k]? with
 |none=>exact⟨h.d0,h.d1⟩
 |some r=>exact⟨(h.ru r (List.mem_of_getElem? hk)).v0,(h.ru r (List.mem_of_getElem? hk)).v1⟩
theorem OW{p:TPol}(h:UT p)(x:TCall):0<=says p x/\says p x<=4:=NJ h _
theorem QaH{p q:TPol}(h:(Uw p q).2.2=0):UT p/\UT q/\sizes [p,q] 5<=1000/\Q8 [p,q]=(stage [p,q] 5,0):=by
 have h0:(Q8 [p,q]).2=0:=by
  unfold Uw at h;split at h
  .exact h
  rename_i h';simpa using h'
 obtain⟨h1,h2,h3⟩:=Yw h0;exact⟨h1 p (by simp),h1 q (by simp),h2,h3⟩
def Qbr(o:Option TCall):Bool×TCall×Int:=match o with
 |some x=>(true,x,0)
 |none=>(false,ZQ,0)
theorem QaG{p q:TPol}(h:(Uw p q).2.2=0):Uw p q=Qbr ((stage [p,q] 5).find? (UY p q)):=by
 obtain⟨_,_,_,h3⟩:=QaH h;unfold Uw;rw[if_neg (by rw[h3];simp),h3];cases(stage [p,q] 5).find? (UY p q)<;>rfl
theorem QeX{p q:TPol}(h:(Uw p q).2.2=0)(hl:(Uw p q).1=false){x:TCall}(hx:x.ok):says p x<=says q x:=by
 obtain⟨h1,h2,_,_⟩:=QaH h;have hall:∀r∈[p,q],UT r:=by intro r hr;simp at hr;rcases hr with rfl|rfl<;>assumption
 rw[QaG h]at hl
 cases hf:(stage [p,q] 5).find? (UY p q)with
 |some x=>rw[hf]at hl;simp[Qbr]at hl
 |none=>
  have:=List.find?_eq_none.1 hf _ (QaA hall hx);simp only[UY,decide_eq_true_eq]at this;rw[QcP hall hx (by simp),QcP hall hx (by simp)]at this;omega
def QP(p:TPol):List TRule:=p.ru++[⟨[],p.df⟩]
def Ui(of:Int->Int->Int)(a b:TRule):TRule:=⟨a.cd++b.cd,of a.vd b.vd⟩
def pairs(of:Int->Int->Int)(l m:List TRule):List TRule:=l.flatMap λa=>m.map (Ui of a)
def VK(of:Int->Int->Int)(p q:TPol):TPol:=⟨(pairs of (QP p) (QP q)).dropLast,of p.df q.df⟩
def zeroPol:TPol:=⟨[],0⟩
def VI(of:Int->Int->Int)(p q:TPol):TPol×Int:=if VD [p,q]≠0 then(zeroPol,VD [p,q])else if UZ (VK of p q)≠0 then(zeroPol,UZ (VK of p q))else(VK of p q,0)
def minOf(a b:Int):Int:=if a<=b then a else b
def exceptOf(a b:Int):Int:=if a<b then a else 4
theorem X6(p:TPol):(QP p).length=p.ru.length+1:=by simp[QP]
theorem Qcw(of:Int->Int->Int)(l m:List TRule):(pairs of l m).length=l.length*m.length:=by
 unfold pairs
 induction l with
 |nil=>simp
 |cons a l ih=>simp only[List.flatMap_cons,List.length_append,List.length_map,ih,List.length_cons,Nat.add_mul];omega
theorem QaT(of:Int->Int->Int)(p q:TPol):pairs of (QP p) (QP q)=(VK of p q).ru++[⟨[],of p.df q.df⟩]:=by
 have e:pairs of (QP p) (QP q)=(pairs of p.ru (QP q)++q.ru.map (Ui of ⟨[],p.df⟩))++[⟨[],of p.df q.df⟩]:=by
  unfold pairs QP;simp[List.flatMap_append,Ui]
 show _=(pairs of (QP p) (QP q)).dropLast++_;rw[e,List.dropLast_concat]
theorem I7(x:TCall)(a b:List TCond):QN x (a++b)=(QN x a&&QN x b):=by unfold QN;rw[List.all_append]
def UF(x:TCall)(l:List TRule):Option TRule:=l.find? λr=>QN x r.cd
theorem Y2(x:TCall)(l m:List TRule):UF x (l++m)=(UF x l).or (UF x m):=by unfold UF;rw[List.find?_append]
theorem OV(p:TPol)(x:TCall):says p x=match UF x p.ru with|some r=>r.vd|none=>p.df:=by
 obtain⟨l,d⟩:=p;unfold says judged;dsimp only
 induction l with
 |nil=>rfl
 |cons r l ih=>
  unfold which UF;rw[List.find?_cons];by_cases h:QN x r.cd=true
  .rw[if_pos h,h];rfl
  rw[if_neg h,Bool.eq_false_iff.2 h];exact ih
theorem Qce(of:Int->Int->Int)(x:TCall)(a:TRule)(ha:QN x a.cd=true):∀m:List TRule,UF x (m.map (Ui of a))=(UF x m).map (Ui of a)
 |[]=>rfl
 |b::m=>by
  have ih:=Qce of x a ha m;unfold UF at ih⊢;rw[List.map_cons,List.find?_cons,List.find?_cons]
  have e:QN x (Ui of a b).cd=QN x b.cd:=by
   show QN x (a.cd++b.cd)=_;rw[I7,ha,Bool.true_and]
  rw[e]
  cases QN x b.cd with
  |true=>rfl
  |false=>exact ih
theorem Ii(of:Int->Int->Int)(x:TCall)(a:TRule)(ha:QN x a.cd=false):∀m:List TRule,UF x (m.map (Ui of a))=none
 |[]=>rfl
 |b::m=>by
  have ih:=Ii of x a ha m;unfold UF at ih⊢;rw[List.map_cons,List.find?_cons]
  have e:QN x (Ui of a b).cd=false:=by
   show QN x (a.cd++b.cd)=_;rw[I7,ha,Bool.false_and]
  rw[e];exact ih
theorem Eu(of:Int->Int->Int)(x:TCall)(m:List TRule)(b:TRule)(hb:UF x m=some b):∀l:List TRule,UF x (pairs of l m)=(UF x l).map λa=>Ui of a b
 |[]=>rfl
 |a::l=>by
  have ih:=Eu of x m b hb l;have e:pairs of (a::l) m=m.map (Ui of a)++pairs of l m:=by unfold pairs;rw[List.flatMap_cons]
  rw[e,Y2,ih]
  have e2:UF x (a::l)=if QN x a.cd=true then some a else UF x l:=by
   unfold UF;rw[List.find?_cons];cases QN x a.cd<;>simp
  rw[e2];by_cases h:QN x a.cd=true
  .rw[Qce of x a h,hb,if_pos h];rfl
  rw[Ii of x a (by simpa using h),if_neg h];rfl
theorem Ew(x:TCall)(p:TPol):∃r,UF x (QP p)=some r/\r.vd=says p x:=by
 rw[OV];unfold QP;rw[Y2]
 cases UF x p.ru with
 |none=>exact⟨⟨[],p.df⟩,rfl,rfl⟩
 |some r=>exact⟨r,rfl,rfl⟩
theorem QgK(of:Int->Int->Int)(p q:TPol)(x:TCall):says (VK of p q) x=of (says p x) (says q x):=by
 obtain⟨a,ha,hva⟩:=Ew x p;obtain⟨b,hb,hvb⟩:=Ew x q;have h:=Eu of x (QP q) b hb (QP p);rw[ha,QaT,Y2]at h;rw[OV,<-hva,<-hvb]
 cases hf:UF x (VK of p q).ru with
 |some r=>
  rw[hf]at h;simp only[Option.map_some,Option.some_or,Option.some.injEq]at h;rw[h];rfl
 |none=>
  rw[hf]at h;simp only[Option.map_some,Option.none_or]at h;have h2:UF x [(⟨[],of p.df q.df⟩:TRule)]=some ⟨[],of p.df q.df⟩:=rfl;rw[h2]at h;injection h with h;have:=congrArg TRule.vd h;exact this
theorem QdC(of:Int->Int->Int)(p q:TPol):(VK of p q).ru.length=(p.ru.length+1)*(q.ru.length+1)-1:=by
 unfold VK;rw[List.length_dropLast,Qcw,X6,X6]
theorem Qby{of:Int->Int->Int}{p q:TPol}(h:(VI of p q).2=0):UT p/\UT q/\UT (VK of p q)/\VI of p q=(VK of p q,0):=by
 unfold VI at h⊢;split at h
 .rename_i h1;exact absurd h h1
 rename_i h1;split at h
 .rename_i h2;exact absurd h h2
 rename_i h2;have h3:=(Yf _).1 (by simpa using h1);exact⟨h3 p (by simp),h3 q (by simp),(UN _).1 (by simpa using h2),by rw[if_neg h1,if_neg h2]⟩
def Um(ks:List Nat):List TRule->Nat->List TRule
 |[],_=>[]
 |r::l,i=>if ks.contains i then r::Um ks l (i+1)else Um ks l (i+1)
def VQ(d:Int):List TRule->List TRule
 |[]=>[]
 |r::l=>if VQ d l=[]/\r.vd=d then[]else r::VQ d l
def YY(p:TPol)(l:List TCall):List Nat:=l.map λx=>which x p.ru
def Xr(p:TPol):TPol:=⟨VQ p.df (Um (YY p (stage [p] 5)) p.ru 0),p.df⟩
def Xi(p:TPol):TPol×Int:=if(Q8 [p]).2≠0 then(zeroPol,(Q8 [p]).2)else(Xr p,0)
theorem QgL{p:TPol}(h:(Xi p).2=0):UT p/\sizes [p] 5<=1000/\Xi p=(Xr p,0):=by
 have h0:(Q8 [p]).2=0:=by
  unfold Xi at h;split at h
  .exact h
  rename_i h';simpa using h'
 obtain⟨h1,h2,h3⟩:=Yw h0;refine⟨h1 p (by simp),h2,?_⟩;unfold Xi;rw[if_neg (by rw[h0];simp)]
theorem QcQ{p:TPol}(h:UT p)(hs:sizes [p] 5<=1000):Xi p=(Xr p,0):=by
 unfold Xi;rw[if_neg (by rw[QaU (by simpa using h) hs];simp)]
theorem Yt(ks:List Nat):∀(l:List TRule)(i:Nat),(Um ks l i).Sublist l
 |[],_=>List.Sublist.refl _
 |r::l,i=>by
  unfold Um;split
  .exact(Yt ks l (i+1)).cons_cons r
  exact(Yt ks l (i+1)).cons r
theorem QcW(d:Int):∀l:List TRule,VQ d l <+: l
 |[]=>List.prefix_refl _
 |r::l=>by
  unfold VQ;split
  .exact List.nil_prefix
  exact(List.cons_prefix_cons).2 ⟨rfl,QcW d l⟩
theorem Qau(x:TCall)(ks:List Nat):∀(l:List TRule)(i:Nat),(which x l<l.length->i+which x l∈ks)->UF x (Um ks l i)=UF x l
 |[],_,_=>rfl
 |r::l,i,h=>by
  have e2:∀m:List TRule,UF x (r::m)=if QN x r.cd=true then some r else UF x m:=λm=>by
   unfold UF;rw[List.find?_cons];cases QN x r.cd<;>simp
  unfold Um;by_cases hr:QN x r.cd=true
  .have hw:which x (r::l)=0:=by unfold which;rw[if_pos hr]
   have hi:=h (by rw[hw];simp);rw[hw,Nat.add_zero]at hi;rw[if_pos (by simpa using hi),e2,e2,if_pos hr,if_pos hr]
  have hw:which x (r::l)=which x l+1:=by(conv=>lhs;unfold which);rw[if_neg hr]
  have ih:=Qau x ks l (i+1) (λhlt=>by
   have:=h (by rw[hw];simpa using hlt);rw[hw]at this
   rwa [show i+1+which x l=i+(which x l+1) by omega])
  split
  .rw[e2,e2,if_neg hr,if_neg hr,ih]
  rw[e2,if_neg hr,ih]
def orD(d:Int):Option TRule->Int
 |some r=>r.vd
 |none=>d
theorem Qet(p:TPol)(x:TCall):says p x=orD p.df (UF x p.ru):=by rw[OV];rfl
theorem Qat(x:TCall)(d:Int):∀l:List TRule,orD d (UF x (VQ d l))=orD d (UF x l)
 |[]=>rfl
 |r::l=>by
  have e2:∀m:List TRule,UF x (r::m)=if QN x r.cd=true then some r else UF x m:=λm=>by
   unfold UF;rw[List.find?_cons];cases QN x r.cd<;>simp
  have ih:=Qat x d l;unfold VQ;split
  .rename_i h;rw[h.1]at ih;rw[e2];split
   .show d=r.vd;exact h.2.symm
   exact ih
  rw[e2,e2];split
  .rfl
  exact ih
theorem Qfq{p:TPol}(h:UT p){x:TCall}(hx:x.ok):says (Xr p) x=says p x:=by
 have hall:∀r∈[p],UT r:=by simpa using h
 rw[Qet,Qet];show orD p.df (UF x (VQ _ _))=_;rw[Qat,Qau];intro _;rw[Nat.zero_add];refine List.mem_map.2 ⟨Ik [p] x,QaA hall hx,Qba hall hx (by simp)⟩
theorem QgM(p:TPol):(Xr p).ru.Sublist p.ru:=(QcW _ _).sublist.trans (Yt _ _ _)
theorem Qgk{p q:TPol}(h:UT p)(hs:q.ru.Sublist p.ru)(hd:q.df=p.df):UT q:=
 ⟨Nat.le_trans hs.length_le h.len,by rw[hd];exact h.d0,by rw[hd];exact h.d1,λr hr=>h.ru r (hs.subset hr)⟩
theorem Qdy{p:TPol}(h:UT p):UT (Xr p):=Qgk h (QgM p) rfl
def Us(p q:TPol):TPol×Int:=if(Uw q p).2.2≠0 then(zeroPol,(Uw q p).2.2)else if(Uw q p).1 then(zeroPol,7)else
 if(VI exceptOf q p).2≠0 then(zeroPol,(VI exceptOf q p).2)else Xi (VK exceptOf q p)
theorem GK{p q:TPol}(h:(Us p q).2=0):UT p/\UT q/\(Uw q p).2.2=0/\(Uw q p).1=false/\UT (VK exceptOf q p)/\Us p q=(Xr (VK exceptOf q p),0):=by
 unfold Us at h⊢;split at h
 .rename_i h1;exact absurd h h1
 rename_i h1;have h1':(Uw q p).2.2=0:=by simpa using h1
 split at h
 .simp at h
 rename_i h2;split at h
 .rename_i h3;exact absurd h h3
 rename_i h3;obtain⟨a1,a2,a3,_⟩:=Qby (of:=exceptOf) (p:=q) (q:=p) (by simpa using h3);obtain⟨_,_,b3⟩:=QgL h;exact⟨a2,a1,h1',by simpa using h2,a3,by rw[if_neg h1,if_neg h2,if_neg h3];exact b3⟩
theorem Qa6{p q:TPol}(h:(Us p q).2=0){x:TCall}(hx:x.ok):says (Us p q).1 x=exceptOf (says q x) (says p x):=by
 obtain⟨_,_,_,_,h5,h6⟩:=GK h;rw[h6];show says (Xr _) x=_;rw[Qfq h5 hx,QgK]
theorem ES{p q:TPol}(h:(Us p q).2=0):UT (Us p q).1:=by
 obtain⟨_,_,_,_,h5,h6⟩:=GK h;rw[h6];exact Qdy h5
theorem Qhc{p q:TPol}(h:(Us p q).2=0){x:TCall}(hx:x.ok):says q x<=says p x:=by
 obtain⟨_,_,h3,h4,_,_⟩:=GK h;exact QeX h3 h4 hx
def Ul(c:TCond)(skip:Int):TIns:=
 if c.op=2 then⟨2,c.v,skip,0⟩else if c.op=3 then⟨3,c.v,0,skip⟩else if c.op=4 then⟨3,c.v,skip,0⟩else⟨2,c.v,0,skip⟩
def Uu:List TCond->Int->List TIns
 |[],v=>[⟨4,v,0,0⟩]
 |c::r,v=>⟨1,c.f,0,0⟩::Ul c (2*r.length+1)::Uu r v
def Uk:List TRule->List TIns
 |[]=>[]
 |r::l=>Uu r.cd r.vd++Uk l
def Q7(p:TPol):List TIns:=Uk p.ru++[⟨4,p.df,0,0⟩]
def Uy(p:TPol):List TIns×Int:=if UZ p≠0 then([],UZ p)else if 1500<(Q7 p).length then([],2)else(Q7 p,0)
theorem XT:∀(l:List TCond)(v:Int),(Uu l v).length=2*l.length+1
 |[],_=>rfl
 |c::r,v=>by simp only[Uu,List.length_cons,XT r v];omega
theorem Oc:∀(l:List TRule)(r:TRule),Uk (l++[r])=Uk l++Uu r.cd r.vd
 |[],r=>by simp[Uk]
 |x::l,r=>by simp only[List.cons_append,Uk,Oc l r,List.append_assoc]
theorem QcL{l:List TRule}(h:∀r∈l,r.cd.length<=10):(Uk l).length<=21*l.length:=by
 induction l with
 |nil=>simp[Uk]
 |cons r l ih=>
  have h1:=h r (List.mem_cons_self ..);have h2:=ih λx hx=>h x (List.mem_cons_of_mem _ hx);simp only[Uk,List.length_append,XT,List.length_cons];omega
theorem Qig{c:TCond}(h:YL c){s n:Int}(h0:0<=s)(h1:s<n):OG (Ul c s) n=0:=by
 have hv:=h.v1;have hm:QY c.f<=65535:=by unfold QY;split<;>(try split)<;>omega
 have:=h.v0;have h0':¬c.v<0:=by omega
 have h1':¬c.v>65535:=by omega
 clear hv hm this;unfold Ul OG;split
 ·(simp[h0',h1'];omega)
 split
 ·(simp[h0',h1'];omega)
 split
 ·(simp[h0',h1'];omega)
 (simp[h0',h1'];omega)
theorem Qh2{v n:Int}(h0:0<=v)(h1:v<=4):OG ⟨4,v,0,0⟩ n=0:=by
 unfold OG;dsimp only;rw[if_pos (.inr rfl),if_neg (by omega),if_neg (by omega)]
theorem Qij{v n:Int}(h0:0<=v)(h1:v<=4):OG ⟨1,v,0,0⟩ n=0:=by
 unfold OG;dsimp only;rw[if_pos (.inl rfl),if_neg (by omega),if_neg (by omega)]
theorem Qap:∀(cs:List TCond)(v:Int)(l:List TIns),(∀c∈cs,YL c)->0<=v->v<=4->l≠[]->Vk l=0->Vk (Uu cs v++l)=0
 |[],v,l,_,h0,h1,_,hl=>by
  simp only[Uu,List.cons_append,List.nil_append,Vk];rw[if_pos (Qh2 h0 h1)];exact hl
 |c::cs,v,l,hc,h0,h1,hn,hl=>by
  have ih:=Qap cs v l (λx hx=>hc x (List.mem_cons_of_mem _ hx)) h0 h1 hn hl;have hk:=hc c (List.mem_cons_self ..);have hlen:0<l.length:=List.length_pos_iff.2 hn;simp only[Uu,List.cons_append,Vk];rw[if_pos (Qij hk.f0 (by have:=hk.f1;omega)),if_pos (Qig hk (by omega) (by rw[List.length_append,XT];omega))];exact ih
theorem Ny:∀(rs:List TRule)(l:List TIns),(∀r∈rs,JM r)->l≠[]->Vk l=0->Vk (Uk rs++l)=0
 |[],l,_,_,hl=>hl
 |r::rs,l,hr,hn,hl=>by
  have hk:=hr r (List.mem_cons_self ..);have ih:=Ny rs l (λx hx=>hr x (List.mem_cons_of_mem _ hx)) hn hl;simp only[Uk,List.append_assoc];exact Qap _ _ _ hk.cd hk.v0 hk.v1 (by simp[hn]) ih
theorem QaD:∀(l:List TIns)(x:TIns),N8 (l++[x])=x.k
 |[],x=>rfl
 |[y],x=>rfl
 |y::z::l,x=>by
  have:=QaD (z::l) x;simp only[List.cons_append]at this⊢;simp only[N8];exact this
theorem Et{p:TPol}(h:UT p):Vj (Q7 p)=if 1500<(Q7 p).length then 2 else 0:=by
 have h1:Vk (Q7 p)=0:=Ny p.ru _ h.ru (by simp) (by simp only[Vk];rw[if_pos (Qh2 h.d0 h.d1)]);have h2:N8 (Q7 p)=4:=QaD _ _;have h3:(Q7 p).length≠0:=by simp[Q7]
 unfold Vj;split
 .rw[if_pos (by omega)]
 simp only[h1,ne_eq,not_true_eq_false,if_false];rw[if_neg (by omega)]
theorem Qgb{c:TCond}(h:YL c)(x:TCall)(s:Nat):VV (Ul c s) (x.get c.f)=if holdsB c x then 0 else s:=by
 have h0:=h.o0;have h1:=h.o1;have e:c.op=1\/c.op=2\/c.op=3\/c.op=4:=by omega
 unfold Ul VV holdsB;rcases e with e|e|e|e<;>simp only[e]<;>simp only[Int.reduceEq,if_true,if_false,true_and,false_and,or_false,false_or]
 .by_cases e:x.get c.f=c.v<;>simp[e]
 .by_cases e:x.get c.f=c.v<;>simp[e]
 .by_cases e:x.get c.f<c.v<;>simp[e]
 by_cases e:x.get c.f<c.v
 .have:¬c.v<=x.get c.f:=by omega
  simp[e,this]
 have:c.v<=x.get c.f:=by omega
 simp[e,this]
theorem Qco(c:TCond)(s:Int):(Ul c s).k=2\/(Ul c s).k=3:=by
 unfold Ul;split
 .exact .inl rfl
 split
 .exact .inr rfl
 split
 .exact .inr rfl
 exact .inl rfl
theorem Ej(x:TCall):∀(cs:List TCond)(v:Int)(l:List TIns)(f:Nat)(n:Int)(d:Nat),(∀c∈cs,YL c)->(Uu cs v++l).length<=f ->
  (QN x cs=true/\(ZK x f (Uu cs v++l) n d).1=v)\/(QN x cs=false/\∃(f':Nat)(n':Int)(d':Nat),l.length<=f'/\ZK x f (Uu cs v++l) n d=ZK x f' l n' d')
 |[],v,l,f,n,d,_,hf=>by
  refine .inl ⟨rfl,?_⟩
  cases f with
  |zero=>simp[Uu]at hf
  |succ f=>simp only[Uu,List.cons_append,List.nil_append,ZK,if_true]
 |c::cs,v,l,f,n,d,hc,hf=>by
  have hk:=hc c (List.mem_cons_self ..);have hlen:(Uu (c::cs) v++l).length=2+(Uu cs v++l).length:=by simp only[Uu,List.cons_append,List.length_cons];omega
  obtain⟨g,rfl⟩:∃g:Nat,f=g+2:=⟨f-2,by omega⟩;have h14:¬(1:Int)=4:=by omega
  have hj4:¬(Ul c (2*(cs.length:Int)+1)).k=4:=by have:=Qco c (2*(cs.length:Int)+1);omega
  have hj1:¬(Ul c (2*(cs.length:Int)+1)).k=1:=by have:=Qco c (2*(cs.length:Int)+1);omega
  have hs:(2*(cs.length:Int)+1)=((2*cs.length+1:Nat):Int):=by omega
  have step:ZK x (g+2) (Uu (c::cs) v++l) n d=ZK x g ((Uu cs v++l).drop (if holdsB c x then 0 else 2*cs.length+1)) (x.get c.f) (d+1+1):=by
   simp only[Uu,List.cons_append,ZK,if_neg h14,if_true,if_neg hj4,if_neg hj1];rw[hs,Qgb hk]
  rw[step]
  cases hb:holdsB c x with
  |true=>
   simp only[if_true,List.drop_zero];have hall:QN x (c::cs)=QN x cs:=by unfold QN;simp[hb]
   rw[hall];exact Ej x cs v l g _ _ (λy hy=>hc y (List.mem_cons_of_mem _ hy)) (by omega)
  |false=>
   refine .inr ⟨by unfold QN;simp[hb],g,x.get c.f,d+1+1,?_,?_⟩
   .have:(Uu cs v++l).length=(Uu cs v).length+l.length:=by simp
    omega
   simp only[Bool.false_eq_true,if_false];rw[<-XT cs v,List.drop_left]
theorem QcM(x:TCall)(df:Int):∀(rs:List TRule)(f:Nat)(n:Int)(d:Nat),(∀r∈rs,JM r)->(Uk rs++[(⟨4,df,0,0⟩:TIns)]).length<=f ->
  (ZK x f (Uk rs++[(⟨4,df,0,0⟩:TIns)]) n d).1=VA ⟨rs,df⟩ (which x rs)
 |[],f,n,d,_,hf=>by
  cases f with
  |zero=>simp at hf
  |succ f=>simp only[Uk,List.nil_append,ZK,if_true];rfl
 |r::rs,f,n,d,hr,hf=>by
  have hk:=hr r (List.mem_cons_self ..);simp only[Uk,List.append_assoc]at hf⊢;rcases Ej x r.cd r.vd (Uk rs++[(⟨4,df,0,0⟩:TIns)]) f n d hk.cd hf with⟨ha,he⟩|⟨ha,f',n',d',hf',he⟩
  .rw[he];unfold which;rw[if_pos ha];rfl
  rw[he,QcM x df rs f' n' d' (λy hy=>hr y (List.mem_cons_of_mem _ hy)) hf'];have hw:which x (r::rs)=which x rs+1:=by(conv=>lhs;unfold which);rw[if_neg (by simp[ha])]
  rw[hw];simp[VA]
theorem Ih{p:TPol}(h:UT p)(x:TCall):(run (Q7 p) x).1=(judged p x).1:=
 QcM x p.df p.ru _ 0 0 h.ru Znl
theorem XU{p:TPol}(h:(Uy p).2=0):UT p/\Uy p=(Q7 p,0)/\Vj (Q7 p)=0/\(Q7 p).length<=1500:=by
 unfold Uy at h⊢;split at h
 .rename_i h1;exact absurd h h1
 rename_i h1;have hp:=(UN p).1 (by simpa using h1);split at h
 .simp at h
 rename_i h2;refine⟨hp,by rw[if_neg h1,if_neg h2],?_,by omega⟩;rw[Et hp,if_neg h2]
end Go.Proofs.YthkgjohhbdipcaaGreatDoor
