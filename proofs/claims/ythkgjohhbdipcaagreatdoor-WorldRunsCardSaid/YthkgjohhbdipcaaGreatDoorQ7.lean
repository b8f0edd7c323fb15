/- Texts laid one behind the other: ChainSpec, Code, Run, RelV, Rel. No condition beyond theirs. -/
import Derived.Test.YthkgjohhbdipcaaGreatDoorQ6
import Derived.Test.YthkgjohhbdipcaaGreatDoorQ4
import Derived.Test.YthkgjohhbdipcaaGreatDoorQ5
set_option linter.all false
set_option maxHeartbeats 64000000
set_option maxRecDepth 100000
namespace Go.Proofs.YthkgjohhbdipcaaGreatDoor
open Tryz
def V4:List (List TIns)->Int
 |[]=>0
 |f::l=>if Vj f=0 then V4 l else Vj f
def chainE(l:List (List TIns)):Int:=if 6<l.length then 2 else V4 l
theorem O9(l:List (List TIns))(k:Nat)(h:k<l.length):V4 (l.drop k)=if Vj l[k]=0 then V4 (l.drop (k+1))else Vj l[k]:=by
 rw[List.drop_eq_getElem_cons h];rfl
theorem Eh:∀l:List (List TIns),V4 l=0↔∀f∈l,Vj f=0
 |[]=>by simp[V4]
 |f::l=>by
  simp only[V4,List.mem_cons,forall_eq_or_imp];rw[<-Eh l];split
  .rename_i h;simp[h]
  rename_i h;simp[h]
theorem V9(l:List (List TIns)):chainE l=0↔l.length<=6/\∀f∈l,Vj f=0:=by
 unfold chainE;split
 .rename_i h;constructor
  .intro h';simp at h'
  rintro ⟨h1,_⟩;omega
 rename_i h;rw[Eh];exact⟨λh'=>⟨by omega,h'⟩,λh'=>h'.2⟩
def YJ(x:TCall):List (List TIns)->Int->Int
 |[],v=>v
 |f::l,v=>YJ x l (minOf v (run f x).1)
def asked(l:List (List TIns))(x:TCall):Int:=YJ x l 4
def NV(l:List (List TIns))(x:TCall):Int×Int:=if chainE l≠0 then(0,chainE l)else if x.ok then(asked l x,0)else(0,3)
theorem Jy(a b:Int):minOf a b=min a b:=by unfold minOf;split<;>omega
theorem QbU(x:TCall):∀(l:List (List TIns))(v:Int),YJ x l v=minOf v (YJ x l v)
 |[],v=>by simp[YJ,minOf]
 |f::l,v=>by
  have ih:=QbU x l (minOf v (run f x).1);show YJ x l (minOf v (run f x).1)=minOf v (YJ x l (minOf v (run f x).1));rw[ih];simp only[Jy];omega
theorem Qak(x:TCall):∀(l:List (List TIns))(u v:Int),YJ x l (minOf u v)=minOf u (YJ x l v)
 |[],u,v=>rfl
 |f::l,u,v=>by
  show YJ x l (minOf (minOf u v) (run f x).1)=minOf u (YJ x l (minOf v (run f x).1));rw[<-Qak x l u (minOf v (run f x).1)];congr 1
  simp only[Jy];omega
theorem O7(x:TCall):∀(l m:List (List TIns))(v:Int),YJ x (l++m) v=YJ x m (YJ x l v)
 |[],_,_=>rfl
 |_::l,m,_=>O7 x l m _
theorem QbV(x:TCall)(l m:List (List TIns)):asked (l++m) x=minOf (asked l x) (asked m x):=by
 unfold asked;rw[O7]
 have e:YJ x l 4=minOf (YJ x l 4) 4:=by
  have:=QbU x l 4;simp only[Jy]at this⊢;omega
 conv=>lhs;rw[e]
 rw[Qak]
def UC(l:List (List TIns))(p q:TPol):List (List TIns)×Int:=
 if chainE l≠0 then([],chainE l)else if(Us p q).2≠0 then([],(Us p q).2)else if l.length=6 then([],2)else
  if(Uy (Us p q).1).2≠0 then([],(Uy (Us p q).1).2)else(l++[Q7 (Us p q).1],0)
theorem Ol{l:List (List TIns)}{p q:TPol}(h:(UC l p q).2=0):chainE l=0/\(Us p q).2=0/\l.length<6/\Vj (Q7 (Us p q).1)=0/\UC l p q=(l++[Q7 (Us p q).1],0):=by
 unfold UC at h⊢;split at h
 .rename_i h1;exact absurd h h1
 rename_i h1;split at h
 .rename_i h2;exact absurd h h2
 rename_i h2;split at h
 .simp at h
 rename_i h3;split at h
 .rename_i h4;exact absurd h h4
 rename_i h4;have h1':chainE l=0:=by simpa using h1
 obtain⟨_,_,c,_⟩:=XU (p:=(Us p q).1) (by simpa using h4);have:=(V9 l).1 h1';exact⟨h1',by simpa using h2,by omega,c,by rw[if_neg h1,if_neg h2,if_neg h3,if_neg h4]⟩
theorem Qdg{l:List (List TIns)}{p q:TPol}(h:(UC l p q).2=0):chainE (UC l p q).1=0:=by
 obtain⟨h1,_,h3,h4,h5⟩:=Ol h;rw[h5,V9];refine⟨by simp;omega,λf hf=>?_⟩;rcases List.mem_append.1 hf with hf|hf
 .exact((V9 l).1 h1).2 f hf
 simp at hf;subst hf;exact h4
theorem Qdb{l:List (List TIns)}{p q:TPol}(h:(UC l p q).2=0){x:TCall}(hx:x.ok):asked (UC l p q).1 x=minOf (asked l x) (exceptOf (says q x) (says p x)):=by
 obtain⟨_,h2,_,_,h5⟩:=Ol h;rw[h5];show asked (l++[Q7 _]) x=_;rw[QbV]
 have e:asked [Q7 (Us p q).1] x=minOf 4 (says (Us p q).1 x):=by
  show minOf 4 (run (Q7 (Us p q).1) x).1=_;rw[Ih (ES h2)];rfl
 have:=(OW (ES h2) x).2;rw[e,Qa6 h2 hx];rw[Qa6 h2 hx]at this;simp only[Jy];omega
theorem Qfz{l:List (List TIns)}{p q:TPol}(h:(UC l p q).2=0){x:TCall}(hx:x.ok)(hl:asked l x=says p x):asked (UC l p q).1 x=says q x:=by
 obtain⟨_,h2,_⟩:=Ol h;have h3:=Qhc h2 hx;obtain⟨hp,hq,_⟩:=GK h2;have h4:=(OW hp x).2;rw[Qdb h hx,hl];unfold exceptOf;simp only[Jy];split<;>omega
theorem QfO{p:TPol}(h:UT p)(x:TCall):asked [Q7 p] x=says p x:=by
 show minOf 4 (run (Q7 p) x).1=_;rw[Ih h];have:=(OW h x).2;show minOf 4 (says p x)=_;simp only[Jy];omega
structure TRec where
 kind:Int
 cell:Int
 fm:Int
 p:TPol
deriving DecidableEq
structure TCell where
 open_:Bool
 chain:List (List TIns)
 p:TPol
deriving DecidableEq
def Y4(p:TPol):Prop:=p.df=0/\p.ru=[]
instance(p:TPol):Decidable (Y4 p):=by unfold Y4;infer_instance
def UJ(r:TRec):Int:=
 if r.kind<1\/4<r.kind then 4 else if r.cell<0\/4<=r.cell\/r.fm<0\/4<=r.fm then 3 else
  if(r.kind≠3/\r.fm≠0)\/(2<r.kind/\¬Y4 r.p)then 4 else if 2<r.kind then 0 else UZ r.p
def zeroCell:TCell:=⟨false,[],zeroPol⟩
def VZ(c:TCell):Int:=
 if c.open_ then(if c.chain=[]then 4 else if chainE c.chain≠0 then chainE c.chain else UZ c.p)else if c.chain=[]/\Y4 c.p then 0 else 4
def V3:List TCell->Int
 |[]=>0
 |c::l=>if VZ c=0 then V3 l else VZ c
def cellsE(l:List TCell):Int:=if l.length=4 then V3 l else 4
theorem YM(l:List TCell)(k:Nat)(h:k<l.length):V3 (l.drop k)=if VZ l[k]=0 then V3 (l.drop (k+1))else VZ l[k]:=by
 rw[List.drop_eq_getElem_cons h];rfl
theorem Ef:∀l:List TCell,V3 l=0↔∀f∈l,VZ f=0
 |[]=>by simp[V3]
 |f::l=>by
  simp only[V3,List.mem_cons,forall_eq_or_imp];rw[<-Ef l];split
  .rename_i h;simp[h]
  rename_i h;simp[h]
theorem XR(l:List TCell):cellsE l=0↔l.length=4/\∀c∈l,VZ c=0:=by
 unfold cellsE;split
 .rename_i h;rw[Ef];exact⟨λh'=>⟨h,h'⟩,λh'=>h'.2⟩
 rename_i h;exact⟨λh'=>by simp at h',λh'=>absurd h'.1 h⟩
def newCells:List TCell:=[zeroCell,zeroCell,zeroCell,zeroCell]
def Vh(p:TPol):TCell×Int:=if(Uy p).2≠0 then(zeroCell,(Uy p).2)else(⟨true,[Q7 p],p⟩,0)
def cellAt(l:List TCell)(k:Int):TCell:=l.getD k.toNat zeroCell
def nextCell(l:List TCell)(r:TRec):TCell×Int:=
 if r.kind=3 then(if(cellAt l r.fm).open_ then Vh (cellAt l r.fm).p else(zeroCell,5))
 else if r.kind=1 then Vh r.p
 else if r.kind=2 then(if(UC (cellAt l r.cell).chain (cellAt l r.cell).p r.p).2≠0 then(zeroCell,(UC (cellAt l r.cell).chain (cellAt l r.cell).p r.p).2)else(⟨true,(UC (cellAt l r.cell).chain (cellAt l r.cell).p r.p).1,r.p⟩,0))
 else(zeroCell,0)
def QI(l:List TCell)(r:TRec):List TCell×Int:=
 if cellsE l≠0 then([],cellsE l)else if UJ r≠0 then([],UJ r)else
  if(cellAt l r.cell).open_=decide (r.kind=1\/r.kind=3)then([],6)else
   if(nextCell l r).2≠0 then([],(nextCell l r).2)else(l.set r.cell.toNat (nextCell l r).1,0)
def Uj:List TRec->List TCell->List TCell×Int
 |[],c=>(c,0)
 |r::l,c=>if(QI c r).2≠0 then([],(QI c r).2)else Uj l (QI c r).1
def QA(l:List TRec):List TCell×Int:=if 40<l.length then([],2)else Uj l newCells
theorem Qeg{l:List TCell}{r:TRec}(h:(QI l r).2=0):cellsE l=0/\UJ r=0/\(cellAt l r.cell).open_≠decide (r.kind=1\/r.kind=3)/\(nextCell l r).2=0/\QI l r=(l.set r.cell.toNat (nextCell l r).1,0):=by
 unfold QI at h⊢;split at h
 .rename_i h1;exact absurd h h1
 rename_i h1;split at h
 .rename_i h2;exact absurd h h2
 rename_i h2;split at h
 .simp at h
 rename_i h3;split at h
 .rename_i h4;exact absurd h h4
 rename_i h4;exact⟨by simpa using h1,by simpa using h2,h3,by simpa using h4,by rw[if_neg h1,if_neg h2,if_neg h3,if_neg h4]⟩
theorem Y5{r:TRec}(h:UJ r=0):1<=r.kind/\r.kind<=4/\0<=r.cell/\r.cell<4/\0<=r.fm/\r.fm<4/\(r.kind≠3->r.fm=0)/\(2<r.kind->Y4 r.p)/\(r.kind<=2->UT r.p):=by
 unfold UJ at h;split at h
 .simp at h
 split at h
 .simp at h
 split at h
 .simp at h
 rename_i h1 h2 h3;refine⟨by omega,by omega,by omega,by omega,by omega,by omega,λhk=>?_,λhk=>?_,λhk=>?_⟩
 .by_cases e:r.fm=0
  .exact e
  exact absurd (.inl ⟨hk,e⟩) h3
 .by_cases e:Y4 r.p
  .exact e
  exact absurd (.inr ⟨hk,e⟩) h3
 split at h
 .omega
 exact(UN _).1 h
theorem Qgh{α:Type}{l:List α}{k:Nat}{a c:α}(h:c∈l.set k a):c∈l\/c=a:=List.mem_or_eq_of_mem_set h
theorem QeN{l:List TCell}(hl:l.length=4){k:Int}(h0:0<=k)(h1:k<4):cellAt l k∈l:=by
 unfold cellAt;rw[List.getD_eq_getElem?_getD,List.getElem?_eq_getElem (by omega)];exact List.getElem_mem (by omega)
def NU(c:TCell):Prop:=c.open_=true->UT c.p/\chainE c.chain=0/\c.chain≠[]/\∀x:TCall,x.ok->asked c.chain x=says c.p x
theorem Qg5{p:TPol}(h:(Vh p).2=0):UT p/\Vj (Q7 p)=0/\Vh p=(⟨true,[Q7 p],p⟩,0):=by
 unfold Vh at h⊢;split at h
 .rename_i h1;exact absurd h h1
 rename_i h1;obtain⟨a,_,c,_⟩:=XU (p:=p) (by simpa using h1);exact⟨a,c,by rw[if_neg h1]⟩
theorem EN{p:TPol}(h:(Vh p).2=0):NU (Vh p).1/\VZ (Vh p).1=0:=by
 obtain⟨a,b,c⟩:=Qg5 h;rw[c];have hc:chainE [Q7 p]=0:=by rw[V9];exact⟨by simp,by simpa using b⟩
 refine⟨λ_=>⟨a,hc,by simp,λx _=>QfO a x⟩,?_⟩;unfold VZ;simp only[if_true];rw[if_neg (by simp),if_neg (by rw[hc];simp)];exact(UN _).2 a
theorem Qe1{l:List TCell}{r:TRec}(h:(QI l r).2=0)(hm:∀c∈l,NU c):NU (nextCell l r).1/\VZ (nextCell l r).1=0:=by
 obtain⟨h1,h2,h3,h4,_⟩:=Qeg h;obtain⟨k0,k1,c0,c1,f0,f1,e1,e2,e3⟩:=Y5 h2;obtain⟨hl,_⟩:=(XR l).1 h1;unfold nextCell at h4⊢;by_cases hk3:r.kind=3
 .rw[if_pos hk3]at h4⊢;split at h4
  .rename_i ho;rw[if_pos ho];exact EN h4
  simp at h4
 rw[if_neg hk3]at h4⊢;by_cases hk1:r.kind=1
 .rw[if_pos hk1]at h4⊢;exact EN h4
 rw[if_neg hk1]at h4⊢;by_cases hk2:r.kind=2
 .rw[if_pos hk2]at h4⊢;split at h4
  .rename_i ht;exact absurd h4 ht
  rename_i ht;rw[if_neg ht];have ht':(UC (cellAt l r.cell).chain (cellAt l r.cell).p r.p).2=0:=by simpa using ht
  have ho:(cellAt l r.cell).open_=true:=by
   have:decide (r.kind=1\/r.kind=3)=false:=by simp[hk1,hk3]
   rw[this]at h3;simpa using h3
  obtain⟨m1,m2,m3,m4⟩:=hm _ (QeN hl c0 c1) ho;have hp:=e3 (by omega);have hc:=Qdg ht'
  have hne:(UC (cellAt l r.cell).chain (cellAt l r.cell).p r.p).1≠[]:=by
   rw[(Ol ht').2.2.2.2];simp
  refine⟨λ_=>⟨hp,hc,hne,λx hx=>Qfz ht' hx (m4 x hx)⟩,?_⟩;unfold VZ;simp only[if_true];rw[if_neg hne,if_neg (by rw[hc];simp)];exact(UN _).2 hp
 rw[if_neg hk2];exact⟨λh=>by simp[zeroCell]at h,by unfold VZ zeroCell;simp[Y4,zeroPol]⟩
theorem Qgg{l:List TCell}{r:TRec}(h:(QI l r).2=0)(hm:∀c∈l,NU c):(∀c∈(QI l r).1,NU c)/\cellsE (QI l r).1=0:=by
 obtain⟨h1,_,_,_,h5⟩:=Qeg h;obtain⟨m1,m2⟩:=Qe1 h hm;obtain⟨hl,hc⟩:=(XR l).1 h1;rw[h5];refine⟨λc hcm=>?_,(XR _).2 ⟨by simpa using hl,λc hcm=>?_⟩⟩
 .rcases Qgh hcm with h|h
  .exact hm c h
  subst h;exact m1
 rcases Qgh hcm with h|h
 .exact hc c h
 subst h;exact m2
theorem Qct:(∀c∈newCells,NU c)/\cellsE newCells=0:=by
 refine⟨λc hc=>?_,by decide⟩;have:c=zeroCell:=by simp[newCells]at hc;exact hc
 subst this;exact λh=>by simp[zeroCell]at h
theorem Ip:∀(l:List TRec)(c:List TCell),(∀s∈c,NU s)->cellsE c=0->(Uj l c).2=0->(∀s∈(Uj l c).1,NU s)/\cellsE (Uj l c).1=0
 |[],_,h1,h2,_=>⟨h1,h2⟩
 |r::l,c,h1,h2,h=>by
  unfold Uj at h⊢;by_cases hn:(QI c r).2≠0
  .rw[if_pos hn]at h;exact absurd h hn
  rw[if_neg hn]at h⊢;obtain⟨a,b⟩:=Qgg (by simpa using hn) h1;exact Ip l _ a b h
theorem Qa1{l:List TRec}(h:(QA l).2=0):l.length<=40/\QA l=Uj l newCells/\(∀s∈(QA l).1,NU s)/\cellsE (QA l).1=0:=by
 unfold QA at h⊢;split at h
 .simp at h
 rename_i h1;rw[if_neg h1];exact⟨by omega,rfl,Ip l newCells Qct.1 Qct.2 h⟩
theorem Ji:∀(l m:List TRec)(c:List TCell),Uj (l++m) c=if(Uj l c).2≠0 then([],(Uj l c).2)else Uj m (Uj l c).1
 |[],m,c=>by simp[Uj]
 |r::l,m,c=>by
  have e:∀m:List TRec,Uj (r::m) c=if(QI c r).2≠0 then([],(QI c r).2)else Uj m (QI c r).1:=λ_=>rfl;rw[List.cons_append,e,e];by_cases hn:(QI c r).2≠0
  .rw[if_pos hn,if_pos hn,if_pos hn]
  rw[if_neg hn,if_neg hn];exact Ji l m _
section
open Go.RowKit
theorem ins_any(k a b c n:Int)(w:World):Calls prog 161 #[.agg #[.int .i64 k,.int .i64 a,.int .i64 b,.int .i64 c],.int .i64 n] w λe w'=>e=.returned (.int .i64 (OG ⟨k,a,b,c⟩ n))/\Below w.heap.size w w':=by
 go_enter func161,ntmps161;go_wp2
 all_goals go_ret
 all_goals(refine⟨Q3 ?_,Zbr.alloc Znl _⟩)
 all_goals(simp only[beq_iff_eq,bne_iff_ne,beq_eq_false_iff_ne,bne_eq_false_iff_eq]at *)
 all_goals(simp[OG])
 all_goals((repeat' split)<;>first|rfl|omega)
theorem XJ(v:Value)(l:List TIns)(D:Nat->Prop)(w:World)(h:QW w D v l):Calls prog 134 #[v] w λe w'=>e=.returned (.int .i64 (Vj l))/\Below w.heap.size w w':=by
 obtain⟨a,c,rfl,hlc,hcm,hat⟩:=Sl.form h;have H:=Zh h;clear h;by_cases h0:l.length=0
 .have b0:((l.length:Int)==0)=true:=by simp[h0]
  have hs:Vj l=2:=by simp[Vj,h0]
  rw[hs];clear hs hat H h0;go_enter func134,ntmps134;go_wp2;go_ret;exact⟨rfl,Below.refl _ _⟩
 by_cases h1:1500<l.length
 .have b0:((l.length:Int)==0)=false:=beq_eq_false_iff_ne.2 (by omega);have hs:Vj l=2:=by simp[Vj,h1]
  rw[hs];clear hs hat H;go_enter func134,ntmps134;go_wp2;go_ret;exact⟨rfl,Below.refl _ _⟩
 obtain⟨b,o,rfl,hDb,hb⟩:=hat (by omega);have b0:((l.length:Int)==0)=false:=beq_eq_false_iff_ne.2 (by omega);have b1:¬(1500<(l.length:Int)):=by omega
 have hE:=Zh (show Vj l=if Vk l≠0 then Vk l else if N8 l=4 then 0 else 4 from if_neg (by omega));clear hat;go_enter func134,ntmps134;go_wp2_with fail
 go_loopw[16](λi wr=>∃k:Nat,k<=l.length/\i=.int .i64 k/\Vk l=Vk (l.drop k)/\Below w.heap.size w wr) (λi _=>l.length-(intOf i).toNat)
 case atStart=>exact⟨0,by omega,rfl,rfl,Below.refl _ _⟩
 case round=>
  obtain⟨k,hk,rfl,hgo,hbw⟩:=hrel;have Hgo:=Zh hgo;clear hgo;by_cases hlt:k<l.length
  .obtain⟨c0,c1,c2,c3⟩:=QW.cells (QW.below H.o hbw) hlt;have Hd:=Zh (J4 l k hlt);have hsz:=hbw.size;go_wp2_with(go_at_call 161;refine(ins_any _ _ _ _ _ _).mono ?_;rintro e w1 ⟨rfl,hb1⟩)
   .rename_i ht;have ht':=bne_iff_ne.1 ht;go_ret;refine⟨Q3 ?_,UI hbw hb1⟩;rw[hE.o,Hgo.o,Hd.o];simp only[ht',if_false,ne_eq,not_false_eq_true,if_true]
   rename_i ht;have ht':=bne_eq_false_iff_eq.1 ht
   go_roundw
   case rel=>exact⟨k+1,by omega,by go_num,by rw[Hgo.o,Hd.o,if_pos ht'],UI hbw hb1⟩
   case measure=>simp[intOf];omega
  obtain rfl:k=l.length:=by omega
  have hz:Vk l=0:=by rw[Hgo.o,List.drop_length];rfl
  have Hz:=Zh hz;have hl1:l.length-1<l.length:=by omega
  obtain⟨c0,_,_,_⟩:=QW.cells (QW.below H.o hbw) hl1;have Hl:=Zh (Qbq l (by omega));clear hz;by_cases h4:l[l.length-1].k=4
  .rw[h4]at c0;have Hf:=Zh (show Vj l=0 by rw[hE.o,Hz.o,Hl.o,h4];simp);clear h4;go_wp2;go_ret;exact⟨Q3 Hf.o.symm,hbw⟩
  have b4:(l[l.length-1].k != 4)=true:=bne_iff_ne.2 h4;have Hf:=Zh (show Vj l=4 by rw[hE.o,Hz.o,Hl.o,if_neg h4];simp);clear h4;go_wp2;go_ret;exact⟨Q3 Hf.o.symm,hbw⟩
end
section
open Go.RowKit
attribute [local go_sem] gives QG
def Gu(x:TCall)(l:List TIns)(k:Nat)(n:Int)(d:Nat):Prop:=∃f,(l.drop k).length<=f/\run l x=ZK x f (l.drop k) n d
theorem Gu.start(x:TCall)(l:List TIns):Gu x l 0 0 0:=⟨l.length,by simp,rfl⟩
theorem Gu.ret{x:TCall}{l:List TIns}{k:Nat}{n:Int}{d:Nat}(h:Gu x l k n d)(hk:k<l.length)(h4:l[k].k=4):run l x=(l[k].a,d+1):=by
 obtain⟨f,hf,hr⟩:=h;rw[hr,QgI x f l n d k hk hf h4]
theorem Gu.load{x:TCall}{l:List TIns}{k:Nat}{n:Int}{d:Nat}(h:Gu x l k n d)(hk:k<l.length)(h1:l[k].k=1):Gu x l (k+1) (x.get l[k].a) (d+1):=by
 obtain⟨f,hf,hr⟩:=h;obtain⟨f',hf',hs⟩:=Qa5 x f l n d k hk hf (by omega);exact⟨f',hf',by rw[hr,hs,if_pos h1]⟩
theorem Gu.jump{x:TCall}{l:List TIns}{k:Nat}{n:Int}{d:Nat}(h:Gu x l k n d)(hk:k<l.length)(h1:l[k].k=2\/l[k].k=3):Gu x l (k+1+VV l[k] n) n (d+1):=by
 obtain⟨f,hf,hr⟩:=h;obtain⟨f',hf',hs⟩:=Qa5 x f l n d k hk hf (by omega);exact⟨f',by simp at hf'⊢;omega,by rw[hr,hs,if_neg (by omega)]⟩
theorem QiY(v:Value)(l:List TIns)(x:TCall)(D:Nat->Prop)(w:World)(h:QW w D v l)(hc:Vj l=0)(hx:x.ok):
  Calls prog 97 #[v,Yk x] w λe w'=>e=.returned (.tuple #[.int .i64 (run l x).1,.int .i64 (run l x).2,.int .i64 0])/\Below w.heap.size w w':=by
 obtain⟨hR,hl⟩:=Qeq hc;have hpos:0<l.length:=List.length_pos_iff.2 hR.ne;obtain⟨a,c,rfl,hlc,hcm,hat⟩:=Sl.form h;obtain⟨b,o,rfl,hDb,hb⟩:=hat hpos;have H:=Zh h;have HR:=Zh hR;have Hc:=Zh hc;have Hx:=Zh hx;have hxe:Hid (JZ x=0):=if_pos hx;clear h hR hc hx hat;go_enter func97,ntmps97
 go_wp2_with(first
  |(go_at_call 134;refine(XJ _ _ _ _ (QW.below H.o (Qa Zbr _))).mono ?_;rw[Hc.o];rintro e w1 ⟨rfl,hb1⟩;have hb1':Below (w.heap.size+1) _ w1:=hb1.mono (by simp);have hcell:=UU hb1';clear hb1)
  |(go_at_call 96;refine(XI x _).mono ?_;rw[hxe.o];rintro e w2 ⟨rfl,hb2⟩;have hb2':=hb1'.trans (hb2.mono (U5 hb1'));clear hb2 hb1' hcell))
 go_loopw[9,10,11](λn d at_ wr=>∃(k dn:Nat)(nn:Int),k<l.length/\dn<=k/\n=.int .i64 nn/\d=.int .i64 dn/\at_=.int .i64 k/\Gu x l k nn dn/\Below (w.heap.size+1) (w.alloc (.cells #[.int .i64 x.a0,.int .i64 x.a1,.int .i64 x.a2,.int .i64 x.a3,.int .i64 x.a4] 46)) wr) (λ_ _ i _=>l.length-(intOf i).toNat)
 case atStart=>exact⟨0,0,0,hpos,by omega,rfl,rfl,rfl,Gu.start x l,hb2'⟩
 case round=>
  obtain⟨k,dn,nn,hk,hdn,rfl,rfl,rfl,hrun,hbx⟩:=hrel;have Hrun:=Zh hrun;have hsz:=U5 hbx;obtain⟨c0,c1,c2,c3⟩:=QW.cells (QW.below H.o (UL hbx)) hk;have hcell:=UU hbx;have hfrz:True:=trivial;obtain⟨hi,hn4⟩:=HR.o.at_ hk;have Hn4:=Zh hn4;clear hrun hn4 hb2';rcases QaB hi with⟨h4,h5,h6,h7,h8⟩|⟨h1,h5,h6,h7,h8⟩|⟨h23,h5,h6,h7,h8,h9,h10⟩
  .rw[h4]at c0;have Hr:=Zh (Hrun.o.ret hk h4);clear hi h4 h5 h6 h7 h8;go_wp2
   go_ret3
   exact⟨by rw[Hr.o];simp,Qa (UL hbx) _⟩
  .obtain⟨m,hm⟩:=Int.eq_ofNat_of_zero_le h5;have Hn:=Zh (Hrun.o.load hk h1);have hk1:=Hn4.o (by omega);rw[h1]at c0;rw[hm]at c1 Hn;have hm5:m<5:=by omega
   have hcm:=hcell m;rw[cell5 x m hm5]at hcm;have hcm':∀o,(wr.alloc o).cell? ⟨w.heap.size,m,none⟩=some (.int .i64 (x.get m)):=λo=>(World.cell?_alloc_lt wr o ⟨w.heap.size,m,none⟩ (show w.heap.size<wr.heap.size by omega)).trans hcm;clear hi h1 h5 h6 h7 h8 hm hcell Hrun;go_wp2
   go_roundw
   case rel=>exact⟨k+1,dn+1,_,hk1,by omega,rfl,by go_num,by go_num,Hn.o,hbx.trans (Zbr.alloc (U5 hbx) _)⟩
   case measure=>simp[intOf];omega
  obtain⟨mb,hmb⟩:=Int.eq_ofNat_of_zero_le h7;obtain⟨mc,hmc⟩:=Int.eq_ofNat_of_zero_le h9;have Hn:=Zh (Hrun.o.jump hk h23);rw[hmb]at c2;rw[hmc]at c3;have hx:Hid (VV l[k] nn=if(l[k].k=2/\nn=l[k].a)\/(l[k].k=3/\nn<l[k].a)then mb else mc):=by unfold VV;rw[hmb,hmc];rfl
  have hb1:k+1+mb<l.length:=by omega
  have hb2:k+1+mc<l.length:=by omega
  clear hi h5 h6 h7 h8 h9 h10 hmb hmc hcell Hrun;have fin:∀(m:Nat) ,k+1+m<l.length->VV l[k] nn=m->∀wz,Below w.heap.size w wz->True:=λ_ _ _ _ _=>trivial;rcases h23 with h2|h3
  .rw[h2]at c0;by_cases he:nn=l[k].a
   .have be:(nn==l[k].a)=true:=beq_iff_eq.2 he;have Hm:Hid (VV l[k] nn=mb):=by rw[hx.o];exact if_pos (.inl ⟨h2,he⟩)
    clear he h2 hx fin;go_wp2
    go_roundw
    case rel=>exact⟨k+1+mb,dn+1,nn,hb1,by omega,rfl,by go_num,by go_num,by have:=Hn.o;rwa [Hm.o]at this,hbx.trans (Zbr.alloc (U5 hbx) _)⟩
    case measure=>simp[intOf];omega
   have be:(nn==l[k].a)=false:=beq_eq_false_iff_ne.2 he;have Hm:Hid (VV l[k] nn=mc):=by rw[hx.o];exact if_neg (by omega)
   clear he h2 hx fin;go_wp2
   go_roundw
   case rel=>exact⟨k+1+mc,dn+1,nn,hb2,by omega,rfl,by go_num,by go_num,by have:=Hn.o;rwa [Hm.o]at this,hbx.trans (Zbr.alloc (U5 hbx) _)⟩
   case measure=>simp[intOf];omega
  rw[h3]at c0;by_cases he:nn<l[k].a
  .have Hm:Hid (VV l[k] nn=mb):=by rw[hx.o];exact if_pos (.inr ⟨h3,he⟩)
   clear h3 hx fin;go_wp2
   go_roundw
   case rel=>exact⟨k+1+mb,dn+1,nn,hb1,by omega,rfl,by go_num,by go_num,by have:=Hn.o;rwa [Hm.o]at this,hbx.trans (Zbr.alloc (U5 hbx) _)⟩
   case measure=>simp[intOf];omega
  have Hm:Hid (VV l[k] nn=mc):=by rw[hx.o];exact if_neg (by omega)
  clear h3 hx fin;go_wp2
  go_roundw
  case rel=>exact⟨k+1+mc,dn+1,nn,hb2,by omega,rfl,by go_num,by go_num,by have:=Hn.o;rwa [Hm.o]at this,hbx.trans (Zbr.alloc (U5 hbx) _)⟩
  case measure=>simp[intOf];omega
theorem run_any(v:Value)(l:List TIns)(x:TCall)(D:Nat->Prop)(w:World)(h:QW w D v l):
  Calls prog 97 #[v,Yk x] w λe w'=>e=.returned (.tuple #[.int .i64 (QgH l x).1,.int .i64 (QgH l x).2.1,.int .i64 (QgH l x).2.2])/\Below w.heap.size w w':=by
 by_cases hc:Vj l=0
 .by_cases hx:x.ok
  .have e:QgH l x=((run l x).1,((run l x).2:Int),0):=by unfold QgH;rw[if_neg (by omega),if_pos hx]
   rw[e];exact QiY v l x D w h hc hx
  have e:QgH l x=(0,0,3):=by unfold QgH;rw[if_neg (by omega),if_neg hx]
  have H:=Zh h;have Hc:=Zh hc;have hxe:Hid (JZ x=3):=if_neg hx;rw[e];clear h e hc hx;go_enter func97,ntmps97
  go_wp2_with(first
   |(go_at_call 134;refine(XJ _ _ _ _ (QW.below H.o (Qa Zbr _))).mono ?_;rw[Hc.o];rintro e w1 ⟨rfl,hb1⟩;have hb1':Below (w.heap.size+1) _ w1:=hb1.mono (by simp);have hcell:=UU hb1';clear hb1)
   |(go_at_call 96;refine(XI x _).mono ?_;rw[hxe.o];rintro e w2 ⟨rfl,hb2⟩;have hb2':=hb1'.trans (hb2.mono (U5 hb1'));clear hb2 hb1' hcell))
  go_ret3
  exact⟨rfl,UL hb2'⟩
 have e:QgH l x=(0,0,Vj l):=by unfold QgH;rw[if_pos hc]
 have H:=Zh h;have be:(Vj l != 0)=true:=bne_iff_ne.2 hc;rw[e];clear h e hc;go_enter func97,ntmps97
 go_wp2_with(first
  |(go_at_call 134;refine(XJ _ _ _ _ (QW.below H.o (Qa Zbr _))).mono ?_;rintro e w1 ⟨rfl,hb1⟩;have hb1':Below (w.heap.size+1) _ w1:=hb1.mono (by simp);clear hb1))
 go_ret3
 exact⟨rfl,UL hb1'⟩
end
end Go.Proofs.YthkgjohhbdipcaaGreatDoor
namespace Go.Proofs.YthkgjohhbdipcaaGreatDoor
open Tryz
open Go.RowKit
def QhS(X:Option ((Nat->Value)->Value))(vf:Nat->Value)(k:Nat):Value:=match X with
 |some X=>X vf
 |none=>vf k
def valsOf(Xs:Nat->Option ((Nat->Value)->Value))(vf:Nat->Value)(k:Nat):Value:=QhS (Xs k) vf k
def QS(vf:Nat->Value)(i:Nat)(v:Value):Nat->Value:=λj=>if j=i then v else vf j
def O5(bs:List (List Nat))(i:Nat)(X:(Nat->Value)->Value):Prop:=∀f g:Nat->Value,(∀m∈bs.getD i [],f m=g m)->X f=X g
theorem Io{f g:Nat->Value}:∀(l:List Oper)(i:Nat)(a:Act),(∀k,i<=k->f k=g k)->Ut f l i a=Ut g l i a
 |[],_,_,_=>rfl
 |o::l,i,a,h=>by
  simp only[Ut];rw[h i Znl];exact Io l (i+1) _ (λk hk=>h k (by omega))
def QhW(X:Option ((Nat->Value)->Value))(vf:Nat->Value)(v:Value):Prop:=∀Y,X=some Y->v=Y vf
theorem Gh(o:Oper):prune (prune o)=prune o:=by
 unfold prune;simp only[Array.filter_filter,Bool.and_self]
end Go.Proofs.YthkgjohhbdipcaaGreatDoor
namespace Go.Proofs.YthkgjohhbdipcaaGreatDoor.RV
open Tryz
open Go.RowKit
section
variable(P:Program)(ops:Array Oper)(Inv:(Nat->Bool)->(Nat->Value)->World->Prop)(T:Nat->(Nat->Value)->World->World->Prop)(F:Nat->(Nat->Bool)->(Nat->Value)->World->Prop)(bs:List (List Nat))(Q:Act->World->Prop)(n:Nat)
def JL(i:Nat)(o:Oper)(av:(Nat->Value)->Act)(E:(Nat->Value)->Value->Prop):Prop:=
 ∀(dn:Nat->Bool)(vf:Nat->Value)(w:World),Inv dn vf w->dn i=false->(∀k∈(prune o).after.toList.map (λe=>e.on),dn k=true)->(∀k:Nat,i∈bs.getD k []->dn k=false)->(∀k,dn k=true->F k dn vf w) ->
  ∀R:Value->World->Prop,(∀(v:Value)(w':World),Inv (Qe dn i) (QS vf i v) w'->T i vf w w'->E vf v->F i (Qe dn i) (QS vf i v) w'->R v w')->if Region.wanted o (yielded ops (av vf).tmps)then gives P o (av vf) w R else R undef w
def Vl:List Oper->Nat->((Nat->Value)->Act)->Prop
 |[],_,av=>∀(dn:Nat->Bool)(vf:Nat->Value)(w:World),(∀k,k<n->dn k=true)->Inv dn vf w->(∀k,k<n->F k dn vf w)->Q (av vf) w
 |o::l,i,av=>(∃X:(Nat->Value)->Value,O5 bs i X/\JL P ops Inv T F bs i o av (λvf v=>v=X vf)/\Vl l (i+1) (λvf=>(av vf).put o.dst (X vf))) \/
   (JL P ops Inv T F bs i o av (λ_ _=>True)/\Vl l (i+1) (λvf=>(av vf).put o.dst (vf i)))
end
section
variable{P:Program}{ops:Array Oper}{Inv:(Nat->Bool)->(Nat->Value)->World->Prop}{T:Nat->(Nat->Value)->World->World->Prop}{F:Nat->(Nat->Bool)->(Nat->Value)->World->Prop}{bs:List (List Nat)}{Q:Act->World->Prop}{n:Nat}{o:Oper}{l:List Oper}{i:Nat}{av:(Nat->Value)->Act}
theorem QU(h:∀K:((Nat->Value)->Act)->Prop,(∀a',Vl P ops Inv T F bs Q n l (i+1) a'->K a')->∃X:(Nat->Value)->Value,JL P ops Inv T F bs i o av (λvf v=>v=X vf)/\O5 bs i X/\K (λvf=>(av vf).put o.dst (X vf))):Vl P ops Inv T F bs Q n (o::l) i av:=by
 obtain⟨X,h1,h2,h3⟩:=h _ (λ_ h=>h);exact .inl ⟨X,h2,h1,h3⟩
theorem VO(h:∀K:((Nat->Value)->Act)->Prop,(∀a',Vl P ops Inv T F bs Q n l (i+1) a'->K a')->JL P ops Inv T F bs i o av (λ_ _=>True)/\K (λvf=>(av vf).put o.dst (vf i))):Vl P ops Inv T F bs Q n (o::l) i av:=by
 exact .inr (h _ (λ_ h=>h))
end
section
variable{P:Program}{ops:Array Oper}{Inv:(Nat->Bool)->(Nat->Value)->World->Prop}{T:Nat->(Nat->Value)->World->World->Prop}{F:Nat->(Nat->Bool)->(Nat->Value)->World->Prop}{bs:List (List Nat)}{Q:Act->World->Prop}{n:Nat}
theorem QdI:∀(l:List Oper)(i:Nat)(av:(Nat->Value)->Act),Vl P ops Inv T F bs Q n l i av->∃Xs:Nat->Option ((Nat->Value)->Value),
  (∀k X,Xs k=some X->O5 bs k X)/\(∀j o,l[j]?=some o->JL P ops Inv T F bs (i+j) o (λvf=>Ut (valsOf Xs vf) (l.take j) i (av vf)) (QhW (Xs (i+j)))) /\
  (∀(dn:Nat->Bool)(vf:Nat->Value)(w:World),(∀k,k<n->dn k=true)->Inv dn vf w->(∀k,k<n->F k dn vf w)->Q (Ut (valsOf Xs vf) l i (av vf)) w)
 |[],i,av,h=>⟨λ_=>none,(λ_ _ h=>by cases h),(λj o hj=>by simp at hj),h⟩
 |o::l,i,av,h=>by
  have main:∀(X0:Option ((Nat->Value)->Value)),(∀X,X0=some X->O5 bs i X)->JL P ops Inv T F bs i o av (QhW X0) ->
    (∃Xs:Nat->Option ((Nat->Value)->Value),(∀k X,Xs k=some X->O5 bs k X)/\(∀j o',l[j]?=some o'->JL P ops Inv T F bs (i+1+j) o' (λvf=>Ut (valsOf Xs vf) (l.take j) (i+1) ((av vf).put o.dst (QhS X0 vf i))) (QhW (Xs (i+1+j)))) /\
     (∀(dn:Nat->Bool)(vf:Nat->Value)(w:World),(∀k,k<n->dn k=true)->Inv dn vf w->(∀k,k<n->F k dn vf w)->Q (Ut (valsOf Xs vf) l (i+1) ((av vf).put o.dst (QhS X0 vf i))) w)) ->
    ∃Xs:Nat->Option ((Nat->Value)->Value),(∀k X,Xs k=some X->O5 bs k X)/\(∀j o',(o::l)[j]?=some o'->JL P ops Inv T F bs (i+j) o' (λvf=>Ut (valsOf Xs vf) ((o::l).take j) i (av vf)) (QhW (Xs (i+j)))) /\
     (∀(dn:Nat->Bool)(vf:Nat->Value)(w:World),(∀k,k<n->dn k=true)->Inv dn vf w->(∀k,k<n->F k dn vf w)->Q (Ut (valsOf Xs vf) (o::l) i (av vf)) w):=by
   rintro X0 hp0 hob⟨Xs,hp,hobs,hend⟩
   let Ys:Nat->Option ((Nat->Value)->Value):=λk=>if k=i then X0 else Xs k
   have yi:Ys i=X0:=if_pos rfl;have yk:∀k,i+1<=k->Ys k=Xs k:=λk hk=>if_neg (by omega);have hv:∀vf,valsOf Ys vf i=(QhS X0 vf i):=λvf=>by unfold valsOf;rw[yi]
   have hc:∀(m:List Oper)(vf:Nat->Value)(a:Act),Ut (valsOf Ys vf) m (i+1) a=Ut (valsOf Xs vf) m (i+1) a:=λm vf a=>Io m (i+1) a λk hk=>by unfold valsOf;rw[yk k hk]
   refine⟨Ys,λk X hk=>?_,λj o' hj=>?_,λdn vf w hd hI hF=>?_⟩
   .by_cases e:k=i
    .subst e;rw[yi]at hk;exact hp0 X hk
    have:Ys k=Xs k:=if_neg e;rw[this]at hk;exact hp k X hk
   .cases j with
    |zero=>
     simp only[List.getElem?_cons_zero,Option.some.injEq]at hj;subst hj;rw[Nat.add_zero,yi];exact hob
    |succ j=>
     have:=hobs j o' (by simpa using hj);rw[show i+(j+1)=i+1+j by omega,yk _ (by omega)];refine(congrArg (λa=>JL P ops Inv T F bs (i+1+j) o' a (QhW (Xs (i+1+j)))) ?_).mp this;funext vf
     simp only[List.take_succ_cons,Ut,hv];exact(hc _ _ _).symm
   simp only[Ut,hv];rw[hc];exact hend dn vf w hd hI hF
  rcases h with⟨X,hp,hob,hw⟩|⟨hob,hw⟩
  .exact main (some X) (λY e=>by injection e with e;subst e;exact hp) (λdn vf w h1 h2 h3 h4 h5 R hR=>hob dn vf w h1 h2 h3 h4 h5 R λv w' a b c d=>hR v w' a b (λY e=>by injection e with e;subst e;exact c) d) (QdI l (i+1) _ hw)
  exact main none (λY e=>by cases e) (λdn vf w h1 h2 h3 h4 h5 R hR=>hob dn vf w h1 h2 h3 h4 h5 R λv w' a b _ d=>hR v w' a b (λY e=>by cases e) d) (QdI l (i+1) _ hw)
end
structure QhT(l:List Oper)(Xs:Nat->Option ((Nat->Value)->Value))(Inv:(Nat->Bool)->(Nat->Value)->World->Prop)(F:Nat->(Nat->Bool)->(Nat->Value)->World->Prop)(a:Act)(vf:Nat->Value)(listed:Array Bool)(a':Act)(w':World):Prop where
 cls:Inv (λk=>listed[k]?==some true) vf w'
 down:∀(j:Nat)(o:Oper),l[j]?=some o->listed[j]?=some true->∀e∈o.after,listed[e.on]?=some true
 lsize:listed.size=l.length
 defers:a'.defers=a.defers
 size:a'.tmps.size=a.tmps.size
 vals:∀j,listed[j]?=some true->vf j=valsOf Xs vf j
 facts:∀j,listed[j]?=some true->F j (λk=>listed[k]?==some true) vf w'
 slots:∀(j:Nat)(o:Oper),l[j]?=some o->listed[j]?=some true->∀d,o.dst=some d->a'.tmps[d]?=some (vf j)
 rest:∀t,(∀(j:Nat)(o:Oper),l[j]?=some o->listed[j]?=some true->o.dst≠some t)->a'.tmps[t]?=a.tmps[t]?
section
variable{P:Program}{l:List Oper}{Inv:(Nat->Bool)->(Nat->Value)->World->Prop}{T:Nat->(Nat->Value)->World->World->Prop}{F:Nat->(Nat->Bool)->(Nat->Value)->World->Prop}{Q:Exit->Act->World->Prop}{a:Act}
theorem Qg2(hB:YD l a.tmps.size=true)(hpr:∀o∈l,prune o=o)
  (hst:∀(i:Nat)(dn:Nat->Bool)(vf:Nat->Value)(w w':World),Inv dn vf w->dn i=false->(∀m∈(befores l []).getD i [],dn m=true)->(∀m,dn m=true->F m dn vf w)->T i vf w w'->∀k,dn k=true->F k (Qe dn i) vf w')
  (hF:∀(k:Nat)(dn:Nat->Bool)(f g:Nat->Value)(w:World),(∀m∈(befores l []).getD k [],f m=g m)->f k=g k->F k dn f w->F k dn g w)
  (h:Vl P l.toArray Inv T F (befores l []) (Q .normal) l.length l 0 (λ_=>a)):
  ∃Xs,∀(fuel:Nat)(listed:Array Bool)(vf:Nat->Value)(a':Act)(w':World),(undone listed l.length).length<=fuel->QhT l Xs Inv F a vf listed a' w'->wpAny P .any l.toArray Q fuel listed a' w':=by
 obtain⟨Xs,hpX,hobs,hend⟩:=QdI l 0 _ h;refine⟨Xs,?_⟩;have hS:=λ{i:Nat} {o:Oper} (hi:l[i]?=some o)=>EP hB hi
 have fin:∀(listed:Array Bool)(vf:Nat->Value)(a':Act)(w':World),(∀j,j<l.length->listed[j]?=some true)->QhT l Xs Inv F a vf listed a' w'->Q .normal a' w':=by
  intro listed vf a' w' hall hI;have hq:=hend _ vf w' (λk hk=>by simp[hall k hk]) hI.cls (λk hk=>hI.facts k (hall k hk))
  have ea:a'=Ut (valsOf Xs vf) l 0 a:=by
   obtain⟨hz,hd⟩:=ZC (valsOf Xs vf) l 0 a
   have ht:a'.tmps=(Ut (valsOf Xs vf) l 0 a).tmps:=by
    apply Array.ext_getElem?;intro t;by_cases hex:∃(j:Nat)(o:Oper),l[j]?=some o/\o.dst=some t
    .obtain⟨j,o,hj,hdt⟩:=hex;have hjl:=(List.getElem?_eq_some_iff.1 hj).1;obtain⟨hlt,huniq⟩:=(hS hj).2.2.2 t hdt;rw[Xu _ l 0 a j o hj hdt huniq hlt,Nat.zero_add,<-hI.vals j (hall j hjl)];exact hI.slots j o hj (hall j hjl) t hdt
    have hn:∀(j:Nat)(o:Oper),l[j]?=some o->o.dst≠some t:=λj o hj e=>hex ⟨j,o,hj,e⟩;rw[Va _ l 0 a (λo ho=>by obtain⟨j,hj⟩:=List.getElem?_of_mem ho;exact hn j o hj)];exact hI.rest t (λj o hj _=>hn j o hj)
   cases a';cases hx:Ut (valsOf Xs vf) l 0 a
   rw[hx]at ht hd;have:=hI.defers
   simp_all
  rw[ea];exact hq
 have allIf:∀(listed:Array Bool),listed.size=l.length->Region.ready .any l.toArray listed=[]->∀j,j<l.length->listed[j]?=some true:=by
  intro listed hsz hr j
  induction j using Nat.strongRecOn with
  |ind j ih=>
   intro hj;have hsome:listed[j]?=some listed[j]:=Array.getElem?_eq_getElem (by omega)
   cases hb:listed[j]with
   |true=>rw[hsome,hb]
   |false=>
    have:j∈Region.ready .any l.toArray listed:=by
     rw[mem_ready];refine⟨by simp[Array.getD_eq_getD_getElem?,hsome,hb],l[j],by simp[hj],λe he _=>?_⟩;have h1:=((hS (List.getElem?_eq_getElem hj)).2.1 e he).1;have h2:=ih e.on h1 (by omega);simp[Array.getD_eq_getD_getElem?,h2]
    rw[hr]at this;cases this
 intro fuel
 induction fuel with
 |zero=>
  intro listed vf a' w' hf hI
  have hall:∀j,j<l.length->listed[j]?=some true:=by
   intro j hj;have h0:undone listed l.length=[]:=List.eq_nil_of_length_eq_zero (by omega);unfold undone at h0;rw[List.filter_eq_nil_iff]at h0;simpa using h0 j (List.mem_range.2 hj)
  refine⟨?_,fin _ _ _ _ hall hI⟩;rw[List.eq_nil_iff_forall_not_mem];intro j hj;obtain⟨h0,o,ho,_⟩:=mem_ready.1 hj
  have hj':j<l.length:=by
   have:=(Array.getElem?_eq_some_iff.1 ho).1;simpa using this
  simp[Array.getD_eq_getD_getElem?,hall j hj']at h0
 |succ fuel ih=>
  intro listed vf a' w' hf hI;refine⟨λhr=>fin _ _ _ _ (allIf listed hI.lsize hr) hI,λi hi=>?_⟩;obtain⟨h0,o,ho,hdep⟩:=mem_ready.1 hi;have hil:l[i]?=some o:=by simpa using ho
  have hilt:i<l.length:=(List.getElem?_eq_some_iff.1 hil).1;have hnl:listed[i]?≠some true:=λe=>by simp[Array.getD_eq_getD_getElem?,e]at h0
  obtain⟨hsel,hafter,hlooks,hdst⟩:=hS hil
  have hdone:∀e∈o.after,listed[e.on]?=some true:=λe he=>by
   have:=hdep e he (hafter e he).2;rw[Array.getD_eq_getD_getElem?]at this
   cases hx:listed[e.on]? with
   |none=>simp[hx]at this
   |some b=>simp[hx]at this;rw[this]
  have hob:=hobs i o hil;rw[Nat.zero_add]at hob
  have hclosed:∀k m:Nat,m∈(befores l []).getD k []->listed[k]?=some true->listed[m]?=some true:=λk m hk hlk=>
   Vu l [] (λk i=>listed[k]?=some true->listed[i]?=some true) (λk i h=>by simp at h) (λj o' e hj he hlj=>by
    simp at hlj;exact hI.down j o' hj hlj e he) (λa b c h1 h2 h3=>h2 (h1 h3)) k m hk hlk
  have hsame:∀t∈o.looksAt l.toArray,(Ut (valsOf Xs vf) (l.take i) 0 a).tmps[t]?=a'.tmps[t]?:=by
   intro t ht;by_cases hex:∃(j:Nat)(o':Oper),l[j]?=some o'/\o'.dst=some t
   .obtain⟨j,o',hj,hdt⟩:=hex;rcases hlooks t ht j o' hj hdt with⟨hji,e,he,hej⟩|hbef
    rotate_left
    .have hij:i<j:=Vu l [] (λk i=>i<k) (λk i h=>by simp at h) (λj o' e hj he=>by
      have:=((hS (show l[j]?=some o' from hj)).2.1 e he).1;simpa using this) (λa b c h1 h2=>Nat.lt_trans h2 h1) j i hbef
     have hnj:listed[j]?≠some true:=λhlj=>hnl (hclosed j i hbef hlj);obtain⟨_,huniq⟩:=(hS hj).2.2.2 t hdt
     rw[Va _ (l.take i) 0 a (λo'' ho''=>by
      obtain⟨k,hk⟩:=List.getElem?_of_mem ho'';have hki:k<i:=by have:=(List.getElem?_eq_some_iff.1 hk).1;simp at this;omega
      rw[List.getElem?_take_of_lt hki]at hk;exact huniq k o'' hk (by omega))]
     refine(hI.rest t λk o'' hk hlk=>?_).symm;by_cases hkj:k=j
     .subst hkj;exact absurd hlk hnj
     exact huniq k o'' hk hkj
    have hlj:listed[j]?=some true:=hej▸hdone e he;obtain⟨hlt,huniq⟩:=(hS hj).2.2.2 t hdt
    rw[Xu _ (l.take i) 0 a j o' (by rw[List.getElem?_take_of_lt hji];exact hj) hdt (λj' o'' hj' hne=>huniq j' o'' (by
     have hlt':j'<i:=by
      have:=(List.getElem?_eq_some_iff.1 hj').1;simp at this;omega
     rw[List.getElem?_take_of_lt hlt']at hj';exact hj') hne) hlt,Nat.zero_add,<-hI.vals j hlj]
    exact(hI.slots j o' hj hlj t hdt).symm
   have hn:∀(j:Nat)(o:Oper),l[j]?=some o->o.dst≠some t:=λj o hj e=>hex ⟨j,o,hj,e⟩;rw[Va _ (l.take i) 0 a (λo' ho'=>by obtain⟨j,hj⟩:=List.getElem?_of_mem (List.mem_of_mem_take ho');exact hn j o' hj)];exact(hI.rest t (λj o hj _=>hn j o hj)).symm
  have hexec:execOp (Ut (valsOf Xs vf) (l.take i) 0 a).eval o=execOp a'.eval o:=by
   refine execOp_congr o hsel λx hx=>?_
   cases x with
   |tmp t=>
    have:=hsame t (List.mem_append_left _ (List.mem_filterMap.2 ⟨.tmp t,by simpa using hx,rfl⟩));simp[Act.eval,Array.getD_eq_getD_getElem?,this]
   |_=>rfl
  have hwant:Region.wanted o (yielded l.toArray (Ut (valsOf Xs vf) (l.take i) 0 a).tmps)=Region.wanted o (yielded l.toArray a'.tmps):=by
   unfold Region.wanted
   cases hg:o.guard with
   |none=>rfl
   |some gw=>
    obtain⟨g,want⟩:=gw
    have hy:yielded l.toArray (Ut (valsOf Xs vf) (l.take i) 0 a).tmps g=yielded l.toArray a'.tmps g:=by
     unfold yielded
     cases ht:(l.toArray[g]?).bind (·.dst)with
     |none=>rfl
     |some t=>
      have:=hsame t (by simp only[Oper.looksAt,hg,ht];simp);simp only[Option.bind_some,this]
    simp only[hy]
  have hnot:∀k:Nat,i∈(befores l []).getD k []->((λk=>listed[k]?==some true) k)=false:=by
   intro k hk
   cases hx:(listed[k]?==some true)with
   |false=>exact hx
   |true=>exact absurd (hclosed k i hk (by simpa using hx)) hnl
  have hbi:∀m∈(befores l []).getD i [],listed[m]?=some true:=λm hm=>by
   have hmi:m<i:=Vu l [] (λk i=>i<k) (λk i h=>by simp at h) (λj o' e hj he=>by
     have:=((hS (show l[j]?=some o' from hj)).2.1 e he).1;simpa using this) (λa b c h1 h2=>Nat.lt_trans h2 h1) i m hm
   have key:=Vu l [] (λk m=>(k=i\/listed[k]?=some true)->(m=i\/listed[m]?=some true)) (λk m h=>by simp at h) (λj o' e hj he hlj=>by
    rw[List.length_nil,Nat.zero_add]at hlj;rcases hlj with rfl|hlj
    .rw[hil]at hj;obtain rfl:o=o':=by simpa using hj
     exact .inr (hdone e he)
    exact .inr (hI.down j o' hj hlj e he)) (λa b c h1 h2 h3=>h2 (h1 h3)) i m hm (.inl rfl)
   rcases key with h|h
   .omega
   exact h
  have hres:=hob _ vf w' hI.cls (by simpa using hnl) (λk hk=>by
   rw[hpr o (List.mem_of_getElem? hil)]at hk;obtain⟨e,he,rfl⟩:=List.mem_map.1 hk;simp[hdone e (by simpa using he)]) hnot (λk hk=>hI.facts k (by simpa using hk))
   (λv w''=>Inv (Qe (λk=>listed[k]?==some true) i) (QS vf i v) w''/\T i vf w' w''/\QhW (Xs i) vf v/\F i (Qe (λk=>listed[k]?==some true) i) (QS vf i v) w'') (λv w'' h0 h1 h2 h3=>⟨h0,h1,h2,h3⟩)
  rw[hwant]at hres
  have next:∀v w'',Inv (Qe (λk=>listed[k]?==some true) i) (QS vf i v) w''->T i vf w' w''->QhW (Xs i) vf v->F i (Qe (λk=>listed[k]?==some true) i) (QS vf i v) w''->wpAny P .any l.toArray Q fuel (listed.setIfInBounds i true) (a'.put o.dst v) w'':=by
   intro v w'' hIv hT hE hFv;have hu:=O0 hilt (by rw[hI.lsize];exact Nat.le_refl _) hnl
   have hset:∀j,(listed.setIfInBounds i true)[j]?=some true->j=i\/(j≠i/\listed[j]?=some true):=λj hj=>by
    by_cases e:j=i
    .exact .inl e
    rw[Array.getElem?_setIfInBounds_ne (Ne.symm e)]at hj;exact .inr ⟨e,hj⟩
   have hagree:∀j,listed[j]?=some true->∀m∈(befores l []).getD j [],vf m=QS vf i v m:=λj hj m hm=>by
    have hm':=hclosed j m hm hj;unfold QS;rw[if_neg (λe:m=i=>hnl (e▸hm'))]
   have hagreei:∀m∈(befores l []).getD i [],vf m=QS vf i v m:=λm hm=>by
    have hmi:m<i:=Vu l [] (λk i=>i<k) (λk i h=>by simp at h) (λj o' e hj he=>by
      have:=((hS (show l[j]?=some o' from hj)).2.1 e he).1;simpa using this) (λa b c h1 h2=>Nat.lt_trans h2 h1) i m hm
    unfold QS;rw[if_neg (by omega)]
   have hfun:Qe (λk=>listed[k]?==some true) i=λk=>(listed.setIfInBounds i true)[k]?==some true:=by
    funext k
    unfold Qe;by_cases e:k=i
    .subst e;rw[if_pos rfl,Array.getElem?_setIfInBounds_self_of_lt (by rw[hI.lsize];exact hilt)];simp
    rw[if_neg e,Array.getElem?_setIfInBounds_ne (Ne.symm e)]
   refine ih _ (QS vf i v) _ _ (by omega) ⟨?_,?_,by simp[hI.lsize],?_,?_,?_,?_,?_,?_⟩
   .rw[<-hfun];exact hIv
   .intro j o' hj hlj e he;by_cases hje:j=i
    .subst hje;rw[hil]at hj;obtain rfl:o=o':=by simpa using hj
     have:=hdone e he;by_cases hei:e.on=j
     .rw[hei,Array.getElem?_setIfInBounds_self_of_lt (by rw[hI.lsize];exact hilt)]
     rw[Array.getElem?_setIfInBounds_ne (Ne.symm hei)];exact this
    rw[Array.getElem?_setIfInBounds_ne (Ne.symm hje)]at hlj;have:=hI.down j o' hj hlj e he;by_cases hei:e.on=i
    .rw[hei,Array.getElem?_setIfInBounds_self_of_lt (by rw[hI.lsize];exact hilt)]
    rw[Array.getElem?_setIfInBounds_ne (Ne.symm hei)];exact this
   .rw[<-hI.defers];cases o.dst<;>rfl
   .rw[<-hI.size];cases o.dst<;>simp[Act.put]
   .intro j hj;rcases hset j hj with rfl|⟨hne,hj'⟩
    .have e1:QS vf j v j=v:=if_pos rfl;rw[e1];unfold valsOf
     cases hx:Xs j with
     |none=>exact e1.symm
     |some X=>exact(hE X hx).trans (hpX j X hx _ _ hagreei)
    have e1:QS vf i v j=vf j:=if_neg hne;rw[e1,hI.vals j hj'];unfold valsOf
    cases hx:Xs j with
    |none=>exact e1.symm
    |some X=>exact hpX j X hx _ _ (hagree j hj')
   .intro j hj;rw[<-hfun];rcases hset j hj with rfl|⟨hne,hj'⟩
    .exact hFv
    refine hF j _ vf _ w'' (hagree j hj') (by unfold QS;rw[if_neg hne]) ?_;exact hst i _ vf w' w'' hI.cls (by simpa using hnl) (λm hm=>by simpa using hbi m hm) (λm hm=>hI.facts m (by simpa using hm)) hT j (by simpa using hj')
   .intro j o' hj hlj d hd;rcases hset j hlj with rfl|⟨hne,hj'⟩
    .rw[hil]at hj;obtain rfl:o=o':=by simpa using hj
     rw[hd,YV (by rw[hI.size];exact(hdst d hd).1)];unfold QS;rw[if_pos rfl]
    rw[VL (λe'=>(hdst d e').2 j o' hj hne hd)];unfold QS;rw[if_neg hne];exact hI.slots j o' hj hj' d hd
   intro t ht;have hti:o.dst≠some t:=ht i o hil (by rw[Array.getElem?_setIfInBounds_self_of_lt (by rw[hI.lsize];exact hilt)]);rw[VL hti];refine hI.rest t λj o' hj hlj=>?_;by_cases e:j=i
   .subst e;exact absurd hlj hnl
   exact ht j o' hj (by rw[Array.getElem?_setIfInBounds_ne (Ne.symm e)];exact hlj)
  unfold wpOp;rw[ho];by_cases hw:Region.wanted o (yielded l.toArray a'.tmps)=true
  .simp only[hw,if_true]at hres⊢;refine .inl (Gs (R:=λv w''=>Inv (Qe (λk=>listed[k]?==some true) i) (QS vf i v) w''/\T i vf w' w''/\QhW (Xs i) vf v/\F i (Qe (λk=>listed[k]?==some true) i) (QS vf i v) w'') ?_ λv w'' ⟨h0,h1,h2,h3⟩=>next v w'' h0 h1 h2 h3);unfold gives at hres⊢;rw[<-hexec];exact hres
  simp only[hw]at hres⊢;exact next _ _ hres.1 hres.2.1 hres.2.2.1 hres.2.2.2
end
theorem Gh(o:Oper):prune (prune o)=prune o:=by
 unfold prune;simp only[Array.filter_filter,Bool.and_self]
theorem Nb{P:Program}{Inv:(Nat->Bool)->(Nat->Value)->World->Prop}{T:Nat->(Nat->Value)->World->World->Prop}{F:Nat->(Nat->Bool)->(Nat->Value)->World->Prop}{bs:List (List Nat)}{Q:Act->World->Prop}{n:Nat}{ops':List Oper}:
  ∀(l:List Oper)(i:Nat)(av:(Nat->Value)->Act),Vl P ops'.toArray Inv T F bs Q n l i av->Vl P (ops'.map prune).toArray Inv T F bs Q n (l.map prune) i av
 |[],_,_,h=>h
 |o::l,i,av,h=>by
  have one:∀E,JL P ops'.toArray Inv T F bs i o av E->JL P (ops'.map prune).toArray Inv T F bs i (prune o) av E:=λE h1 dn vf w a b c d e R hR=>by
   rw[Gh]at c;have:=h1 dn vf w a b c d e R hR;rw[<-XO]at this;exact this
  rcases h with⟨X,hp,h1,h2⟩|⟨h1,h2⟩
  .exact .inl ⟨X,hp,one _ h1,Nb l (i+1) _ h2⟩
  exact .inr ⟨one _ h1,Nb l (i+1) _ h2⟩
theorem Yu{P:Program}{l:List Oper}{Q:Exit->Act->World->Prop}{a:Act}{id:Nat}{w:World}(Inv:(Nat->Bool)->(Nat->Value)->World->Prop)(T:Nat->(Nat->Value)->World->World->Prop)(F:Nat->(Nat->Bool)->(Nat->Value)->World->Prop)
  (hm:P.follows .mixedOrders=true) (hB:YD (l.map prune) a.tmps.size=true) (bs:List (List Nat)) (hbs:befores (l.map prune) []=bs)
  (hst:∀(i:Nat)(dn:Nat->Bool)(vf:Nat->Value)(w w':World),Inv dn vf w->dn i=false->(∀m∈bs.getD i [],dn m=true)->(∀m,dn m=true->F m dn vf w)->T i vf w w'->∀k,dn k=true->F k (Qe dn i) vf w')
  (hF:∀(k:Nat)(dn:Nat->Bool)(f g:Nat->Value)(w:World),(∀m∈bs.getD k [],f m=g m)->f k=g k->F k dn f w->F k dn g w)
  (hC:Inv (λ_=>false) (λ_=>undef) w.drew) (h:Vl P l.toArray Inv T F bs (Q .normal) l.length l 0 (λ_=>a)):(Code.region id l.toArray true).wp P Q a w:=by
 subst hbs;have h':=Nb (ops':=l) l 0 _ h;rw[show l.length=(l.map prune).length by simp]at h';obtain⟨Xs,hX⟩:=Qg2 hB (λo ho=>by obtain⟨o',_,rfl⟩:=List.mem_map.1 ho;exact Gh o') hst hF h';refine wp_region_any hm (YI _ _ _ _ (hX _ _ (λ_=>undef) _ _ ?_ ⟨?_,?_,by simp,rfl,rfl,?_,?_,?_,λ_ _=>rfl⟩))
 .have:=List.length_filter_le (λi=>(Array.replicate l.toArray.size false)[i]? != some true) (List.range (l.map prune).length);simpa[undone]using this
 .refine(congrArg (λd=>Inv d _ _) ?_).mp hC;funext k
  rw[Array.getElem?_replicate];split<;>simp
 .intro j o hj hl;rw[Array.getElem?_replicate]at hl;split at hl<;>simp at hl
 .intro j hl;rw[Array.getElem?_replicate]at hl;split at hl<;>simp at hl
 .intro j hl;rw[Array.getElem?_replicate]at hl;split at hl<;>simp at hl
 intro j o hj hl;rw[Array.getElem?_replicate]at hl;split at hl<;>simp at hl
end Go.Proofs.YthkgjohhbdipcaaGreatDoor.RV
namespace Go.Proofs.YthkgjohhbdipcaaGreatDoor
open Tryz
section
open Go.RowKit
section
variable(P:Program)(ops:Array Oper)(Inv:(Nat->Bool)->World->Prop)(T:Nat->(Nat->Value)->World->World->Prop)(F:Nat->(Nat->Bool)->(Nat->Value)->World->Prop)(bs:List (List Nat))(Q:Act->World->Prop)(n:Nat)
def JL(i:Nat)(o:Oper)(av:(Nat->Value)->Act)(E:(Nat->Value)->Value->Prop):Prop:=
 ∀(dn:Nat->Bool)(vf:Nat->Value)(w:World),Inv dn w->dn i=false->(∀k∈(prune o).after.toList.map (λe=>e.on),dn k=true)->(∀k:Nat,i∈bs.getD k []->dn k=false)->(∀k,dn k=true->F k dn vf w) ->
  ∀R:Value->World->Prop,(∀(v:Value)(w':World),Inv (Qe dn i) w'->T i vf w w'->E vf v->F i (Qe dn i) (QS vf i v) w'->R v w')->if Region.wanted o (yielded ops (av vf).tmps)then gives P o (av vf) w R else R undef w
def Vl:List Oper->Nat->((Nat->Value)->Act)->Prop
 |[],_,av=>∀(dn:Nat->Bool)(vf:Nat->Value)(w:World),(∀k,k<n->dn k=true)->Inv dn w->(∀k,k<n->F k dn vf w)->Q (av vf) w
 |o::l,i,av=>(∃X:(Nat->Value)->Value,O5 bs i X/\JL P ops Inv T F bs i o av (λvf v=>v=X vf)/\Vl l (i+1) (λvf=>(av vf).put o.dst (X vf))) \/
   (JL P ops Inv T F bs i o av (λ_ _=>True)/\Vl l (i+1) (λvf=>(av vf).put o.dst (vf i)))
end
section
variable{P:Program}{ops:Array Oper}{Inv:(Nat->Bool)->World->Prop}{T:Nat->(Nat->Value)->World->World->Prop}{F:Nat->(Nat->Bool)->(Nat->Value)->World->Prop}{bs:List (List Nat)}{Q:Act->World->Prop}{n:Nat}{o:Oper}{l:List Oper}{i:Nat}{av:(Nat->Value)->Act}
theorem QU(h:∀K:((Nat->Value)->Act)->Prop,(∀a',Vl P ops Inv T F bs Q n l (i+1) a'->K a')->∃X:(Nat->Value)->Value,JL P ops Inv T F bs i o av (λvf v=>v=X vf)/\O5 bs i X/\K (λvf=>(av vf).put o.dst (X vf))):Vl P ops Inv T F bs Q n (o::l) i av:=by
 obtain⟨X,h1,h2,h3⟩:=h _ (λ_ h=>h);exact .inl ⟨X,h2,h1,h3⟩
theorem VO(h:∀K:((Nat->Value)->Act)->Prop,(∀a',Vl P ops Inv T F bs Q n l (i+1) a'->K a')->JL P ops Inv T F bs i o av (λ_ _=>True)/\K (λvf=>(av vf).put o.dst (vf i))):Vl P ops Inv T F bs Q n (o::l) i av:=by
 exact .inr (h _ (λ_ h=>h))
end
section
variable{P:Program}{ops:Array Oper}{Inv:(Nat->Bool)->World->Prop}{T:Nat->(Nat->Value)->World->World->Prop}{F:Nat->(Nat->Bool)->(Nat->Value)->World->Prop}{bs:List (List Nat)}{Q:Act->World->Prop}{n:Nat}
theorem QgB:∀(l:List Oper)(i:Nat)(av:(Nat->Value)->Act),Vl P ops Inv T F bs Q n l i av->RV.Vl P ops (λd _ w=>Inv d w) T F bs Q n l i av
 |[],_,_,h=>h
 |_::l,_,_,h=>h.elim (λ⟨X,h1,h2,h3⟩=>.inl ⟨X,h1,h2,QgB l _ _ h3⟩) (λ⟨h1,h2⟩=>.inr ⟨h1,QgB l _ _ h2⟩)
end
theorem Yu{P:Program}{l:List Oper}{Q:Exit->Act->World->Prop}{a:Act}{id:Nat}{w:World}(Inv:(Nat->Bool)->World->Prop)(T:Nat->(Nat->Value)->World->World->Prop)(F:Nat->(Nat->Bool)->(Nat->Value)->World->Prop)
  (hm:P.follows .mixedOrders=true) (hB:YD (l.map prune) a.tmps.size=true) (bs:List (List Nat)) (hbs:befores (l.map prune) []=bs)
  (hst:∀(i:Nat)(dn:Nat->Bool)(vf:Nat->Value)(w w':World),Inv dn w->dn i=false->(∀m∈bs.getD i [],dn m=true)->(∀m,dn m=true->F m dn vf w)->T i vf w w'->∀k,dn k=true->F k (Qe dn i) vf w')
  (hF:∀(k:Nat)(dn:Nat->Bool)(f g:Nat->Value)(w:World),(∀m∈bs.getD k [],f m=g m)->f k=g k->F k dn f w->F k dn g w)
  (hC:Inv (λ_=>false) w.drew) (h:Vl P l.toArray Inv T F bs (Q .normal) l.length l 0 (λ_=>a)):(Code.region id l.toArray true).wp P Q a w:=
 RV.Yu (λd _ w=>Inv d w) T F hm hB bs hbs hst hF hC (QgB l 0 _ h)
end
end Go.Proofs.YthkgjohhbdipcaaGreatDoor
