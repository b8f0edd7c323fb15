/- Texts laid one behind the other: WorldSpec, WorldRd, WBase, EqByte, DSame, RWSame. No condition beyond theirs. -/
import Derived.Test.YthkgjohhbdipcaaGreatDoorQ7
import Derived.Test.YthkgjohhbdipcaaGreatDoorQ11
import Derived.Test.YthkgjohhbdipcaaGreatDoorQ8
import Derived.Test.YthkgjohhbdipcaaGreatDoorQ17
import Derived.Test.YthkgjohhbdipcaaGreatDoorQ19
import Derived.Test.YthkgjohhbdipcaaGreatDoorQ29
import Derived.Test.YthkgjohhbdipcaaGreatDoorQ31
import Derived.Test.YthkgjohhbdipcaaGreatDoorQ2
import Derived.Test.YthkgjohhbdipcaaGreatDoorProg
import Derived.KernelRfl
import Derived.Test.YthkgjohhbdipcaaGreatDoorQ4
import Derived.Test.YthkgjohhbdipcaaGreatDoorQ10
set_option linter.all false
set_option maxHeartbeats 64000000
set_option maxRecDepth 100000
namespace Go.Proofs.YthkgjohhbdipcaaGreatDoor
open Tryz
structure TWorld where
 cells:List TCell
 d:TDisk
 up:Bool
deriving DecidableEq
structure THap where
 kind:Int
 cell:Int
 fm:Int
 p:TPol
deriving DecidableEq
def newWorld:TWorld:=⟨newCells,zeroDisk,true⟩
def zeroWorld:TWorld:=⟨[],zeroDisk,false⟩
def Yo(w:TWorld):List TRec:=if w.up then(QD w.d).2.1 else[]
def QX(w:TWorld):Int:=if(QD w.d).2.2≠0 then(QD w.d).2.2 else if w.up=true/\w.d.wt≠[]then 4 else
 if(QA (Yo w)).2≠0 then(QA (Yo w)).2 else if(QA (Yo w)).1=w.cells then 0 else 4
def U0(w:TWorld)(r:TRec)(tear:Bool)(kept:Int):TWorld×Int:=
 if(QI w.cells r).2≠0 then(w,(QI w.cells r).2)else if(Gi w.d r).2≠0 then(w,(Gi w.d r).2)else
  if tear then
   (if(Xn (Gi w.d r).1 (max 0 (min kept (Gi w.d r).1.wt.length))).2≠0 then(w,(Xn (Gi w.d r).1 (max 0 (min kept (Gi w.d r).1.wt.length))).2)
    else(⟨newCells,(Xn (Gi w.d r).1 (max 0 (min kept (Gi w.d r).1.wt.length))).1,false⟩,0))
  else if(Y7 (Gi w.d r).1).2≠0 then(w,(Y7 (Gi w.d r).1).2)else(⟨(QI w.cells r).1,(Y7 (Gi w.d r).1).1,w.up⟩,0)
def QH(w:TWorld)(x:THap):TWorld×Int:=
 if x.kind<1\/7<x.kind then(w,4)else if w.up=decide (x.kind=6)then(w,6)else
 if x.kind=5 then(⟨newCells,w.d,false⟩,0)else
 if x.kind=6 then(if(QD w.d).2.2≠0 then(w,(QD w.d).2.2)else if(QA (QD w.d).2.1).2≠0 then(w,(QA (QD w.d).2.1).2)else(⟨(QA (QD w.d).2.1).1,(QD w.d).1,true⟩,0))else
 if x.kind=7 then U0 w ⟨2,x.cell,0,x.p⟩ true x.fm else
 if x.kind=3 then U0 w ⟨3,x.cell,x.fm,zeroPol⟩ false 0 else
 if x.kind=4 then U0 w ⟨4,x.cell,0,zeroPol⟩ false 0 else U0 w ⟨x.kind,x.cell,0,x.p⟩ false 0
def doE(w:TWorld)(x:THap):TWorld×Int:=if QX w≠0 then(zeroWorld,QX w)else if(QH w x).2≠0 then(zeroWorld,(QH w x).2)else((QH w x).1,0)
def Vp:TWorld->List THap->TWorld×List Int
 |w,[]=>(w,[])
 |w,x::l=>((Vp (QH w x).1 l).1,(QH w x).2::(Vp (QH w x).1 l).2)
def Za(w:TWorld)(l:List THap):TWorld×List Int×Int:=if QX w≠0 then(zeroWorld,[],QX w)else if 60<l.length then(zeroWorld,[],2)else((Vp w l).1,(Vp w l).2,0)
def YK(w:TWorld)(cell:Int)(x:TCall):Int×Int:=if QX w≠0 then(0,QX w)else if cell<0\/(w.cells.length:Int)<=cell then(0,5)else
 if(cellAt w.cells cell).open_ then NV (cellAt w.cells cell).chain x else(0,6)
structure OkW(w:TWorld)(l:List TRec):Prop where
 recs:∀r∈l,UJ r=0
 most:l.length<=40
 sa:w.d.sa=VW l
 size:(VW l).length+w.d.wt.length<=60000
 up:w.up=true->w.d.wt=[]/\QA l=(w.cells,0)
 down:w.up=false->w.cells=newCells
theorem Qa2:QA []=(newCells,0):=rfl
theorem OkW.disk{w:TWorld}{l:List TRec}(h:OkW w l):UA w.d=0/\Qv w.d.sa 40=(l,(VW l).length,0):=by
 obtain⟨a,b⟩:=GL (w:=w.d.wt) h.recs h.most h.size;rw[<-h.sa]at a b;rw[h.sa]at b;refine⟨a,?_⟩;rw[h.sa];exact b
theorem OkW.recover{w:TWorld}{l:List TRec}(h:OkW w l):QD w.d=(⟨VW l++w.d.wt.take (Qv w.d.wt (40-l.length)).2.1,[]⟩,l++(Qv w.d.wt (40-l.length)).1,0):=by
 obtain⟨a,b⟩:=h.disk;unfold QD Qa3;rw[if_neg (by rw[a];simp),b,h.sa]
theorem OkW.recover_up{w:TWorld}{l:List TRec}(h:OkW w l)(hu:w.d.wt=[]):QD w.d=(⟨VW l,[]⟩,l,0):=by
 rw[h.recover,hu,Xp];simp
theorem IZ{w:TWorld}{l:List TRec}(h:OkW w l):QX w=0:=by
 unfold QX Yo;rw[if_neg (by rw[h.recover];simp)]
 cases hu:w.up with
 |true=>
  obtain⟨a,b⟩:=h.up hu;rw[if_neg (by rw[a];simp),h.recover_up a];simp[b]
 |false=>
  rw[if_neg (by simp)];simp[Qa2,h.down hu]
theorem Qbw{w:TWorld}(h:QX w=0):∃l,OkW w l:=by
 unfold QX at h;split at h
 .rename_i h1;exact absurd h h1
 rename_i h1
 have hd:UA w.d=0:=by
  by_cases e:UA w.d=0
  .exact e
  exfalso;apply h1;unfold QD;rw[if_pos e];exact e
 obtain⟨a,b,c,d⟩:=Zx hd;split at h
 .simp at h
 rename_i h2;split at h
 .rename_i h3;exact absurd h h3
 rename_i h3;split at h
 .rename_i h4;refine⟨_,b,c,d,by rw[<-d];exact a,λhu=>?_,λhu=>?_⟩
  .have hw:w.d.wt=[]:=by
    by_cases e:w.d.wt=[]
    .exact e
    exact absurd ⟨hu,e⟩ h2
   have hr:Yo w=(Qv w.d.sa 40).1:=by
    unfold Yo QD Qa3;rw[if_pos hu,if_neg (by rw[hd];simp),hw,Xp];simp
   rw[hr]at h3 h4;exact⟨hw,Prod.ext h4 (by simpa using h3)⟩
  have hr:Yo w=[]:=by unfold Yo;rw[hu];rfl
  rw[hr,Qa2]at h4;exact h4.symm
 simp at h
theorem OkW.cellsE{w:TWorld}{l:List TRec}(h:OkW w l)(hu:w.up=true):cellsE w.cells=0/\∀c∈w.cells,NU c:=by
 obtain⟨_,b⟩:=h.up hu;obtain⟨_,_,m1,m2⟩:=Qa1 (l:=l) (by rw[b]);rw[b]at m1 m2;exact⟨m2,m1⟩
theorem Nc{l:List TRec}{c:List TCell}(h:QA l=(c,0))(r:TRec)(hl:l.length<40):QA (l++[r])=if(QI c r).2≠0 then([],(QI c r).2)else((QI c r).1,0):=by
 have h0:Uj l newCells=(c,0):=by
  have:=(Qa1 (l:=l) (by rw[h])).2.1;rw[<-this,h]
 unfold QA;rw[if_neg (by simp;omega),Ji,h0];simp only[ne_eq,not_true_eq_false,if_false];unfold Uj;split
 .rfl
 rfl
theorem Qgt{w:TWorld}{l:List TRec}(h:OkW w l)(hu:w.up=true){r:TRec}(hp:(Gi w.d r).2=0):UJ r=0/\(VW l).length+(U3 r).length<=60000/\Gi w.d r=(⟨VW l,U3 r⟩,0):=by
 obtain⟨a,_⟩:=h.disk;obtain⟨b,_⟩:=h.up hu;unfold Gi at hp⊢;rw[if_neg (by rw[a];simp)]at hp⊢;split at hp
 .rename_i h1;exact absurd hp h1
 rename_i h1;split at hp
 .simp at hp
 rename_i h2;rw[if_neg h1,if_neg h2];rw[h.sa,b]at h2;refine⟨by simpa using h1,?_,?_⟩
 .simp[U3]at h2⊢;omega
 rw[b,h.sa];rfl
theorem QgP{l:List TRec}{r:TRec}(hl:∀x∈l,UJ x=0)(hm:l.length<=40)(hr:UJ r=0)(hs:(VW l).length+(U3 r).length<=60000):Y7 ⟨VW l,U3 r⟩=if l.length<40 then(⟨VW (l++[r]),[]⟩,0)else(zeroDisk,2):=by
 obtain⟨a,_⟩:=GL (w:=U3 r) hl hm hs;have e:VW (l++[r])=VW l++U3 r:=by rw[ZE];simp[VW]
 unfold Y7;rw[if_neg (by rw[a];simp)];dsimp only;split
 .rename_i h;split
  .rename_i h4;exfalso;apply h;rw[<-e]
   exact(GL (l:=l++[r]) (w:=[]) (λx hx=>by
    rcases List.mem_append.1 hx with hx|hx
    .exact hl x hx
    simp at hx;subst hx;exact hr) (by simp;omega) (by rw[e];simp;omega)).1
  rename_i h4;have h40:l.length=40:=by omega
  have:UA ⟨VW l++U3 r,[]⟩=2:=by
   have h0:Qv (VW l++U3 r) 40=(l++(Qv (U3 r) (40-l.length)).1,(VW l).length+(Qv (U3 r) (40-l.length)).2.1,(Qv (U3 r) (40-l.length)).2.2):=GX l (U3 r) 40 hl hm
   have h1:Qv (U3 r) 0=([],0,2):=by
    have e2:U3 r=Zc r++10::[]:=rfl;rw[e2,XY (G8 hr),G7 hr,if_neg (by simp),if_pos rfl]
   unfold UA;dsimp only;rw[if_neg (by simp;omega),h0,h40,h1]
  rw[this]
 rename_i h;rw[if_pos]
 .rw[e]
 rcases Nat.lt_or_ge l.length 40 with h4|h4
 .exact h4
 exfalso;apply h;have h40:l.length=40:=by omega
 have h0:Qv (VW l++U3 r) 40=(l++(Qv (U3 r) (40-l.length)).1,(VW l).length+(Qv (U3 r) (40-l.length)).2.1,(Qv (U3 r) (40-l.length)).2.2):=GX l (U3 r) 40 hl hm
 have h1:Qv (U3 r) 0=([],0,2):=by
  have e2:U3 r=Zc r++10::[]:=rfl;rw[e2,XY (G8 hr),G7 hr,if_neg (by simp),if_pos rfl]
 unfold UA;dsimp only;rw[if_neg (by simp;omega),h0,h40,h1];simp
theorem Qil{w:TWorld}{l:List TRec}(h:OkW w l)(hu:w.up=true){r:TRec}{k:Int}(hn:(U0 w r false k).2=0):(QI w.cells r).2=0/\l.length<40/\U0 w r false k=(⟨(QI w.cells r).1,⟨VW (l++[r]),[]⟩,true⟩,0)/\OkW (U0 w r false k).1 (l++[r]):=by
 unfold U0 at hn⊢;split at hn
 .rename_i h1;exact absurd hn h1
 rename_i h1;split at hn
 .rename_i h2;exact absurd hn h2
 rename_i h2;obtain⟨p1,p2,p3⟩:=Qgt h hu (r:=r) (by simpa using h2);have hs:=QgP h.recs h.most p1 p2;rw[if_neg (by simp)]at hn;rw[if_neg h1,if_neg h2,if_neg (by simp)];rw[p3]at hn⊢;dsimp only at hn⊢;rw[hs]at hn⊢;by_cases h4:l.length<40
 .rw[if_pos h4]at hn⊢;rw[if_neg (by simp),hu];refine⟨by simpa using h1,h4,rfl,?_⟩;have e:VW (l++[r])=VW l++U3 r:=by rw[ZE];simp[VW]
  refine⟨λx hx=>?_,by simp;omega,rfl,by rw[e];simp;omega,λ_=>⟨rfl,?_⟩,λh=>by simp at h⟩
  .rcases List.mem_append.1 hx with hx|hx
   .exact h.recs x hx
   simp at hx;subst hx;exact p1
  rw[Nc (h.up hu).2 r h4,if_neg h1]
 rw[if_neg h4]at hn;simp at hn
theorem Qiw{w:TWorld}{l:List TRec}(h:OkW w l)(hu:w.up=true){r:TRec}{k:Int}(hn:(U0 w r true k).2=0):
  (QI w.cells r).2=0/\UJ r=0/\∃t,U0 w r true k=(⟨newCells,⟨VW l,t⟩,false⟩,0)/\OkW (U0 w r true k).1 l /\
   ((Qv t (40-l.length)).1=[]/\(Qv t (40-l.length)).2.1=0\/l.length<40/\(VW l).length+(U3 r).length<=60000/\(Qv t (40-l.length)).1=[r]/\t.take (Qv t (40-l.length)).2.1=U3 r):=by
 unfold U0 at hn⊢;split at hn
 .rename_i h1;exact absurd hn h1
 rename_i h1;split at hn
 .rename_i h2;exact absurd hn h2
 rename_i h2;obtain⟨p1,p2,p3⟩:=Qgt h hu (r:=r) (by simpa using h2);rw[if_pos rfl]at hn;rw[if_neg h1,if_neg h2,if_pos rfl];rw[p3]at hn⊢;dsimp only at hn⊢;have hkn:∃n:Nat,max 0 (min k ((U3 r).length:Int))=n/\n<=(U3 r).length:=⟨(max 0 (min k ((U3 r).length:Int))).toNat,by omega,by omega⟩;obtain⟨n,hn1,hn2⟩:=hkn
 have hc:Xn ⟨VW l,U3 r⟩ (max 0 (min k ((U3 r).length:Int)))=(⟨VW l,(U3 r).take n⟩,0):=by
  unfold Xn;rw[if_neg (by rw[(GL (w:=U3 r) h.recs h.most p2).1];simp),hn1,if_neg (by dsimp only;omega)];rfl
 rw[hc]at hn⊢;rw[if_neg (by simp)];refine⟨by simpa using h1,p1,(U3 r).take n,rfl,⟨h.recs,h.most,rfl,by simp;omega,λh=>by simp at h,λ_=>rfl⟩,?_⟩;by_cases h4:l.length<40
 .have e:VW [r]=U3 r:=by simp[VW]
  obtain⟨j,hj,i1,i2⟩:=QaF [r] n (40-l.length) (by simpa using p1) (by simp;omega);rw[e]at i1 i2;simp only[List.length_cons,List.length_nil]at hj;obtain⟨_,_,t,i3,i4,_⟩:=Vb ((U3 r).take n) (40-l.length);rcases Nat.eq_zero_or_pos j with rfl|h0
  .left;rw[i1,i2];simp[VW]
  right
  obtain rfl:j=1:=by omega
  rw[i1]at i3 i4;refine⟨h4,p2,by rw[i1];rfl,?_⟩;have e1:List.take 1 [r]=[r]:=rfl;rw[e1,e]at i3;rw[i2,e1,e];rw[i3,List.take_left'];rfl
 left
 have h0:40-l.length=0:=by omega
 rw[h0];obtain⟨_,i2,t,i3,i4,_⟩:=Vb ((U3 r).take n) 0;have e:(Qv ((U3 r).take n) 0).1=[]:=List.length_eq_zero_iff.1 (by omega);refine⟨e,?_⟩;rw[i4,e];rfl
def later(w:TWorld):List TCell×Int:=QA (QD w.d).2.1
theorem IP{w:TWorld}{l:List TRec}(h:OkW w l)(hu:w.up=true):later w=(w.cells,0):=by
 obtain⟨a,b⟩:=h.up hu;unfold later;rw[h.recover_up a];exact b
theorem Qh7{w:TWorld}{l:List TRec}(h:OkW w l):(later w).2=0->∃l',OkW ⟨(later w).1,(QD w.d).1,true⟩ l':=by
 intro hl;obtain⟨i1,i2,t,i3,i4,_⟩:=Vb w.d.wt (40-l.length);have hr:=h.recover
 have e:w.d.wt.take (Qv w.d.wt (40-l.length)).2.1=VW (Qv w.d.wt (40-l.length)).1:=by
  rw[i4];generalize(Qv w.d.wt (40-l.length)).1=L at i3⊢;rw[i3,List.take_left' rfl]
 have hlen:(VW (Qv w.d.wt (40-l.length)).1).length<=w.d.wt.length:=by
  have:=congrArg List.length i3;simp only[List.length_append]at this;omega
 have hm:=h.most;have hz:=h.size;refine⟨l++(Qv w.d.wt (40-l.length)).1,λr hx=>?_,by simp;omega,?_,?_,λ_=>⟨?_,?_⟩,λh=>by simp at h⟩
 .rcases List.mem_append.1 hx with hx|hx
  .exact h.recs r hx
  exact i1 r hx
 .rw[hr];dsimp only;rw[e,ZE]
 .rw[hr];rw[ZE];simp;omega
 .rw[hr]
 have:QA (l++(Qv w.d.wt (40-l.length)).1)=later w:=by unfold later;rw[hr]
 rw[this];exact Prod.ext rfl hl
theorem Qci{w:TWorld}(h:QX w=0){x:THap}(hx:(QH w x).2=0):QX (QH w x).1=0/\((later w).2=0->(later (QH w x).1).2=0/\((later (QH w x).1).1=(later w).1\/∃r,(QI (later w).1 r).2=0/\(r.kind=4->x.kind=4)/\r.cell=x.cell/\(later (QH w x).1).1=(QI (later w).1 r).1)):=by
 obtain⟨l,ok⟩:=Qbw h
 have noted:∀(r:TRec)(k:Int),w.up=true->(U0 w r false k).2=0->(r.kind=4->x.kind=4)->r.cell=x.cell->QX (U0 w r false k).1=0/\((later w).2=0->(later (U0 w r false k).1).2=0/\((later (U0 w r false k).1).1=(later w).1\/∃q,(QI (later w).1 q).2=0/\(q.kind=4->x.kind=4)/\q.cell=x.cell/\(later (U0 w r false k).1).1=(QI (later w).1 q).1)):=by
  intro r k hu hn h4 hc;obtain⟨n1,n2,n3,n4⟩:=Qil ok hu hn;refine⟨IZ n4,λ_=>?_⟩;have hl:=IP n4 (by rw[n3]);rw[IP ok hu];refine⟨by rw[hl],.inr ⟨r,n1,h4,hc,by rw[hl,n3]⟩⟩
 have torn:∀(r:TRec)(k:Int),w.up=true->(U0 w r true k).2=0->(r.kind=4->x.kind=4)->r.cell=x.cell->QX (U0 w r true k).1=0/\((later w).2=0->(later (U0 w r true k).1).2=0/\((later (U0 w r true k).1).1=(later w).1\/∃q,(QI (later w).1 q).2=0/\(q.kind=4->x.kind=4)/\q.cell=x.cell/\(later (U0 w r true k).1).1=(QI (later w).1 q).1)):=by
  intro r k hu hn h4 hc;obtain⟨n1,n2,t,n3,n4,n5⟩:=Qiw ok hu hn;refine⟨IZ n4,λ_=>?_⟩;rw[IP ok hu];have hrec:=n4.recover;have hw:(U0 w r true k).1.d.wt=t:=by rw[n3]
  unfold later;rw[hrec,hw];dsimp only;rcases n5 with⟨e1,e2⟩|⟨e0,_,e1,e2⟩
  .rw[e1,List.append_nil,(ok.up hu).2];exact⟨rfl,.inl rfl⟩
  rw[e1,Nc (ok.up hu).2 r e0,if_neg (by rw[n1];simp)];exact⟨rfl,.inr ⟨r,n1,h4,hc,rfl⟩⟩
 revert hx;unfold QH;intro hx;split at hx
 .simp at hx
 rename_i h1;rw[if_neg h1]at *;split at hx
 .simp at hx
 rename_i h2;rw[if_neg h2]at *;split at hx
 .rename_i h5;rw[if_pos h5]at *
  have hu:w.up=true:=by
   cases hu:w.up with
   |true=>rfl
   |false=>exact absurd (by rw[hu,h5];rfl) h2
  have hw:OkW ⟨newCells,w.d,false⟩ l:=⟨ok.recs,ok.most,ok.sa,ok.size,λh=>by simp at h,λ_=>rfl⟩;exact⟨IZ hw,λhl=>⟨hl,.inl rfl⟩⟩
 rename_i h5;rw[if_neg h5]at *;split at hx
 .rename_i h6;rw[if_pos h6]at *;split at hx
  .rename_i h7;exact absurd hx h7
  rename_i h7;rw[if_neg h7]at *;split at hx
  .rename_i h8;exact absurd hx h8
  rename_i h8;rw[if_neg h8]at *;have hl:(later w).2=0:=by simpa[later]using h8
  obtain⟨l',ok'⟩:=Qh7 ok hl;refine⟨IZ ok',λ_=>?_⟩;have:=IP ok' rfl;have e:later ⟨(QA (QD w.d).2.1).1,(QD w.d).1,true⟩=((later w).1,0):=this;dsimp only;rw[e];exact⟨rfl,.inl rfl⟩
 rename_i h6;rw[if_neg h6]at *
 have hu:w.up=true:=by
  cases hu:w.up with
  |true=>rfl
  |false=>exact absurd (by rw[hu];simp[h6]) h2
 split at hx
 .rename_i h7;rw[if_pos h7]at *;exact torn _ _ hu hx (λe=>by simp at e) rfl
 rename_i h7;rw[if_neg h7]at *;split at hx
 .rename_i h3;rw[if_pos h3]at *;exact noted _ _ hu hx (λe=>by simp at e) rfl
 rename_i h3;rw[if_neg h3]at *;split at hx
 .rename_i h4;rw[if_pos h4]at *;exact noted _ _ hu hx (λ_=>h4) rfl
 rename_i h4;rw[if_neg h4]at *;exact noted _ _ hu hx (λe=>e) rfl
theorem J6{w:TWorld}{x:THap}(hx:(QH w x).2≠0):(QH w x).1=w:=by
 revert hx
 have hn:∀r t k,(U0 w r t k).2≠0->(U0 w r t k).1=w:=by
  intro r t k;unfold U0;split
  .intro;rfl
  split
  .intro;rfl
  split
  .split
   .intro;rfl
   intro h;simp at h
  split
  .intro;rfl
  intro h;simp at h
 unfold QH;split
 .intro;rfl
 split
 .intro;rfl
 split
 .intro h;simp at h
 split
 .split
  .intro;rfl
  split
  .intro;rfl
  intro h;simp at h
 split
 .exact hn _ _ _
 split
 .exact hn _ _ _
 split
 .exact hn _ _ _
 exact hn _ _ _
theorem Qcj{w:TWorld}(h:QX w=0)(x:THap):QX (QH w x).1=0:=by
 by_cases hx:(QH w x).2=0
 .exact(Qci h hx).1
 rw[J6 hx];exact h
section
open Go.RowKit
@[reducible] def Ux(c u v:Value)(up:Bool):Value:=.agg #[c,u,v,.bool up]
structure Qi(w:World)(D:Nat->Prop)(c u v:Value)(t:TWorld):Prop where
 cells:Qo w D c t.cells
 disk:QB w D u v t.d
theorem Qi.keep{w w':World}{D D':Nat->Prop}{c u v:Value}{t:TWorld}(h:Qi w D c u v t)(hD:∀b,D b->b<w.heap.size->D' b)
  (hw:∀b,D b->b<w.heap.size->w'.heap[b]?=w.heap[b]?) (hs:w.heap.size<=w'.heap.size):Qi w' D' c u v t:=⟨Qo.keep h.cells hD hw hs,QB.keep h.disk hD hw hs⟩
theorem Qi.below{w w':World}{D:Nat->Prop}{c u v:Value}{t:TWorld}(h:Qi w D c u v t)(hb:Below w.heap.size w w'):Qi w' D c u v t:=⟨Qo.below h.cells hb,QB.below h.disk hb⟩
theorem Qi.true{w:World}{D:Nat->Prop}{c u v:Value}{t:TWorld}(h:Qi w D c u v t):Qi w (λ_=>True) c u v t:=h.keep (λ_ _ _=>trivial) (λ_ _ _=>rfl) Znl
theorem Qi.lt{w:World}{D:Nat->Prop}{c u v:Value}{t:TWorld}(h:Qi w D c u v t):Qi w (λb=>b<w.heap.size) c u v t:=h.keep (λ_ _ hl=>hl) (λ_ _ _=>rfl) Znl
@[reducible] def QiM(r:THap)(v:Value):Value:=.agg #[.int .i64 r.kind,.int .i64 r.cell,.int .i64 r.fm,v,.int .i64 r.p.df]
def Qi4(w:World)(D:Nat->Prop)(r:THap)(cs:List Value):Prop:=∃v,cs=[.int .i64 r.kind,.int .i64 r.cell,.int .i64 r.fm,v,.int .i64 r.p.df]/\Qc w D v r.p.ru
def XF(w:World)(D:Nat->Prop)(v:Value)(l:List THap):Prop:=Sl w D 5 (Qi4 w D) v l
theorem XF.keep{w w':World}{D D':Nat->Prop}{v:Value}{l:List THap}(h:XF w D v l)(hD:∀b,D b->b<w.heap.size->D' b)
  (hw:∀b,D b->b<w.heap.size->w'.heap[b]?=w.heap[b]?) (hs:w.heap.size<=w'.heap.size):XF w' D' v l:=Sl.mono h hD hw hs (λ_ _ _ ⟨u,h1,h2⟩=>⟨u,h1,h2.keep hD hw hs⟩)
theorem XF.below{w w':World}{D:Nat->Prop}{v:Value}{l:List THap}(h:XF w D v l)(hb:Below w.heap.size w w'):XF w' D v l:=
 h.keep (λ_ h _=>h) (λb _ hlt=>hb.block b hlt) hb.size
theorem XF.cells{w:World}{D:Nat->Prop}{b o n c:Nat}{s:Option Nat}{l:List THap}(h:XF w D (.slice (some ⟨b,o,s⟩) n c) l){i:Nat}(hi:i<l.length):
  ∃(a:Option Addr)(c:Nat),w.cell? ⟨b,o+i*5,none⟩=some (.int .i64 l[i].kind)/\w.cell? ⟨b,o+i*5+1,none⟩=some (.int .i64 l[i].cell)/\w.cell? ⟨b,o+i*5+2,none⟩=some (.int .i64 l[i].fm)/\w.cell? ⟨b,o+i*5+3,none⟩=some (.slice a l[i].p.ru.length c)/\w.cell? ⟨b,o+i*5+4,none⟩=some (.int .i64 l[i].p.df) /\
   Qc w D (.slice a l[i].p.ru.length c) l[i].p.ru:=by
 obtain⟨cs,_,⟨v,hu,hp⟩,hcell⟩:=Sl.get h hi;obtain⟨a1,c1,hv,_⟩:=Sl.form hp;subst hv hu;exact⟨a1,c1,by have:=hcell 0 _ rfl;simpa using this,by have:=hcell 1 _ rfl;simpa[Nat.add_assoc]using this,by have:=hcell 2 _ rfl;simpa[Nat.add_assoc]using this,by have:=hcell 3 _ rfl;simpa[Nat.add_assoc]using this,by have:=hcell 4 _ rfl;simpa[Nat.add_assoc]using this,hp⟩
end
section
open Go.RowKit
attribute [local go_sem] gives QG
theorem Qg1{b:Nat}{W W':World}{c u v:Value}{t:TWorld}(h:Qi W (λx=>b+1<=x) c u v t)(hg:W.grownBy W' (some b)):Qi W' (λx=>b<=x+1) c u v t:=
 h.keep (λx hx _=>by have h1:b+1<=x:=hx;show b<=x+1;omega) (λx hx hl=>QC hg hl (by have h1:b+1<=x:=hx;omega)) hg.size
theorem YH{t:TWorld}(h:QX t=0):cellsE t.cells=0/\t.d.sa.length+t.d.wt.length<=60000:=by
 obtain⟨l,ok⟩:=Qbw h;refine⟨?_,(Zx ok.disk.1).1⟩
 cases hu:t.up with
 |true=>exact(ok.cellsE hu).1
 |false=>rw[ok.down hu];decide
theorem QeE(w:World):Calls prog 21 #[] w λe w'=>∃c,e=.returned (Ux c (.slice none 0 0) (.slice none 0 0) true)/\Qi w' (λb=>w.heap.size<=b) c (.slice none 0 0) (.slice none 0 0) newWorld/\Below w.heap.size w w':=by
 go_enter func21,ntmps21;go_wp2_with fail
 have HB:=Zh (Bx.one (w:=w) (o:=.cells #[.slice none 0 0,.slice none 0 0,.slice none 0 0,.bool false] 27));refine(ZB _).mono ?_;rintro e w1⟨v1,rfl,hr1,hb1⟩;have HB1:=Zh (HB.o.below hb1);obtain⟨a1,c1,rfl,_⟩:=Sl.form hr1;have hq0:=HB1.o.cells0;have hf0:=HB1.o.free0;have HS:=Zh (HB1.o.put4 (.slice a1 newCells.length c1) (.slice none 0 0) (.slice none 0 0) (.bool true) rfl);have hqs:=HS.o.cells0;have HBL:=Zh HS.o.bel;have HRD:Hid (Qi _ (λb=>w.heap.size<=b) (.slice a1 newCells.length c1) (.slice none 0 0) (.slice none 0 0) newWorld):=⟨Qo.keep hr1 (λb hb _=>by have h1:_<=b:=hb;simp at h1;show _<=_;omega) (λb hb hl=>QC (Uf (b:=w.heap.size) (.slice a1 newCells.length c1) (.slice none 0 0) (.slice none 0 0) (.bool true)) hl (by have h1:_<=b:=hb;simp at h1;omega)) (Uf (b:=w.heap.size) (.slice a1 newCells.length c1) (.slice none 0 0) (.slice none 0 0) (.bool true)).size,U7 _ _⟩;clear hr1 hb1 HS HB HB1;go_wp2;refine bodyPost_ret (v:=Ux (.slice a1 newCells.length c1) (.slice none 0 0) (.slice none 0 0) true) ?_ rfl ⟨_,rfl,HRD.o,HBL.o⟩;simp[results,results21,go_sem,hqs]
def QiC(w0:World)(β:Nat)(c:Value)(l m:List UInt8)(up:Bool)(W:World):Prop:=∃x y,W.heap[β]?=some (.cells #[c,x,y,.bool up] 27)/\QB W (λb=>w0.heap.size<=b) x y ⟨l,m⟩/\w0.grownBy W (some β)
theorem Gj{W:World}{β:Nat}(x y:Value):W.grownBy ((W.setCell ⟨β,1,none⟩ x).setCell ⟨β,2,none⟩ y) (some β):=UW (UX _ _ _ _) (UX _ _ _ _)
theorem J8{B β:Nat}{W:World}{x y:Value}(hβ:β<B):Qn B W ((W.setCell ⟨β,1,none⟩ x).setCell ⟨β,2,none⟩ y):=
 ⟨(Gj (W:=W) (β:=β) x y).size,λk hk hl=>QC (Gj x y) hl (by omega)⟩
theorem Qhy{w0 W:World}{β:Nat}{l m:List UInt8}{x y c c0 c1:Value}{up:Bool}(hb:Below w0.heap.size w0 W)(_hs:w0.heap.size<=W.heap.size)(hβ:W.heap[β]?=some (.cells #[c,c0,c1,.bool up] 27))(hlt:β<w0.heap.size)(hx:PBy w0.heap.size l x W)(hy:PBy w0.heap.size m y W):
  QiC w0 β c l m up ((W.setCell ⟨β,1,none⟩ x).setCell ⟨β,2,none⟩ y):=
 ⟨x,y,QJ (QJ hβ),⟨UG _ _ _ (J8 hlt) hx,UG _ _ _ (J8 hlt) hy⟩,QM hb (Gj x y)⟩
theorem NP(c u v:Value)(t:TWorld)(D:Nat->Prop)(w:World)(h:Qi w D c u v t)(hc:cellsE t.cells=0)(hs:t.d.sa.length+t.d.wt.length<=60000):
  Calls prog 49 #[Ux c u v t.up] w λe w'=>∃c' u' v',e=.returned (Ux c' u' v' t.up)/\Qi w' (λb=>w.heap.size<=b) c' u' v' t/\Below w.heap.size w w':=by
 have Ht:=Zh (Qi.true h);have Hs:Hid (t.d.sa.length+t.d.wt.length<=60000):=hs;have Hc:=Zh ((XR t.cells).1 hc);obtain⟨a0,c0,rfl,hf0⟩:=Sl.form h.cells;obtain⟨a1,c1,rfl,hf1⟩:=Sl.form h.disk.1;obtain⟨a2,c2,rfl,hf2⟩:=Sl.form h.disk.2;clear h hc hs hf0 hf1 hf2;go_enter func49,ntmps49;go_wp2_with fail
 have HB:=Zh (Bx.two (w:=w) (o:=.cells #[.slice a0 t.cells.length c0,.slice a1 t.d.sa.length c1,.slice a2 t.d.wt.length c2,.bool t.up] 27) (o':=.cells #[.slice none 0 0,.slice none 0 0,.slice none 0 0,.bool false] 27));refine(Il _ t.cells _ _ (Ht.o.cells.below HB.o.bel) (by have:=Hc.o.1;omega) (λc hc=>Qam (Hc.o.2 c hc))).mono ?_;rintro e w1⟨v3,rfl,ho3,hb1⟩;have HB1:=Zh (HB.o.below hb1);have Hsz1:Hid (w.heap.size+2<=((w.alloc (.cells #[.slice a0 t.cells.length c0,.slice a1 t.d.sa.length c1,.slice a2 t.d.wt.length c2,.bool t.up] 27)).alloc (.cells #[.slice none 0 0,.slice none 0 0,.slice none 0 0,.bool false] 27)).heap.size):=HB.o.top;have hrc:Qo w1 (λb=>w.heap.size+2<=b) v3 t.cells:=Qg.sl (Qg.monoR ho3 λ_ _ _ hr=>hr.keep (λb hb _=>by have h1:=hb.1;have:=Hsz1.o;show _<=_;omega) (λ_ _ _=>rfl) Znl) (λb hb=>by have:=Hsz1.o;omega);obtain⟨a3,c3,rfl,hf3⟩:=Sl.form hrc;have Hrc:=Zh hrc;have hq0:=HB1.o.cells0;have hf0:=HB1.o.free0;have HB2:=Zh (HB1.o.set (i:=0) rfl 0 (.slice a3 t.cells.length c3));have hqs:=HB2.o.cells0;have Hrc2:Hid (Qo (w1.setCell ⟨w.heap.size,0,none⟩ (.slice a3 t.cells.length c3)) (λb=>w.heap.size+2<=b) (.slice a3 t.cells.length c3) t.cells):=Qo.keep Hrc.o (λ_ hx _=>hx) (λx hx hl=>Qm (by have h1:w.heap.size+2<=x:=hx;show x≠w.heap.size;omega)) (by rw[Qr];exact Nat.le_refl _);have Hd2:=Zh (QB.below Ht.o.disk HB2.o.bel);clear hrc ho3 hb1 HB HB1 Hrc hf3;go_wp2_with fail
 clear hq0 hf0 hqs;revert HB2 Hrc2 Hd2;generalize(w1.setCell ⟨w.heap.size,0,none⟩ (.slice a3 t.cells.length c3))=w0;intro HB2 Hrc2 Hd2;have Hsz:Hid (w.heap.size<w0.heap.size):=by show _<_;have:=HB2.o.top;simp at this;omega
 refine Un 10 w0.heap.size [ex (.pointer (some ⟨w.heap.size,1,none⟩)),ex (.pointer (some ⟨w.heap.size,1,none⟩)),ex (.slice a1 t.d.sa.length c1),pr (PBy w0.heap.size t.d.sa),ex (.pointer (some ⟨w.heap.size,1,none⟩)),ex (.pointer (some ⟨w.heap.size,2,none⟩)),ex (.slice a2 t.d.wt.length c2),pr (PBy w0.heap.size t.d.wt),pr (PDk w0.heap.size t.d.sa t.d.wt),ex (.pointer (some ⟨w.heap.size,1,none⟩)),ex (undef)] (QiC w0 w.heap.size (.slice a3 t.cells.length c3) t.d.sa t.d.wt t.up) (by kernel_rfl) (by kernel_rfl) ⟨.inl ⟨_,rfl⟩,.inl ⟨_,rfl⟩,.inl ⟨_,rfl⟩,.inr ⟨_,rfl,UG⟩,.inl ⟨_,rfl⟩,.inl ⟨_,rfl⟩,.inl ⟨_,rfl⟩,.inr ⟨_,rfl,UG⟩,.inr ⟨_,rfl,Qaf⟩,.inl ⟨_,rfl⟩,.inl ⟨_,rfl⟩,trivial⟩ _ rfl ?_
 iterate 3 (refine Qj λK hK=>⟨λdn W hI h0 hd hn hf R hR=>?_,?_⟩;(first|(have hno:dn 10=false:=hn 10 (by decide);have hC:=hI.before hno;clear h0 hd hn hf;go_simp;exact hR _ _ (hI.step hno (by decide) Zbr) (Qn.of_below Zbr) rfl)|(have hno:dn 10=false:=hn 10 (by decide);have hC:=hI.before hno;have hqb:=(HB2.o.below hC.2).cells0;clear h0 hd hn hf;go_simp;exact hR _ _ (hI.step hno (by decide) Zbr) (Qn.of_below Zbr) rfl));(go_simp;refine hK _ ?_;clear hK K))
 (refine QR λK hK=>⟨λdn W hI h0 hd hn hf R hR=>?_,λv3=>?_⟩;(have hno:dn 10=false:=hn 10 (by decide);have hC:=hI.before hno;have hsz0:w0.heap.size<=W.heap.size:=hC.1;have HSZ:=Zh hsz0;clear hsz0;have HRW:=Zh (Qu.below Hd2.o.1 hC.2);clear h0 hd hn hf;go_simp;go_at_call 80;refine(Xa XH JC _ t.d.sa _ W HRW.o (by have:=Hs.o;omega)).mono ?_;rintro e w9 ⟨v9,rfl,ho9,hb9⟩;have hro:=OwnB.read ho9;have HRO:=Zh hro;clear hro ho9;exact⟨_,rfl,hR _ _ (hI.step hno (by decide) hb9) (Qn.of_below hb9) (HRO.o.keep (λb hb _=>by have h1:_<=b:=hb;have:=HSZ.o;show _<=_;omega) (λ_ _ _=>rfl) Znl)⟩);(go_simp;refine hK _ _ ?_;clear hK K))
 iterate 3 (refine Qj λK hK=>⟨λdn W hI h0 hd hn hf R hR=>?_,?_⟩;(first|(have hno:dn 10=false:=hn 10 (by decide);have hC:=hI.before hno;clear h0 hd hn hf;go_simp;exact hR _ _ (hI.step hno (by decide) Zbr) (Qn.of_below Zbr) rfl)|(have hno:dn 10=false:=hn 10 (by decide);have hC:=hI.before hno;have hqb:=(HB2.o.below hC.2).cells0;clear h0 hd hn hf;go_simp;exact hR _ _ (hI.step hno (by decide) Zbr) (Qn.of_below Zbr) rfl));(go_simp;refine hK _ ?_;clear hK K))
 (refine QR λK hK=>⟨λdn W hI h0 hd hn hf R hR=>?_,λv7=>?_⟩;(have hno:dn 10=false:=hn 10 (by decide);have hC:=hI.before hno;have hsz0:w0.heap.size<=W.heap.size:=hC.1;have HSZ:=Zh hsz0;clear hsz0;have HRW:=Zh (Qu.below Hd2.o.2 hC.2);clear h0 hd hn hf;go_simp;go_at_call 80;refine(Xa XH JC _ t.d.wt _ W HRW.o (by have:=Hs.o;omega)).mono ?_;rintro e w9 ⟨v9,rfl,ho9,hb9⟩;have hro:=OwnB.read ho9;have HRO:=Zh hro;clear hro ho9;exact⟨_,rfl,hR _ _ (hI.step hno (by decide) hb9) (Qn.of_below hb9) (HRO.o.keep (λb hb _=>by have h1:_<=b:=hb;have:=HSZ.o;show _<=_;omega) (λ_ _ _=>rfl) Znl)⟩);(go_simp;refine hK _ _ ?_;clear hK K))
 (refine QR λK hK=>⟨λdn W hI h0 hd hn hf R hR=>?_,λv8=>?_⟩;(have hno:dn 10=false:=hn 10 (by decide);have hC:=hI.before hno;have h3:PBy w0.heap.size t.d.sa v3 W:=hf 3 (by decide);have h7:PBy w0.heap.size t.d.wt v7 W:=hf 7 (by decide);obtain⟨x1,y1,rfl,_⟩:=Sl.form h3;obtain⟨x2,y2,rfl,_⟩:=Sl.form h7;have H3:=Zh h3;have H7:=Zh h7;clear h3 h7 hC;clear h0 hd hn hf;go_simp;exact hR _ _ (hI.step hno (by decide) Zbr) (Qn.of_below Zbr) ⟨_,_,rfl,H3.o,H7.o⟩);(go_simp;refine hK _ _ ?_;clear hK K))
 iterate 2 (refine Qj λK hK=>⟨λdn W hI h0 hd hn hf R hR=>?_,?_⟩;(first|(have hno:dn 10=false:=hn 10 (by decide);have hC:=hI.before hno;clear h0 hd hn hf;go_simp;exact hR _ _ (hI.step hno (by decide) Zbr) (Qn.of_below Zbr) rfl)|(have hno:dn 10=false:=h0;have hC:=hI.before hno;have h8:PDk w0.heap.size t.d.sa t.d.wt v8 W:=hf 8 (by decide);obtain⟨x,y,rfl,hx,hy⟩:=h8;have HX:=Zh hx;have HY:=Zh hy;obtain⟨x1,y1,rfl,_⟩:=Sl.form hx;obtain⟨x2,y2,rfl,_⟩:=Sl.form hy;have hBW:=HB2.o.below hC.2;have hq1:=hBW.cells0;have hf1:=hBW.free0;have HFn:=Zh (Qhy (β:=w.heap.size) hC.2 hC.1 (hBW.at_ 0 _ rfl) Hsz.o HX.o HY.o);have HKF:Hid (Qn w0.heap.size W ((W.setCell ⟨w.heap.size,1,none⟩ (.slice x1 t.d.sa.length y1)).setCell ⟨w.heap.size,2,none⟩ (.slice x2 t.d.wt.length y2))):=J8 Hsz.o;clear hx hy hBW hC;clear h0 hd hn hf;go_simp;exact hR _ _ (V8.at_ HFn.o) HKF.o rfl));(go_simp;refine hK _ ?_;clear hK K))
 intro dn w5 hdone hI _;have hFin:=hI.after (hdone 10 (by decide));clear hdone hI;obtain⟨x,y,hbx,hrd,hg⟩:=hFin;have Hrd:=Zh hrd;obtain⟨x1,y1,rfl,_⟩:=Sl.form hrd.1;obtain⟨x2,y2,rfl,_⟩:=Sl.form hrd.2;have hqb:=Qb hbx
 have HBX:Hid (Bx w [.cells #[.slice a3 t.cells.length c3,.slice x1 t.d.sa.length y1,.slice x2 t.d.wt.length y2,.bool t.up] 27,.cells #[.slice none 0 0,.slice none 0 0,.slice none 0 0,.bool false] 27] w5):=by
  refine⟨Below.grown HB2.o.bel hg HB2.o.bel.size (λg e=>by injection e with e;omega),λi o ho=>?_⟩
  match i,ho with
  |0,ho=>simp at ho;subst ho;exact hbx
  |1,ho=>simp at ho;subst ho;rw[QC hg (by have:=HB2.o.top;simp at this;omega) (by omega)];exact HB2.o.at_ 1 _ rfl
 have hq1:=HBX.o.cells1;have hf1:=HBX.o.free1;have HRW:Hid (Qi w5 (λb=>w.heap.size+2<=b) (.slice a3 t.cells.length c3) (.slice x1 t.d.sa.length y1) (.slice x2 t.d.wt.length y2) t):=⟨Qo.keep Hrc2.o (λ_ hx _=>hx) (λb hb hl=>QC hg hl (by have h1:w.heap.size+2<=b:=hb;omega)) hg.size,Hrd.o.keep (λb hb _=>by have h1:w0.heap.size<=b:=hb;have:=HB2.o.top;simp at this;show _<=_;omega) (λ_ _ _=>rfl) Znl⟩;have HS:=Zh ((((HBX.o.set (i:=1) rfl 0 (.slice a3 t.cells.length c3)).set (i:=1) rfl 1 (.slice x1 t.d.sa.length y1)).set (i:=1) rfl 2 (.slice x2 t.d.wt.length y2)).set (i:=1) rfl 3 (.bool t.up));have hqs:=HS.o.cells1;have HBL:=Zh HS.o.bel;have HRF:Hid (Qi _ (λx=>w.heap.size<=x) _ _ _ t):=Qi.keep (D':=λx=>w.heap.size<=x) (Qg1 HRW.o (Uf (b:=w.heap.size+1) (.slice a3 t.cells.length c3) (.slice x1 t.d.sa.length y1) (.slice x2 t.d.wt.length y2) (.bool t.up))) (λx hx _=>by have h1:w.heap.size+1<=x+1:=hx;show w.heap.size<=x;omega) (λ_ _ _=>rfl) Znl;clear hrd hbx hg HS;dsimp only at hqb;go_wp2;refine bodyPost_ret (v:=Ux (.slice a3 t.cells.length c3) (.slice x1 t.d.sa.length y1) (.slice x2 t.d.wt.length y2) t.up) ?_ rfl ⟨_,_,_,rfl,HRF.o,HBL.o⟩;simp[results,results49,go_sem,hqs]
theorem JG(c u v:Value)(t:TWorld)(D:Nat->Prop)(w:World)(h:Qi w D c u v t)(hL:Laid w):
  Calls prog 19 #[Ux c u v t.up] w λe w'=>e=.returned (.int .i64 (QX t))/\Below w.heap.size w w':=by
 have HL:=Zh hL;have Ht:=Zh (Qi.true h);obtain⟨a0,c0,rfl,hf0⟩:=Sl.form h.cells;obtain⟨a1,c1,rfl,hf1⟩:=Sl.form h.disk.1;obtain⟨a2,c2,rfl,hf2⟩:=Sl.form h.disk.2;clear h hL hf0 hf1 hf2;go_enter func19,ntmps19;go_wp2_with fail
 have HB:=Zh (Bx.one (w:=w) (o:=.cells #[.slice a0 t.cells.length c0,.slice a1 t.d.sa.length c1,.slice a2 t.d.wt.length c2,.bool t.up] 27));refine(Ie _ _ t.d _ _ (QB.below Ht.o.disk HB.o.bel) (HL.o.below HB.o.bel)).mono ?_;obtain⟨⟨rd,rl,re⟩,hr⟩:∃E,QD t.d=E:=⟨_,rfl⟩;have HR:=Zh hr;rw[hr];rintro e w1⟨u1,v1,vl,rfl,hd1,hl1,hb1⟩;dsimp only at hd1 hl1;obtain⟨x1,y1,rfl,_⟩:=Sl.form hd1.1;obtain⟨x2,y2,rfl,_⟩:=Sl.form hd1.2;obtain⟨al,cl,rfl,_⟩:=Sl.form hl1;have HB1:=Zh (HB.o.below hb1);have HA:=Zh (Qa (Below.refl w1.heap.size w1) (.cells #[.slice x1 rd.sa.length y1,.slice x2 rd.wt.length y2] 25));have HB2:=Zh (HB1.o.below HA.o);have Hl2:=Zh (QgA (Vg.below hl1 HA.o));have HL2:=Zh (HL.o.below HB2.o.bel);have hq0:=HB2.o.cells0;clear hr hd1 hl1 hb1 HB HB1;dsimp only;by_cases hre:re=0
 .subst hre
  cases hu:t.up with
  |true=>
   by_cases hw:t.d.wt=[]
   .have hw0:((t.d.wt.length:Nat):Int)=0:=by rw[hw];rfl
    have hwl:¬(0:Int)<(t.d.wt.length:Int):=by omega
    have HE:Hid (QX t=if(QA rl).2≠0 then(QA rl).2 else if(QA rl).1=t.cells then 0 else 4):=by
     have e:Yo t=rl:=by unfold Yo;rw[hu,HR.o];rfl
     show _=_;unfold QX;rw[e,HR.o,if_neg (by simp),if_neg (by simp[hw])]
    rw[hu]at hq0 HB2;clear hw hu;go_wp2_with fail
    clear hw0 hwl;refine(OJ _ rl _ _ Hl2.o).mono ?_;obtain⟨⟨N,ne⟩,hN⟩:∃E,QA rl=E:=⟨_,rfl⟩;rw[hN]at HE⊢;rintro e w3⟨a3,c3,rfl,hr3,hb3⟩;dsimp only at hr3 HE;have HB3:=Zh (HB2.o.below hb3);have Hr3:=Zh (Jp hr3);have hq3:=HB3.o.cells0;clear hr3 hb3 hN hq0;dsimp only;by_cases hne:ne=0
    .subst hne;go_wp2_with fail
     clear hq3;refine(Jd _ _ N t.cells _ Hr3.o (Ht.o.cells.below HB3.o.bel)).mono ?_;rintro e w4⟨rfl,hb4⟩;have HBf:=Zh (HB3.o.below hb4).bel;clear hb4;by_cases hs:N=t.cells
     .have HE':Hid (QX t=0):=by show _=_;rw[HE.o,if_neg (by simp),if_pos hs]
      rw[decide_eq_true hs];clear hs HE;go_wp2;go_ret;exact⟨by rw[HE'.o];rfl,HBf.o⟩
     have HE':Hid (QX t=4):=by show _=_;rw[HE.o,if_neg (by simp),if_neg hs]
     rw[decide_eq_false hs];clear hs HE;go_wp2;go_ret;exact⟨by rw[HE'.o];rfl,HBf.o⟩
    have HE':Hid (QX t=ne):=by show _=_;rw[HE.o];exact if_pos hne
    have hnz:(ne==0)=false:=beq_eq_false_iff_ne.2 hne;have HBf:=Zh HB3.o.bel;clear hne HE;go_wp2;go_ret;exact⟨by rw[HE'.o];rfl,HBf.o⟩
   have hwl:(0:Int)<(t.d.wt.length:Int):=by have:=List.length_pos_iff.2 hw;omega
   have HE:Hid (QX t=4):=by show _=_;unfold QX;rw[HR.o,if_neg (by simp),if_pos ⟨hu,hw⟩]
   have HBf:=Zh HB2.o.bel;rw[hu]at hq0;clear hw hu;go_wp2;go_ret;exact⟨by rw[HE.o];rfl,HBf.o⟩
  |false=>
   have HE:Hid (QX t=if(QA []).2≠0 then(QA []).2 else if(QA []).1=t.cells then 0 else 4):=by
    have e:Yo t=[]:=by unfold Yo;rw[hu];rfl
    show _=_;unfold QX;rw[e,HR.o,if_neg (by simp),if_neg (by simp[hu])]
   rw[hu]at hq0 HB2;clear hu;go_wp2_with fail
   refine(OJ _ [] _ _ (Qbu _ (λ_=>True))).mono ?_;obtain⟨⟨N,ne⟩,hN⟩:∃E,QA []=E:=⟨_,rfl⟩;rw[hN]at HE⊢;rintro e w3⟨a3,c3,rfl,hr3,hb3⟩;dsimp only at hr3 HE;have HB3:=Zh (HB2.o.below hb3);have Hr3:=Zh (Jp hr3);have hq3:=HB3.o.cells0;clear hr3 hb3 hN hq0;dsimp only;by_cases hne:ne=0
   .subst hne;go_wp2_with fail
    clear hq3;refine(Jd _ _ N t.cells _ Hr3.o (Ht.o.cells.below HB3.o.bel)).mono ?_;rintro e w4⟨rfl,hb4⟩;have HBf:=Zh (HB3.o.below hb4).bel;clear hb4;by_cases hs:N=t.cells
    .have HE':Hid (QX t=0):=by show _=_;rw[HE.o,if_neg (by simp),if_pos hs]
     rw[decide_eq_true hs];clear hs HE;go_wp2;go_ret;exact⟨by rw[HE'.o];rfl,HBf.o⟩
    have HE':Hid (QX t=4):=by show _=_;rw[HE.o,if_neg (by simp),if_neg hs]
    rw[decide_eq_false hs];clear hs HE;go_wp2;go_ret;exact⟨by rw[HE'.o];rfl,HBf.o⟩
   have HE':Hid (QX t=ne):=by show _=_;rw[HE.o];exact if_pos hne
   have hnz:(ne==0)=false:=beq_eq_false_iff_ne.2 hne;have HBf:=Zh HB3.o.bel;clear hne HE;go_wp2;go_ret;exact⟨by rw[HE'.o];rfl,HBf.o⟩
 have hne:(re != 0)=true:=bne_iff_ne.2 hre;have HE:Hid (QX t=re):=by show _=_;unfold QX;rw[HR.o];exact if_pos hre
 have HBf:=Zh HB2.o.bel;clear hre;go_wp2;go_ret;exact⟨by rw[HE.o];rfl,HBf.o⟩
end
section
open Go.RowKit
attribute [local go_sem] gives QG
theorem Oj{α:Type}{xs ys:List α}{k:Nat}(hx:k<xs.length)(hy:k<ys.length)(h:xs.take k=ys.take k)(e:xs[k]=ys[k]):xs.take (k+1)=ys.take (k+1):=by
 rw[List.take_succ_eq_append_getElem hx,List.take_succ_eq_append_getElem hy,h,e]
theorem QaN{α:Type}{xs ys:List α}{k:Nat}(hx:k<xs.length)(hy:k<ys.length)(e:xs[k]≠ys[k]):xs≠ys:=λh=>e (by subst h;rfl)
theorem Zz(v u:Value)(xs ys:List UInt8)(D:Nat->Prop)(w:World)(h:Qu w D v xs)(h':Qu w D u ys):
  Calls prog 84 #[v,u] w λe w'=>e=.returned (.bool (decide (xs=ys)))/\Below w.heap.size w w':=by
 obtain⟨a,c,rfl,hlc,hcm,hat⟩:=Sl.form h;obtain⟨a',c',rfl,hlc',hcm',hat'⟩:=Sl.form h';have H:=Zh h;have H':=Zh h';clear h h';by_cases hl:xs.length=ys.length
 .have b0:((xs.length:Int) !=(ys.length:Int))=false:=bne_eq_false_iff_eq.2 (by omega);have hl':=Zh hl;have hl1:xs.length<=ys.length:=by omega
  have hl2:ys.length<=xs.length:=by omega
  clear hl;go_enter func84,ntmps84;go_wp2_with fail
  go_loopw[13](λi wr=>∃k:Nat,k<=xs.length/\i=.int .i64 k/\xs.take k=ys.take k/\Below w.heap.size w wr) (λi _=>xs.length-(intOf i).toNat)
  case atStart=>exact⟨0,by omega,rfl,rfl,Below.refl _ _⟩
  case round=>
   obtain⟨k,hk,rfl,htk,hbw⟩:=hrel;have Ht:=Zh htk;have hsz:=hbw.size;clear htk;by_cases hlt:k<xs.length
   .obtain⟨b,o,rfl,hDb,hb⟩:=hat (by omega);obtain⟨b',o',rfl,hDb',hb'⟩:=hat' (by omega);have hlt':k<ys.length:=by omega
    have hc:∀W,Cls w.heap.size wr W->W.cell? ⟨b,o+k,none⟩=some (.int .u8 xs[k].toNat)/\W.cell? ⟨b',o'+k,none⟩=some (.int .u8 ys[k].toNat):=λW hW=>
     ⟨Qu.cell (H.o.below (hbw.trans hW.2)) hlt,Qu.cell (H'.o.below (hbw.trans hW.2)) hlt'⟩
    have Hc:=Zh hc;clear hc;go_wp2_with fail
    refine Qy w.heap.size hsz (by kernel_rfl) (by kernel_rfl) ?_
    repeat(refine QL (λK hK=>?_);apply Exists.intro;refine⟨λW hC R hR=>?_,?_⟩;(have hcc:=Hc.o W hC;go_simp;exact hR _ _ Zbr rfl);(go_simp;refine hK _ ?_;clear hK K))
    intro w2 hC2;by_cases he:xs[k]=ys[k]
    .have Hn:=Zh (Oj hlt hlt' Ht.o he);have d:((xs[k].toNat:Int) !=(ys[k].toNat:Int))=false:=bne_eq_false_iff_eq.2 (by rw[he]);clear he;simp only[d];go_wp2
     go_roundw
     case rel=>exact⟨k+1,by omega,by go_num,Hn.o,hbw.trans hC2.2⟩
     case measure=>simp[intOf];omega
    have Hn:=Zh (QaN hlt hlt' he);have d:((xs[k].toNat:Int) !=(ys[k].toNat:Int))=true:=bne_iff_ne.2 (λe=>he (UInt8.toNat_inj.1 (by omega)));clear he;simp only[d];go_wp2;go_ret;exact⟨VM (decide_eq_false Hn.o).symm,hbw.trans hC2.2⟩
   obtain rfl:k=xs.length:=by omega
   have Hn:Hid (xs=ys):=by
    have:=Ht.o;rw[List.take_length,hl'.o,List.take_length]at this;exact this
   go_wp2;go_ret;exact⟨VM (decide_eq_true Hn.o).symm,hbw⟩
 have b0:((xs.length:Int) !=(ys.length:Int))=true:=bne_iff_ne.2 (by omega);have hn:decide (xs=ys)=false:=decide_eq_false λe=>hl (by rw[e]);rw[hn];clear hn hl;go_enter func84,ntmps84;go_wp2;go_ret;exact⟨rfl,Below.refl _ _⟩
end
section
open Go.RowKit
theorem QfY(u v u' v':Value)(x y:TDisk)(w:World)(h:QB w (λ_=>True) u v x)(h':QB w (λ_=>True) u' v' y):
  Calls prog 40 #[VH u v,VH u' v'] w λe w'=>e=.returned (.bool (decide (x=y)))/\Below w.heap.size w w':=by
 have H:=Zh h;have H':=Zh h';obtain⟨a1,c1,rfl,_⟩:=Sl.form h.1;obtain⟨a2,c2,rfl,_⟩:=Sl.form h.2;obtain⟨b1,d1,rfl,_⟩:=Sl.form h'.1;obtain⟨b2,d2,rfl,_⟩:=Sl.form h'.2;clear h h';obtain⟨xs,xw⟩:=x;obtain⟨ys,yw⟩:=y;dsimp only at H H'⊢;obtain⟨q,hq⟩:∃q,decide ((⟨xs,xw⟩:TDisk)=⟨ys,yw⟩)=q:=⟨_,rfl⟩;have HD:Hid (q=(decide (xs=ys)&&decide (xw=yw))):=by show _=_;rw[<-hq];simp
 rw[hq];clear hq;have HB:=Zh (Bx.two (w:=w) (o:=.cells #[.slice a1 xs.length c1,.slice a2 xw.length c2] 25) (o':=.cells #[.slice b1 ys.length d1,.slice b2 yw.length d2] 25));go_enter func40,ntmps40;go_wp2_with fail
 refine(Zz _ _ xs ys _ _ (Qu.below H.o.1 HB.o.bel) (Qu.below H'.o.1 HB.o.bel)).mono ?_;rintro e w1⟨rfl,hb1⟩;have HB1:=Zh (HB.o.below hb1);clear hb1;by_cases hs:xs=ys
 .have d1:decide (xs=ys)=true:=decide_eq_true hs;have HD':Hid (q=decide (xw=yw)):=by show _=_;rw[HD.o,d1];simp
  rw[d1];clear hs HD d1;have hq0:=HB1.o.cells0;have hq1:=HB1.o.cells1;go_wp2_with fail
  refine(Zz _ _ xw yw _ _ (Qu.below H.o.2 HB1.o.bel) (Qu.below H'.o.2 HB1.o.bel)).mono ?_;rintro e w2⟨rfl,hb2⟩;have HBf:=Zh (HB1.o.below hb2).bel;clear hq0 hq1 hb2;go_wp2;go_ret;exact⟨by rw[HD'.o];rfl,HBf.o⟩
 have d1:decide (xs=ys)=false:=decide_eq_false hs;have HD':Hid (q=false):=by show _=_;rw[HD.o,d1];simp
 have HBf:=Zh HB1.o.bel;rw[d1];clear hs HD d1;go_wp2;go_ret;exact⟨by rw[HD'.o];rfl,HBf.o⟩
theorem Qfi(u v u' v':Value)(x y:TDisk)(w:World)(h:QB w (λ_=>True) u v x)(h':QB w (λ_=>True) u' v' y):
  Calls prog 41 #[VH u v,VH u' v'] w λe w'=>e=.returned (.bool (decide (x=y)))/\Below w.heap.size w w':=by
 have H:=Zh h;have H':=Zh h';obtain⟨a1,c1,rfl,_⟩:=Sl.form h.1;obtain⟨a2,c2,rfl,_⟩:=Sl.form h.2;obtain⟨b1,d1,rfl,_⟩:=Sl.form h'.1;obtain⟨b2,d2,rfl,_⟩:=Sl.form h'.2;clear h h';obtain⟨xs,xw⟩:=x;obtain⟨ys,yw⟩:=y;dsimp only at H H'⊢;obtain⟨q,hq⟩:∃q,decide ((⟨xs,xw⟩:TDisk)=⟨ys,yw⟩)=q:=⟨_,rfl⟩;have HD:Hid (q=(decide (xs=ys)&&decide (xw=yw))):=by show _=_;rw[<-hq];simp
 rw[hq];clear hq;have HB:=Zh (Bx.two (w:=w) (o:=.cells #[.slice a1 xs.length c1,.slice a2 xw.length c2] 25) (o':=.cells #[.slice b1 ys.length d1,.slice b2 yw.length d2] 25));go_enter func41,ntmps41;go_wp2_with fail
 refine(Zz _ _ xs ys _ _ (Qu.below H.o.1 HB.o.bel) (Qu.below H'.o.1 HB.o.bel)).mono ?_;rintro e w1⟨rfl,hb1⟩;have HB1:=Zh (HB.o.below hb1);clear hb1;by_cases hs:xs=ys
 .have d1:decide (xs=ys)=true:=decide_eq_true hs;have HD':Hid (q=decide (xw=yw)):=by show _=_;rw[HD.o,d1];simp
  rw[d1];clear hs HD d1;have hq0:=HB1.o.cells0;have hq1:=HB1.o.cells1;go_wp2_with fail
  refine(Zz _ _ xw yw _ _ (Qu.below H.o.2 HB1.o.bel) (Qu.below H'.o.2 HB1.o.bel)).mono ?_;rintro e w2⟨rfl,hb2⟩;have HBf:=Zh (HB1.o.below hb2).bel;clear hq0 hq1 hb2;go_wp2;go_ret;exact⟨by rw[HD'.o];rfl,HBf.o⟩
 have d1:decide (xs=ys)=false:=decide_eq_false hs;have HD':Hid (q=false):=by show _=_;rw[HD.o,d1];simp
 have HBf:=Zh HB1.o.bel;rw[d1];clear hs HD d1;go_wp2;go_ret;exact⟨by rw[HD'.o];rfl,HBf.o⟩
end
section
open Go.RowKit
theorem X3(c u v c' u' v':Value)(x y:TWorld)(w:World)(h:Qi w (λ_=>True) c u v x)(h':Qi w (λ_=>True) c' u' v' y):
  Calls prog 14 #[Ux c u v x.up,Ux c' u' v' y.up] w λe w'=>e=.returned (.bool (decide (x=y)))/\Below w.heap.size w w':=by
 have H:=Zh h;have H':=Zh h';obtain⟨a0,c0,rfl,_⟩:=Sl.form h.cells;obtain⟨a1,c1,rfl,_⟩:=Sl.form h.disk.1;obtain⟨a2,c2,rfl,_⟩:=Sl.form h.disk.2;obtain⟨b0,d0,rfl,_⟩:=Sl.form h'.cells;obtain⟨b1,d1,rfl,_⟩:=Sl.form h'.disk.1;obtain⟨b2,d2,rfl,_⟩:=Sl.form h'.disk.2;clear h h';obtain⟨xc,xd,xu⟩:=x;obtain⟨yc,yd,yu⟩:=y;dsimp only at H H'⊢;obtain⟨q,hq⟩:∃q,decide ((⟨xc,xd,xu⟩:TWorld)=⟨yc,yd,yu⟩)=q:=⟨_,rfl⟩
 have HD:Hid (q=(decide (xu=yu)&&(decide (xc=yc)&&decide (xd=yd)))):=by
  show _=_;rw[<-hq,Bool.eq_iff_iff];simp;constructor
  .rintro ⟨h1,h2,h3⟩;exact⟨h3,h1,h2⟩
  rintro ⟨h1,h2,h3⟩;exact⟨h2,h3,h1⟩
 rw[hq];clear hq;have HB:=Zh (Bx.two (w:=w) (o:=.cells #[.slice a0 xc.length c0,.slice a1 xd.sa.length c1,.slice a2 xd.wt.length c2,.bool xu] 27) (o':=.cells #[.slice b0 yc.length d0,.slice b1 yd.sa.length d1,.slice b2 yd.wt.length d2,.bool yu] 27));by_cases hu:xu=yu
 .subst hu;have HD1:Hid (q=(decide (xc=yc)&&decide (xd=yd))):=by show _=_;rw[HD.o];simp
  clear HD;go_enter func14,ntmps14;go_wp2_with fail
  refine(ZI _ _ xc yc _ (H.o.cells.below HB.o.bel) (H'.o.cells.below HB.o.bel)).mono ?_;rintro e w1⟨rfl,hb1⟩;have HB1:=Zh (HB.o.below hb1);clear hb1 HB;by_cases hc:xc=yc
  .have d1:decide (xc=yc)=true:=decide_eq_true hc;have HD':Hid (q=decide (xd=yd)):=by show _=_;rw[HD1.o,d1];simp
   rw[d1];clear hc HD1 d1;have hq0:=HB1.o.cells0;have hq1:=HB1.o.cells1;go_wp2_with fail
   refine(Qfi _ _ _ _ xd yd _ (QB.below H.o.disk HB1.o.bel) (QB.below H'.o.disk HB1.o.bel)).mono ?_;rintro e w2⟨rfl,hb2⟩;have HBf:=Zh (HB1.o.below hb2).bel;clear hq0 hq1 hb2;go_wp2;go_ret;exact⟨by rw[HD'.o];rfl,HBf.o⟩
  have d1:decide (xc=yc)=false:=decide_eq_false hc;have HD':Hid (q=false):=by show _=_;rw[HD1.o,d1];simp
  have HBf:=Zh HB1.o.bel;rw[d1];clear hc HD1 d1;go_wp2;go_ret;exact⟨by rw[HD'.o];rfl,HBf.o⟩
 have hu':(xu==yu)=false:=by simpa using hu
 have HD':Hid (q=false):=by show _=_;rw[HD.o];simp[hu]
 have HBf:=Zh HB.o.bel;clear hu HD;go_enter func14,ntmps14;go_wp2;go_ret;exact⟨by rw[HD'.o];rfl,HBf.o⟩
end
end Go.Proofs.YthkgjohhbdipcaaGreatDoor
