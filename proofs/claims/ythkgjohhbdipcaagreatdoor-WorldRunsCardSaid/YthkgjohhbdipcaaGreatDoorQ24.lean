/- Texts laid one behind the other: RPointSpec, RCuts, RPoints, RJudge. No condition beyond theirs. -/
import Derived.Test.YthkgjohhbdipcaaGreatDoorQ6
import Derived.Test.YthkgjohhbdipcaaGreatDoorQ23
import Derived.Test.YthkgjohhbdipcaaGreatDoorQ22
import Derived.Test.YthkgjohhbdipcaaGreatDoorQ4
import Derived.Test.YthkgjohhbdipcaaGreatDoorQ17
import Derived.Test.YthkgjohhbdipcaaGreatDoorQ20
import Derived.Test.YthkgjohhbdipcaaGreatDoorQ12
import Derived.Test.YthkgjohhbdipcaaGreatDoorQ2
set_option linter.all false
set_option maxHeartbeats 64000000
set_option maxRecDepth 100000
namespace Go.Proofs.YthkgjohhbdipcaaGreatDoor
open Tryz
def I8(f:Int)(g:Int->Bool)(c:TCond):Int->Bool:=
 if c.f=f then λt=>if t=c.v+1 then(if c.v+1=c.v then true else g (c.v+1)) || decide (c.op=1\/c.op=2)else if t=c.v then true else g t else g
def atStart:Int->Bool:=λt=>if t=0 then true else false
def IA(f:Int)(cs:List TCond):Int->Bool:=cs.foldl (I8 f) atStart
theorem Qdc{f:Int}{g:Int->Bool}{c:TCond}{t:Int}:I8 f g c t=true↔g t=true\/t∈Uo f c:=by
 rw[YR];unfold I8;by_cases h:c.f=f
 .rw[if_pos h];by_cases h1:t=c.v+1
  .rw[if_pos h1,if_neg (by omega),Bool.or_eq_true,decide_eq_true_eq,<-h1];constructor
   .rintro (h2|h2)
    .exact .inl h2
    exact .inr ⟨h,.inr ⟨h2,rfl⟩⟩
   rintro (h2|⟨_,h2|⟨h2,_⟩⟩)
   .exact .inl h2
   .omega
   exact .inr h2
  rw[if_neg h1];by_cases h2:t=c.v
  .simp[h2,h]
  rw[if_neg h2];constructor
  .exact .inl
  rintro (h3|⟨_,h3|⟨_,h3⟩⟩)
  .exact h3
  .exact absurd h3 h2
  exact absurd h3 h1
 rw[if_neg h];constructor
 .exact .inl
 rintro (h1|⟨h1,_⟩)
 .exact h1
 exact absurd h1 h
theorem Qd4{f t:Int}:∀(cs:List TCond)(g:Int->Bool),cs.foldl (I8 f) g t=true↔g t=true\/t∈cs.flatMap (Uo f)
 |[],g=>by simp
 |c::cs,g=>by
  rw[List.foldl_cons,Qd4 cs,Qdc,List.flatMap_cons,List.mem_append,or_assoc]
def polConds(p:TPol):List TCond:=p.ru.flatMap λr=>r.cd
theorem QeI{f t:Int}{l:List TPol}:IA f (l.flatMap polConds) t=true↔t∈U2 l f:=by
 unfold IA;rw[Qd4,IU];unfold atStart polConds;simp only[List.mem_flatMap];constructor
 .rintro (h|⟨c,⟨p,hp,r,hr,hc⟩,h⟩)
  .left
   by_cases e:t=0
   .exact e
   simp[e]at h
  exact .inr ⟨p,hp,r,hr,c,hc,h⟩
 rintro (h|⟨p,hp,r,hr,c,hc,h⟩)
 .left;simp[h]
 exact .inr ⟨c,⟨p,hp,r,hr,hc⟩,h⟩
theorem Qal(f:Int)(cs:List TCond)(c:TCond):IA f (cs++[c])=I8 f (IA f cs) c:=by
 unfold IA;rw[List.foldl_append];rfl
theorem QhY{α β γ:Type}(M:List β)(hm:0<M.length)(g:α->β->γ):∀(L:List α)(i:Nat),(L.flatMap λx=>M.map (g x))[i]?=(L[i / M.length]?).bind λx=>(M[i % M.length]?).map (g x)
 |[],i=>by simp
 |x::L,i=>by
  rw[List.flatMap_cons,List.getElem?_append,List.length_map];by_cases h:i<M.length
  .rw[if_pos h,Nat.div_eq_of_lt h,Nat.mod_eq_of_lt h,List.getElem?_map];rfl
  obtain⟨j,rfl⟩:∃j,i=j+M.length:=⟨i-M.length,by omega⟩;rw[if_neg h,Nat.add_sub_cancel,QhY M hm g L,Nat.add_div_right _ hm,Nat.add_mod_right,List.getElem?_cons_succ]
theorem Jl(l:List TPol)(k i:Nat):(stage l (k+1))[i]?=((stage l k)[i / (Q5 l k).length]?).bind λx=>((Q5 l k)[i % (Q5 l k).length]?).map λn=>x.set k n:=
 QhY (Q5 l k) (Js l k) (λ(x:TCall)(n:Int)=>x.set k n) (stage l k) i
def cutAt(l:List TPol)(k i:Nat):Int:=(Q5 l k)[i % (Q5 l k).length]?.getD 0
theorem Ze(l:List TPol)(k i:Nat):(Q5 l k)[i % (Q5 l k).length]?=some (cutAt l k i):=by
 unfold cutAt;rw[List.getElem?_eq_getElem (Nat.mod_lt _ (Js l k))];rfl
def leftOf(l:List TPol)(i:Nat):Nat->Nat
 |0=>i
 |j+1=>leftOf l i j / (Q5 l (4-j:Nat)).length
def ZU(l:List TPol)(i:Nat):Nat->TCall
 |0=>⟨0,0,0,0,0⟩
 |j+1=>(ZU l i j).set (4-j) (cutAt l (4-j) (leftOf l i j))
theorem Qge{l:List TPol}{i:Nat}(h:i<sizes l 5):leftOf l i 5=0/\∀j,j<=5->leftOf l i j<sizes l (5-j):=by
 have step:∀j,j<5->leftOf l i j<sizes l (5-j)->leftOf l i (j+1)<sizes l (5-(j+1)):=λj hj h=>by
  show leftOf l i j / _<_;rw[Nat.div_lt_iff_lt_mul (Js l _)];have e:5-j=(4-j)+1:=by omega
  rw[e]at h;have e':5-(j+1)=4-j:=by omega
  rw[e'];exact h
 have all:∀j,j<=5->leftOf l i j<sizes l (5-j):=λj=>by
  induction j with
  |zero=>intro _;exact h
  |succ j ih=>intro hj;exact step j (by omega) (ih (by omega))
 have h5:=all 5 (by omega);simp only[Nat.sub_self,sizes]at h5;exact⟨by omega,all⟩
theorem Qfy{l:List TPol}{i:Nat}(h:i<sizes l 5):(stage l 5)[i]?=some (ZU l i 5):=by
 obtain⟨h0,_⟩:=Qge h;have e5:leftOf l i 5=leftOf l i 4 / (Q5 l (0:Nat)).length:=rfl;have e4:leftOf l i 4=leftOf l i 3 / (Q5 l (1:Nat)).length:=rfl;have e3:leftOf l i 3=leftOf l i 2 / (Q5 l (2:Nat)).length:=rfl;have e2:leftOf l i 2=leftOf l i 1 / (Q5 l (3:Nat)).length:=rfl;have e1:leftOf l i 1=i / (Q5 l (4:Nat)).length:=rfl;rw[Jl,Ze,<-e1,Jl,Ze,<-e2,Jl,Ze,<-e3,Jl,Ze,<-e4,Jl,Ze,<-e5,h0];rfl
theorem Qft{l:List TPol}{i:Nat}(h:i<sizes l 5):(stage l 5).take (i+1)=(stage l 5).take i++[ZU l i 5]:=by
 have hl:i<(stage l 5).length:=by rw[VJ];exact h
 rw[List.take_succ_eq_append_getElem hl];have:=Qfy h;rw[List.getElem?_eq_getElem hl]at this;rw[Option.some.inj this]
section
open Go.RowKit Go.Maps
theorem UQ.mono{w:World}{b n n':Nat}{f:Int->Bool}(h:UQ w b n f)(hn:n<=n'):UQ w b n' f:=by
 obtain⟨D,ho,hat⟩:=h;exact⟨D,ho.mono hn,hat⟩
def Yb(w wr:World)(f:Int)(cs:List TCond):Prop:=UQ wr w.heap.size (1+2*cs.length) (IA f cs)/\Below w.heap.size w wr
theorem Yb.below{w wr w':World}{f:Int}{cs:List TCond}(h:Yb w wr f cs)(hb:Below wr.heap.size wr w'):Yb w w' f cs:=⟨h.1.below hb,h.2.trans (hb.mono h.2.size)⟩
theorem Yb.skip{w wr:World}{f:Int}{cs:List TCond}{c:TCond}(h:Yb w wr f cs)(hc:c.f≠f):Yb w wr f (cs++[c]):=by
 refine⟨?_,h.2⟩;rw[Qal];unfold I8;rw[if_neg hc];exact h.1.mono (by simp;omega)
theorem Yb.put{w w':World}{f op v:Int}{cs:List TCond}{x:Bool}(hx:x=(IA f cs (v+1) || decide (op=1\/op=2)))(h:UQ w' w.heap.size (1+2*cs.length+1+1) (λt=>if t=v+1 then x else(λt=>if t=v then true else IA f cs t) t))(hb:Below w.heap.size w w'):Yb w w' f (cs++[⟨f,op,v⟩]):=by
 refine⟨?_,hb⟩
 have e:IA f (cs++[⟨f,op,v⟩])=(λt=>if t=v+1 then x else(λt=>if t=v then true else IA f cs t) t):=by
  rw[Qal];unfold I8;rw[if_pos rfl];funext t
  simp only;rw[if_neg (show ¬v+1=v by omega),hx]
 rw[e];exact h.mono (by simp;omega)
theorem Yb.start{w wr:World}{f:Int}(h:UQ wr w.heap.size 1 atStart)(hb:Below w.heap.size w wr):Yb w wr f []:=⟨h,hb⟩
theorem UQ.put0(w:World):∃w',(Instr.mapUpdate 273 (.map (some w.heap.size)) (.int .i64 0) (.bool true)).run prog (w.alloc (.map #[] 0))=.ok () w'/\UQ w' w.heap.size 1 atStart/\(w.alloc (.map #[] 0)).grownBy w' (some w.heap.size):=by
 obtain⟨D,ho,hat⟩:=UQ.made w;have hkey:=keyOf_int_mk (P:=prog) underlying3 (Qiy (z:=0) (by omega) (by omega));obtain⟨w',hrun,ho',hg⟩:=ho.update EJ underlying273 (by unfold maxLen;omega) hkey (plainElem_bool underlying4 true);refine⟨w',hrun,⟨_,ho',λt=>?_⟩,hg⟩;show _=DataW.lit (.bool (if t=0 then true else false));by_cases e:t=0
 .subst e;rw[if_pos rfl,atKey_put_same ho.isMap (EJ.key hkey)]
 rw[if_neg e,atKey_put_other (λe'=>by injection e' with _ e';exact e e')];exact hat t
theorem I9{w w':World}(hb:Below w.heap.size w w'):w.grownBy w' none:=⟨hb.os,hb.tape,hb.output,hb.size,λk hk _=>hb.block k hk⟩
theorem QbF{xs M:List Int}(hnd:xs.Nodup)(hM:XP M)(h:∀z,z∈xs↔z∈M):(xs.mergeSort λx y=>decide (x<=y))=M:=by
 have hs:(xs.mergeSort λx y=>decide (x<=y)).Pairwise (λx y=>decide (x<=y)=true):=List.pairwise_mergeSort (λa b c h1 h2=>by simp at *;omega) (λa b=>by simp;omega) xs;have hp:=List.mergeSort_perm xs (λx y=>decide (x<=y));have hn:(xs.mergeSort λx y=>decide (x<=y)).Nodup:=hp.nodup_iff.2 hnd;refine ZH _ _ ?_ hM λz=>by rw[hp.mem_iff];exact h z
 exact(hs.and hn).imp λ{a b} hab=>by
  have:=of_decide_eq_true hab.1;have:=hab.2;omega
theorem GM{α β:Type}(g:α->List β)(l:List α)(k:Nat)(h:k<l.length):(l.take (k+1)).flatMap g=(l.take k).flatMap g++g l[k]:=by
 rw[List.take_succ_eq_append_getElem h,List.flatMap_append];simp
theorem Qgx(v:Value)(l:List TPol)(f:Int)(D:Nat->Prop)(w:World)(h:Xy w D v l)(hok:∀p∈l,UT p)(hn:(1+2*(l.flatMap polConds).length)*8<=140737488355328):
  Calls prog 212 #[v,.int .i64 f] w λe w'=>∃v',e=.returned v'/\Qg w' w.heap.size 3 1 JI v' (Q5 l f)/\Below w.heap.size w w':=by
 have H:=Zh h;obtain⟨a,c,rfl,hlc,hcm,hat⟩:=Sl.form h;obtain⟨i0,hi,hz0,hz1,hz2⟩:=info_parts Qga;have Hi:=Zh hi;have Hok:=Zh hok;have Hn:=Zh hn;clear h hi hok hn;have hmm:=@run_makeMap prog;obtain⟨w0,hmu,hb0,hg0⟩:=UQ.put0 w;have HM0:Hid (Yb w w0 f []):=Yb.start hb0 (Below.grown (Qa Zbr _) hg0 (by simp) (λg hg=>by injection hg with hg;omega));clear hb0 hg0;go_enter func212,ntmps212;go_wp2_with fail
 clear hmm hmu
 go_loopw[19](λkv wr=>∃k:Nat,kv=.int .i64 k/\k<=l.length/\Yb w wr f ((l.take k).flatMap polConds)) (λkv _=>l.length-(intOf kv).toNat)
 case atStart=>exact⟨0,rfl,by omega,HM0.o⟩
 case round=>
  obtain⟨k,rfl,hk,hm⟩:=hrel;have Hm:=Zh hm;clear hm HM0;have HbA:=Zh Hm.o.2;by_cases hlt:k<l.length
  .obtain⟨b,o,rfl,hDb,hblt⟩:=hat (by omega);obtain⟨ca,cc,hc0w,hc1w,hrd,hcl,hcmx,hcat⟩:=Xy.cells H.o hlt;have Hs:=Zh (GM polConds l k hlt);obtain⟨p,hp⟩:∃p,l[k]=p:=⟨_,rfl⟩;have Hkp:=Zh (Hok.o l[k] (List.getElem_mem hlt));rw[hp]at hc0w hc1w hrd hcl hcat Hkp Hs;have hc0:=(HbA.o.cell (p:=⟨b,o+k*2,none⟩) hblt).trans hc0w;have hc1:=(HbA.o.cell (p:=⟨b,o+k*2+1,none⟩) hblt).trans hc1w
   have HL1:Hid (((l.take k).flatMap polConds).length+(p.ru.flatMap λr=>r.cd).length<=(l.flatMap polConds).length):=by
    show _<=_;have h1:(l.flatMap polConds).length=((l.take (k+1)).flatMap polConds).length+((l.drop (k+1)).flatMap polConds).length:=by rw[<-List.length_append,<-List.flatMap_append,List.take_append_drop]
    rw[Hs.o,List.length_append]at h1;unfold polConds at h1⊢;omega
   have Hrd:=Zh hrd;obtain⟨L,hL⟩:∃L,L=(l.take k).flatMap polConds:=⟨_,rfl⟩;rw[<-hL]at Hm Hs HL1;have Hcs2:Hid ((l.take (k+1)).flatMap polConds=L++p.ru.flatMap λr=>r.cd):=Hs.o;clear hrd hp hL hc0w hc1w;obtain⟨wo,rfl⟩:∃wo:World,wo=wr:=⟨_,rfl⟩;go_wp2_with fail
   clear hc0 hc1
   go_loopw[26](λjv wj=>∃j:Nat,jv=.int .i64 j/\j<=p.ru.length/\Yb w wj f (L++(p.ru.take j).flatMap λr=>r.cd)) (λjv _=>p.ru.length-(intOf jv).toNat)
   case atStart=>exact⟨0,rfl,by omega,by simpa using Hm.o.below (Qa Zbr _)⟩
   case round=>
    obtain⟨j,rfl,hj,hm⟩:=hrel;have Hmj:=Zh hm;clear hm;have HbJ:=Zh Hmj.o.2;by_cases hjl:j<p.ru.length
    .obtain⟨b2,o2,rfl,hDb2,hblt2⟩:=hcat (by omega);obtain⟨da,dc,hd0w,hd1w,hrd2,hdl,hdmx,hdat⟩:=Qc.cells Hrd.o hjl;have Hs2:=Zh (GM (λr:TRule=>r.cd) p.ru j hjl);obtain⟨r,hr⟩:∃r,p.ru[j]=r:=⟨_,rfl⟩;have Hkr:=Zh (Hkp.o.ru p.ru[j] (List.getElem_mem hjl));rw[hr]at hd0w hd1w hrd2 hdl hdat Hkr Hs2;have hd0:=(HbJ.o.cell (p:=⟨b2,o2+j*2,none⟩) hblt2).trans hd0w;have hd1:=(HbJ.o.cell (p:=⟨b2,o2+j*2+1,none⟩) hblt2).trans hd1w
     have HL2:Hid ((L++(p.ru.take j).flatMap λr=>r.cd).length+r.cd.length<=(l.flatMap polConds).length):=by
      show _<=_;have h0:=HL1.o;have h1:(p.ru.flatMap λr=>r.cd).length=((p.ru.take (j+1)).flatMap λr=>r.cd).length+((p.ru.drop (j+1)).flatMap λr=>r.cd).length:=by rw[<-List.length_append,<-List.flatMap_append,List.take_append_drop]
      rw[Hs2.o,List.length_append]at h1;rw[List.length_append];omega
     have Hrd2:=Zh hrd2;obtain⟨M,hM⟩:∃M,M=L++(p.ru.take j).flatMap λr=>r.cd:=⟨_,rfl⟩;rw[<-hM]at Hmj HL2;have Hs3:Hid (L++((p.ru.take (j+1)).flatMap λr=>r.cd)=M++r.cd):=by show _=_;rw[Hs2.o,hM,List.append_assoc]
     clear hrd2 hr hM hd0w hd1w;obtain⟨wo2,rfl⟩:∃wo2:World,wo2=wr:=⟨_,rfl⟩;go_wp2_with fail
     clear hd0 hd1
     go_loopw[33](λiv wi=>∃i:Nat,iv=.int .i64 i/\i<=r.cd.length/\Yb w wi f (M++r.cd.take i)) (λiv _=>r.cd.length-(intOf iv).toNat)
     case atStart=>exact⟨0,rfl,by omega,by simpa using Hmj.o.below (Qa Zbr _)⟩
     case round=>
      obtain⟨i,rfl,hi,hm⟩:=hrel;have Hmi:=Zh hm;clear hm;have HbI:=Zh Hmi.o.2;by_cases hil:i<r.cd.length
      .obtain⟨b3,o3,rfl,hDb3,hblt3⟩:=hdat (by omega);obtain⟨he0,he1,he2⟩:=QF.cells (Hrd2.o.below HbI.o) hil;have Htk:=Zh (List.take_succ_eq_append_getElem hil);have Hoc:=Zh (Hkr.o.cd r.cd[i] (List.getElem_mem hil));obtain⟨⟨cf,cop,cv⟩,hcj⟩:∃y:TCond,r.cd[i]=y:=⟨_,rfl⟩;rw[hcj]at he0 he1 he2 Htk Hoc;have hv0:0<=cv:=Hoc.o.v0;have hv1:cv<=65535:=Int.le_trans Hoc.o.v1 (by show QY cf<=65535;unfold QY;split<;>(try split)<;>omega);have ho0:1<=cop:=Hoc.o.o0;have ho1:cop<=4:=Hoc.o.o1;dsimp only at he0 he1 he2
       have hlen:1+2*(M++r.cd.take i).length+2<=17592186044416:=by
        have h1:=HL2.o;have h2:=Hn.o;rw[List.length_append,List.length_take];omega
       obtain⟨X,hX⟩:∃X,X=M++r.cd.take i:=⟨_,rfl⟩;have Hnx:Hid (M++r.cd.take (i+1)=X++[⟨cf,cop,cv⟩]):=by show _=_;rw[Htk.o,hX,List.append_assoc]
       rw[<-hX]at Hmi hlen;have hbx:=Qb (Qh wr (.cells #[.int .i64 cf,.int .i64 cop,.int .i64 cv] 153));have Hm1:=Zh (Hmi.o.below (Qa Zbr (.cells #[.int .i64 cf,.int .i64 cop,.int .i64 cv] 153)));have hszw:=Hmi.o.2.size;have hblk:=Qh wr (.cells #[.int .i64 cf,.int .i64 cop,.int .i64 cv] 153);have Hblk:=Zh hblk;have hmw:w.heap.size<wr.heap.size:=Hmi.o.1.lt;clear hcj hX hblk;by_cases hcf:cf=f
       .subst hcf;have hw1:IntKind.i64.wrap (cv+1)=cv+1:=by rw[IntKind.wrap_i64];omega
        have hbf:(cf==cf)=true:=by simp
        obtain⟨bv,hbv⟩:∃bv,IA cf X (cv+1)=bv:=⟨_,rfl⟩;have Hbv:=Zh hbv;clear hbv;cases bv
        all_goals rcases(by omega:cop=1\/cop=2\/cop=3\/cop=4)with rfl|rfl|rfl|rfl
        all_goals
         go_wp2_with(at_mapUpdate;first|(refine Y8 rfl _ _ _ rfl w.heap.size _ _ rfl Hm1.o.1 (by unfold maxLen;omega) cv (by omega) (by omega) true rfl rfl ?_;intro w5 hm5 hg5;have Hm5:=Zh hm5;have Hb5:=Zh (Below.grown Hm1.o.2 hg5 Hm1.o.2.size (λg hg=>by injection hg with hg;omega));have hb5:=Qb ((hg5.block wr.heap.size (by simp) (λe=>by injection e with e;omega)).trans Hblk.o);have hlk:=Hm5.o.look (z:=cv+1) (by omega) (by omega);simp only[show ¬(cv+1=cv) by omega,if_false,Hbv.o]at hlk;clear hm5 hg5 hbx)|(refine Y8 rfl _ _ _ rfl w.heap.size _ _ rfl Hm5.o (by unfold maxLen;omega) (cv+1) (by omega) (by omega) _ rfl rfl ?_;intro w6 hm6 hg6;have Hm6:=Zh hm6;have Hb6:=Zh (Below.grown Hb5.o hg6 Hb5.o.size (λg hg=>by injection hg with hg;omega));clear hm6 hg6))
         go_roundw
         case rel=>exact⟨i+1,by go_num,by omega,by rw[Hnx.o];exact Yb.put (by rw[Hbv.o];rfl) Hm6.o Hb6.o⟩
         case measure=>simp[intOf];omega
       have hb0:(cf==f)=false:=by simpa using hcf
       have Hm2:=Zh (Hm1.o.skip (c:=⟨cf,cop,cv⟩) hcf);clear hcf;go_wp2_with fail
       go_roundw
       case rel=>exact⟨i+1,by go_num,by omega,by rw[Hnx.o];exact Hm2.o⟩
       case measure=>simp[intOf];omega
      obtain rfl:i=r.cd.length:=by omega
      go_wp2
      go_roundw
      case rel=>exact⟨j+1,by go_num,by omega,by have:=Hmi.o;rw[List.take_length]at this;rw[Hs3.o];exact this⟩
      case measure=>simp[intOf];omega
    obtain rfl:j=p.ru.length:=by omega
    go_wp2
    go_roundw
    case rel=>exact⟨k+1,by go_num,by omega,by have:=Hmj.o;rw[List.take_length]at this;rw[Hcs2.o];exact this⟩
    case measure=>simp[intOf];omega
  obtain rfl:k=l.length:=by omega
  have hmf:Yb w wr f (l.flatMap polConds):=by have:=Hm.o;rw[List.take_length]at this;exact this
  obtain⟨n,hn⟩:∃n,n=1+2*(l.flatMap polConds).length:=⟨_,rfl⟩;obtain⟨g,hg⟩:∃g,g=IA f (l.flatMap polConds):=⟨_,rfl⟩;have Hg:Hid (∀t,g t=true↔t∈U2 l f):=λt=>by rw[hg];exact QeI
  have Hmap:Hid (UQ wr w.heap.size n g):=by show UQ _ _ _ _;rw[hn,hg];exact hmf.1
  have hn8:n*8<=140737488355328:=by rw[hn];exact Hn.o
  have hmw:w.heap.size<wr.heap.size:=hmf.1.lt;clear hmf hn hg Hm;obtain⟨wB,rfl⟩:∃wB:World,wB=wr:=⟨_,rfl⟩;go_wp2_with(at_range;refine IG rfl _ rfl w.heap.size n g rfl Hmap.o ?_;intro w2 left0 cnt0 hr0 hl0 hc0 hg0 hs0)
  go_frame
  go_loopw[12](λov wi=>∃(left:Int->Bool)(cnt:Nat)(vs:Value)(xs:List Int),vs=ov/\Qg wi (wB.heap.size+1) 3 1 JI vs xs/\VY wi w.heap.size wB.heap.size n g left cnt/\xs.Nodup/\(∀z,z∈xs↔left z=false/\g z=true/\z<=QY f)/\xs.length+cnt<=n/\Below w.heap.size w wi) (λ_ wi=>wi.rangeLeft w.heap.size wB.heap.size)
  case atStart=>exact⟨left0,cnt0,_,[],rfl,Qg.nil,hr0,List.nodup_nil,λz=>⟨λh=>by simp at h,λh=>by have:=hl0 z h.2.1;rw[h.1]at this;cases this⟩,by simpa using hc0,Below.grown HbA.o hg0 HbA.o.size (λg hg=>by cases hg)⟩
  case round=>
   obtain⟨left,cnt,vs,xs,rfl,hown,hrg,hnd,hmem,hlen,hb⟩:=hrel;have Hown:=Zh hown;have HR:=Zh hrg;have Hnd:=Zh hnd;have Hmem:=Zh hmem;have Hlen:=Zh hlen;have Hb:=Zh hb;have hrl:=hrg.lt.1;have Hob:Hid (∀g,vs.ownBlock=some g->wB.heap.size+1<=g/\g<wr.heap.size):=λg hg=>by obtain⟨rows,_,hrw⟩:=hown;exact hrw.lt g hg
   clear hown hrg hnd hmem hlen hb hr0 hl0 hc0 hg0 hs0;go_wp2_with(at_next;refine NR rfl _ rfl w.heap.size wB.heap.size n g _ _ rfl HR.o ?_ ?_)
   .intro hl0
    have Hx:Hid (∀z,z∈xs↔z∈Q5 l f):=λz=>by
     rw[Hmem.o z,hl0 z,G5,Hg.o z];exact⟨λh=>h.2,λh=>⟨rfl,h⟩⟩
    have hxl:xs.length<=n:=by have:=Hlen.o;omega
    clear hl0;go_wp2_with fail
    refine(QcS vs xs _ _ Hown.o (λe=>by have:=(Hx.o 0).2 (QbQ l f);rw[e]at this;simp at this) (by omega)).mono ?_;rintro e w3⟨rfl,ho3,hg3⟩;rw[QbF Hnd.o (Nh l f) Hx.o]at ho3;have Ho3:=Zh ho3;have Hb3:=Zh (Below.grown Hb.o hg3 Hb.o.size (λg hg=>by have:=(Hob.o g hg).1;omega));clear ho3 hg3;go_wp2;go_ret;exact⟨_,rfl,Ho3.o.base (by omega),Hb3.o⟩
   intro x w1 cnt1 hlx hr1 hlt hg1 hs1 hen;have Ho1:Hid (Qg w1 (wB.heap.size+1) 3 1 JI vs xs):=Hown.o.keepFrom λb hb hlt=>hg1.block b hlt (λe=>by injection e with e;omega);have HR1:=Zh hr1;have Hb1:=Zh (Below.grown Hb.o hg1 Hb.o.size (λg hg=>by injection hg with hg;omega));have Hlt:=Zh hlt;have Hlx:=Zh hlx;have hob1:∀g,vs.ownBlock=some g->wB.heap.size+1<=g/\g<w1.heap.size:=λg hg=>by have:=Hob.o g hg;omega
   have Hob1:=Zh hob1;have hrl1:=hr1.lt.1;obtain⟨gx,hgx⟩:∃b,g x=b:=⟨_,rfl⟩;rw[hgx]at hen⊢;have Hgx:=Zh hgx;clear hgx hr1 hg1 hs1 hlt hlx hob1;have hnx:x∉xs:=λh=>by have:=((Hmem.o x).1 h).1;rw[Hlx.o]at this;cases this
   have Hnx:=Zh hnx;clear hnx
   cases gx with
   |false=>
    go_wp2_with fail
    go_roundw
    case rel=>
     refine⟨_,cnt1,vs,xs,rfl,Ho1.o,HR1.o,Hnd.o,λz=>?_,by have:=Hlen.o;have:=Hlt.o;omega,Hb1.o⟩;by_cases hz:z=x
     .subst hz;rw[Hgx.o];exact⟨λh=>absurd h Hnx.o,λh=>by cases h.2.1⟩
     rw[Hmem.o z];simp[hz]
    case measure=>rw[HR1.o.left_eq,HR.o.left_eq];exact Hlt.o
   |true=>
    go_wp2_with fail
    refine(JA f _).mono ?_;rintro e w3⟨rfl,hb3⟩;have Ho3:=Zh (Ho1.o.below hb3);have HR3:=Zh (HR1.o.kept (I9 hb3) (by simp) (by simp));have Hb3:=Zh (Hb1.o.trans (hb3.mono Hb1.o.size));have hs13:=hb3.size;clear hb3 hen;by_cases hle:x<=QY f
    .have hd:decide (x<=QY f)=true:=decide_eq_true hle;have Hle:=Zh hle;have HoA:=Zh (Ho3.o.below (Qa (Below.refl _ w3) (.cells #[.int .i64 x] 3)));have HRA:=Zh (HR3.o.kept (I9 (Qa (Below.refl _ w3) (.cells #[.int .i64 x] 3))) (by simp) (by simp));have HbA3:=Zh (Hb3.o.trans ((Qa (Below.refl _ w3) (.cells #[.int .i64 x] 3)).mono Hb3.o.size));have hxl:xs.length+1<=n:=by have:=Hlen.o;have:=Hlt.o;omega
     clear hle;go_wp2_with(at_builtin;refine QK rfl _ _ 231 rfl (wB.heap.size+1) 3 i0 _ 1 8 underlying231 Hi.o hz0 hz1 hz2 rfl (by decide) _ _ rfl HoA.o _ _ rfl (Qbx (by simp)) (λy _ cs h=>IM y cs h) (by show _+1<=maxLen;unfold maxLen;omega) (by show(_+1)*8<=_;omega) (by simp;omega) ?_;intro v' w5 hown' hg' hat';have Hown':=Zh hown';have HR5:=Zh (HRA.o.kept hg' (λe=>by have:=(Hob1.o _ e.symm).1;omega) (λe=>by have:=(Hob1.o _ e.symm).1;omega));have Hb5:=Zh (Below.grown HbA3.o hg' HbA3.o.size (λg hg=>by have:=(Hob1.o g hg).1;omega));clear hown' hg' hat')
     go_roundw
     case rel=>
      refine⟨_,cnt1,v',xs++[x],rfl,Hown'.o,HR5.o,?_,λz=>?_,by have:=Hlen.o;have:=Hlt.o;simp;omega,Hb5.o⟩
      .rw[List.nodup_append];exact⟨Hnd.o,by simp,λa ha b hb=>by simp at hb;subst hb;exact λe=>Hnx.o (e▸ha)⟩
      rw[List.mem_append,Hmem.o z];by_cases hz:z=x
      .subst hz;simp[Hgx.o,Hle.o]
      simp[hz]
     case measure=>rw[HR5.o.left_eq,HR.o.left_eq];exact Hlt.o
    have hd:decide (x<=QY f)=false:=decide_eq_false hle;have Hle:=Zh hle;clear hle;go_wp2_with fail
    go_roundw
    case rel=>
     refine⟨_,cnt1,vs,xs,rfl,Ho3.o,HR3.o,Hnd.o,λz=>?_,by have:=Hlen.o;have:=Hlt.o;omega,Hb3.o⟩;by_cases hz:z=x
     .subst hz;exact⟨λh=>absurd h Hnx.o,λh=>by have h1:=Hle.o;have h2:=h.2.2;omega⟩
     rw[Hmem.o z];simp[hz]
    case measure=>rw[HR3.o.left_eq,HR.o.left_eq];exact Hlt.o
end
section
open Go.RowKit
attribute [local go_sem] gives QG
def ZV(n:Nat)(w1 w2:World)(dn:Nat->Bool)(W:World):Prop:=W=if dn n=true then w2 else w1
section
variable{n k:Nat}{w1 w2 W:World}{dn:Nat->Bool}
theorem ZV.start:ZV n w1 w2 (λ_=>false) w1:=rfl
theorem ZV.before(h:ZV n w1 w2 dn W)(hd:dn n=false):W=w1:=by
 unfold ZV at h;rw[hd]at h;exact h
theorem ZV.step(hk:n≠k)(hd:dn n=false):ZV n w1 w2 (Qe dn k) w1:=by
 unfold ZV Qe;rw[if_neg hk,hd];rfl
theorem ZV.at_:ZV n w1 w2 (Qe dn n) w2:=by
 unfold ZV Qe;rw[if_pos rfl];rfl
theorem ZV.after(h:ZV n w1 w2 dn W)(hd:dn n=true):W=w2:=by
 unfold ZV at h;rw[hd]at h;exact h
end
theorem ints_set{w:World}{β k:Nat}{v u:Value}{l:List Int}(h:UR w (λb=>b≠β) u l):UR (w.setCell ⟨β,k,none⟩ v) (λb=>b≠β) u l:=
 h.keep (λ_ hb _=>hb) (λ_ hb _=>Qm hb) (by rw[Qr];exact Nat.le_refl _)
theorem Qd0(l:List TPol)(f:Int):(Q5 l f).length<=(U2 l f).length:=by
 unfold Q5;refine Nat.le_trans (List.length_filter_le _ _) ?_
 have h3:∀m:List Int,(setOf m).length<=m.length:=λm=>by
  have h4:∀(x:Int)(m:List Int),(Qd9 x m).length<=m.length+1:=λx m=>by
   induction m with
   |nil=>simp[Qd9]
   |cons y m ih=>unfold Qd9;split<;>(try split)<;>simp<;>omega
  induction m with
  |nil=>simp[setOf]
  |cons x m ih=>have:=h4 x (setOf m);simp[setOf];omega
 exact h3 _
theorem Qd3(f:Int):∀cs:List TCond,(cs.flatMap (Uo f)).length<=2*cs.length
 |[]=>by simp
 |c::cs=>by
  have:=Qd3 f cs;have h2:(Uo f c).length<=2:=by unfold Uo;split<;>(try split)<;>simp
  simp only[List.flatMap_cons,List.length_append,List.length_cons];omega
theorem QeB(l:List TPol)(f:Int):(U2 l f).length<=1+2*(l.flatMap polConds).length:=by
 have e:l.flatMap (Ym f)=(l.flatMap polConds).flatMap (Uo f):=by
  unfold Ym Xe polConds;simp only[List.flatMap_assoc]
 unfold U2;rw[List.length_cons,e];have:=Qd3 f (l.flatMap polConds);omega
theorem Np(v:Value)(l:List TPol)(D:Nat->Prop)(w:World)(h:Xy w D v l)(hn:VD l=0->(1+2*(l.flatMap polConds).length)*8<=140737488355328):
  Calls prog 186 #[v] w λe w'=>∃v',e=.returned (.tuple #[v',.int .i64 (Q8 l).2])/\Qg w' w.heap.size 46 5 Oz v' (Q8 l).1/\Below w.heap.size w w':=by
 have H:=Zh h;have Hn:=Zh hn;obtain⟨i0,hi,hz0,hz1,hz2⟩:=info_parts Qd7;have Hi:=Zh hi;clear h hn hi;go_enter func186,ntmps186;go_wp2_with fail
 refine(Qen _ l D _ H.o).mono ?_;rintro e w1⟨rfl,hb1⟩;have Hb1:=Zh hb1;have H1:=Zh (Xy.below H.o hb1);have hsz1:=hb1.size;clear hb1;by_cases h0:VD l=0
 .have H0:=Zh h0;have Hok:=Zh ((Yf l).1 h0);have Hnn:=Zh (Hn.o h0);rw[h0];clear h0;go_wp2_with fail
  go_loopw[6,17](λnv kv wr=>∃(k:Nat)(cs:Array Value),kv=.int .i64 k/\nv=.int .i64 (sizes l k:Nat)/\k<=5/\sizes l k<=1000/\cs.size=5/\wr.heap[w1.heap.size]?=some (.cells cs 265)/\(∀j:Nat,j<k->∃u,cs[j]?=some u/\UR wr (λb=>b≠w1.heap.size) u (Q5 l j))/\Below w1.heap.size w1 wr) (λ_ kv _=>5-(intOf kv).toNat)
  case atStart=>exact⟨0,#[.slice none 0 0,.slice none 0 0,.slice none 0 0,.slice none 0 0,.slice none 0 0],rfl,rfl,by omega,by simp[sizes],rfl,Qh _ _,λj hj=>absurd hj (by omega),Qa Zbr _⟩
  case round=>
   obtain⟨k,cs,rfl,rfl,hk,hs,hcs,hbk,hrd,hb⟩:=hrel;have Hs:=Zh hs;have Hcs:=Zh hcs;have Hbk:=Zh hbk;have Hrd:=Zh hrd;have Hb:=Zh hb;have hszr:=hb.size;have hβ:w1.heap.size<wr.heap.size:=(Array.getElem?_eq_some_iff.1 hbk).1;clear hs hcs hbk hrd hb;by_cases hlt:k<5
   .have hk5:(k:Int)<5:=by omega
    have hk0:(0:Int)<=(k:Int):=by omega
    have hkw:IntKind.i64.wrap (k:Int)=(k:Int):=IntWalk.i64_in _ (by omega);go_wp2_with fail
    refine(Qgx _ l k D _ (Xy.below H1.o Hb.o) Hok.o Hnn.o).mono ?_;rintro e w2⟨v2,rfl,ho2,hb2⟩;have Hb2:=Zh (Ql Hb.o hb2);have Hbk2:=Zh (Qd Hbk.o hb2);have Ho2:Hid (UR w2 (λb=>b≠w1.heap.size) v2 (Q5 l k)):=ho2.sl (λb hb=>by omega);have Hrd2:Hid (∀j:Nat,j<k->∃u,cs[j]?=some u/\UR w2 (λb=>b≠w1.heap.size) u (Q5 l j)):=λj hj=>by obtain⟨u,h1,h2⟩:=Hrd.o j hj;exact⟨u,h1,h2.below hb2⟩
    obtain⟨a2,c2,rfl⟩:=ho2.slice;clear ho2 hb2
    have hlen:(Q5 l k).length<=17592186044416:=by
     have h1:=Hnn.o;have h2:=Qd0 l k;have h3:=QeB l k;omega
    have Hss:Hid (sizes l (k+1)=sizes l k*(Q5 l k).length):=rfl;obtain⟨m,hm⟩:∃m,m=(Q5 l k).length:=⟨_,rfl⟩;obtain⟨s,hs⟩:∃s,s=sizes l k:=⟨_,rfl⟩;obtain⟨s',hs'⟩:∃s',s'=sizes l (k+1):=⟨_,rfl⟩;have hmul:(s:Int)*(m:Int)=(s':Int):=by rw[hs',Hss.o,<-hs,<-hm,Int.natCast_mul]
    have hmb:s'<=1000*17592186044416:=by rw[hs',Hss.o,<-hm];exact Nat.mul_le_mul Hs.o (by rw[hm];exact hlen)
    have hwr:IntKind.i64.wrap (s':Int)=(s':Int):=IntWalk.i64_in _ (by omega);have hce:=Qb Hbk2.o;have hfe:=Qp Hbk2.o;have Hst:=Zh (QJ (o:=k) (v:=.slice a2 (Q5 l k).length c2) Hbk2.o);have hse:=Qb Hst.o;have hget:(cs.setIfInBounds k (.slice a2 (Q5 l k).length c2))[k]?=some (.slice a2 (Q5 l k).length c2):=Array.getElem?_setIfInBounds_self_of_lt (by rw[Hcs.o];exact hlt);have hck:cs[k]?=some (cs[k]'(by rw[Hcs.o];exact hlt)):=Array.getElem?_eq_getElem _;rw[<-hm]at hse hget;rw[<-hs,<-hm];have Hm:=Zh hm;have HS:=Zh hs;have HS':=Zh hs';clear hm hs hs' hlen;by_cases hbig:1000<s'
    .have hd:decide ((1000:Int)<(s':Int))=true:=decide_eq_true (by omega);have HP:Hid (Q8 l=([],2)):=Iq H0.o hlt (by rw[<-HS'.o];exact hbig);clear hbig hmb;go_wp2_with fail
     go_ret2;rw[HP.o];exact⟨_,rfl,Qg.nil,Hb1.o.trans ((Qw Hb2.o Znl).mono hsz1)⟩
    have hd:decide ((1000:Int)<(s':Int))=false:=decide_eq_false (by omega);have Hbig:=Zh hbig;clear hbig hmb;go_wp2_with fail
    go_roundw
    case rel=>
     refine⟨k+1,cs.setIfInBounds k (.slice a2 m c2),by go_num,by rw[HS'.o],by omega,by rw[<-HS'.o];have:=Hbig.o;omega,by rw[Array.size_setIfInBounds];exact Hcs.o,by rw[Hm.o];exact Hst.o,λj hj=>?_,Qw Hb2.o Znl⟩;by_cases hjk:j=k
     .subst hjk;exact⟨_,hget,by rw[Hm.o];exact ints_set Ho2.o⟩
     obtain⟨u,h1,h2⟩:=Hrd2.o j (by omega);exact⟨u,by rw[Array.getElem?_setIfInBounds_ne (Ne.symm hjk)];exact h1,ints_set h2⟩
    case measure=>simp[intOf];omega
   obtain rfl:k=5:=by omega
   have HP:Hid (Q8 l=(stage l 5,0)):=QaU Hok.o Hs.o;have Hsl:=Zh (VJ l 5);have Htk:=Zh (λi (h:i<sizes l 5)=>Qft (l:=l) h);have hn1000:sizes l 5<=1000:=Hs.o
   have Hcl:Hid (∀k:Nat,(Q5 l k).length<=17592186044416):=λk=>by
    have h1:=Hnn.o;have h2:=Qd0 l k;have h3:=QeB l k;omega
   obtain⟨n,hn⟩:∃n,n=sizes l 5:=⟨_,rfl⟩;have HN:=Zh hn;rw[<-hn]at hn1000⊢;clear hn;obtain⟨wB,rfl⟩:∃wB:World,wB=wr:=⟨_,rfl⟩;go_wp2_with fail
   go_loopw[8,35](λov iv wi=>∃(i:Nat)(vs:Value),iv=.int .i64 i/\vs=ov/\i<=n/\Qg wi wB.heap.size 46 5 Oz vs ((stage l 5).take i)/\Below wB.heap.size wB wi) (λ_ iv _=>n-(intOf iv).toNat)
   case atStart=>exact⟨0,_,rfl,rfl,Nat.zero_le _,Qg.nil,Below.refl _ _⟩
   case round=>
    obtain⟨i,vs,rfl,rfl,hi,hown,hbi⟩:=hrel;have Hown:=Zh hown;have Hbi:=Zh hbi;have hszi:=hbi.size;clear hown hbi;by_cases hil:i<n
    .have Htki:=Zh (Htk.o i (by rw[<-HN.o];exact hil));have Hsli:Hid (((stage l 5).take i).length<=1000):=by show _<=_;rw[List.length_take];omega
     obtain⟨L,hL⟩:∃L,L=(stage l 5).take i:=⟨_,rfl⟩;rw[<-hL]at Hown Htki Hsli;obtain⟨wo,rfl⟩:∃wo:World,wo=wr:=⟨_,rfl⟩;have hiw:IntKind.i64.wrap (i:Int)=(i:Int):=IntWalk.i64_in _ (by omega);have Hleft:Hid (i<sizes l 5):=by show _<_;rw[<-HN.o];exact hil
     clear hL;go_wp2_with fail
     go_loopw[9,11](λqv kv wj=>∃j:Nat,kv=.int .i64 (4-(j:Int))/\qv=.int .i64 (leftOf l i j:Nat)/\j<=5/\wj.heap[wo.heap.size]?=some (.cells (Vr (ZU l i j)) 46)/\Below wo.heap.size wo wj) (λ_ kv _=>(intOf kv+1).toNat)
     case atStart=>exact⟨0,rfl,rfl,by omega,Qh _ _,Qa Zbr _⟩
     case round=>
      obtain⟨j,rfl,rfl,hj,hbox,hbj⟩:=hrel;have Hbox:=Zh hbox;have Hbj:=Zh hbj;have hszj:=hbj.size;have hγ:wo.heap.size<wr.heap.size:=(Array.getElem?_eq_some_iff.1 hbox).1;clear hbox hbj;by_cases hj5:j<5
      .obtain⟨k,hk⟩:∃k,k+j=4:=⟨4-j,by omega⟩;have e4:(4:Int)-(j:Int)=(k:Int):=by omega
       rw[e4];obtain⟨u,hu,hru⟩:=Hrd.o k (by omega);obtain⟨au,cu,rfl,_⟩:=Sl.form hru;obtain⟨b2,o2,rfl,_⟩:=Sl.at_ hru (Js l k);have hbB:Below wB.heap.size wB wr:=Hbi.o.trans (Hbj.o.mono hszi);obtain⟨x,hx⟩:∃x,x=leftOf l i j:=⟨_,rfl⟩;obtain⟨m,hm⟩:∃m,m=(Q5 l k).length:=⟨_,rfl⟩;have hm0:0<m:=by rw[hm];exact Js l k
       obtain⟨r,hr⟩:∃r,r=x % m:=⟨_,rfl⟩;have hrm:r<m:=by rw[hr];exact Nat.mod_lt _ hm0
       have hcell:=UR.cell (hru.belowR hbB (λ_ _ _ h=>h)) (i:=r) (by rw[<-hm];exact hrm);obtain⟨q,hq⟩:∃q,q=(Q5 l k)[r]'(by rw[<-hm];exact hrm):=⟨_,rfl⟩;rw[<-hq]at hcell
       have Hq:Hid (cutAt l k x=q):=by
        show cutAt l k x=q;have h1:=Ze l k x;rw[<-hm,<-hr,List.getElem?_eq_getElem (by rw[<-hm];exact hrm),<-hq]at h1;exact(Option.some.inj h1).symm
       have hbkj:=Qb (Qd Hbk.o hbB);have hrw:IntKind.i64.wrap (r:Int)=(r:Int):=IntWalk.i64_in _ (by omega);have hm47:m<=17592186044416:=by rw[hm];exact Hcl.o k
       have hx1:x<=1000:=by
        have h1:=(Qge Hleft.o).2 j hj;have h2:sizes l (5-j)<=sizes l 5:=Qeu l (by omega);rw[<-hx]at h1;have h3:=HN.o;omega
       have hrem:Int.tmod (x:Int) (m:Int)=(r:Int):=by rw[hr];exact(Int.ofNat_tmod x m).symm
       obtain⟨d,hd⟩:∃d,d=x / m:=⟨_,rfl⟩;have hquo:Int.tdiv (x:Int) (m:Int)=(d:Int):=by rw[hd];exact(Int.ofNat_tdiv x m).symm
       have hdx:d<=x:=by rw[hd];exact Nat.div_le_self x m
       have hdw:IntKind.i64.wrap (d:Int)=(d:Int):=IntWalk.i64_in _ (by omega);have hmn:¬(m=0):=by omega
       have hk5:(k:Int)<5:=by omega
       have hk0:(0:Int)<=(k:Int):=by omega
       have hkw:IntKind.i64.wrap (k:Int)=(k:Int):=IntWalk.i64_in _ (by omega);have hrm':(r:Int)<(m:Int):=by omega
       have hr0:(0:Int)<=(r:Int):=by omega
       rw[<-hm]at hu;rw[<-hx];have Hx:=Zh hx;have Hd:=Zh hd;have Hm:=Zh hm;obtain⟨wd,hwd⟩:∃wd,wd=wr.drew:=⟨_,rfl⟩;have Hwd:=Zh hwd;have hbkd:∀j,wd.cell? ⟨w1.heap.size,j,none⟩=cs[j]?:=λj=>by rw[hwd];exact hbkj j
       have hcelld:wd.cell? ⟨b2,o2+r,none⟩=some (.int .i64 q):=by rw[hwd];exact hcell
       have hbd:wd.heap[wo.heap.size]?=some (.cells (Vr (ZU l i j)) 46):=by rw[hwd];exact Hbox.o
       have Hbd:=Zh hbd;have hfz:=Qp hbd;have hck:(Vr (ZU l i j))[k]?=some (.int .i64 ((ZU l i j).get k)):=Ec _ k (by omega);have hbdc:=Qb hbd;clear hx hd hm hr hq hbkj hcell hbd hwd hru;go_wp2_with fail
       refine Vf (ZV 13 wd (wd.setCell ⟨wo.heap.size,k,none⟩ (.int .i64 q))) (by kernel_rfl) (by kernel_rfl) (by rw[<-Hwd.o];exact ZV.start) _ rfl ?_
       iterate 13 (refine Qk (λK hK=>?_);apply Exists.intro;refine⟨λdn W hI h0 hd hn R hR=>?_,?_⟩;(have h13:dn 13=false:=hn 13 (by decide);obtain rfl:W=wd:=hI.before h13;clear h0 hd hn hI;go_simp;exact hR _ _ (ZV.step (by decide) h13) rfl);(go_simp;refine hK _ ?_;clear hK K))
       (refine Qk (λK hK=>?_);apply Exists.intro;refine⟨λdn W hI h0 hd hn R hR=>?_,?_⟩;(obtain rfl:W=wd:=hI.before h0;clear h0 hd hn hI;go_simp;exact hR _ _ ZV.at_ rfl);(go_simp;refine hK _ ?_;clear hK K))
       intro dn W hd hI;obtain rfl:=hI.after (hd 13 (by decide));clear hd hI;have Hq':=Zh (Ed (ZU l i j) k (by omega) q);have Hst:=Zh (QJ (o:=k) (v:=.int .i64 q) Hbd.o);have hbks:∀j,(wd.setCell ⟨wo.heap.size,k,none⟩ (.int .i64 q)).cell? ⟨w1.heap.size,j,none⟩=cs[j]?:=λj=>by rw[<-hbkd j];exact World.cell?_setCell_other _ _ _ _ (by intro h;simp only[Addr.mk.injEq]at h;omega)
       have Hbd2:Hid (Below wo.heap.size wo (wd.setCell ⟨wo.heap.size,k,none⟩ (.int .i64 q))):=Qw (by rw[Hwd.o];exact Hbj.o.drew) Znl;clear hbkd hcelld hfz hbdc hmn;have hmn:¬(m=0):=by omega
       go_wp2_with fail
       go_roundw
       case rel=>(repeat apply Exists.intro);exact⟨⟨j+1,by go_num,by rw[Hd.o,Hx.o,Hm.o];show Value.int .i64 _=Value.int .i64 ((leftOf l i j / (Q5 l (4-j:Nat)).length:Nat):Int);rw[show 4-j=k by omega],by omega,by show _=some (Obj.cells (Vr ((ZU l i j).set (4-j) (cutAt l (4-j) (leftOf l i j)))) _);rw[show 4-j=k by omega,<-Hx.o,Hq.o,<-Hq'.o];exact Hst.o,Hbd2.o⟩,rfl⟩
       case measure=>first|(simp[intOf];done)|(simp[intOf];omega)
      obtain rfl:j=5:=by omega
      have Hown2:=Zh ((Hown.o.below Hbj.o).below (Qa (Below.refl _ wr) (.cells (Vr (ZU l i 5)) 46)));have Hbi2:=Zh ((Hbi.o.trans (Hbj.o.mono hszi)).trans ((Qa (Below.refl _ wr) (.cells (Vr (ZU l i 5)) 46)).mono (Nat.le_trans hszi hszj)));have hbc:=Qb Hbox.o;generalize hT:ZU l i 5=T at *;have hsl:=Hsli.o;go_wp2_with(at_builtin;refine QK rfl _ _ 232 rfl wB.heap.size 46 i0 _ 5 40 underlying232 Hi.o hz0 hz1 hz2 rfl (by decide) _ _ rfl Hown2.o _ _ rfl (Qej (x:=T) (by simp)) (λy _ cs h=>Qb1 y cs h) (by show _+1<=maxLen;unfold maxLen;omega) (by show(_+1)*40<=_;omega) (by simp;omega) ?_;intro v' w5 hown' hg' hat';have Hown':=Zh hown';have Hb5:=Zh (Hown2.o.grown Hbi2.o hg' (by simp;omega) Znl);clear hown' hg' hat')
      go_roundw
      case rel=>(repeat apply Exists.intro);exact⟨⟨i+1,v',by go_num,rfl,by omega,by rw[Htki.o];exact Hown'.o,Hb5.o⟩,rfl⟩
      case measure=>simp[intOf];omega
    obtain rfl:i=n:=by omega
    have Ho:Hid (Qg wr wB.heap.size 46 5 Oz vs (stage l 5)):=by
     have:=Hown.o;rw[List.take_of_length_le (by rw[Hsl.o,<-HN.o];exact Nat.le_refl _)]at this;exact this
    go_wp2;go_ret2;rw[HP.o];exact⟨_,rfl,Ho.o.base (by omega),Hb1.o.trans ((Hb.o.trans (Hbi.o.mono hszr)).mono hsz1)⟩
 have hb0:(VD l != 0)=true:=bne_iff_ne.2 h0;have HP:Hid (Q8 l=([],VD l)):=by show Q8 l=_;unfold Q8;rw[if_pos h0]
 clear h0;go_wp2;go_ret2;rw[HP.o];exact⟨_,rfl,Qg.nil,Hb1.o⟩
end
section
open Go.RowKit
open Go.MapKept (IsKey)
attribute [local go_sem] gives QG
def Qck(op v n:Int):Bool:=if op=1 then n==v else if op=2 then n != v else if op=3 then decide (n<v)else decide (v<=n)
theorem Qf5(c:TCond)(x:TCall):holdsB c x=Qck c.op c.v (x.get c.f):=rfl
@[reducible] def hm1(n v:Int):Array MapEntry:=#[⟨.int .i64 1,.bool (n==v),0⟩]
@[reducible] def hm2(n v:Int):Array MapEntry:=#[⟨.int .i64 1,.bool (n==v),0⟩,⟨.int .i64 2,.bool (n != v),1⟩]
@[reducible] def hm3(n v:Int):Array MapEntry:=#[⟨.int .i64 1,.bool (n==v),0⟩,⟨.int .i64 2,.bool (n != v),1⟩,⟨.int .i64 3,.bool (decide (n<v)),2⟩]
@[reducible] def hm4(n v:Int):Array MapEntry:=#[⟨.int .i64 1,.bool (n==v),0⟩,⟨.int .i64 2,.bool (n != v),1⟩,⟨.int .i64 3,.bool (decide (n<v)),2⟩,⟨.int .i64 4,.bool (decide (v<=n)),3⟩]
theorem Qie(op n v:Int)(h0:1<=op)(h1:op<=4):∃j,Instr.findNow (.int .i64) (.int .i64 op) (hm4 n v).toList 0=some (some (j,.bool (Qck op v n))):=by
 have hop:op=1\/op=2\/op=3\/op=4:=by omega
 rcases hop with rfl|rfl|rfl|rfl
 .exact⟨0,rfl⟩
 .exact⟨1,rfl⟩
 .exact⟨2,rfl⟩
 exact⟨3,rfl⟩
theorem Qfl(c:TCond)(n:Int)(w:World)(ho0:1<=c.op)(ho1:c.op<=4):Calls prog 213 #[Qh9 c,.int .i64 n] w λe w'=>e=.returned (.bool (Qck c.op c.v n))/\Below w.heap.size w w':=by
 obtain⟨f,op,v⟩:=c;dsimp only at ho0 ho1⊢;have hmm:=@run_makeMap prog;have hb:w.heap.size+1=(w.alloc (.cells #[.int .i64 f,.int .i64 op,.int .i64 v] 153)).heap.size:=by simp
 have h1:=Qx (P:=prog) (t:=273) (es:=#[]) (c:=0) (key:=.int .i64 1) (v:=.bool (n==v)) hb underlying273 underlying3 rfl rfl;have h2:=Qx (P:=prog) (t:=273) (es:=hm1 n v) (c:=1) (key:=.int .i64 2) (v:=.bool (n != v)) hb underlying273 underlying3 rfl rfl;have h3:=Qx (P:=prog) (t:=273) (es:=hm2 n v) (c:=2) (key:=.int .i64 3) (v:=.bool (decide (n<v))) hb underlying273 underlying3 rfl rfl;have h4:=Qx (P:=prog) (t:=273) (es:=hm3 n v) (c:=3) (key:=.int .i64 4) (v:=.bool (decide (v<=n))) hb underlying273 underlying3 rfl rfl;simp only[List.push_toArray,List.nil_append,List.cons_append,Nat.reduceAdd]at h1 h2 h3 h4;obtain⟨j,hf⟩:=Qie op n v ho0 ho1;have hz:∀W:World,(zeroValue 4).run prog W=.ok (.bool false) W:=λW=>by kernel_rfl
 have h5:=Vm (P:=prog) (key:=.int .i64 op) (t:=273) underlying273 underlying3 (UM (w:=w.alloc (.cells #[.int .i64 f,.int .i64 op,.int .i64 v] 153)) (o:=.map (hm4 n v) 4) hb) (hz _) rfl hf;simp only[Option.map_some,Option.getD_some]at h5;clear hz hf hb;go_enter func213,ntmps213;go_wp2;go_ret;exact⟨rfl,Qa (Qa Zbr _) _⟩
theorem Qbf(x:TCall){q:Nat}(h:q<5):(Xl x)[q]?=some (.int .i64 (x.get q)):=by
 have:q=0\/q=1\/q=2\/q=3\/q=4:=by omega
 rcases this with rfl|rfl|rfl|rfl|rfl<;>rfl
theorem Ox{x:TCall}{l:List TCond}{k:Nat}(hk:k<l.length):QN x (l.take (k+1))=(QN x (l.take k)&&holdsB l[k] x):=by
 rw[List.take_succ_eq_append_getElem hk];unfold QN;rw[List.all_append];simp
def VR(x:TCall)(rs:List TRule)(k:Nat):Nat:=k+which x (rs.drop k)
theorem Oq(x:TCall)(rs:List TRule):VR x rs rs.length=rs.length:=by unfold VR;rw[List.drop_length];rfl
theorem Qab(x:TCall)(rs:List TRule):VR x rs 0=which x rs:=by unfold VR;simp
theorem QbL{x:TCall}{rs:List TRule}{k:Nat}(h:k<rs.length)(hh:QN x rs[k].cd=true):VR x rs k=k:=by
 unfold VR;rw[O3 x rs k h,if_pos hh];rfl
theorem Qc4{x:TCall}{rs:List TRule}{k:Nat}(h:k<rs.length)(hh:QN x rs[k].cd=false):VR x rs k=VR x rs (k+1):=by
 unfold VR;rw[O3 x rs k h,hh];simp;omega
theorem Qc2{p:TPol}{k:Nat}(h:k<p.ru.length):VA p k=p.ru[k].vd:=by unfold VA;rw[List.getElem?_eq_getElem h]
theorem QbJ(p:TPol):VA p p.ru.length=p.df:=by unfold VA;rw[List.getElem?_eq_none Znl]
theorem Gm(v:Value)(p:TPol)(x:TCall)(D:Nat->Prop)(w:World)(h:Qc w D v p.ru)(hok:UT p):
  Calls prog 187 #[U8 v p.df,Yk x] w λe w'=>e=.returned (.tuple #[.int .i64 (judged p x).1,.int .i64 (judged p x).2])/\Below w.heap.size w w':=by
 obtain⟨a,c,rfl,hlc,hcm,hat⟩:=Sl.form h;have H:=Zh h;have Hok:=Zh hok;have hlen:p.ru.length<=120:=hok.len;clear h hok;go_enter func187,ntmps187;go_wp2_with fail
 have hcl:∀W,Cls (w.heap.size+2) ((w.alloc (.cells #[.slice a p.ru.length c,.int .i64 p.df] 38)).alloc (.cells (Xl x) 46)) W->∀j:Nat,W.cell? ⟨w.heap.size,j,none⟩=(#[Value.slice a p.ru.length c,.int .i64 p.df]:Array Value)[j]?:=λW hW j=>(VS hW.2).1 j;have Hcl:=Zh hcl;clear hcl;refine Qy (w.heap.size+2) (by simp) (by kernel_rfl) (by kernel_rfl) ?_
 repeat(refine QL (λK hK=>?_);apply Exists.intro;refine⟨λW hC R hR=>?_,?_⟩;(have hcell:=Hcl.o W hC;go_simp;exact hR _ _ Zbr rfl);(go_simp;refine hK _ ?_;clear hK K))
 intro w2 hC2;obtain⟨hc1,hc2⟩:=VS hC2.2;have hv0:VA p (VR x p.ru p.ru.length)=p.df:=by rw[Oq,QbJ]
 have Hv0:=Zh hv0;have Hw0:=Zh (Oq x p.ru);clear hv0;go_wp2_with fail
 go_loopw[6,7,8](λvd kk i wr=>∃(k:Nat)(z:Int),k<=p.ru.length/\Hid (z=(k:Int)-1)/\i=.int .i64 z/\vd=.int .i64 (VA p (VR x p.ru k))/\kk=.int .i64 (VR x p.ru k)/\Below (w.heap.size+2) ((w.alloc (.cells #[.slice a p.ru.length c,.int .i64 p.df] 38)).alloc (.cells (Xl x) 46)) wr) (λ_ _ i _=>(intOf i+1).toNat)
 case atStart=>exact⟨p.ru.length,_,Nat.le_refl _,rfl,rfl,by rw[Hv0.o],by rw[Hw0.o],hC2.2⟩
 case round=>
  obtain⟨k,z,hk,hz,rfl,rfl,rfl,hbx⟩:=hrel;have Hb:=Zh (XG hbx);have hsz:=Zr hbx;clear hc1 hc2 hC2 Hv0 Hw0;obtain⟨hc1,hc2⟩:=VS hbx
  cases k with
  |zero=>
   obtain rfl:z = -1:=by have:=hz.o;omega
   have Hw:=Zh (Qab x p.ru);go_wp2;go_ret2;exact⟨by rw[Hw.o];rfl,Hb.o⟩
  |succ m=>
   obtain rfl:z=m:=by have:=hz.o;omega
   have hlt:m<p.ru.length:=by omega
   obtain⟨b,o,rfl,hDb,hbb⟩:=hat (by omega);obtain⟨a',c',k0,k1,hr,hlc',hcm',hat'⟩:=Qc.cells (Qc.below H.o Hb.o) hlt;have Hr:=Zh hr;have Hrok:=Zh (Hok.o.ru _ (List.getElem_mem hlt));have hm0:(0:Int)<=m:=by omega
   clear hr;obtain⟨wo,rfl⟩:∃wo:World,wo=wr:=⟨_,rfl⟩;go_wp2_with fail
   go_loopw[9,32](λal i wr=>∃(j:Nat)(ab:Bool),j<=p.ru[m].cd.length/\i=.int .i64 j/\al=.bool ab/\Hid (ab=QN x (p.ru[m].cd.take j))/\Below wo.heap.size wo wr) (λ_ i _=>p.ru[m].cd.length-(intOf i).toNat)
   case atStart=>exact⟨0,true,by omega,rfl,rfl,rfl,Below.refl _ _⟩
   case round=>
    obtain⟨j,ab,hj,rfl,rfl,hab,hbi⟩:=hrel;have hbx':=Gv hbx hbi;have Hbx:=Zh hbx';have hszi:=hbi.size;have Hbi:=Zh hbi;clear hc1 hc2;obtain⟨hc1,hc2⟩:=VS hbx';clear hbx';by_cases hlj:j<p.ru[m].cd.length
    .obtain⟨b',o',rfl,hDb',hb'⟩:=hat' (by omega);obtain⟨d0,d1,d2⟩:=QF.cells (QF.below Hr.o Hbi.o) hlj;have Hck:=Zh (Hrok.o.cd _ (List.getElem_mem hlj));have Hsucc:=Zh (Ox (x:=x) hlj);clear k0 k1;obtain⟨q,hq⟩:∃q:Nat,p.ru[m].cd[j].f=q:=⟨p.ru[m].cd[j].f.toNat,by have:=Hck.o.f0;omega⟩;have hq5:q<5:=by have:=Hck.o.f1;omega
     rw[hq]at d0;have Hq:=Zh hq;clear hq
     have hx0:∀W,Cls (wr.heap.size+1) (wr.alloc (.cells #[.int .i64 q,.int .i64 p.ru[m].cd[j].op,.int .i64 p.ru[m].cd[j].v] 153)) W->(∀i:Nat,W.cell? ⟨wr.heap.size,i,none⟩=(#[.int .i64 q,.int .i64 p.ru[m].cd[j].op,.int .i64 p.ru[m].cd[j].v]:Array Value)[i]?)/\(∀i:Nat,W.cell? ⟨w.heap.size+1,i,none⟩=(Xl x)[i]?):=
      λW hW=>⟨UU hW.2,λi=>((hW.2.cell (p:=⟨w.heap.size+1,i,none⟩) (by show w.heap.size+1<wr.heap.size+1;omega)).trans (World.cell?_alloc_lt _ _ _ (by show w.heap.size+1<wr.heap.size;omega))).trans (hc2 i)⟩
     have Hx0:=Zh hx0;clear hx0;have Hget:=Zh (Qbf x hq5)
     cases ab with
     |true=>
      have Hn:Hid (Qck p.ru[m].cd[j].op p.ru[m].cd[j].v (x.get q)=QN x (p.ru[m].cd.take (j+1))):=by
       have h2:=Hsucc.o;rw[<-hab.o,Bool.true_and,Qf5,Hq.o]at h2;exact h2.symm
      clear hab Hsucc;have Hh:∀W:World,Calls prog 213 #[.agg #[.int .i64 q,.int .i64 p.ru[m].cd[j].op,.int .i64 p.ru[m].cd[j].v],.int .i64 (x.get q)] W λe w'=>e=.returned (.bool (Qck p.ru[m].cd[j].op p.ru[m].cd[j].v (x.get q)))/\Below W.heap.size W w':=λW=>Qfl ⟨q,_,_⟩ _ W Hck.o.o0 Hck.o.o1;have HH:=Zh Hh;clear Hh;have hqi:(q:Int)<5:=by omega
      go_wp2_with fail
      refine Qy (wr.heap.size+1) (by simp) (by kernel_rfl) (by kernel_rfl) ?_
      repeat(refine QL (λK hK=>?_);apply Exists.intro;refine⟨λW hC R hR=>?_,?_⟩;(first
       |(have hcell:=(Hx0.o W hC).1;go_simp;exact hR _ _ Zbr rfl)
       |(have hcell:=((Hx0.o W hC).2 q).trans Hget.o;go_simp;exact hR _ _ Zbr rfl)
       |(go_simp;go_at_call 213;refine(HH.o _).mono ?_;rintro e w1 ⟨rfl,hb1⟩;exact⟨_,rfl,hR _ _ hb1 rfl⟩));(go_simp;refine hK _ ?_;clear hK K))
      intro w2 hC2;go_wp2_with fail
      go_roundw
      case rel=>exact⟨j+1,_,by omega,by go_num,rfl,Hn,Hbi.o.trans ((UL hC2.2).mono Hbi.o.size)⟩
      case measure=>simp[intOf];omega
     |false=>
      have Hn:Hid (false=QN x (p.ru[m].cd.take (j+1))):=by
       have h2:=Hsucc.o;rw[<-hab.o,Bool.false_and]at h2;exact h2.symm
      clear hab Hsucc;go_wp2_with fail
      refine Qy (wr.heap.size+1) (by simp) (by kernel_rfl) (by kernel_rfl) ?_
      repeat(refine QL (λK hK=>?_);apply Exists.intro;refine⟨λW hC R hR=>?_,?_⟩;(go_simp;exact hR _ _ Zbr rfl);(go_simp;refine hK _ ?_;clear hK K))
      intro w2 hC2;go_wp2_with fail
      go_roundw
      case rel=>exact⟨j+1,_,by omega,by go_num,rfl,Hn,Hbi.o.trans ((UL hC2.2).mono Hbi.o.size)⟩
      case measure=>simp[intOf];omega
    obtain rfl:j=p.ru[m].cd.length:=by omega
    have Hab:Hid (ab=QN x p.ru[m].cd):=by have:=hab.o;rwa [List.take_length]at this
    have k1':=(Hbi.o.cell (p:=⟨b,o+m*2+1,none⟩) (World.block_lt_of_cell? _ _ k1)).trans k1;clear k0 k1 hab hat'
    cases ab with
    |true=>
     have Hn:=Zh (QbL hlt Hab.o.symm);have Hvv:=Zh (Qc2 hlt);clear Hab;go_wp2
     go_roundw
     case rel=>exact⟨m,(m:Int)-1,by omega,rfl,rfl,by rw[Hn.o,Hvv.o],by rw[Hn.o],Hbx.o⟩
     case measure=>simp[intOf]
    |false=>
     have Hn:=Zh (Qc4 hlt Hab.o.symm);clear Hab;go_wp2
     go_roundw
     case rel=>exact⟨m,(m:Int)-1,by omega,rfl,rfl,by rw[Hn.o],by rw[Hn.o],Hbx.o⟩
     case measure=>simp[intOf]
end
end Go.Proofs.YthkgjohhbdipcaaGreatDoor
