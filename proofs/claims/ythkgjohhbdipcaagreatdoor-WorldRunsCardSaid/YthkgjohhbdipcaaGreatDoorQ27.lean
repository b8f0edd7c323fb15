/- Texts laid one behind the other: Filter, ChainCopy, Meet, Delta, Tighten, RTight. No condition beyond theirs. -/
import Derived.Test.YthkgjohhbdipcaaGreatDoorQ13
import Derived.Test.YthkgjohhbdipcaaGreatDoorQ26
import Derived.Test.YthkgjohhbdipcaaGreatDoorQ4
import Derived.Test.YthkgjohhbdipcaaGreatDoorQ8
import Derived.Test.YthkgjohhbdipcaaGreatDoorQ3
import Derived.Test.YthkgjohhbdipcaaGreatDoorQ21
import Derived.Test.YthkgjohhbdipcaaGreatDoorQ25
import Derived.Test.YthkgjohhbdipcaaGreatDoorQ23
import Derived.Laws.ResultCell
import Derived.Test.YthkgjohhbdipcaaGreatDoorQ9
set_option linter.all false
set_option maxHeartbeats 64000000
set_option maxRecDepth 100000
namespace Go.Proofs.YthkgjohhbdipcaaGreatDoor
open Tryz
section
open Go.RowKit
def UV:List TCond->List TIns
 |[]=>[]
 |c::r=>⟨1,c.f,0,0⟩::Ul c (2*r.length+1)::UV r
theorem Ia:∀(cs:List TCond)(v:Int),Uu cs v=UV cs++[⟨4,v,0,0⟩]
 |[],_=>rfl
 |c::r,v=>by simp only[Uu,UV,List.cons_append,Ia r v]
theorem YN:∀(cs:List TCond),(UV cs).length=2*cs.length
 |[]=>rfl
 |c::r=>by simp only[UV,List.length_cons,YN r];omega
theorem GI:∀(cs:List TCond)(k:Nat)(h:k<cs.length),(UV cs).take (2*(k+1))=(UV cs).take (2*k)++[⟨1,cs[k].f,0,0⟩,Ul cs[k] (2*(cs.length:Int)+1-2*k-2)]
 |c::r,0,_=>by
  simp only[UV,List.take_succ_cons,List.take_zero,Nat.mul_zero,List.nil_append,Nat.zero_add,Nat.mul_one,List.getElem_cons_zero,List.length_cons];congr 3
  omega
 |c::r,k+1,h=>by
  have ih:=GI r k (by simpa using h);have e1:2*(k+1+1)=2*(k+1)+1+1:=by omega
  have e2:2*(k+1)=2*k+1+1:=by omega
  have e3:(2*((c::r).length:Int)+1-2*((k+1:Nat):Int)-2)=2*(r.length:Int)+1-2*(k:Int)-2:=by simp;omega
  rw[e3,e1];simp only[UV,List.take_succ_cons,List.getElem_cons_succ];rw[ih]
  conv=>rhs;rw[e2]
  simp only[List.take_succ_cons,List.cons_append]
theorem Gl(v:Value)(p:TPol)(D:Nat->Prop)(w:World)(h:Qc w D v p.ru):
  Calls prog 93 #[U8 v p.df] w λe w'=>∃l,e=.returned (.tuple #[l,.int .i64 (Uy p).2])/\QW w' (λb=>w.heap.size<=b) l (Uy p).1/\Below w.heap.size w w':=by
 have H:=Zh h;obtain⟨a,c,rfl,hlc,hcm,hat⟩:=Sl.form h;clear h;by_cases hp:UZ p=0
 .have hok:=(UN p).1 hp
  have Hlen:Hid (∀k,k<=p.ru.length->(Uk (p.ru.take k)).length<=21*120):=λk hk=>by
   have h1:=Zq (λr hr=>(hok.ru r hr).len) k hk;have h2:=hok.len;omega
  have HF:Hid (Uy p=if 1500<(Q7 p).length then([],2)else(Q7 p,0)):=by show Uy p=_;unfold Uy;rw[if_neg (by omega)]
  have hn:=hok.len;have Hok:=Zh hok;have Hp:=Zh hp;obtain⟨i0,hi,hz0,hz1,hz2⟩:=info_parts EF;have Hi:=Zh hi;clear hok hp hi;go_enter func93,ntmps93;go_wp2_with fail
  refine(Vz _ p D _ (Qc.below H.o (Qa Zbr _))).mono ?_;rw[Hp.o];rintro e w1⟨rfl,hb1⟩;have hb1':Below (w.heap.size+1) _ w1:=hb1.mono (by simp);have hc1:=UU hb1';have Hb1:=Zh hb1';clear hb1 hb1';go_wp2_with fail
  go_loopw[5,21](λov kv wr=>∃(k:Nat)(vs:Value),kv=.int .i64 k/\vs=ov/\k<=p.ru.length/\Qg wr (w.heap.size+1) 141 4 Gt vs (Uk (p.ru.take k))/\Below (w.heap.size+1) (w.alloc (.cells #[.slice a p.ru.length c,.int .i64 p.df] 38)) wr) (λ_ kv _=>p.ru.length-(intOf kv).toNat)
  case atStart=>exact⟨0,_,rfl,rfl,by omega,Qg.nil,Hb1.o⟩
  case round=>
   obtain⟨k,vs,rfl,rfl,hk,hown,hb⟩:=hrel;have hbc:=UU hb;have hbw:=UL hb;have hsz:=U5 hb;have Hown:=Zh hown;have Hb:=Zh hb;have Hbw:=Zh hbw;clear hc1 hown hb hbw;by_cases hlt:k<p.ru.length
   .obtain⟨b,o,rfl,hDb,hblt⟩:=hat (by omega);obtain⟨ca,cc,hc0w,hc1w,hrd,hcl,hcmx,hcat⟩:=Qc.cells H.o hlt;obtain⟨r,hr⟩:∃r,p.ru[k]=r:=⟨_,rfl⟩;have Hkr:=Zh (Hok.o.ru p.ru[k] (List.getElem_mem hlt));rw[hr]at hc0w hc1w hrd hcl hcat Hkr;have Hrd:=Zh hrd;have hc0:=(Hbw.o.cell (p:=⟨b,o+k*2,none⟩) hblt).trans hc0w;have hc1:=(Hbw.o.cell (p:=⟨b,o+k*2+1,none⟩) hblt).trans hc1w;have hl10:=Hkr.o.len;have Hl:=Zh (Hlen.o (k+1) (by omega));have Hs:Hid (Uk (p.ru.take (k+1))=Uk (p.ru.take k)++(UV r.cd++[⟨4,r.vd,0,0⟩])):=by show Uk _=_;rw[Oe hlt,hr,Ia]
    have Hll:Hid ((Uk (p.ru.take k)).length+(2*r.cd.length+1)<=21*120):=by have:=Hl.o;rw[Hs.o]at this;simp only[List.length_append,YN,List.length_singleton]at this;exact this
    obtain⟨wo,rfl⟩:∃wo:World,wo=wr:=⟨_,rfl⟩;have hob:vs.ownBlock≠some wo.heap.size:=λe=>by obtain⟨rows,_,hrw⟩:=Hown.o;have:=(hrw.lt _ e).2;omega
    have Hob:=Zh hob;clear hrd hr hob hc0w hc1w;go_wp2_with fail
    clear hc0 hc1 hbc
    go_loopw[5,33](λov iv wi=>∃(j:Nat)(vi:Value),iv=.int .i64 j/\vi=ov/\j<=r.cd.length/\Qg wi (w.heap.size+1) 141 4 Gt vi (Uk (p.ru.take k)++(UV r.cd).take (2*j))/\Below (w.heap.size+1) (w.alloc (.cells #[.slice (some ⟨b,o,none⟩) p.ru.length c,.int .i64 p.df] 38)) wi /\
     wi.heap[wo.heap.size]?=some (.cells #[.slice ca r.cd.length cc,.int .i64 r.vd] 147)/\vi.ownBlock≠some wo.heap.size/\wo.heap.size<wi.heap.size) (λ_ iv _=>r.cd.length-(intOf iv).toNat)
    case atStart=>exact⟨0,vs,rfl,rfl,by omega,by simpa using Hown.o.below (Qa Zbr _),Hb.o.trans ((Qa (Below.refl _ wo) _).mono hsz),Qh _ _,Hob.o,by simp⟩
    case round=>
     obtain⟨j,vi,rfl,rfl,hj,howni,hbi,hbox,hnob,hszi⟩:=hrel;have Howni:=Zh howni;have Hbi:=Zh hbi;have Hbox:=Zh hbox;have Hnob:=Zh hnob;have hbwi:=UL hbi;have Hbwi:=Zh hbwi;clear howni hbi hbox hnob hbwi;by_cases hjl:j<r.cd.length
     .obtain⟨b2,o2,rfl,hDb2,hblt2⟩:=hcat (by omega);obtain⟨hd0,hd1,hd2⟩:=QF.cells (Hrd.o.below Hbwi.o) hjl;have Hoc:=Zh (Hkr.o.cd r.cd[j] (List.getElem_mem hjl));have HT:=Zh (GI r.cd j hjl)
      have Hll2:Hid ((Uk (p.ru.take k)++(UV r.cd).take (2*j)).length<=21*120):=by
       show _<=_;have:=Hll.o;rw[List.length_append,List.length_take];omega
      obtain⟨⟨cf,cop,cv⟩,hcj⟩:∃y:TCond,r.cd[j]=y:=⟨_,rfl⟩;rw[hcj]at hd0 hd1 hd2 HT Hoc;obtain⟨left,hleft⟩:∃left:Int,2*(r.cd.length:Int)+1-2*(j:Int)-2=left:=⟨_,rfl⟩;rw[hleft]at HT;have ho0:1<=cop:=Hoc.o.o0;have ho1:cop<=4:=Hoc.o.o1;dsimp only at hd0 hd1 hd2;clear hcj;rcases(by omega:cop=1\/cop=2\/cop=3\/cop=4)with rfl|rfl|rfl|rfl
      .have HT2:Hid ((UV r.cd).take (2*(j+1))=(UV r.cd).take (2*j)++[⟨1,cf,0,0⟩,⟨2,cv,0,left⟩]):=by show _=_;rw[HT.o];rfl
       have Hnew:Hid (QW (((wr.alloc (.cells #[.int .i64 cf,.int .i64 1,.int .i64 cv] 153)).alloc (.cells #[.int .i64 2,.int .i64 cv,.int .i64 0,.int .i64 left] 141)).alloc (.cells #[.int .i64 1,.int .i64 cf,.int .i64 0,.int .i64 0,.int .i64 2,.int .i64 cv,.int .i64 0,.int .i64 left] 141)) (λ_=>True) (.slice (some ⟨wr.heap.size+1+1,0,none⟩) 2 2) [⟨1,cf,0,0⟩,⟨2,cv,0,left⟩]):=
        Ub (R:=Gt) (sz:=4) (xs:=[(⟨1,cf,0,0⟩:TIns),⟨2,cv,0,left⟩]) (rows:=[[.int .i64 1,.int .i64 cf,.int .i64 0,.int .i64 0],[.int .i64 2,.int .i64 cv,.int .i64 0,.int .i64 left]]) (Qq.cons (Qq.cons Qq.nil rfl rfl) rfl rfl) (UM (by simp)) rfl trivial (by simp[maxLen])
       have Hown3:=Zh (Howni.o.below (Qa (Qa (Qa (Below.refl _ wr) (.cells #[.int .i64 cf,.int .i64 1,.int .i64 cv] 153)) (.cells #[.int .i64 2,.int .i64 cv,.int .i64 0,.int .i64 left] 141)) (.cells #[.int .i64 1,.int .i64 cf,.int .i64 0,.int .i64 0,.int .i64 2,.int .i64 cv,.int .i64 0,.int .i64 left] 141)));have Hbox3:=Zh (QQ (o:=(.cells #[.int .i64 1,.int .i64 cf,.int .i64 0,.int .i64 0,.int .i64 2,.int .i64 cv,.int .i64 0,.int .i64 left] 141)) (QQ (o:=(.cells #[.int .i64 2,.int .i64 cv,.int .i64 0,.int .i64 left] 141)) (QQ (o:=(.cells #[.int .i64 cf,.int .i64 1,.int .i64 cv] 153)) Hbox.o)));have Hbi3:=Zh (Hbi.o.trans ((Qa (Qa (Qa (Below.refl _ wr) (.cells #[.int .i64 cf,.int .i64 1,.int .i64 cv] 153)) (.cells #[.int .i64 2,.int .i64 cv,.int .i64 0,.int .i64 left] 141)) (.cells #[.int .i64 1,.int .i64 cf,.int .i64 0,.int .i64 0,.int .i64 2,.int .i64 cv,.int .i64 0,.int .i64 left] 141)).mono (by omega)));go_wp2_with(at_builtin;refine QK rfl _ _ 98 rfl (w.heap.size+1) 141 i0 _ 4 32 underlying98 Hi.o hz0 hz1 hz2 rfl (by decide) _ _ rfl Hown3.o _ _ rfl Hnew.o (λy _ cs h=>Jg y cs h) (by have:=Hll2.o;show _+2<=maxLen;unfold maxLen;omega) (by have:=Hll2.o;show(_+2)*32<=_;omega) (by simp;omega) ?_;intro v' w3 hown' hg hat';have Hown':=Zh hown';have Hb3:=Zh (Hown3.o.grown Hbi3.o hg (by simp;omega) Znl);have Hx3:=Zh ((hg.block wo.heap.size (by simp;omega) (λe=>Hnob.o e.symm)).trans Hbox3.o);have Hn3:Hid (v'.ownBlock≠some wo.heap.size):=(λe=>hat'.elim (λe'=>Hnob.o (e'.symm.trans e)) (λe'=>by have:=e'.symm.trans e;simp at this;omega));have hs3:wo.heap.size<w3.heap.size:=(by have:=hg.size;simp at this;omega);clear hown' hg hat')
       go_roundw
       case rel=>exact⟨j+1,v',by go_num,rfl,by omega,by rw[HT2.o,<-List.append_assoc];exact Hown'.o,Hb3.o,Hx3.o,Hn3.o,hs3⟩
       case measure=>simp[intOf];omega
      .have HT2:Hid ((UV r.cd).take (2*(j+1))=(UV r.cd).take (2*j)++[⟨1,cf,0,0⟩,⟨2,cv,left,0⟩]):=by show _=_;rw[HT.o];rfl
       have Hnew:Hid (QW (((wr.alloc (.cells #[.int .i64 cf,.int .i64 2,.int .i64 cv] 153)).alloc (.cells #[.int .i64 2,.int .i64 cv,.int .i64 left,.int .i64 0] 141)).alloc (.cells #[.int .i64 1,.int .i64 cf,.int .i64 0,.int .i64 0,.int .i64 2,.int .i64 cv,.int .i64 left,.int .i64 0] 141)) (λ_=>True) (.slice (some ⟨wr.heap.size+1+1,0,none⟩) 2 2) [⟨1,cf,0,0⟩,⟨2,cv,left,0⟩]):=
        Ub (R:=Gt) (sz:=4) (xs:=[(⟨1,cf,0,0⟩:TIns),⟨2,cv,left,0⟩]) (rows:=[[.int .i64 1,.int .i64 cf,.int .i64 0,.int .i64 0],[.int .i64 2,.int .i64 cv,.int .i64 left,.int .i64 0]]) (Qq.cons (Qq.cons Qq.nil rfl rfl) rfl rfl) (UM (by simp)) rfl trivial (by simp[maxLen])
       have Hown3:=Zh (Howni.o.below (Qa (Qa (Qa (Below.refl _ wr) (.cells #[.int .i64 cf,.int .i64 2,.int .i64 cv] 153)) (.cells #[.int .i64 2,.int .i64 cv,.int .i64 left,.int .i64 0] 141)) (.cells #[.int .i64 1,.int .i64 cf,.int .i64 0,.int .i64 0,.int .i64 2,.int .i64 cv,.int .i64 left,.int .i64 0] 141)));have Hbox3:=Zh (QQ (o:=(.cells #[.int .i64 1,.int .i64 cf,.int .i64 0,.int .i64 0,.int .i64 2,.int .i64 cv,.int .i64 left,.int .i64 0] 141)) (QQ (o:=(.cells #[.int .i64 2,.int .i64 cv,.int .i64 left,.int .i64 0] 141)) (QQ (o:=(.cells #[.int .i64 cf,.int .i64 2,.int .i64 cv] 153)) Hbox.o)));have Hbi3:=Zh (Hbi.o.trans ((Qa (Qa (Qa (Below.refl _ wr) (.cells #[.int .i64 cf,.int .i64 2,.int .i64 cv] 153)) (.cells #[.int .i64 2,.int .i64 cv,.int .i64 left,.int .i64 0] 141)) (.cells #[.int .i64 1,.int .i64 cf,.int .i64 0,.int .i64 0,.int .i64 2,.int .i64 cv,.int .i64 left,.int .i64 0] 141)).mono (by omega)));go_wp2_with(at_builtin;refine QK rfl _ _ 98 rfl (w.heap.size+1) 141 i0 _ 4 32 underlying98 Hi.o hz0 hz1 hz2 rfl (by decide) _ _ rfl Hown3.o _ _ rfl Hnew.o (λy _ cs h=>Jg y cs h) (by have:=Hll2.o;show _+2<=maxLen;unfold maxLen;omega) (by have:=Hll2.o;show(_+2)*32<=_;omega) (by simp;omega) ?_;intro v' w3 hown' hg hat';have Hown':=Zh hown';have Hb3:=Zh (Hown3.o.grown Hbi3.o hg (by simp;omega) Znl);have Hx3:=Zh ((hg.block wo.heap.size (by simp;omega) (λe=>Hnob.o e.symm)).trans Hbox3.o);have Hn3:Hid (v'.ownBlock≠some wo.heap.size):=(λe=>hat'.elim (λe'=>Hnob.o (e'.symm.trans e)) (λe'=>by have:=e'.symm.trans e;simp at this;omega));have hs3:wo.heap.size<w3.heap.size:=(by have:=hg.size;simp at this;omega);clear hown' hg hat')
       go_roundw
       case rel=>exact⟨j+1,v',by go_num,rfl,by omega,by rw[HT2.o,<-List.append_assoc];exact Hown'.o,Hb3.o,Hx3.o,Hn3.o,hs3⟩
       case measure=>simp[intOf];omega
      .have HT2:Hid ((UV r.cd).take (2*(j+1))=(UV r.cd).take (2*j)++[⟨1,cf,0,0⟩,⟨3,cv,0,left⟩]):=by show _=_;rw[HT.o];rfl
       have Hnew:Hid (QW (((wr.alloc (.cells #[.int .i64 cf,.int .i64 3,.int .i64 cv] 153)).alloc (.cells #[.int .i64 3,.int .i64 cv,.int .i64 0,.int .i64 left] 141)).alloc (.cells #[.int .i64 1,.int .i64 cf,.int .i64 0,.int .i64 0,.int .i64 3,.int .i64 cv,.int .i64 0,.int .i64 left] 141)) (λ_=>True) (.slice (some ⟨wr.heap.size+1+1,0,none⟩) 2 2) [⟨1,cf,0,0⟩,⟨3,cv,0,left⟩]):=
        Ub (R:=Gt) (sz:=4) (xs:=[(⟨1,cf,0,0⟩:TIns),⟨3,cv,0,left⟩]) (rows:=[[.int .i64 1,.int .i64 cf,.int .i64 0,.int .i64 0],[.int .i64 3,.int .i64 cv,.int .i64 0,.int .i64 left]]) (Qq.cons (Qq.cons Qq.nil rfl rfl) rfl rfl) (UM (by simp)) rfl trivial (by simp[maxLen])
       have Hown3:=Zh (Howni.o.below (Qa (Qa (Qa (Below.refl _ wr) (.cells #[.int .i64 cf,.int .i64 3,.int .i64 cv] 153)) (.cells #[.int .i64 3,.int .i64 cv,.int .i64 0,.int .i64 left] 141)) (.cells #[.int .i64 1,.int .i64 cf,.int .i64 0,.int .i64 0,.int .i64 3,.int .i64 cv,.int .i64 0,.int .i64 left] 141)));have Hbox3:=Zh (QQ (o:=(.cells #[.int .i64 1,.int .i64 cf,.int .i64 0,.int .i64 0,.int .i64 3,.int .i64 cv,.int .i64 0,.int .i64 left] 141)) (QQ (o:=(.cells #[.int .i64 3,.int .i64 cv,.int .i64 0,.int .i64 left] 141)) (QQ (o:=(.cells #[.int .i64 cf,.int .i64 3,.int .i64 cv] 153)) Hbox.o)));have Hbi3:=Zh (Hbi.o.trans ((Qa (Qa (Qa (Below.refl _ wr) (.cells #[.int .i64 cf,.int .i64 3,.int .i64 cv] 153)) (.cells #[.int .i64 3,.int .i64 cv,.int .i64 0,.int .i64 left] 141)) (.cells #[.int .i64 1,.int .i64 cf,.int .i64 0,.int .i64 0,.int .i64 3,.int .i64 cv,.int .i64 0,.int .i64 left] 141)).mono (by omega)));go_wp2_with(at_builtin;refine QK rfl _ _ 98 rfl (w.heap.size+1) 141 i0 _ 4 32 underlying98 Hi.o hz0 hz1 hz2 rfl (by decide) _ _ rfl Hown3.o _ _ rfl Hnew.o (λy _ cs h=>Jg y cs h) (by have:=Hll2.o;show _+2<=maxLen;unfold maxLen;omega) (by have:=Hll2.o;show(_+2)*32<=_;omega) (by simp;omega) ?_;intro v' w3 hown' hg hat';have Hown':=Zh hown';have Hb3:=Zh (Hown3.o.grown Hbi3.o hg (by simp;omega) Znl);have Hx3:=Zh ((hg.block wo.heap.size (by simp;omega) (λe=>Hnob.o e.symm)).trans Hbox3.o);have Hn3:Hid (v'.ownBlock≠some wo.heap.size):=(λe=>hat'.elim (λe'=>Hnob.o (e'.symm.trans e)) (λe'=>by have:=e'.symm.trans e;simp at this;omega));have hs3:wo.heap.size<w3.heap.size:=(by have:=hg.size;simp at this;omega);clear hown' hg hat')
       go_roundw
       case rel=>exact⟨j+1,v',by go_num,rfl,by omega,by rw[HT2.o,<-List.append_assoc];exact Hown'.o,Hb3.o,Hx3.o,Hn3.o,hs3⟩
       case measure=>simp[intOf];omega
      have HT2:Hid ((UV r.cd).take (2*(j+1))=(UV r.cd).take (2*j)++[⟨1,cf,0,0⟩,⟨3,cv,left,0⟩]):=by show _=_;rw[HT.o];rfl
      have Hnew:Hid (QW (((wr.alloc (.cells #[.int .i64 cf,.int .i64 4,.int .i64 cv] 153)).alloc (.cells #[.int .i64 3,.int .i64 cv,.int .i64 left,.int .i64 0] 141)).alloc (.cells #[.int .i64 1,.int .i64 cf,.int .i64 0,.int .i64 0,.int .i64 3,.int .i64 cv,.int .i64 left,.int .i64 0] 141)) (λ_=>True) (.slice (some ⟨wr.heap.size+1+1,0,none⟩) 2 2) [⟨1,cf,0,0⟩,⟨3,cv,left,0⟩]):=
       Ub (R:=Gt) (sz:=4) (xs:=[(⟨1,cf,0,0⟩:TIns),⟨3,cv,left,0⟩]) (rows:=[[.int .i64 1,.int .i64 cf,.int .i64 0,.int .i64 0],[.int .i64 3,.int .i64 cv,.int .i64 left,.int .i64 0]]) (Qq.cons (Qq.cons Qq.nil rfl rfl) rfl rfl) (UM (by simp)) rfl trivial (by simp[maxLen])
      have Hown3:=Zh (Howni.o.below (Qa (Qa (Qa (Below.refl _ wr) (.cells #[.int .i64 cf,.int .i64 4,.int .i64 cv] 153)) (.cells #[.int .i64 3,.int .i64 cv,.int .i64 left,.int .i64 0] 141)) (.cells #[.int .i64 1,.int .i64 cf,.int .i64 0,.int .i64 0,.int .i64 3,.int .i64 cv,.int .i64 left,.int .i64 0] 141)));have Hbox3:=Zh (QQ (o:=(.cells #[.int .i64 1,.int .i64 cf,.int .i64 0,.int .i64 0,.int .i64 3,.int .i64 cv,.int .i64 left,.int .i64 0] 141)) (QQ (o:=(.cells #[.int .i64 3,.int .i64 cv,.int .i64 left,.int .i64 0] 141)) (QQ (o:=(.cells #[.int .i64 cf,.int .i64 4,.int .i64 cv] 153)) Hbox.o)));have Hbi3:=Zh (Hbi.o.trans ((Qa (Qa (Qa (Below.refl _ wr) (.cells #[.int .i64 cf,.int .i64 4,.int .i64 cv] 153)) (.cells #[.int .i64 3,.int .i64 cv,.int .i64 left,.int .i64 0] 141)) (.cells #[.int .i64 1,.int .i64 cf,.int .i64 0,.int .i64 0,.int .i64 3,.int .i64 cv,.int .i64 left,.int .i64 0] 141)).mono (by omega)));go_wp2_with(at_builtin;refine QK rfl _ _ 98 rfl (w.heap.size+1) 141 i0 _ 4 32 underlying98 Hi.o hz0 hz1 hz2 rfl (by decide) _ _ rfl Hown3.o _ _ rfl Hnew.o (λy _ cs h=>Jg y cs h) (by have:=Hll2.o;show _+2<=maxLen;unfold maxLen;omega) (by have:=Hll2.o;show(_+2)*32<=_;omega) (by simp;omega) ?_;intro v' w3 hown' hg hat';have Hown':=Zh hown';have Hb3:=Zh (Hown3.o.grown Hbi3.o hg (by simp;omega) Znl);have Hx3:=Zh ((hg.block wo.heap.size (by simp;omega) (λe=>Hnob.o e.symm)).trans Hbox3.o);have Hn3:Hid (v'.ownBlock≠some wo.heap.size):=(λe=>hat'.elim (λe'=>Hnob.o (e'.symm.trans e)) (λe'=>by have:=e'.symm.trans e;simp at this;omega));have hs3:wo.heap.size<w3.heap.size:=(by have:=hg.size;simp at this;omega);clear hown' hg hat')
      go_roundw
      case rel=>exact⟨j+1,v',by go_num,rfl,by omega,by rw[HT2.o,<-List.append_assoc];exact Hown'.o,Hb3.o,Hx3.o,Hn3.o,hs3⟩
      case measure=>simp[intOf];omega
     obtain rfl:j=r.cd.length:=by omega
     have hcr:=Qb Hbox.o;have hl2:Hid ((UV r.cd).take (2*r.cd.length)=UV r.cd):=by show _=_;rw[<-YN,List.take_length]
     have Hlen2:Hid ((Uk (p.ru.take k)++(UV r.cd).take (2*r.cd.length)).length<=21*120):=by
      show _<=_;have:=Hll.o;rw[hl2.o,List.length_append,YN];omega
     have Hnew:Hid (QW (wr.alloc (.cells #[.int .i64 4,.int .i64 r.vd,.int .i64 0,.int .i64 0] 141)) (λ_=>True) (.slice (some ⟨wr.heap.size,0,none⟩) 1 1) [⟨4,r.vd,0,0⟩]):=
      Ub (R:=Gt) (sz:=4) (xs:=[(⟨4,r.vd,0,0⟩:TIns)]) (rows:=[[.int .i64 4,.int .i64 r.vd,.int .i64 0,.int .i64 0]]) (Qq.cons Qq.nil rfl rfl) (Qh _ _) rfl trivial (by simp[maxLen])
     have Hown3:=Zh (Howni.o.below (Qa (Below.refl _ wr) (.cells #[.int .i64 4,.int .i64 r.vd,.int .i64 0,.int .i64 0] 141)));have Hbi3:=Zh (Hbi.o.trans ((Qa (Below.refl _ wr) (.cells #[.int .i64 4,.int .i64 r.vd,.int .i64 0,.int .i64 0] 141)).mono (by omega)));go_wp2_with(at_builtin;refine U6 rfl _ _ 98 rfl (w.heap.size+1) 141 i0 _ 4 32 underlying98 Hi.o hz0 hz1 hz2 rfl (by decide) _ _ rfl Hown3.o _ _ rfl Hnew.o (λy _ cs h=>Jg y cs h) (by have:=Hlen2.o;show _+1<=maxLen;unfold maxLen;omega) (by have:=Hlen2.o;show(_+1)*32<=_;omega) (by simp;omega) ?_;intro v' w3 hown' hg;have Hown':=Zh hown';have Hb3:=Zh (Hown3.o.grown Hbi3.o hg (by simp;omega) Znl);clear hown' hg)
     go_roundw
     case rel=>exact⟨k+1,v',by go_num,rfl,by omega,by have:=Hown'.o;rw[hl2.o]at this;rw[Hs.o,<-List.append_assoc];exact this,Hb3.o⟩
     case measure=>simp[intOf];omega
   obtain rfl:k=p.ru.length:=by omega
   have Hl:=Zh (Hlen.o p.ru.length Znl)
   have Hnew:Hid (QW (wr.alloc (.cells #[.int .i64 4,.int .i64 p.df,.int .i64 0,.int .i64 0] 141)) (λ_=>True) (.slice (some ⟨wr.heap.size,0,none⟩) 1 1) [⟨4,p.df,0,0⟩]):=
    Ub (R:=Gt) (sz:=4) (xs:=[(⟨4,p.df,0,0⟩:TIns)]) (rows:=[[.int .i64 4,.int .i64 p.df,.int .i64 0,.int .i64 0]]) (Qq.cons Qq.nil rfl rfl) (Qh _ _) rfl trivial (by simp[maxLen])
   have Hown3:=Zh (Hown.o.below (Qa (Below.refl _ wr) (.cells #[.int .i64 4,.int .i64 p.df,.int .i64 0,.int .i64 0] 141)));go_wp2_with(at_builtin;refine U6 rfl _ _ 98 rfl (w.heap.size+1) 141 i0 _ 4 32 underlying98 Hi.o hz0 hz1 hz2 rfl (by decide) _ _ rfl Hown3.o _ _ rfl Hnew.o (λy _ cs h=>Jg y cs h) (by have:=Hl.o;show _+1<=maxLen;unfold maxLen;omega) (by have:=Hl.o;show(_+1)*32<=_;omega) (by simp;omega) ?_;intro v' w3 hown' hg;rw[List.take_length]at hown';have Hown':=Zh hown';have Hb3:=Zh (Hown3.o.grown (Hb.o.trans ((Qa (Below.refl _ wr) _).mono hsz)) hg (by simp;omega) Znl);clear hown' hg;have HcF:Hid (QW w3 (λb=>w.heap.size<=b) v' (Q7 p)):=(Hown'.o.sl λb h=>by omega);obtain⟨af,cf,rfl,_,_⟩:=Sl.form HcF.o;by_cases hbig:1500<(Q7 p).length)
   .have HF2:Hid (Uy p=([],2)):=by show Uy p=_;rw[HF.o,if_pos hbig]
    go_wp2;go_ret2;rw[HF2.o];exact⟨_,rfl,Qhz _ _,UL Hb3.o⟩
   have HF2:Hid (Uy p=(Q7 p,0)):=by show Uy p=_;rw[HF.o,if_neg hbig]
   go_wp2;go_ret2;rw[HF2.o];exact⟨_,rfl,HcF.o,UL Hb3.o⟩
 have HF:Hid (Uy p=([],UZ p)):=by show Uy p=_;unfold Uy;rw[if_pos hp]
 have b0:(UZ p != 0)=true:=bne_iff_ne.2 hp;clear hp;go_enter func93,ntmps93;go_wp2_with fail
 refine(Vz _ p D _ (Qc.below H.o (Qa Zbr _))).mono ?_;rintro e w1⟨rfl,hb1⟩;have hb1':Below (w.heap.size+1) _ w1:=hb1.mono (by simp);have Hb1:=Zh hb1';clear hb1 hb1';go_wp2;go_ret2;rw[HF.o];exact⟨_,rfl,Qhz _ _,UL Hb1.o⟩
end
section
open Go.RowKit
theorem Qhk(y:TIns)(cs:List Value)(h:Gt y cs):∀c∈cs,c.oneCell'=true:=by
 unfold Gt at h;subst h;simp[Value.oneCell']
theorem Jq{w:World}{D:Nat->Prop}(y:List TIns)(cs:List Value)(h:XQ w D y cs):∀c∈cs,c.oneCell'=true:=by
 obtain⟨u,rfl,h⟩:=h;obtain⟨a,c,rfl,_⟩:=Sl.form h;simp[Value.oneCell']
def Qca(w:World)(g B:Nat)(y:List TIns×Bool)(cs:List Value):Prop:=∃u,cs=[u]/\QW w (λb=>b≠g/\(y.2=true->B<=b)) u y.1
theorem Qg.unmark{w:World}{base B g:Nat}{e:TypeId}{v:Value}{l:List (List TIns)}(h:Qg w base e 1 (Qca w g B) v (l.map λf=>(f,true))):Qg w base e 1 (XQ w (λb=>B<=b/\b≠g)) v l:=by
 obtain⟨rows,hr,ho⟩:=h;refine⟨rows,⟨by simpa using hr.len,hr.size,λi x r hx hk=>?_⟩,by simpa using ho⟩;obtain⟨u,h1,h2⟩:=hr.rel i (x,true) r (by rw[List.getElem?_map,hx];rfl) hk;exact⟨u,h1,h2.keep (λ_ hb _=>⟨hb.2 rfl,hb.1⟩) (λ_ _ _=>rfl) Znl⟩
theorem Qg.mark{w:World}{base B g:Nat}{e:TypeId}{D:Nat->Prop}{v:Value}{l:List (List TIns)}(h:Qg w base e 1 (XQ w D) v l)(hD:∀b,D b->b≠g):Qg w base e 1 (Qca w g B) v (l.map λf=>(f,false)):=by
 obtain⟨rows,hr,ho⟩:=h;refine⟨rows,⟨by simpa using hr.len,hr.size,λi x r hx hk=>?_⟩,by simpa using ho⟩;rw[List.getElem?_map]at hx
 cases hy:l[i]? with
 |none=>rw[hy]at hx;cases hx
 |some y=>
  rw[hy]at hx;injection hx with hx;subst hx;obtain⟨u,h1,h2⟩:=hr.rel i y r hy hk;exact⟨u,h1,h2.keep (λb hb _=>⟨hD b hb,λh=>by cases h⟩) (λ_ _ _=>rfl) Znl⟩
def marked(l:List (List TIns))(k:Nat):List (List TIns×Bool):=(l.take k).map (λf=>(f,true))++(l.drop k).map (λf=>(f,false))
theorem QaI(l:List (List TIns))(k:Nat)(h:k<=l.length):(marked l k).length=l.length:=by simp[marked];omega
theorem QeZ{l:List (List TIns)}{k:Nat}(h:k<l.length):(marked l k)[k]'(by rw[QaI l k (by omega)];exact h)=(l[k],false):=by
 unfold marked;rw[List.getElem_append_right (by simp;omega)];simp;congr 1
 omega
theorem Qe0{l:List (List TIns)}{k:Nat}(h:k<l.length):(marked l k).set k (l[k],true)=marked l (k+1):=by
 unfold marked;have e:((l.take k).map λf=>(f,true)).length=k:=by simp;omega
 rw[List.set_append_right _ _ (by rw[e];exact Nat.le_refl _),e,Nat.sub_self,List.drop_eq_getElem_cons h,List.map_cons,List.set_cons_zero,List.take_succ_eq_append_getElem h,List.map_append];simp
theorem Qdw(l:List (List TIns)):marked l 0=l.map λf=>(f,false):=by simp[marked]
theorem QeY(l:List (List TIns)):marked l l.length=l.map λf=>(f,true):=by simp[marked]
theorem QdZ(v:Value)(l:List (List TIns))(D:Nat->Prop)(w:World)(h:Qz w D v l)(hn:l.length<=1000000)(hc:∀f∈l,f.length<=1000000):
  Calls prog 127 #[v] w λe w'=>∃v',e=.returned v'/\Qg w' w.heap.size 98 1 (XQ w' (λb=>w.heap.size<=b/\v'.ownBlock≠some b)) v' l/\Below w.heap.size w w':=by
 have H:=Zh h;have Hc:=Zh hc;obtain⟨a,c,rfl,hlc,hcm,hat⟩:=Sl.form h;clear h hc;go_enter func127,ntmps127;go_wp2_with fail
 have H0:Hid (Sl w D 1 (XQ w (λb=>D b/\b<w.heap.size)) (.slice a l.length c) l):=Sl.mono H.o (λ_ h _=>h) (λ_ _ _=>rfl) Znl (λ_ _ _ ⟨u,h1,h2⟩=>⟨u,h1,h2.keep (λ_ h hl=>⟨h,hl⟩) (λ_ _ _=>rfl) Znl⟩);refine(NW (XQ w (λb=>D b/\b<w.heap.size)) (λy cs h=>Jq y cs h) _ l D w H0.o (by omega)).mono ?_;rintro e w1⟨v1,rfl,ho1,hb1⟩;have ho1':Qg w1 w.heap.size 98 1 (XQ w1 (λb=>D b/\b<w.heap.size)) v1 l:=ho1.monoR λ_ _ _ ⟨u,h1,h2⟩=>⟨u,h1,h2.below hb1⟩;have Ho1:=Zh ho1';have Hb1:=Zh hb1;obtain⟨a1,c1,rfl⟩:=ho1.slice;clear ho1 ho1' hb1;rcases Nat.eq_zero_or_pos l.length with h0|hpos
 .have hl0:l=[]:=List.length_eq_zero_iff.1 h0;subst hl0;have hlen0:([]:List (List TIns)).length=0:=rfl;go_wp2_with fail
  go_loopw[9](λkv wr=>kv=.int .i64 0/\wr=w1) (λ_ _=>0)
  case atStart=>exact⟨rfl,rfl⟩
  case round=>
   obtain⟨rfl,rfl⟩:=hrel;go_wp2;go_ret;exact⟨_,rfl,Ho1.o.monoR (λx hx=>by cases hx),Hb1.o⟩
 obtain⟨g,rfl,hgb,hgl,cur,hcur⟩:=Qg.addr Ho1.o hpos
 have HM:Hid (Qg w1 w.heap.size 98 1 (Qca w1 g w.heap.size) (.slice (some ⟨g,0,none⟩) l.length c1) (marked l 0)):=by
  show Qg _ _ _ _ _ _ _;rw[Qdw];exact Ho1.o.mark (λb hb=>by omega)
 clear hcur;go_wp2_with fail
 go_loopw[9](λkv wr=>∃k:Nat,kv=.int .i64 k/\k<=l.length/\Qg wr w.heap.size 98 1 (Qca wr g w.heap.size) (.slice (some ⟨g,0,none⟩) l.length c1) (marked l k)/\Below w.heap.size w wr) (λkv _=>l.length-(intOf kv).toNat)
 case atStart=>exact⟨0,rfl,by omega,HM.o,Hb1.o⟩
 case round=>
  obtain⟨k,rfl,hk,hown,hb⟩:=hrel;have Hown:=Zh hown;have Hb:=Zh hb;clear hown hb;by_cases hlt:k<l.length
  .have hml:=QaI l k (by omega)
   have hg2:g<wr.heap.size:=by
    obtain⟨b,e,_,hl,_⟩:=Qg.addr Hown.o (by omega);injection e with e;injection e with e;rw[e];exact hl
   have hsl:Sl wr (λ_=>True) 1 (Qca wr g w.heap.size) (.slice (some ⟨g,0,none⟩) l.length c1) (marked l k):=Hown.o.sl (λ_ _=>trivial);obtain⟨cs,_,⟨u,hu,hr⟩,hcell⟩:=Sl.get hsl (i:=k) (by omega);rw[QeZ hlt]at hr;have Hr:Hid (QW wr (λb=>b≠g) u l[k]):=hr.keep (λ_ h _=>h.1) (λ_ _ _=>rfl) Znl;have Hck:=Zh (Hc.o l[k] (List.getElem_mem hlt));have Hset:=Zh (Qe0 hlt);obtain⟨f,hf⟩:∃f,l[k]=f:=⟨_,rfl⟩;rw[hf]at Hr Hck Hset;obtain⟨cf,cc,rfl,_⟩:=Sl.form Hr.o;subst hu;have hck:=hcell 0 _ rfl;simp only[Nat.mul_one,Nat.zero_add,Nat.add_zero]at hck;have hcl:=Hck.o;clear hr hcell hf hsl;go_wp2_with fail
   refine(Qb2 Gt Qhk _ f (λb=>b≠g) wr Hr.o (by omega)).mono ?_;rintro e w2⟨v2,rfl,ho2,hb2⟩;have Hb2:=Zh (Ql Hb.o hb2);have hown2:Qg w2 w.heap.size 98 1 (Qca w2 g w.heap.size) (.slice (some ⟨g,0,none⟩) l.length c1) (marked l k):=(Hown.o.below hb2).monoR λ_ _ _ ⟨u,h1,h2⟩=>⟨u,h1,h2.below hb2⟩;obtain⟨b',e',_,hgl2,cur2,hcur2⟩:=Qg.addr hown2 (by omega);obtain rfl:g=b':=by injection e' with e';injection e' with e'
   have hfg:=Qp hcur2 k;have hcg:=(Qg.sl hown2 (D:=λ_=>True) (λ_ _=>trivial));obtain⟨cs3,_,⟨u3,hu3,_⟩,hcell3⟩:=Sl.get hcg (i:=k) (by omega);subst hu3;have hck2:=hcell3 0 _ rfl;simp only[Nat.mul_one,Nat.zero_add,Nat.add_zero]at hck2;obtain⟨a2,c2,rfl⟩:=ho2.slice;have Hw3:Hid (Below w.heap.size w (w2.setCell ⟨g,k,none⟩ (.slice a2 f.length c2))):=Qw Hb2.o hgb;have hsz2:=Hb2.o.size
   have Hown3:Hid (Qg (w2.setCell ⟨g,k,none⟩ (.slice a2 f.length c2)) w.heap.size 98 1 (Qca (w2.setCell ⟨g,k,none⟩ (.slice a2 f.length c2)) g w.heap.size) (.slice (some ⟨g,0,none⟩) l.length c1) (marked l (k+1))):=by
    have hm:Qg w2 w.heap.size 98 1 (Qca (w2.setCell ⟨g,k,none⟩ (.slice a2 f.length c2)) g w.heap.size) (.slice (some ⟨g,0,none⟩) l.length c1) (marked l k):=hown2.monoR λ_ _ _ ⟨u,h1,h2⟩=>⟨u,h1,h2.keep (λ_ h _=>h) (λb hb _=>Qm (by exact hb.1)) (by rw[Qr];exact Nat.le_refl _)⟩
    have hp:=Qg.put (i:=k) (j:=0) hm (by omega) (by decide) (y:=(f,true)) (u:=.slice a2 f.length c2) (λr hr=>by
     obtain⟨u,rfl,_⟩:=hr;refine⟨.slice a2 f.length c2,rfl,?_⟩;have hs:Sl w2 (λb=>wr.heap.size<=b) 4 Gt (.slice a2 f.length c2) f:=ho2.sl λ_ h=>h;exact Sl.mono hs (λb hb _=>by have h1:wr.heap.size<=b:=hb;exact⟨by omega,λ_=>by omega⟩) (λb hb _=>Qm (by have h1:wr.heap.size<=b:=hb;show b≠g;omega)) (by rw[Qr];exact Nat.le_refl _) (λ_ _ _ h=>h))
    rw[Hset.o]at hp;show Qg _ _ _ _ _ _ _;simpa using hp
   clear ho2 hb2 hown2 hcur2 hcell3 hcg;go_wp2
   go_roundw
   case rel=>exact⟨k+1,by go_num,by omega,Hown3.o,Hw3.o⟩
   case measure=>simp[intOf];omega
  obtain rfl:k=l.length:=by omega
  have HR:Hid (Qg wr w.heap.size 98 1 (XQ wr (λb=>w.heap.size<=b/\(Value.slice (some ⟨g,0,none⟩) l.length c1).ownBlock≠some b)) (.slice (some ⟨g,0,none⟩) l.length c1) l):=by
   have:=Hown.o;rw[QeY]at this;exact this.unmark.monoR λ_ _ _ ⟨u,h1,h2⟩=>⟨u,h1,h2.keep (λb hb _=>⟨hb.1,λe=>hb.2 (by simpa[Value.ownBlock]using e.symm)⟩) (λ_ _ _=>rfl) Znl⟩
  go_wp2;go_ret;exact⟨_,rfl,HR.o,Hb.o⟩
end
section
open Go.RowKit
theorem Qf0(args:Array Value)(W:World):Sem.run prog (callFunc 219 args) W=.ok (.enter 219 args) W:=by kernel_rfl
theorem Qbl(u v:Value)(p q:TPol)(w:World)(hp:Qc w (λ_=>True) u p.ru)(hq:Qc w (λ_=>True) v q.ru):
  Calls prog 194 #[U8 u p.df,U8 v q.df] w λe w'=>∃r,e=.returned (.tuple #[U8 r (VI exceptOf p q).1.df,.int .i64 (VI exceptOf p q).2])/\Qc w' (λb=>w.heap.size<=b/\VN w' b) r (VI exceptOf p q).1.ru/\Below w.heap.size w w':=by
 have Hp:=Zh hp;have Hq:=Zh hq;obtain⟨ap,cp,rfl,_⟩:=Sl.form hp;obtain⟨aq,cq,rfl,_⟩:=Sl.form hq;clear hp hq;obtain⟨⟨E1,E2⟩,hE⟩:∃E,VI exceptOf p q=E:=⟨_,rfl⟩;have HE:=Zh hE;rw[hE];clear hE;go_enter func194,ntmps194;go_wp2_with fail
 have HB:=Zh (Bx.three (w:=w) (o:=.cells #[.slice ap p.ru.length cp,.int .i64 p.df] 38) (o':=.cells #[.slice aq q.ru.length cq,.int .i64 q.df] 38) (o2:=.cells #[.slice none 0 0,.int .i64 0] 38));refine(Qhu exceptOf 219 Qf0 QeT (.slice ap p.ru.length cp) (.slice aq q.ru.length cq) p q _ (Hp.o.below HB.o.bel) (Hq.o.below HB.o.bel)).mono ?_;rw[HE.o];rintro e w1⟨r,rfl,hr1,hb1⟩;have HB1:=Zh (HB.o.below hb1);have Hr1:=Zh hr1;obtain⟨ar,cr,rfl,_⟩:=Sl.form hr1;clear hr1 hb1;have hc2:=HB1.o.cells2;have hf2:=HB1.o.free2;have HB2:=Zh (HB1.o.set (i:=2) rfl 0 (.slice ar E1.ru.length cr));have HB3:=Zh (HB2.o.set (i:=2) rfl 1 (.int .i64 E1.df));have hc3:=HB3.o.cells2;go_wp2;refine bodyPost_ret (v:=.tuple #[U8 (.slice ar E1.ru.length cr) E1.df,.int .i64 E2]) ?_ rfl ⟨_,rfl,?_,HB3.o.bel⟩
 .rw[results_cell_tmp rfl];go_simp
 have hsame:∀b,(((w.alloc (.cells #[.slice ap p.ru.length cp,.int .i64 p.df] 38)).alloc (.cells #[.slice aq q.ru.length cq,.int .i64 q.df] 38)).alloc (.cells #[.slice none 0 0,.int .i64 0] 38)).heap.size<=b->((w1.setCell ⟨w.heap.size+2,0,none⟩ (.slice ar E1.ru.length cr)).setCell ⟨w.heap.size+2,1,none⟩ (.int .i64 E1.df)).heap[b]?=w1.heap[b]?:=λb hb=>by
  simp at hb;rw[Qm (by show b≠w.heap.size+2;omega),Qm (by show b≠w.heap.size+2;omega)]
 exact Hr1.o.keep (λb h _=>⟨by have h1:=h.1;simp at h1;omega,h.2.keep (hsame b h.1)⟩) (λb hb _=>hsame b hb.1) (by rw[Qr,Qr];exact Nat.le_refl _)
end
section
open Go.RowKit
theorem QfW(u v:Value)(p q:TPol)(w:World)(hp:Qc w (λ_=>True) u p.ru)(hq:Qc w (λ_=>True) v q.ru):
  Calls prog 163 #[U8 u p.df,U8 v q.df] w λe w'=>∃r,e=.returned (.tuple #[U8 r (Us p q).1.df,.int .i64 (Us p q).2])/\Qc w' (λb=>w.heap.size<=b/\VN w' b) r (Us p q).1.ru/\Below w.heap.size w w':=by
 have Hp:=Zh hp;have Hq:=Zh hq;obtain⟨ap,cp,rfl,_⟩:=Sl.form hp;obtain⟨aq,cq,rfl,_⟩:=Sl.form hq;clear hp hq;obtain⟨⟨L1,L2,L3⟩,hL⟩:∃E,Uw q p=E:=⟨_,rfl⟩;have HL:=Zh hL;obtain⟨⟨X,xe⟩,hX⟩:∃E,VI exceptOf q p=E:=⟨_,rfl⟩;have HX:=Zh hX;obtain⟨⟨Y,ye⟩,hY⟩:∃E,Xi X=E:=⟨_,rfl⟩;have HY:=Zh hY
 have HD:Hid (Us p q=if L3≠0 then(zeroPol,L3)else if L1 then(zeroPol,7)else if xe≠0 then(zeroPol,xe)else(Y,ye)):=by
  show Us p q=_;unfold Us;rw[hL,hX];dsimp only;by_cases hx:xe=0
  .have hXe:X=VK exceptOf q p:=by
    have:=(Qby (of:=exceptOf) (p:=q) (q:=p) (by rw[hX];exact hx)).2.2.2;rw[hX]at this;exact(Prod.mk.inj this).1
   rw[<-hXe,hY]
  rw[if_pos hx,if_pos hx]
 clear hL hX hY;go_enter func163,ntmps163;go_wp2_with fail
 have HB:=Zh (Bx.three (w:=w) (o:=.cells #[.slice ap p.ru.length cp,.int .i64 p.df] 38) (o':=.cells #[.slice aq q.ru.length cq,.int .i64 q.df] 38) (o2:=.cells #[.slice none 0 0,.int .i64 0] 38));refine(QeW _ _ q p _ (Hq.o.below HB.o.bel) (Hp.o.below HB.o.bel)).mono ?_;rw[HL.o];rintro e w1⟨rfl,hb1⟩;have HB1:=Zh (HB.o.below hb1);have hD1:=Bx.one (w:=w1) (o:=.cells #[.int .i64 0,.int .i64 0,.int .i64 0,.int .i64 0,.int .i64 0] 46);have HD2:=Zh (Bx.one (w:=w1) (o:=.cells #[.int .i64 L2.a0,.int .i64 L2.a1,.int .i64 L2.a2,.int .i64 L2.a3,.int .i64 L2.a4] 46));have hcn:=hD1.cells0;have hfn:=hD1.free0;have HB2:=Zh (HB1.o.below HD2.o.bel);have hq0:=HB2.o.cells0;have hq1:=HB2.o.cells1;have hq2:=HB2.o.cells2;have hf2:=HB2.o.free2;clear hD1 hb1;by_cases h3:L3=0
 .subst h3
  cases L1 with
  |true=>
   have HE:Hid (Us p q=(zeroPol,7)):=by show Us p q=_;rw[HD.o,if_neg (by simp),if_pos rfl]
   have HB3:=Zh (HB2.o.set (i:=2) rfl 0 (.slice none 0 0));have HB4:=Zh (HB3.o.set (i:=2) rfl 1 (.int .i64 0));have hc4:=HB4.o.cells2;go_wp2;refine bodyPost_ret (v:=.tuple #[U8 (.slice none 0 0) 0,.int .i64 7]) ?_ rfl (by rw[HE.o];exact⟨_,rfl,VF _ _,HB4.o.bel⟩);rw[results_cell_tmp rfl];go_simp
  |false=>
   go_wp2_with fail
   clear hcn hfn hq0 hq1 hq2 hf2 HD2;revert HB2;generalize(w1.alloc (.cells #[.int .i64 L2.a0,.int .i64 L2.a1,.int .i64 L2.a2,.int .i64 L2.a3,.int .i64 L2.a4] 46))=w2;intro HB2;refine(Qbl _ _ q p _ (Hq.o.below HB2.o.bel) (Hp.o.below HB2.o.bel)).mono ?_;rw[HX.o];rintro e w3⟨rX,rfl,hrX,hb3⟩;have HB3:=Zh (HB2.o.below hb3);have RX:=Zh (VT hrX);obtain⟨aX,cX,rfl,_⟩:=Sl.form hrX;have HC:=Zh (Bx.one (w:=w3) (o:=.cells #[.slice aX X.ru.length cX,.int .i64 X.df] 38));have HB4:=Zh (HB3.o.below HC.o.bel);have RX4:=Zh (RX.o.below HC.o.bel);have hq2:=HB4.o.cells2;have hf2:=HB4.o.free2;have hqc:=HC.o.cells0;clear hrX hb3;by_cases hx:xe=0
   .subst hx;have HE:Hid (Us p q=(Y,ye)):=by show Us p q=_;rw[HD.o,if_neg (by simp),if_neg (by simp),if_neg (by simp)]
    have htop:w.heap.size+3<=w3.heap.size:=HB3.o.top;go_wp2_with fail
    clear hq2 hf2 hqc;refine(short_any _ X _ RX4.o).mono ?_;rw[HY.o];rintro e w5⟨rY,rfl,hrY,hb5⟩;have HB5:=Zh (HB4.o.below hb5);have RY:=Zh hrY;obtain⟨aY,cY,rfl,_⟩:=Sl.form hrY;have hq2:=HB5.o.cells2;have hf2:=HB5.o.free2;have HB6:=Zh (HB5.o.set (i:=2) rfl 0 (.slice aY Y.ru.length cY));have HB7:=Zh (HB6.o.set (i:=2) rfl 1 (.int .i64 Y.df));have hc4:=HB7.o.cells2;clear hrY hb5
    have HR8:Hid (Qc ((w5.setCell ⟨w.heap.size+2,0,none⟩ (.slice aY Y.ru.length cY)).setCell ⟨w.heap.size+2,1,none⟩ (.int .i64 Y.df)) (λb=>w.heap.size<=b/\VN ((w5.setCell ⟨w.heap.size+2,0,none⟩ (.slice aY Y.ru.length cY)).setCell ⟨w.heap.size+2,1,none⟩ (.int .i64 Y.df)) b) (.slice aY Y.ru.length cY) Y.ru):=by
     have hsame:∀b,w.heap.size+3<=b->((w5.setCell ⟨w.heap.size+2,0,none⟩ (.slice aY Y.ru.length cY)).setCell ⟨w.heap.size+2,1,none⟩ (.int .i64 Y.df)).heap[b]?=w5.heap[b]?:=λb hb=>by rw[Qm (by show b≠w.heap.size+2;omega),Qm (by show b≠w.heap.size+2;omega)]
     have hlow:∀b,(w3.alloc (.cells #[.slice aX X.ru.length cX,.int .i64 X.df] 38)).heap.size<=b->w.heap.size+3<=b:=λb hb=>by simp at hb;omega
     exact RY.o.keep (λb h _=>⟨by have:=hlow b h.1;omega,h.2.keep (hsame b (hlow b h.1))⟩) (λb hb _=>hsame b (hlow b hb.1)) (by rw[Qr,Qr];exact Nat.le_refl _)
    go_wp2;refine bodyPost_ret (v:=.tuple #[U8 (.slice aY Y.ru.length cY) Y.df,.int .i64 ye]) ?_ rfl (by rw[HE.o];exact⟨_,rfl,HR8.o,HB7.o.bel⟩);rw[results_cell_tmp rfl];go_simp
   have hb0:(xe != 0)=true:=bne_iff_ne.2 hx;have HE:Hid (Us p q=(zeroPol,xe)):=by show Us p q=_;rw[HD.o,if_neg (by simp),if_neg (by simp),if_pos hx]
   have HB5:=Zh (HB4.o.set (i:=2) rfl 0 (.slice none 0 0));have HB6:=Zh (HB5.o.set (i:=2) rfl 1 (.int .i64 0));have hc4:=HB6.o.cells2;clear hx;go_wp2;refine bodyPost_ret (v:=.tuple #[U8 (.slice none 0 0) 0,.int .i64 xe]) ?_ rfl (by rw[HE.o];exact⟨_,rfl,VF _ _,HB6.o.bel⟩);rw[results_cell_tmp rfl];go_simp
 have hb0:(L3 != 0)=true:=bne_iff_ne.2 h3;have HE:Hid (Us p q=(zeroPol,L3)):=by show Us p q=_;rw[HD.o,if_pos h3]
 have HB3:=Zh (HB2.o.set (i:=2) rfl 0 (.slice none 0 0));have HB4:=Zh (HB3.o.set (i:=2) rfl 1 (.int .i64 0));have hc4:=HB4.o.cells2;clear h3;go_wp2;refine bodyPost_ret (v:=.tuple #[U8 (.slice none 0 0) 0,.int .i64 L3]) ?_ rfl (by rw[HE.o];exact⟨_,rfl,VF _ _,HB4.o.bel⟩);rw[results_cell_tmp rfl];go_simp
end
section
open Go.RowKit
theorem Qb3{f:List TIns}(h:Vj f=0):f.length<=1500:=by
 unfold Vj at h;split at h
 .simp at h
 omega
theorem Qek{W:World}{b:Nat}{T:TypeId}{u:Value}{f:List TIns}{D:Nat->Prop}(hb:W.heap[b]?=some (.cells #[u] T))(hu:QW W D u f):Sl W (λ_=>True) 1 (XQ W D) (.slice (some ⟨b,0,none⟩) 1 1) [f]:=
 Ub (xs:=[f]) (rows:=[[u]]) (Qq.cons Qq.nil ⟨_,rfl,hu⟩ rfl) hb rfl trivial (by simp[maxLen])
theorem V6(w:World)(D:Nat->Prop):Qz w D (.slice none 0 0) []:=⟨none,0,rfl,Nat.le_refl _,by unfold maxLen;simp,λ_=>rfl,λh=>by cases h⟩
theorem QdR(v u0 u1:Value)(l:List (List TIns))(p q:TPol)(D:Nat->Prop)(w:World)(h:Qz w D v l)(hp:Qc w (λ_=>True) u0 p.ru)(hq:Qc w (λ_=>True) u1 q.ru):
  Calls prog 138 #[v,U8 u0 p.df,U8 u1 q.df] w λe w'=>∃v',e=.returned (.tuple #[v',.int .i64 (UC l p q).2])/\Qz w' (λb=>w.heap.size<=b) v' (UC l p q).1/\Below w.heap.size w w':=by
 have H:=Zh h;have Hp:=Zh hp;have Hq:=Zh hq;obtain⟨a,c,rfl,hlc,hcm,hat⟩:=Sl.form h;obtain⟨ap,cp,rfl,_⟩:=Sl.form hp;obtain⟨aq,cq,rfl,_⟩:=Sl.form hq;clear h hp hq;obtain⟨⟨Y,ye⟩,hY⟩:∃E,Us p q=E:=⟨_,rfl⟩;have HY:=Zh hY;obtain⟨⟨F,fe⟩,hF⟩:∃E,Uy Y=E:=⟨_,rfl⟩;have HF:=Zh hF;have HFl:Hid (fe=0->Q7 Y=F):=λh=>by have:=(XU (p:=Y) (by rw[hF];exact h)).2.1;rw[hF]at this;exact(Prod.mk.inj this).1.symm
 have HT:Hid (UC l p q=if chainE l≠0 then([],chainE l)else if ye≠0 then([],ye)else if l.length=6 then([],2)else if fe≠0 then([],fe)else(l++[Q7 Y],0)):=by
  show UC l p q=_;unfold UC;rw[hY];dsimp only;rw[hF]
 clear hY hF;go_enter func138,ntmps138;go_wp2_with fail
 have HB:=Zh (Bx.two (w:=w) (o:=.cells #[.slice ap p.ru.length cp,.int .i64 p.df] 38) (o':=.cells #[.slice aq q.ru.length cq,.int .i64 q.df] 38));refine(J3 _ l D _ (H.o.below HB.o.bel)).mono ?_;rintro e w1⟨rfl,hb1⟩;have HB1:=Zh (HB.o.below hb1);clear hb1;by_cases h0:chainE l=0
 .obtain⟨hl6,hcodes⟩:=(V9 l).1 h0;have Hcd:=Zh hcodes;have H0:=Zh h0;have hq0:=HB1.o.cells0;have hq1:=HB1.o.cells1;rw[h0];clear h0 hcodes;go_wp2_with fail
  refine(QfW _ _ p q _ (Hp.o.below HB1.o.bel) (Hq.o.below HB1.o.bel)).mono ?_;rw[HY.o];rintro e w2⟨rY,rfl,hrY,hb2⟩;have HB2:=Zh (HB1.o.below hb2);have RY:=Zh (VT hrY);obtain⟨aY,cY,rfl,_⟩:=Sl.form hrY;have HC:=Zh (Bx.one (w:=w2) (o:=.cells #[.slice aY Y.ru.length cY,.int .i64 Y.df] 38));have HB3:=Zh (HB2.o.below HC.o.bel);have RY3:=Zh (RY.o.below HC.o.bel);have hqc:=HC.o.cells0;clear hrY hb2 hq0 hq1;by_cases hy:ye=0
  .subst hy;by_cases h6:l.length=6
   .have HE:Hid (UC l p q=([],2)):=by show UC l p q=_;rw[HT.o,if_neg (by rw[H0.o];simp),if_neg (by simp),if_pos h6]
    have HBf:=Zh HB3.o.bel;have h6':((l.length:Int)==6)=true:=beq_iff_eq.2 (by omega);go_wp2;go_ret2;rw[HE.o];exact⟨_,rfl,V6 _ _,HBf.o⟩
   have h6':((l.length:Int)==6)=false:=by simpa using(show ¬(l.length:Int)=6 by omega)
   go_wp2_with fail
   refine(Ei _ Y _ _ RY3.o).mono ?_;rw[HF.o];rintro e w4⟨vF,rfl,hrF,hb4⟩;have HB4:=Zh (HB3.o.below hb4);have RF:=Zh hrF;obtain⟨aF,cF,rfl,_⟩:=Sl.form hrF;clear hrF hb4 hqc;by_cases hf:fe=0
   .subst hf;have HE:Hid (UC l p q=(l++[F],0)):=by show UC l p q=_;rw[HT.o,if_neg (by rw[H0.o];simp),if_neg (by simp),if_neg h6,if_neg (by simp),HFl.o rfl]
    have htop:w.heap.size+2<=w4.heap.size:=HB4.o.top;have hsz3:w.heap.size<=(w2.alloc (.cells #[.slice aY Y.ru.length cY,.int .i64 Y.df] 38)).heap.size:=HB3.o.bel.size;obtain⟨i0,hi,hz0,hz1,hz2⟩:=info_parts OE;have Hi:=Zh hi;clear hi;go_wp2_with fail
    refine(QdZ _ l D _ (H.o.below HB4.o.bel) (by omega) (λf hf=>by have:=Qb3 (Hcd.o f hf);omega)).mono ?_;rintro e w5⟨v5,rfl,ho5,hb5⟩;have HB5:=Zh (HB4.o.below hb5);obtain⟨a5,c5,rfl⟩:=ho5.slice;have Ho5:=Zh (ho5.monoR (R':=XQ w5 (λb=>w.heap.size<=b/\(Value.slice a5 l.length c5).ownBlock≠some b)) λ_ _ _ ⟨u,h1,h2⟩=>⟨u,h1,h2.keep (λb hb _=>⟨by have:=hb.1;omega,hb.2⟩) (λ_ _ _=>rfl) Znl⟩);have hown5:=ho5.block;have hrf4:QW w5 (λb=>w.heap.size<=b/\(Value.slice a5 l.length c5).ownBlock≠some b) (.slice aF F.length cF) F:=RF.o.keep (λb hb hl=>⟨Nat.le_trans hsz3 hb,λe=>by have:=hown5 b e;omega⟩) (λb _ hl=>hb5.block b hl) hb5.size;have hb6:=Qa (Below.refl w5.heap.size w5) (.cells #[.slice aF F.length cF] 98);have RF6:Hid (QW (w5.alloc (.cells #[.slice aF F.length cF] 98)) (λb=>w.heap.size<=b/\(Value.slice a5 l.length c5).ownBlock≠some b) (.slice aF F.length cF) F):=hrf4.below hb6;have Ho6:=Zh ((Ho5.o.below hb6).monoR (R':=XQ (w5.alloc (.cells #[.slice aF F.length cF] 98)) (λb=>w.heap.size<=b/\(Value.slice a5 l.length c5).ownBlock≠some b)) λ_ _ _ ⟨u,h1,h2⟩=>⟨u,h1,h2.below hb6⟩);have HN:=Zh (Qek (T:=98) (Qh w5 (.cells #[.slice aF F.length cF] 98)) RF6.o);have HB6:=Zh (HB5.o.below hb6);have hsz5:=HB5.o.bel.size;have hs45:=hb5.size;clear ho5 hb5 hb6 hown5 hrf4;go_wp2_with(at_builtin;refine QK rfl _ _ 50 rfl w4.heap.size 98 i0 _ 1 24 underlying50 Hi.o hz0 hz1 hz2 rfl (by decide) _ _ rfl Ho6.o _ _ rfl HN.o (λy _ cs h=>Jq y cs h) (by show _+1<=maxLen;unfold maxLen;omega) (by show(_+1)*24<=_;omega) (by simp;omega) ?_;intro v' w7 hown' hg hat';have Hown':=Zh hown';have Hg:=Zh hg;have Hblk:=Zh Ho6.o.block;clear hown' hg hat')
    go_ret2;rw[HE.o];refine⟨v',rfl,?_,HB6.o.bel.trans (Below.grown (Below.refl w.heap.size _) Hg.o (by simp;omega) (λg hg=>by have:=Hblk.o g hg;omega))⟩;exact(Hown'.o.monoR (R':=XQ w7 (λb=>w.heap.size<=b)) λ_ _ _ ⟨u,h1,h2⟩=>⟨u,h1,h2.keep (λb hb _=>hb.1) (λb hb hl=>Hg.o.block b hl (λe=>hb.2 e.symm)) Hg.o.size⟩).sl (λb hb=>by omega)
   have HE:Hid (UC l p q=([],fe)):=by show UC l p q=_;rw[HT.o,if_neg (by rw[H0.o];simp),if_neg (by simp),if_neg h6,if_pos hf]
   have hb0:(fe != 0)=true:=bne_iff_ne.2 hf;have HBf:=Zh HB4.o.bel;clear hf;go_wp2;go_ret2;rw[HE.o];exact⟨_,rfl,V6 _ _,HBf.o⟩
  have HE:Hid (UC l p q=([],ye)):=by show UC l p q=_;rw[HT.o,if_neg (by rw[H0.o];simp),if_pos hy]
  have hb0:(ye != 0)=true:=bne_iff_ne.2 hy;have HBf:=Zh HB3.o.bel;clear hy;go_wp2;go_ret2;rw[HE.o];exact⟨_,rfl,V6 _ _,HBf.o⟩
 have HE:Hid (UC l p q=([],chainE l)):=by show UC l p q=_;rw[HT.o,if_pos h0]
 have hb0:(chainE l != 0)=true:=bne_iff_ne.2 h0;have HBf:=Zh HB1.o.bel;clear h0;go_wp2;go_ret2;rw[HE.o];exact⟨_,rfl,V6 _ _,HBf.o⟩
end
section
open Go.RowKit
theorem Qgr{W:World}{base b:Nat}{e:TypeId}{R:List TIns->List Value->Prop}(hb:W.heap[b]?=some (.cells #[] e))(hbase:base<=b):Qg W base e 1 R (.slice (some ⟨b,0,none⟩) 0 0) ([]:List (List TIns)):=
 ⟨[],Qq.nil,by simp,.inr ⟨b,0,#[],by simp,hbase,hb,by simp,by unfold maxLen;omega,by simp,by simp⟩⟩
end
end Go.Proofs.YthkgjohhbdipcaaGreatDoor
