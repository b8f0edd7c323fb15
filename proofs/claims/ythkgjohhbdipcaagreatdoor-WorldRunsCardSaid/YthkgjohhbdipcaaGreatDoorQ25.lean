/- Texts laid one behind the other: RFirst, CloneCond, Short. No condition beyond theirs. -/
import Derived.Test.YthkgjohhbdipcaaGreatDoorQ23
import Derived.Test.YthkgjohhbdipcaaGreatDoorQ24
import Derived.Test.YthkgjohhbdipcaaGreatDoorQ21
import Derived.Test.YthkgjohhbdipcaaGreatDoorQ3
import Derived.Test.YthkgjohhbdipcaaGreatDoorQ20
import Derived.Laws.ResultCell
set_option linter.all false
set_option maxHeartbeats 64000000
set_option maxRecDepth 100000
namespace Go.Proofs.YthkgjohhbdipcaaGreatDoor
open Tryz
section
open Go.RowKit
attribute [local go_sem] gives QG
theorem Qcy{p:TPol}(h:UT p):(polConds p).length<=1200:=by
 have:=XV (λr:TRule=>r.cd) 10 p.ru (λr hr=>(h.ru r hr).len);have:=h.len;show(p.ru.flatMap λr=>r.cd).length<=1200;omega
theorem QcO{l:List TPol}(h:VD l=0)(hl:l.length<=2):(1+2*(l.flatMap polConds).length)*8<=140737488355328:=by
 have h1:=XV polConds 1200 l (λp hp=>Qcy ((Yf l).1 h p hp));have:l.length*1200<=2*1200:=Nat.mul_le_mul_right _ hl;omega
def QcD(pe:Int)(o:Option TCall):Bool×TCall×Int:=match o with
 |some x=>(true,x,pe)
 |none=>(false,ZQ,pe)
theorem QcE{p q:TPol}{S:List TCall}{pe:Int}(h:Q8 [p,q]=(S,pe)):(∀x∈S,UT p/\UT q/\x.ok)/\S.length<=1000/\Uw p q=QcD pe (S.find? (UY p q)):=by
 by_cases h0:pe=0
 .subst h0;obtain⟨hok,hsz,hpe⟩:=Yw (l:=[p,q]) (by rw[h]);rw[h]at hpe;have hS:S=stage [p,q] 5:=(Prod.mk.inj hpe).1;refine⟨λx hx=>⟨hok p (by simp),hok q (by simp),IV hok (hS▸hx)⟩,by rw[hS,VJ];exact hsz,?_⟩;unfold Uw;rw[h];simp only[ne_eq,not_true_eq_false,if_false];unfold QcD;cases S.find? (UY p q)<;>rfl
 have hS:S=[]:=by
  unfold Q8 at h;split at h
  .exact(Prod.mk.inj h).1.symm
  split at h
  .exact(Prod.mk.inj h).1.symm
  exact absurd (Prod.mk.inj h).2.symm h0
 subst hS;refine⟨λx hx=>by simp at hx,by simp,?_⟩;unfold Uw;rw[h];rw[if_pos h0];rfl
theorem QdL(u v:Value)(p q:TPol)(w:World)(hp:Qc w (λ_=>True) u p.ru)(hq:Qc w (λ_=>True) v q.ru):
  Calls prog 158 #[U8 u p.df,U8 v q.df] w λe w'=>e=.returned (.tuple #[.bool (Uw p q).1,Yk (Uw p q).2.1,.int .i64 (Uw p q).2.2])/\Below w.heap.size w w':=by
 have Hp:=Zh hp;have Hq:=Zh hq;obtain⟨ap,cp,rfl,_⟩:=Sl.form hp;obtain⟨aq,cq,rfl,_⟩:=Sl.form hq;obtain⟨⟨S,pe⟩,hE⟩:∃E,Q8 [p,q]=E:=⟨_,rfl⟩;obtain⟨hall,hSl,hL⟩:=QcE hE;have HE:=Zh hE;have Hall:=Zh hall;have HL:=Zh hL;clear hp hq hE hall hL;go_enter func158,ntmps158;go_wp2_with fail
 refine(Np _ [p,q] (λ_=>True) _ (QbI (UM (by simp)) (Hp.o.below (Qa (Qa (Qa (Qa Zbr _) _) _) _)) (Hq.o.below (Qa (Qa (Qa (Qa Zbr _) _) _) _)) trivial) (λh0=>QcO h0 (by simp))).mono ?_;rw[HE.o];rintro e w1⟨v1,rfl,ho1,hb1⟩;have HB1:=Zh (Bx.three.below ((Qa Zbr _).trans (hb1.mono (by simp))));have Ho1:=Zh ho1;obtain⟨a1,c1,rfl⟩:=ho1.slice;have Hl1:Hid (Xj w1 (λ_=>True) (.slice a1 S.length c1) S):=Ho1.o.sl (λ_ _=>trivial);have hat:=λh0=>Sl.at_ Hl1.o h0;clear ho1 hb1 Ho1;go_wp2_with fail
 go_loopw[24](λkv wr=>∃k:Nat,kv=.int .i64 k/\k<=S.length/\(S.drop k).find? (UY p q)=S.find? (UY p q)/\Below w1.heap.size w1 wr) (λkv _=>S.length-(intOf kv).toNat)
 case atStart=>exact⟨0,rfl,Nat.zero_le _,rfl,Below.refl _ _⟩
 case round=>
  obtain⟨k,rfl,hk,hfd,hb⟩:=hrel;have Hfd:=Zh hfd;have Hb:=Zh hb;have hszr:=hb.size;have HBr:=Zh (HB1.o.below hb);have hc0:=HBr.o.cells0;have hc1:=HBr.o.cells1;clear hfd hb;by_cases hlt:k<S.length
  .obtain⟨b,o,rfl,_,hblt⟩:=hat (by omega);obtain⟨h0c,h1c,h2c,h3c,h4c⟩:=Xj.cells (Hl1.o.below Hb.o) hlt;have Hs:=Zh (Qcd (UY p q) S k hlt);have Hxo:=Zh (Hall.o S[k] (List.getElem_mem hlt));obtain⟨x,hx⟩:∃x,S[k]=x:=⟨_,rfl⟩;rw[hx]at h0c h1c h2c h3c h4c Hs Hxo;have HBa:=Zh (HBr.o.alloc (.cells (Vr x) 46));have Hxb:Hid ((wr.alloc (.cells (Vr x) 46)).heap[wr.heap.size]?=some (.cells (Vr x) 46)):=Qh _ _;have hc0':=HBa.o.cells0;have hcx':=Qb Hxb.o;clear hx hc0 hc1;go_wp2_with fail
   refine(Gm _ p x _ _ (Hp.o.below HBa.o.bel) Hxo.o.1).mono ?_;rintro e w2⟨rfl,hb2⟩;have HB2:=Zh (HBa.o.below hb2);have Hx2:=Zh (Qd Hxb.o hb2);have Hbb2:=Zh (UI (Hb.o.mono Znl) hb2);have hc1:=HB2.o.cells1;have hcx:=Qb Hx2.o;clear hb2 hc0' hcx' h0c h1c h2c h3c h4c;go_wp2_with fail
   refine(Gm _ q x _ _ (Hq.o.below HB2.o.bel) Hxo.o.2.1).mono ?_;rintro e w3⟨rfl,hb3⟩;have HB3:=Zh (HB2.o.below hb3);have Hx3:=Zh (Qd Hx2.o hb3);have Hbb3:=Zh (Ql Hbb2.o hb3);clear hb3 hc1 hcx;by_cases hgt:(judged q x).1<(judged p x).1
   .have hd:decide ((judged q x).1<(judged p x).1)=true:=decide_eq_true hgt
    have HR:Hid (Uw p q=(true,x,pe)):=by
     show Uw p q=_;rw[HL.o,<-Hfd.o,Hs.o,if_pos (by unfold UY;exact hd)];rfl
    have hcx:=Qb Hx3.o;have hc2:=HB3.o.cells2;have hf2:∀j,w3.frozen? ⟨w.heap.size+1+1,j,none⟩=false:=λj=>HB3.o.free (i:=2) rfl j;clear hgt;go_wp2_with fail
    go_region
    have HBf:=Zh ((HB3.o.setCall2 (x:=⟨0,0,0,0,0⟩) (y:=x)).drew);have hcf:=HBf.o.cells2;go_wp2;refine bodyPost_ret (v:=.tuple #[.bool true,Yk x,.int .i64 pe]) ?_ rfl ⟨by rw[HR.o],HBf.o.bel⟩;simp[results,results158,go_sem,hcf]
   have hd:decide ((judged q x).1<(judged p x).1)=false:=decide_eq_false hgt
   have HR:Hid ((S.drop (k+1)).find? (UY p q)=S.find? (UY p q)):=by
    show _=_;have:=Hs.o;rw[if_neg (by unfold UY says;rw[hd];simp),Hfd.o]at this;exact this.symm
   clear hgt;go_wp2
   go_roundw
   case rel=>exact⟨k+1,by go_num,by omega,HR.o,Hbb3.o⟩
   case measure=>simp[intOf];omega
  obtain rfl:k=S.length:=by omega
  have HR:Hid (Uw p q=(false,ZQ,pe)):=by
   show Uw p q=_;rw[HL.o,<-Hfd.o,List.drop_length];rfl
  have hc2:=HBr.o.cells2;have hf2:∀j,wr.frozen? ⟨w.heap.size+1+1,j,none⟩=false:=λj=>HBr.o.free (i:=2) rfl j;clear hc0 hc1;have HBf:=Zh (HBr.o.setCall2 (x:=⟨0,0,0,0,0⟩) (y:=⟨0,0,0,0,0⟩));have hcf:=HBf.o.cells2;go_wp2;refine bodyPost_ret (v:=.tuple #[.bool false,Yk ⟨0,0,0,0,0⟩,.int .i64 pe]) ?_ rfl ⟨by rw[HR.o];rfl,HBf.o.bel⟩;simp[results,results158,go_sem,hcf]
end
section
open Go.RowKit
theorem GG{α:Type}(R:α->List Value->Prop)(h1R:∀(y:α)(cs:List Value),R y cs->∀c∈cs,c.oneCell'=true)(v:Value)(xs:List α)(D:Nat->Prop)(w:World)(h:Sl w D 3 R v xs)(hn:xs.length*24<=140737488355328):
  Calls prog 156 #[v] w λe w'=>∃v',e=.returned v'/\Qg w' w.heap.size 153 3 R v' xs/\Below w.heap.size w w':=by
 obtain⟨i0,hi,hz0,hz1,hz2⟩:=info_parts EG;have H:=Zh h;obtain⟨a,c,rfl,hlc,hcm,hnil,hat⟩:=h;have Hi:=Zh hi;clear hi
 cases a with
 |none=>
  have hc:=hnil rfl;subst hc;have hx:xs=[]:=List.length_eq_zero_iff.1 (by omega);subst hx;have hq:=λ(a:Option Addr)(n c:Nat)(W:World)=>Lib.run_eql_slice_nil (P:=prog) W 145 153 a n c 0 0 underlying145;go_enter func156,ntmps156;go_wp2;go_ret;exact⟨_,rfl,Qg.nil,Below.refl _ _⟩
 |some ad=>
  have H2:=Zh (H.o.belowR (Qa (Below.refl _ w) (.cells #[] 153)) (λ_ _ _ h=>h))
  have Hown:Hid (Qg (w.alloc (.cells #[] 153)) w.heap.size 153 3 R (.slice (some ⟨w.heap.size,0,none⟩) 0 0) ([]:List α)):=
   ⟨[],Qq.nil,by simp,.inr ⟨w.heap.size,0,#[],rfl,Nat.le_refl _,Qh _ _,by simp,by simp,by simp,by simp⟩⟩
  clear hat hnil;have hq:=λ(a:Option Addr)(n c:Nat)(W:World)=>Lib.run_eql_slice_nil (P:=prog) W 145 153 a n c 0 0 underlying145;go_enter func156,ntmps156;go_wp2_with(at_builtin;refine U6 rfl _ _ 145 rfl w.heap.size 153 i0 _ 3 24 underlying145 Hi.o hz0 hz1 hz2 rfl (by decide) _ _ rfl Hown.o _ _ rfl H2.o (λy _ cs h=>h1R y cs h) (by show 0+_<=maxLen;unfold maxLen;omega) (by show(0+_)*24<=_;omega) (by simp) ?_;intro v' w3 hown' hg)
  go_ret;exact⟨_,rfl,hown',Hown.o.grown (Qa Zbr _) hg (by simp) Znl⟩
end
section
open Go.RowKit Go.Maps
attribute [local go_sem] gives QG
def QdV(ks:List Nat)(z:Int):Bool:=ks.any λi=>decide ((i:Int)=z)
theorem QfB(ks:List Nat)(k:Nat):QdV (ks++[k])=λt=>if t=(k:Int)then true else QdV ks t:=by
 funext t
 unfold QdV;rw[List.any_append];by_cases e:t=(k:Int)
 .subst e;simp
 rw[if_neg e];have:decide ((k:Int)=t)=false:=decide_eq_false (λh=>e h.symm);simp[this]
theorem QhP(ks:List Nat)(k:Nat):QdV ks (k:Int)=ks.contains k:=by
 unfold QdV;rw[Bool.eq_iff_iff,List.any_eq_true,List.contains_iff_mem];constructor
 .rintro ⟨x,hx,e⟩;have:(x:Int)=k:=of_decide_eq_true e;have:x=k:=by omega
  subst this;exact hx
 intro h;exact⟨k,h,by simp⟩
theorem QdU{p:TPol}{L:List TCall}{k:Nat}(h:k<L.length):YY p (L.take (k+1))=YY p (L.take k)++[which L[k] p.ru]:=by
 unfold YY;rw[List.take_succ_eq_append_getElem h,List.map_append];rfl
def QcR(w0:World)(cs:List TCond)(vd:Int)(k:Nat)(vf:Nat->Value)(W:World):Prop:=
 if k=4 then Qg W w0.heap.size 153 3 Ve (vf 4) cs else if k=7 then Qg W w0.heap.size 153 3 Ve (vf 4) cs else if k=8 then Yn w0.heap.size 147 1 #[vf 4,.int .i64 vd] (vf 8) W/\Qg W w0.heap.size 153 3 Ve (vf 4) cs else True
theorem QdO{w0 w w':World}{cs:List TCond}{vd:Int}{k:Nat}{vf:Nat->Value}(hb:∀b,w0.heap.size<=b->b<w.heap.size->w'.heap[b]?=w.heap[b]?)(h:QcR w0 cs vd k vf w):QcR w0 cs vd k vf w':=by
 unfold QcR at h⊢;split
 .rename_i e;rw[if_pos e]at h;exact h.keepFrom hb
 rename_i e;rw[if_neg e]at h;split
 .rename_i e2;rw[if_pos e2]at h;exact h.keepFrom hb
 rename_i e2;rw[if_neg e2]at h;split
 .rename_i e3;rw[if_pos e3]at h;exact⟨h.1.keep hb,h.2.keepFrom hb⟩
 trivial
structure Yj(β:Nat)(w w':World):Prop where
 os:w'.os=w.os
 tape:w'.tape=w.tape
 output:w'.output=w.output
 size:w.heap.size<=w'.heap.size
 blk:∀b,b<w.heap.size->b≠β->w'.heap[b]?=w.heap[b]?
theorem Yj.refl(β:Nat)(w:World):Yj β w w:=⟨rfl,rfl,rfl,Nat.le_refl _,λ_ _ _=>rfl⟩
theorem Yj.below{β:Nat}{w w' w'':World}(h:Yj β w w')(hb:Below w'.heap.size w' w''):Yj β w w'':=⟨hb.os.trans h.os,hb.tape.trans h.tape,hb.output.trans h.output,Nat.le_trans h.size hb.size,λb hl hn=>(hb.block b (Nat.lt_of_lt_of_le hl h.size)).trans (h.blk b hl hn)⟩
theorem Yj.set{β o:Nat}{v:Value}{w w':World}(h:Yj β w w'):Yj β w (w'.setCell ⟨β,o,none⟩ v):=⟨h.os,h.tape,h.output,by rw[Qr];exact h.size,λb hl hn=>by rw[Qm (by exact hn)];exact h.blk b hl hn⟩
theorem Yj.bel{β B:Nat}{w w':World}(h:Yj β w w')(hB:B<=β)(hs:B<=w.heap.size):Below B w w':=⟨h.os,h.tape,h.output,h.size,λb hl=>h.blk b (by omega) (by omega)⟩
theorem short_any(u:Value)(p:TPol)(w:World)(hp:Qc w (λ_=>True) u p.ru):
  Calls prog 195 #[U8 u p.df] w λe w'=>∃r,e=.returned (.tuple #[U8 r (Xi p).1.df,.int .i64 (Xi p).2])/\Qc w' (λb=>w.heap.size<=b/\VN w' b) r (Xi p).1.ru/\Below w.heap.size w w':=by
 have Hp:=Zh hp;obtain⟨ap,cp,rfl,_⟩:=Sl.form hp;clear hp;have hmm:=@run_makeMap prog;go_enter func195,ntmps195;go_wp2_with fail
 have HB:=Zh (Bx.three (w:=w) (o:=.cells #[.slice ap p.ru.length cp,.int .i64 p.df] 38) (o':=.cells #[.slice none 0 0,.int .i64 0] 38) (o2:=.cells #[.slice ap p.ru.length cp,.int .i64 p.df] 38));refine(QaV _ [p] (λ_=>True) _ (Qgm (UM (by simp)) (Hp.o.below HB.o.bel) trivial) (λh0 f _ _=>QeC h0 (by simp) f)).mono ?_;rintro e w1⟨v1,rfl,ho1,hb1⟩;have HB1:=Zh (HB.o.below hb1);have hs1:w.heap.size+3<=w1.heap.size:=HB1.o.top;have Ho1:=Zh ho1;obtain⟨a1,c1,rfl⟩:=ho1.slice;clear ho1 hb1;by_cases h0:(Q8 [p]).2=0
 .obtain⟨hok,hsz5,hpe⟩:=Yw h0;have HE:Hid (Xi p=(Xr p,0)):=QcQ (hok p (by simp)) hsz5;have HokP:=Zh (hok p (by simp));have hlp:=HokP.o.len;rw[hpe]at Ho1⊢;dsimp only at Ho1⊢;have Hl1:Hid (Xj w1 (λ_=>True) (.slice a1 (stage [p] 5).length c1) (stage [p] 5)):=Ho1.o.sl (λ_ _=>trivial);have hSl:(stage [p] 5).length<=1000:=by rw[VJ];assumption
  have Hpo:=Zh (λx (hx:x∈stage [p] 5)=>IV hok hx);have HSP:Hid (Xr p=⟨VQ p.df (Um (YY p (stage [p] 5)) p.ru 0),p.df⟩):=rfl;obtain⟨S,hS⟩:∃S,S=stage [p] 5:=⟨_,rfl⟩;rw[<-hS]at Hl1 Hpo hSl HSP⊢;have hat:=λh0=>Sl.at_ Hl1.o h0;clear h0 hok hpe hS Ho1 hsz5;go_wp2_with fail
  clear hmm
  go_loopw[29](λkv wr=>∃k:Nat,kv=.int .i64 k/\k<=S.length/\UQ wr w1.heap.size k (QdV (YY p (S.take k)))/\Below w1.heap.size w1 wr) (λkv _=>S.length-(intOf kv).toNat)
  case atStart=>exact⟨0,rfl,Nat.zero_le _,UQ.made w1,Qa Zbr _⟩
  case round=>
   obtain⟨k,rfl,hk,hm,hb⟩:=hrel;have Hm:=Zh hm;have Hb:=Zh hb;have hszr:=hb.size;have HBr:=Zh (HB1.o.below hb);have hc0:=HBr.o.cells0;clear hm hb;by_cases hlt:k<S.length
   .obtain⟨b,o,rfl,_,hblt⟩:=hat (by omega);obtain⟨h0c,h1c,h2c,h3c,h4c⟩:=Xj.cells (Hl1.o.below Hb.o) hlt;have Hxo:=Zh (Hpo.o S[k] (List.getElem_mem hlt));have Hut:=Zh (QdU (p:=p) hlt);obtain⟨x,hx⟩:∃x,S[k]=x:=⟨_,rfl⟩;rw[hx]at h0c h1c h2c h3c h4c Hxo Hut;have Hwl:=Zh (QbM x p.ru);have HBx:=Zh (HBr.o.alloc (.cells #[.int .i64 x.a0,.int .i64 x.a1,.int .i64 x.a2,.int .i64 x.a3,.int .i64 x.a4] 46));have hc0':=HBx.o.cells0;clear hx;go_wp2_with fail
    clear h0c h1c h2c h3c h4c hc0';refine(EI _ p x (λ_=>True) _ (Hp.o.below HBx.o.bel)).mono ?_;rw[J7 HokP.o Hxo.o];rintro e w3⟨rfl,hb3⟩;have Hm3:=Zh ((Hm.o.below (Qa Zbr _)).below hb3);have Hb3:=Zh ((Hb.o.trans ((Qa (Below.refl wr.heap.size wr) _).mono hszr)).trans (hb3.mono (by simp;omega)));obtain⟨wi,hwi⟩:∃wi,which x p.ru=wi:=⟨_,rfl⟩;have hj:(judged p x).2=wi:=by rw[<-hwi];rfl
    rw[hwi]at Hut Hwl;rw[hj];have hwl:=Hwl.o;clear hb3 hwi hj;go_wp2_with(at_mapUpdate;refine Y8 rfl _ _ _ rfl w1.heap.size k _ rfl Hm3.o (by unfold maxLen;omega) (wi:Int) (by omega) (by omega) true rfl rfl ?_;intro w5 hm5 hg5;have Hm5:=Zh hm5;have Hb5:=Zh (Below.grown Hb3.o hg5 Hb3.o.size (λg hg=>by injection hg with hg;omega));clear hm5 hg5)
    go_roundw
    case rel=>exact⟨k+1,by go_num,by omega,by rw[Hut.o,QfB];exact Hm5.o,Hb5.o⟩
    case measure=>simp[intOf];omega
   obtain rfl:k=S.length:=by omega
   obtain⟨wo,rfl⟩:∃wo:World,wo=wr:=⟨_,rfl⟩;rw[List.take_length]at Hm;have hbm:w1.heap.size<wo.heap.size:=Hm.o.lt;obtain⟨ks,hks⟩:∃ks,YY p S=ks:=⟨_,rfl⟩;rw[hks]at Hm HSP;have HBS:=Zh (HBr.o.alloc (.cells #[.slice none 0 0,.int .i64 p.df] 38));have HboxS:=Zh (Qh wo (.cells #[.slice none 0 0,.int .i64 p.df] 38));have HmS:=Zh (Hm.o.below (Qa Zbr (.cells #[.slice none 0 0,.int .i64 p.df] 38)));have hcS:=HBS.o.cells0;obtain⟨i0,hi,hz0,hz1,hz2⟩:=info_parts Zj;have Hi:=Zh hi;clear hks hi;go_wp2_with fail
   clear hcS hc0
   go_loopw[49](λkv wk=>∃(k:Nat)(pk:Value),kv=.int .i64 k/\k<=p.ru.length/\UD (wo.heap.size+1) wo.heap.size (.int .i64 p.df) (wo.alloc (.cells #[.slice none 0 0,.int .i64 p.df] 38)) (.slice none 0 0) wk pk (Um ks (p.ru.take k) 0)) (λkv _=>p.ru.length-(intOf kv).toNat)
   case atStart=>exact⟨0,_,rfl,by omega,UD.start HboxS.o Qg.nil⟩
   case round=>
    obtain⟨k,pv,rfl,hk,hG⟩:=hrel;obtain⟨wk,rfl⟩:∃wk:World,wk=wr:=⟨_,rfl⟩;have HG:=Zh hG;clear hG;have hszk:wo.heap.size+1<=wk.heap.size:=by have:=HG.o.size;simpa using this
    have HBk:Hid (Bx w [.cells #[.slice ap p.ru.length cp,.int .i64 p.df] 38,.cells #[.slice none 0 0,.int .i64 0] 38,.cells #[.slice ap p.ru.length cp,.int .i64 p.df] 38] wk):=HBS.o.lift (B:=w.heap.size+3) (HG.o.belowB Zbr (by simp;omega) (by omega) (λg hg=>by simp[Value.ownBlock]at hg)) (by simp);by_cases hlt:k<p.ru.length
    .have Hpk:=Zh ((Og Hp.o).below HBk.o.bel);obtain⟨ba,oa,rfl,hDa,hba⟩:=Sl.at_ Hpk.o (by omega);obtain⟨ca,cca,hca0,hca1,hra,hla,hma,_⟩:=Qc.cells Hpk.o hlt;have Hkr:=Zh (HokP.o.ru p.ru[k] (List.getElem_mem hlt));have Htk:=Zh (NH (ks:=ks) hlt);obtain⟨ra,hrae⟩:∃ra,p.ru[k]=ra:=⟨_,rfl⟩;rw[hrae]at hca0 hca1 hra hla Hkr Htk;have Hra:=Zh hra;have hcl:=Hkr.o.len;have Hmk:Hid (UQ wk w1.heap.size S.length (QdV ks)):=HmS.o.keep (HG.o.blk w1.heap.size (by simp;omega) (by omega) (by simp[Value.ownBlock]));have hlk:=((Hmk.o.below (Qa Zbr (.cells #[.slice ca ra.cd.length cca,.int .i64 ra.vd] 147))).look (z:=(k:Int)) (by omega) (by omega));rw[QhP]at hlk;obtain⟨bu,hbu⟩:∃bu,ks.contains k=bu:=⟨_,rfl⟩;rw[hbu]at hlk Htk
     have Hul:Hid ((Um ks (p.ru.take k) 0).length<=120):=by
      have h1:=Qez ks (p.ru.take k);rw[List.length_take]at h1;show _<=_;omega
     obtain⟨rs,hrs⟩:∃rs,Um ks (p.ru.take k) 0=rs:=⟨_,rfl⟩;rw[hrs]at HG Htk Hul;have hrl:rs.length<=120:=Hul.o;clear hra hrae hrs hbu
     cases bu with
     |true=>
      have H14:Hid ((wk.alloc (.cells #[.slice ca ra.cd.length cca,.int .i64 ra.vd] 147)).heap[wk.heap.size]?=some (.cells #[.slice ca ra.cd.length cca,.int .i64 ra.vd] 147)):=Qh _ _;have Hra0:Hid (QF (wk.alloc (.cells #[.slice ca ra.cd.length cca,.int .i64 ra.vd] 147)) (λb=>b≠wo.heap.size) (.slice ca ra.cd.length cca) ra.cd):=(Hra.o.keep (D':=λb=>b≠wo.heap.size) (λb h _=>by have:b<w.heap.size:=h;omega) (λ_ _ _=>rfl) Znl).below (Qa Zbr _);have Hbox0:Hid ((wk.alloc (.cells #[.slice ca ra.cd.length cca,.int .i64 ra.vd] 147)).heap[wo.heap.size]?=some (.cells #[pv,.int .i64 p.df] 38)):=QQ HG.o.box;obtain⟨rows,hro,hrow⟩:=HG.o.own;have Hcv:Hid (∀g,pv.ownBlock=some g->g≠wo.heap.size):=λg hg=>by have:=(hrow.lt g hg).1;omega
      have Hro:=Zh hro;have Hrow:Hid ((wk.alloc (.cells #[.slice ca ra.cd.length cca,.int .i64 ra.vd] 147)).ownsRow (wo.heap.size+1) 147 2 pv rs.length rows.flatten):=Uh hrow λb _ hl _=>(Qa (Below.refl wk.heap.size wk) _).block b hl;have Hβ0:Hid (wo.heap.size<(wk.alloc (.cells #[.slice ca ra.cd.length cca,.int .i64 ra.vd] 147)).heap.size):=by show _<_;simp;omega
      have H14lt:Hid (wk.heap.size<(wk.alloc (.cells #[.slice ca ra.cd.length cca,.int .i64 ra.vd] 147)).heap.size):=by show _<_;simp
      have H14ne:Hid (wk.heap.size≠wo.heap.size):=by show _≠_;omega
      have HwA:Hid (wo.heap.size+1<=(wk.alloc (.cells #[.slice ca ra.cd.length cca,.int .i64 ra.vd] 147)).heap.size):=by show _<=_;simp;omega
      clear hro hrow;go_wp2_with fail
      clear hca0 hca1 hlk;revert H14 Hra0 Hbox0 Hrow Hβ0 H14lt HwA;obtain⟨w0,hw0⟩:∃w0,wk.alloc (.cells #[.slice ca ra.cd.length cca,.int .i64 ra.vd] 147)=w0:=⟨_,rfl⟩;have HbJ:Hid (Below wk.heap.size wk w0):=by show Below _ _ _;rw[<-hw0];exact Qa Zbr _
      rw[hw0];clear hw0;intro H14 Hra0 Hbox0 Hrow Hβ0 H14lt HwA
      refine ZO wo.heap.size 38 #[pv,.int .i64 p.df] 0 (wo.heap.size+1) 147 2 pv rs.length rows.flatten 1 (λvf=>[vf 4,.int .i64 ra.vd]) 9 11 (QcR w0 ra.cd ra.vd) (by kernel_rfl) (by kernel_rfl) _ rfl Hbox0.o Hrow.o (by omega) Hcv.o (by decide) (by decide) (λk vf w1 w2 hb _ h=>QdO hb h)
       (λk f g w1 hfg hk h=>by
        unfold QcR at h⊢;split
        .rename_i e;subst e;rw[if_pos rfl,hk]at h;exact h
        rename_i e;rw[if_neg e]at h;split
        .rename_i e2;subst e2;rw[if_pos rfl,hfg 4 (by decide)]at h;exact h
        rename_i e2;rw[if_neg e2]at h;split
        .rename_i e3;subst e3;rw[if_pos rfl,hk,hfg 4 (by decide)]at h;exact h
        trivial) (λf g h=>by show [f 4,_]=[g 4,_];rw[h 4 (by decide)]) ?_
      iterate 4 (refine QU (λK hK=>?_);apply Exists.intro;refine⟨λdn vf W hI h0 hd hn hf R hR=>?_,?_,?_⟩;(first|(clear h0 hd hn hf;go_simp;exact hR _ _ (hI.step Zbr (by decide) (by decide) Hβ0.o) (ApT.of_below Zbr) rfl trivial);exact(λ_ _ _=>rfl)|(have hcell:=Qb (hI.before (hn 11 (by decide)));clear h0 hd hn hf;go_simp;exact hR _ _ (hI.step Zbr (by decide) (by decide) Hβ0.o) (ApT.of_below Zbr) rfl trivial);exact(λ_ _ _=>rfl)|(have hcell:=Qb ((hI.old (hn 9 (by decide)) _ H14lt.o H14ne.o).trans H14.o);clear h0 hd hn hf;go_simp;exact hR _ _ (hI.step Zbr (by decide) (by decide) Hβ0.o) (ApT.of_below Zbr) rfl trivial);exact(λ_ _ _=>rfl));(go_simp;refine hK _ ?_;clear hK K))
      (refine VO λK hK=>⟨λdn vf W hI h0 hd hn hf R hR=>?_,?_⟩;(have HW:=Zh (hI.old (hn 9 (by decide)));have Hsz:=Zh hI.size;clear h0 hd hn hf;go_simp;go_at_call 156;refine(GG Ve Qgl (.slice ca ra.cd.length cca) ra.cd (λ_=>True) W (Hra0.o.keep (λ_ _ _=>trivial) (λb hb hl=>HW.o b hl hb) Hsz.o) (by omega)).mono ?_;(rintro e w5 ⟨v5,rfl,ho5,hb5⟩;exact⟨_,rfl,hR _ _ (hI.step hb5 (by decide) (by decide) Hβ0.o) (ApT.of_below hb5) trivial (show Qg w5 w0.heap.size 153 3 Ve v5 ra.cd from ho5.base Hsz.o)⟩));(go_simp;refine hK _ ?_;clear hK K))
      iterate 2 (refine QU (λK hK=>?_);apply Exists.intro;refine⟨λdn vf W hI h0 hd hn hf R hR=>?_,?_,?_⟩;(first|(clear h0 hd hn hf;go_simp;exact hR _ _ (hI.step Zbr (by decide) (by decide) Hβ0.o) (ApT.of_below Zbr) rfl trivial);exact(λ_ _ _=>rfl)|(have hcell:=Qb ((hI.old (hn 9 (by decide)) _ H14lt.o H14ne.o).trans H14.o);clear h0 hd hn hf;go_simp;exact hR _ _ (hI.step Zbr (by decide) (by decide) Hβ0.o) (ApT.of_below Zbr) rfl trivial);exact(λ_ _ _=>rfl));(go_simp;refine hK _ ?_;clear hK K))
      (refine QU λK hK=>⟨λvf=>.agg #[vf 4,.int .i64 ra.vd],λdn vf W hI h0 hd hn hf R hR=>?_,?_,?_⟩;(have h7:Qg W w0.heap.size 153 3 Ve (vf 4) ra.cd:=hf 4 (hd 4 (by decide));have h7k:=h7;obtain⟨a7,c7,h7⟩:=h7.slice;generalize ra.cd.length=n7 at h7;clear h0 hd hn hf;go_simp;exact hR _ _ (hI.step Zbr (by decide) (by decide) Hβ0.o) (ApT.of_below Zbr) (by show _=Value.agg #[vf 4,.int .i64 ra.vd];rw[h7]) h7k);exact(λf g h=>by show Value.agg #[f 4,_]=Value.agg #[g 4,_];rw[h 4 (by decide)]);(go_simp;refine hK _ ?_;clear hK K))
      (refine VO λK hK=>⟨λdn vf W hI h0 hd hn hf R hR=>?_,?_⟩;(have h7:Qg W w0.heap.size 153 3 Ve (vf 4) ra.cd:=hf 7 (hd 7 (by decide));have H7k:=Zh h7;obtain⟨a7,c7,h7⟩:=h7.slice;generalize ra.cd.length=n7 at h7;have H7:=Zh h7;clear h0 hd hn hf;go_simp;exact hR _ _ (hI.step (Qa Zbr _) (by decide) (by decide) Hβ0.o) (ApT.of_below (Qa Zbr _)) trivial ⟨⟨_,rfl,hI.size,by rw[Qh];show some (Obj.cells #[.slice a7 n7 c7,.int .i64 ra.vd] _)=some (Obj.cells #[vf 4,.int .i64 ra.vd] _);rw[H7.o]⟩,H7k.o.below (Qa Zbr _)⟩);(go_simp;refine hK _ ?_;clear hK K))
      (refine VO λK hK=>⟨λdn vf W hI h0 hd hn hf R hR=>?_,?_⟩;(have h15:Yn w0.heap.size 147 1 #[vf 4,.int .i64 ra.vd] (vf 8) W/\Qg W w0.heap.size 153 3 Ve (vf 4) ra.cd:=hf 8 (hd 8 (by decide));obtain⟨⟨bn,hbv,hbn,hcn⟩,h7⟩:=h15;obtain⟨a7,c7,h7⟩:=h7.slice;refine YT rfl ?_;refine V5 (.tmp 58) (.tmp 65) 36 rfl (wo.heap.size+1) 147 i0 _ 2 32 underlying36 Hi.o hz0 hz1 hz2 rfl (by omega) pv rs.length rows.flatten (by rfl) (hI.own h0) ⟨bn,0,none⟩ 1 1 [vf 4,.int .i64 ra.vd] (by exact hbv) (by rfl) (World.news_of_block hcn) (by rw[h7];simp[Value.oneCell']) (by omega) (by unfold maxLen;omega) (by omega) (by have:=hI.size;have:=HwA.o;omega) (λv' w' h1 h2 h3=>hR _ _ (hI.appended (hn 11 (by decide)) Hcv.o h2 Hβ0.o) (ApT.of_grown h2) trivial ⟨by exact h1,by rcases h3 with h3|h3;exact .inl h3;exact .inr (λg hg=>by have h9:v'.ownBlock=some g:=hg;rw[h3]at h9;injection h9 with h9;have:=hI.size;omega)⟩));(go_simp;refine hK _ ?_;clear hK K))
      iterate 2 (refine QU (λK hK=>?_);apply Exists.intro;refine⟨λdn vf W hI h0 hd hn hf R hR=>?_,?_,?_⟩;(first|(clear h0 hd hn hf;go_simp;exact hR _ _ (hI.step Zbr (by decide) (by decide) Hβ0.o) (ApT.of_below Zbr) rfl trivial);exact(λ_ _ _=>rfl)|(have h16:W.ownsRow (wo.heap.size+1) 147 2 (vf 9) (rs.length+1) (rows.flatten++[vf 4,.int .i64 ra.vd])/\_:=hf 9 (hd 9 (by decide));obtain⟨gv,cpv,hv16,_,_⟩:=World.ownsRow.form h16.1 (by omega);have hst:=hI.stored (off:=0) (v:=vf 9) (hd 9 (by decide)) (by decide);have hbf:=hI.before h0;have hcb:=Qb hbf;have hfb:=Qp hbf;have Hst:=Zh hst;have Hset:=Zh (QJ (o:=0) (v:=vf 9) hbf);have H16:=Zh hv16;clear hd hn hf h16 hst hbf;go_simp;rw[<-H16.o];exact hR _ _ Hst.o ApT.of_store rfl Hset.o);exact(λ_ _ _=>rfl));(go_simp;refine hK _ ?_;clear hK K))
      intro dn vf W hd hI hF;have h7:Qg W w0.heap.size 153 3 Ve (vf 4) ra.cd:=hF 4 (by decide);have h16:W.ownsRow (wo.heap.size+1) 147 2 (vf 9) (rs.length+1) (rows.flatten++[vf 4,.int .i64 ra.vd])/\((vf 9).ownBlock=pv.ownBlock\/∀g,(vf 9).ownBlock=some g->w0.heap.size<=g):=hF 9 (by decide);have h18:W.heap[wo.heap.size]?=some (.cells (#[pv,.int .i64 p.df].setIfInBounds 0 (vf 9)) 38):=hF 11 (by decide);have HN:=Zh (UD.step HG.o HbJ.o (by omega) HwA.o hI Hro.o h16.1 h16.2 h18 h7 QbD);clear hd hI hF h7 h16 h18;go_wp2
      go_roundw
      case rel=>exact⟨k+1,vf 9,by go_num,by omega,by rw[Htk.o];exact HN.o⟩
      case measure=>simp[intOf];omega
     |false=>
      have HN:=Zh (HG.o.below (Qa Zbr (.cells #[.slice ca ra.cd.length cca,.int .i64 ra.vd] 147)));go_wp2
      go_roundw
      case rel=>exact⟨k+1,pv,by go_num,by omega,by rw[Htk.o,if_neg (by simp),List.append_nil];exact HN.o⟩
      case measure=>simp[intOf];omega
    obtain rfl:k=p.ru.length:=by omega
    rw[List.take_length]at HG;have Hul:Hid ((Um ks p.ru 0).length<=120):=by have h1:=Qez ks p.ru;show _<=_;omega
    obtain⟨L2,hL2⟩:∃L2,Um ks p.ru 0=L2:=⟨_,rfl⟩;rw[hL2]at HG HSP Hul;obtain⟨aP,cP,rfl,hcP,hcM,hatP⟩:=Sl.form HG.o.ru;have hcb:=Qb HG.o.box;have hll:=Hul.o;clear hL2;go_wp2_with fail
    clear hcb
    go_loopw[15](λnv wn=>∃n:Nat,nv=.int .i64 n/\n<=L2.length/\Yj wo.heap.size wk wn/\wn.heap[wo.heap.size]?=some (.cells #[.slice aP n cP,.int .i64 p.df] 38)/\VQ p.df (L2.take n)=VQ p.df L2) (λnv _=>(intOf nv).toNat)
    case atStart=>exact⟨L2.length,rfl,Nat.le_refl _,Yj.refl _ _,HG.o.box,by rw[List.take_length]⟩
    case round=>
     obtain⟨n,rfl,hn,hS,hbx,htr⟩:=hrel;have HS:=Zh hS;have Hbx:=Zh hbx;have Htr:=Zh htr;have hszn:=hS.size;have HRn:Hid (Qc wr (λb=>wo.heap.size+1<=b/\VN wr b) (.slice aP L2.length cP) L2):=HG.o.ru.keep (λb h hl=>⟨h.1,h.2.keep (HS.o.blk b hl (by have:=h.1;omega))⟩) (λb hb hl=>HS.o.blk b hl (by have:=hb.1;omega)) HS.o.size;clear hS hbx htr;have HBr2:=Zh (HBk.o.lift (B:=w.heap.size+3) (HS.o.bel (by omega) (by omega)) (by simp));rcases Nat.eq_zero_or_pos n with rfl|hpos
     .have Hfin:Hid (VQ p.df L2=L2.take 0):=by show _=_;rw[<-Htr.o];simp[VQ]
      go_wp2_with fail
      refine Qy wr.heap.size Znl (by kernel_rfl) (by kernel_rfl) ?_
      repeat(refine QL (λK hK=>?_);apply Exists.intro;refine⟨λW hC R hR=>?_,?_⟩;((go_simp;exact hR _ _ Zbr rfl));(go_simp;refine hK _ ?_;clear hK K))
      intro wn hCn;have HBn:=Zh (HBr2.o.below hCn.2);have Hbr:=Zh (Qd Hbx.o hCn.2);have Hrd:Hid (Qc wn (λb=>wo.heap.size+1<=b/\VN wn b) (.slice aP 0 cP) (L2.take 0)):=(show Qc wr (λb=>wo.heap.size+1<=b/\VN wr b) (.slice aP 0 cP) (L2.take 0)from Sl.take HRn.o (Nat.zero_le _)).keep (λb h hl=>⟨h.1,h.2.keep (hCn.2.block b hl)⟩) (λb _ hl=>hCn.2.block b hl) hCn.2.size;clear hCn;have hcb:=Qb Hbr.o;have HB7:=Zh (HBn.o.set (i:=1) rfl 0 (.slice aP 0 cP));have HB8:=Zh (HB7.o.set (i:=1) rfl 1 (.int .i64 p.df));have hc2:=HBn.o.cells1;have hf2:=HBn.o.free1;have hc3:=HB8.o.cells1
      have HR8:Hid (Qc ((wn.setCell ⟨w.heap.size+1,0,none⟩ (.slice aP 0 cP)).setCell ⟨w.heap.size+1,1,none⟩ (.int .i64 p.df)) (λb=>w.heap.size<=b/\VN ((wn.setCell ⟨w.heap.size+1,0,none⟩ (.slice aP 0 cP)).setCell ⟨w.heap.size+1,1,none⟩ (.int .i64 p.df)) b) (.slice aP 0 cP) (L2.take 0)):=by
       have hsame:∀b,wo.heap.size+1<=b->(((wn.setCell ⟨w.heap.size+1,0,none⟩ (.slice aP 0 cP)).setCell ⟨w.heap.size+1,1,none⟩ (.int .i64 p.df))).heap[b]?=wn.heap[b]?:=λb hb=>by rw[Qm (by show b≠w.heap.size+1;omega),Qm (by show b≠w.heap.size+1;omega)]
       exact Hrd.o.keep (λb h _=>⟨by have:=h.1;omega,h.2.keep (hsame b h.1)⟩) (λb hb _=>hsame b hb.1) (by rw[Qr,Qr];exact Nat.le_refl _)
      go_wp2;refine bodyPost_ret (v:=.tuple #[U8 (.slice aP 0 cP) p.df,.int .i64 0]) ?_ rfl (by rw[HE.o,HSP.o,Hfin.o];exact⟨_,rfl,HR8.o,HB8.o.bel⟩);rw[results_cell_tmp rfl];go_simp
     obtain⟨m,rfl⟩:∃m,n=m+1:=⟨n-1,by omega⟩;obtain⟨bP,oP,rfl,hDP,hbP⟩:=hatP (by omega);have hbPn:bP<wr.heap.size:=by omega
     obtain⟨cx,ccx,_,hv1,_⟩:=Qc.cells HRn.o (i:=m) (by omega);obtain⟨vm,hvm⟩:∃vm,L2[m].vd=vm:=⟨_,rfl⟩;rw[hvm]at hv1
     have HC:Hid (∀W,Cls wr.heap.size wr W->(∀j,W.cell? ⟨wo.heap.size,j,none⟩=(#[.slice (some ⟨bP,oP,none⟩) (m+1) cP,.int .i64 p.df]:Array Value)[j]?)/\W.cell? ⟨bP,oP+m*2+1,none⟩=some (.int .i64 vm)):=λW hW=>
      ⟨Qb (Qd Hbx.o hW.2),(hW.2.cell (p:=⟨bP,oP+m*2+1,none⟩) hbPn).trans hv1⟩
     have Hvm:=Zh hvm;have e1:((m:Int)+1-1)=(m:Int):=by omega
     have hwm:IntKind.i64.wrap (m:Int)=(m:Int):=IntWalk.i64_in _ (by omega);have hm0:(0:Int)<=(m:Int):=by omega
     have hm1:(m:Int)<(m:Int)+1:=by omega
     clear hvm hv1;go_wp2_with fail
     refine Qy wr.heap.size Znl (by kernel_rfl) (by kernel_rfl) ?_
     repeat(refine QL (λK hK=>?_);apply Exists.intro;refine⟨λW hC R hR=>?_,?_⟩;((have hcc:=HC.o W hC;go_simp;exact hR _ _ Zbr rfl));(go_simp;refine hK _ ?_;clear hK K))
     intro wn hCn;have HBn:=Zh (HBr2.o.below hCn.2);have Hbr:=Zh (Qd Hbx.o hCn.2);have HSn:=Zh (HS.o.below hCn.2);have Hrd:Hid (Qc wn (λb=>wo.heap.size+1<=b/\VN wn b) (.slice (some ⟨bP,oP,none⟩) (m+1) cP) (L2.take (m+1))):=(show Qc wr (λb=>wo.heap.size+1<=b/\VN wr b) (.slice (some ⟨bP,oP,none⟩) (m+1) cP) (L2.take (m+1))from Sl.take HRn.o (by omega)).keep (λb h hl=>⟨h.1,h.2.keep (hCn.2.block b hl)⟩) (λb _ hl=>hCn.2.block b hl) hCn.2.size;clear hCn;by_cases hv:vm=p.df
     .have d:(vm==p.df)=true:=beq_iff_eq.2 hv;simp only[d];have Htd:=Zh (QgR (d:=p.df) (l:=L2) (n:=m) (by omega) (Hvm.o.trans hv));have hcb:=Qb Hbr.o;have hfb:=Qp Hbr.o;have Hst:=Zh (QJ (o:=0) (v:=.slice (some ⟨bP,oP,none⟩) m cP) Hbr.o);clear hv;go_wp2
      go_roundw
      case rel=>exact⟨m,by go_num,by omega,HSn.o.set,Hst.o,by rw[<-Htd.o];exact Htr.o⟩
      case measure=>simp[intOf]
     have d:(vm==p.df)=false:=by simpa using hv
     simp only[d];have Hfin:Hid (VQ p.df L2=L2.take (m+1)):=by show _=_;rw[<-Htr.o,QgS (by omega) (by rw[Hvm.o];exact hv)]
     clear hv;have hcb:=Qb Hbr.o;have HB7:=Zh (HBn.o.set (i:=1) rfl 0 (.slice (some ⟨bP,oP,none⟩) (m+1) cP));have HB8:=Zh (HB7.o.set (i:=1) rfl 1 (.int .i64 p.df));have hc2:=HBn.o.cells1;have hf2:=HBn.o.free1;have hc3:=HB8.o.cells1
     have HR8:Hid (Qc ((wn.setCell ⟨w.heap.size+1,0,none⟩ (.slice (some ⟨bP,oP,none⟩) (m+1) cP)).setCell ⟨w.heap.size+1,1,none⟩ (.int .i64 p.df)) (λb=>w.heap.size<=b/\VN ((wn.setCell ⟨w.heap.size+1,0,none⟩ (.slice (some ⟨bP,oP,none⟩) (m+1) cP)).setCell ⟨w.heap.size+1,1,none⟩ (.int .i64 p.df)) b) (.slice (some ⟨bP,oP,none⟩) (m+1) cP) (L2.take (m+1))):=by
      have hsame:∀b,wo.heap.size+1<=b->(((wn.setCell ⟨w.heap.size+1,0,none⟩ (.slice (some ⟨bP,oP,none⟩) (m+1) cP)).setCell ⟨w.heap.size+1,1,none⟩ (.int .i64 p.df))).heap[b]?=wn.heap[b]?:=λb hb=>by rw[Qm (by show b≠w.heap.size+1;omega),Qm (by show b≠w.heap.size+1;omega)]
      exact Hrd.o.keep (λb h _=>⟨by have:=h.1;omega,h.2.keep (hsame b h.1)⟩) (λb hb _=>hsame b hb.1) (by rw[Qr,Qr];exact Nat.le_refl _)
     go_wp2;refine bodyPost_ret (v:=.tuple #[U8 (.slice (some ⟨bP,oP,none⟩) (m+1) cP) p.df,.int .i64 0]) ?_ rfl (by rw[HE.o,HSP.o,Hfin.o];exact⟨_,rfl,HR8.o,HB8.o.bel⟩);rw[results_cell_tmp rfl];go_simp
 have hb0:((Q8 [p]).2 != 0)=true:=bne_iff_ne.2 h0;have HE:Hid (Xi p=(zeroPol,(Q8 [p]).2)):=by show Xi p=_;unfold Xi;rw[if_pos h0]
 have hc2:=HB1.o.cells1;have hf2:=HB1.o.free1;have HB7:=Zh (HB1.o.set (i:=1) rfl 0 (.slice none 0 0));have HB8:=Zh (HB7.o.set (i:=1) rfl 1 (.int .i64 0));have hc3:=HB8.o.cells1;clear h0;go_wp2;refine bodyPost_ret (v:=.tuple #[U8 (.slice none 0 0) 0,.int .i64 (Q8 [p]).2]) ?_ rfl (by rw[HE.o];exact⟨_,rfl,VF _ _,HB8.o.bel⟩);rw[results_cell_tmp rfl];go_simp
end
end Go.Proofs.YthkgjohhbdipcaaGreatDoor
