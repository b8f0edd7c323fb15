/- Texts laid one behind the other: Same, KeepSame, RefCode, RChain, Same2. No condition beyond theirs. -/
import Derived.Test.YthkgjohhbdipcaaGreatDoorQ4
import Derived.Test.YthkgjohhbdipcaaGreatDoorQ2
import Derived.Test.YthkgjohhbdipcaaGreatDoorQ8
import Derived.Laws.StructEq
import Derived.KernelRfl
import Derived.Test.YthkgjohhbdipcaaGreatDoorQ7
set_option linter.all false
set_option maxHeartbeats 64000000
set_option maxRecDepth 100000
namespace Go.Proofs.YthkgjohhbdipcaaGreatDoor
open Tryz
section
open Go.RowKit
attribute [local go_sem] gives QG
theorem ZN{α:Type}{xs ys:List α}{k:Nat}(hx:k<xs.length)(hy:k<ys.length)(h:xs.take k=ys.take k)(e:xs[k]=ys[k]):xs.take (k+1)=ys.take (k+1):=by
 rw[List.take_succ_eq_append_getElem hx,List.take_succ_eq_append_getElem hy,h,e]
theorem JB{α:Type}{xs ys:List α}{k:Nat}(hx:k<xs.length)(hy:k<ys.length)(e:xs[k]≠ys[k]):xs≠ys:=λh=>e (by subst h;rfl)
theorem QcN(c d:TCond)(w:World):(binOp .neq 153 (.agg #[.int .i64 c.f,.int .i64 c.op,.int .i64 c.v]) (.agg #[.int .i64 d.f,.int .i64 d.op,.int .i64 d.v])).run prog w=.ok (.bool (!decide (c=d))) w:=by
 obtain⟨f,o,v⟩:=c;obtain⟨f',o',v'⟩:=d;dsimp only
 have hd:decide ((⟨f,o,v⟩:TCond)=⟨f',o',v'⟩)=(decide (f=f')&&decide (o=o')&&decide (v=v')):=by
  rw[Bool.eq_iff_iff];simp[and_assoc]
 rw[hd];clear hd;by_cases h1:f=f'
 .have b1:(f==f')=true:=beq_iff_eq.2 h1;by_cases h2:o=o'
  .have b2:(o==o')=true:=beq_iff_eq.2 h2;by_cases h3:v=v'
   .have b3:(v==v')=true:=beq_iff_eq.2 h3;rw[decide_eq_true h1,decide_eq_true h2,decide_eq_true h3];clear h1 h2 h3;go_simp
   have b3:(v==v')=false:=beq_eq_false_iff_ne.2 h3;rw[decide_eq_true h1,decide_eq_true h2,decide_eq_false h3];clear h1 h2 h3;go_simp
  have b2:(o==o')=false:=beq_eq_false_iff_ne.2 h2;rw[decide_eq_true h1,decide_eq_false h2];clear h1 h2;go_simp
 have b1:(f==f')=false:=beq_eq_false_iff_ne.2 h1;rw[decide_eq_false h1];clear h1;go_simp
attribute [-go_sem] run_neq_struct
theorem Es(v u:Value)(xs ys:List TCond)(D:Nat->Prop)(w:World)(h:QF w D v xs)(h':QF w D u ys):
  Calls prog 116 #[v,u] w λe w'=>e=.returned (.bool (decide (xs=ys)))/\Below w.heap.size w w':=by
 obtain⟨a,c,rfl,hlc,hcm,hat⟩:=Sl.form h;obtain⟨a',c',rfl,hlc',hcm',hat'⟩:=Sl.form h';have H:=Zh h;have H':=Zh h';clear h h';by_cases hl:xs.length=ys.length
 .have b0:((xs.length:Int) !=(ys.length:Int))=false:=bne_eq_false_iff_eq.2 (by omega);have hl':=Zh hl;have hl1:xs.length<=ys.length:=by omega
  have hl2:ys.length<=xs.length:=by omega
  clear hl;go_enter func116,ntmps116;go_wp2_with fail
  go_loopw[13](λi wr=>∃k:Nat,k<=xs.length/\i=.int .i64 k/\xs.take k=ys.take k/\Below w.heap.size w wr) (λi _=>xs.length-(intOf i).toNat)
  case atStart=>exact⟨0,by omega,rfl,rfl,Below.refl _ _⟩
  case round=>
   obtain⟨k,hk,rfl,htk,hbw⟩:=hrel;have Ht:=Zh htk;have hsz:=hbw.size;clear htk;by_cases hlt:k<xs.length
   .obtain⟨b,o,rfl,hDb,hb⟩:=hat (by omega);obtain⟨b',o',rfl,hDb',hb'⟩:=hat' (by omega);have hlt':k<ys.length:=by omega
    have hc:∀W,Cls w.heap.size wr W->(W.cell? ⟨b,o+k*3,none⟩=some (.int .i64 xs[k].f)/\W.cell? ⟨b,o+k*3+1,none⟩=some (.int .i64 xs[k].op)/\W.cell? ⟨b,o+k*3+2,none⟩=some (.int .i64 xs[k].v)) /\
      (W.cell? ⟨b',o'+k*3,none⟩=some (.int .i64 ys[k].f)/\W.cell? ⟨b',o'+k*3+1,none⟩=some (.int .i64 ys[k].op)/\W.cell? ⟨b',o'+k*3+2,none⟩=some (.int .i64 ys[k].v)):=λW hW=>
     ⟨QF.cells (H.o.below (hbw.trans hW.2)) hlt,QF.cells (H'.o.below (hbw.trans hW.2)) hlt'⟩
    have Hc:=Zh hc;have hne:=QcN xs[k] ys[k];clear hc;go_wp2_with fail
    refine Qy w.heap.size hsz (by kernel_rfl) (by kernel_rfl) ?_
    repeat(refine QL (λK hK=>?_);apply Exists.intro;refine⟨λW hC R hR=>?_,?_⟩;(first
     |(have hne':=hne W;clear hne;go_simp;exact hR _ _ Zbr rfl)
     |(have hcc:=Hc.o W hC;go_simp;exact hR _ _ Zbr rfl));(go_simp;refine hK _ ?_;clear hK K))
    intro w2 hC2;clear hne;by_cases he:xs[k]=ys[k]
    .have Hn:=Zh (ZN hlt hlt' Ht.o he);have d:decide (xs[k]=ys[k])=true:=decide_eq_true he;clear he;simp only[d];go_wp2
     go_roundw
     case rel=>exact⟨k+1,by omega,by go_num,Hn.o,hbw.trans hC2.2⟩
     case measure=>simp[intOf];omega
    have Hn:=Zh (JB hlt hlt' he);have d:decide (xs[k]=ys[k])=false:=decide_eq_false he;clear he;simp only[d];go_wp2;go_ret;exact⟨VM (decide_eq_false Hn.o).symm,hbw.trans hC2.2⟩
   obtain rfl:k=xs.length:=by omega
   have Hn:Hid (xs=ys):=by
    have:=Ht.o;rw[List.take_length,hl'.o,List.take_length]at this;exact this
   go_wp2;go_ret;exact⟨VM (decide_eq_true Hn.o).symm,hbw⟩
 have b0:((xs.length:Int) !=(ys.length:Int))=true:=bne_iff_ne.2 (by omega);have hn:decide (xs=ys)=false:=decide_eq_false λe=>hl (by rw[e]);rw[hn];clear hn hl;go_enter func116,ntmps116;go_wp2;go_ret;exact⟨rfl,Below.refl _ _⟩
theorem QgJ(v u:Value)(r q:TRule)(D:Nat->Prop)(w:World)(h:QF w D v r.cd)(h':QF w D u q.cd):
  Calls prog 115 #[.agg #[v,.int .i64 r.vd],.agg #[u,.int .i64 q.vd]] w λe w'=>e=.returned (.bool (decide (r=q)))/\Below w.heap.size w w':=by
 obtain⟨rc,rv⟩:=r;obtain⟨qc,qv⟩:=q;dsimp only at h h'⊢;have H:=Zh h;have H':=Zh h';clear h h';by_cases hv:rv=qv
 .have b0:(rv==qv)=true:=beq_iff_eq.2 hv;have hd:decide ((⟨rc,rv⟩:TRule)=⟨qc,qv⟩)=decide (rc=qc):=by rw[decide_eq_decide];simp[hv]
  rw[hd];clear hd hv;go_enter func115,ntmps115;go_wp2_with fail
  refine(Es v u rc qc D _ (QF.below H.o (Qa (Qa Zbr _) _)) (QF.below H'.o (Qa (Qa Zbr _) _))).mono ?_;rintro e w1⟨rfl,hb1⟩;have hb1':Below (w.heap.size+2) _ w1:=hb1.mono (by simp);go_wp2;go_ret;exact⟨rfl,XG hb1'⟩
 have b0:(rv==qv)=false:=beq_eq_false_iff_ne.2 hv;have hd:decide ((⟨rc,rv⟩:TRule)=⟨qc,qv⟩)=false:=decide_eq_false λe=>hv (by injection e);rw[hd];clear hd hv;go_enter func115,ntmps115;go_wp2;go_ret;exact⟨rfl,Qa (Qa Zbr _) _⟩
theorem Qdm(v u:Value)(xs ys:List TRule)(D:Nat->Prop)(w:World)(h:Qc w D v xs)(h':Qc w D u ys):
  Calls prog 114 #[v,u,.func (.func 115) #[] #[]] w λe w'=>e=.returned (.bool (decide (xs=ys)))/\Below w.heap.size w w':=by
 obtain⟨a,c,rfl,hlc,hcm,hat⟩:=Sl.form h;obtain⟨a',c',rfl,hlc',hcm',hat'⟩:=Sl.form h';have H:=Zh h;have H':=Zh h';clear h h';by_cases hl:xs.length=ys.length
 .have b0:((xs.length:Int) !=(ys.length:Int))=false:=bne_eq_false_iff_eq.2 (by omega);have hl':=Zh hl;have hl1:xs.length<=ys.length:=by omega
  have hl2:ys.length<=xs.length:=by omega
  clear hl;go_enter func114,ntmps114;go_wp2_with fail
  go_loopw[17](λi wr=>∃k:Nat,k<=xs.length/\i=.int .i64 k/\xs.take k=ys.take k/\Below w.heap.size w wr) (λi _=>xs.length-(intOf i).toNat)
  case atStart=>exact⟨0,by omega,rfl,rfl,Below.refl _ _⟩
  case round=>
   obtain⟨k,hk,rfl,htk,hbw⟩:=hrel;have Ht:=Zh htk;have hsz:=hbw.size;clear htk;by_cases hlt:k<xs.length
   .obtain⟨b,o,rfl,hDb,hb⟩:=hat (by omega);obtain⟨b',o',rfl,hDb',hb'⟩:=hat' (by omega);have hlt':k<ys.length:=by omega
    obtain⟨ra,rc,k0,k1,hr,hlr,hcr,_⟩:=Qc.cells (Qc.below H.o hbw) hlt;obtain⟨qa,qc,q0,q1,hq,hlq,hcq,_⟩:=Qc.cells (Qc.below H'.o hbw) hlt';have Hr:=Zh hr;have Hq:=Zh hq;have hbr:b'<wr.heap.size:=by omega
    have q0':∀O,(wr.alloc O).cell? ⟨b',o'+k*2,none⟩=some (.slice qa ys[k].cd.length qc):=λO=>(World.cell?_alloc_lt _ _ _ hbr).trans q0;have q1':∀O,(wr.alloc O).cell? ⟨b',o'+k*2+1,none⟩=some (.int .i64 ys[k].vd):=λO=>(World.cell?_alloc_lt _ _ _ hbr).trans q1;clear hr hq q0 q1;go_wp2_with fail
    refine(QgJ _ _ xs[k] ys[k] D _ (QF.below Hr.o (Qa (Qa Zbr _) _)) (QF.below Hq.o (Qa (Qa Zbr _) _))).mono ?_;rintro e w1⟨rfl,hb1⟩;have hb2:Below (wr.heap.size+2) _ w1:=hb1.mono (by simp);have Hb:=Zh (hbw.trans ((XG hb2).mono hbw.size));clear hb1 hb2 k0 k1 q0' q1';by_cases he:xs[k]=ys[k]
    .have Hn:=Zh (ZN hlt hlt' Ht.o he);rw[decide_eq_true he];clear he;go_wp2
     go_roundw
     case rel=>exact⟨k+1,by omega,by go_num,Hn.o,Hb.o⟩
     case measure=>simp[intOf];omega
    have Hn:=Zh (JB hlt hlt' he);rw[decide_eq_false he];clear he;go_wp2;go_ret;exact⟨VM (decide_eq_false Hn.o).symm,Hb.o⟩
   obtain rfl:k=xs.length:=by omega
   have Hn:Hid (xs=ys):=by
    have:=Ht.o;rw[List.take_length,hl'.o,List.take_length]at this;exact this
   go_wp2;go_ret;exact⟨VM (decide_eq_true Hn.o).symm,hbw⟩
 have b0:((xs.length:Int) !=(ys.length:Int))=true:=bne_iff_ne.2 (by omega);have hn:decide (xs=ys)=false:=decide_eq_false λe=>hl (by rw[e]);rw[hn];clear hn hl;go_enter func114,ntmps114;go_wp2;go_ret;exact⟨rfl,Below.refl _ _⟩
theorem QhI(v u:Value)(p q:TPol)(D:Nat->Prop)(w:World)(h:Qc w D v p.ru)(h':Qc w D u q.ru):
  Calls prog 73 #[U8 v p.df,U8 u q.df] w λe w'=>e=.returned (.bool (decide (p=q)))/\Below w.heap.size w w':=by
 obtain⟨pr,pd⟩:=p;obtain⟨qr,qd⟩:=q;dsimp only at h h'⊢;have H:=Zh h;have H':=Zh h';have hmk:∀(fn:Fn)(first cap:Array Value)(w:World),(Instr.makeFunc fn first cap).run prog w=.ok (.func fn first cap) w:=λ_ _ _ _=>rfl;clear h h';by_cases hv:pd=qd
 .have b0:(pd==qd)=true:=beq_iff_eq.2 hv;have hd:decide ((⟨pr,pd⟩:TPol)=⟨qr,qd⟩)=decide (pr=qr):=by rw[decide_eq_decide];simp[hv]
  rw[hd];clear hd hv;go_enter func73,ntmps73;go_wp2_with fail
  refine(Qdm v u pr qr D _ (Qc.below H.o (Qa (Qa Zbr _) _)) (Qc.below H'.o (Qa (Qa Zbr _) _))).mono ?_;rintro e w1⟨rfl,hb1⟩;have hb1':Below (w.heap.size+2) _ w1:=hb1.mono (by simp);go_wp2;go_ret;exact⟨rfl,XG hb1'⟩
 have b0:(pd==qd)=false:=beq_eq_false_iff_ne.2 hv;have hd:decide ((⟨pr,pd⟩:TPol)=⟨qr,qd⟩)=false:=decide_eq_false λe=>hv (by injection e);rw[hd];clear hd hv;go_enter func73,ntmps73;go_wp2;go_ret;exact⟨rfl,Qa (Qa Zbr _) _⟩
end
section
open Go.RowKit
theorem Below.cell_alloc'{w:World}{ad:Addr}{v:Value}(O:Obj)(h:w.cell? ad=some v):(w.alloc O).cell? ad=some v:=by
 obtain⟨b,i,s⟩:=ad
 have hlt:b<w.heap.size:=by
  apply Classical.byContradiction;intro hn;unfold World.cell? at h;rw[Array.getElem?_eq_none (by show w.heap.size<=b;omega)]at h;cases h
 unfold World.cell? at h⊢;rw[show(w.alloc O).heap[b]?=w.heap[b]? from Below.heap_alloc w O b hlt];exact h
@[reducible] def cellV(c:TCell)(a1:Option Addr)(c1:Nat)(a2:Option Addr)(c2:Nat):Value:=.agg #[.bool c.open_,.slice a1 c.chain.length c1,.slice a2 c.p.ru.length c2,.int .i64 c.p.df]
theorem Jp{w:World}{D:Nat->Prop}{v:Value}{l:List TCell}(h:Qo w D v l):Qo w (λ_=>True) v l:=h.keep (λ_ _ _=>trivial) (λ_ _ _=>rfl) Znl
theorem Qdv(x y:TCell)(a1 a2 b1 b2:Option Addr)(c1 c2 d1 d2:Nat)(w:World)(h1:Qz w (λ_=>True) (.slice a1 x.chain.length c1) x.chain)(h2:Qc w (λ_=>True) (.slice a2 x.p.ru.length c2) x.p.ru)(h3:Qz w (λ_=>True) (.slice b1 y.chain.length d1) y.chain)(h4:Qc w (λ_=>True) (.slice b2 y.p.ru.length d2) y.p.ru):
  Calls prog 99 #[cellV x a1 c1 a2 c2,cellV y b1 d1 b2 d2] w λe w'=>e=.returned (.bool (decide (x=y)))/\Below w.heap.size w w':=by
 have H1:=Zh h1;have H2:=Zh h2;have H3:=Zh h3;have H4:=Zh h4;clear h1 h2 h3 h4;obtain⟨ox,cx,px⟩:=x;obtain⟨oy,cy,py⟩:=y;dsimp only at H1 H2 H3 H4⊢;have HB:=Zh (Bx.two (w:=w) (o:=.cells #[.bool ox,.slice a1 cx.length c1,.slice a2 px.ru.length c2,.int .i64 px.df] 52) (o':=.cells #[.bool oy,.slice b1 cy.length d1,.slice b2 py.ru.length d2,.int .i64 py.df] 52));have HD:Hid (decide ((⟨ox,cx,px⟩:TCell)=⟨oy,cy,py⟩)=(decide (ox=oy)&&decide (cx=cy)&&decide (px=py))):=by show _=_;simp[Bool.and_assoc]
 by_cases ho:ox=oy
 .subst ho;go_enter func99,ntmps99;go_wp2_with fail
  refine(QeP _ _ cx cy _ (H1.o.below HB.o.bel) (H3.o.below HB.o.bel)).mono ?_;rintro e w1⟨rfl,hb1⟩;have HB1:=Zh (HB.o.below hb1);clear hb1;by_cases hc:cx=cy
  .have d1:decide (cx=cy)=true:=decide_eq_true hc;have HD':Hid (decide ((⟨ox,cx,px⟩:TCell)=⟨ox,cy,py⟩)=decide (px=py)):=by show _=_;rw[HD.o,d1];simp
   rw[d1];clear hc HD d1;have hq0:=HB1.o.cells0;have hq1:=HB1.o.cells1;go_wp2_with fail
   refine(QhI _ _ px py (λ_=>True) _ (Qc.below H2.o HB1.o.bel) (Qc.below H4.o HB1.o.bel)).mono ?_;rintro e w2⟨rfl,hb2⟩;have HB2:=Zh (HB1.o.below hb2);clear hq0 hq1 hb2;go_wp2;go_ret;exact⟨by rw[HD'.o];rfl,HB2.o.bel⟩
  have d1:decide (cx=cy)=false:=decide_eq_false hc;have HD':Hid (decide ((⟨ox,cx,px⟩:TCell)=⟨ox,cy,py⟩)=false):=by show _=_;rw[HD.o,d1];simp
  rw[d1];clear hc HD d1;go_wp2;go_ret;exact⟨by rw[HD'.o];rfl,HB1.o.bel⟩
 have d1:(ox==oy)=false:=by simpa using ho
 have HD':Hid (decide ((⟨ox,cx,px⟩:TCell)=⟨oy,cy,py⟩)=false):=by show _=_;rw[HD.o];simp[ho]
 clear ho HD;have HBL:Hid (Below w.heap.size w _):=HB.o.bel;go_enter func99,ntmps99;go_wp2;go_ret;exact⟨by rw[HD'.o];rfl,HBL.o⟩
theorem Qho(v u:Value)(xs ys:List TCell)(w:World)(h:Qo w (λ_=>True) v xs)(h':Qo w (λ_=>True) u ys):
  Calls prog 89 #[v,u,.func (.func 99) #[] #[]] w λe w'=>e=.returned (.bool (decide (xs=ys)))/\Below w.heap.size w w':=by
 have H:=Zh h;have H':=Zh h';obtain⟨a,c,rfl,hlc,hcm,hat⟩:=Sl.form h;obtain⟨a',c',rfl,hlc',hcm',hat'⟩:=Sl.form h';clear h h';by_cases hl:xs.length=ys.length
 .have Hl:=Zh hl;have hln:((xs.length:Int) !=(ys.length:Int))=false:=by rw[hl];simp
  clear hl;go_enter func89,ntmps89;go_wp2_with fail
  go_loopw[17](λi wr=>∃k:Nat,k<=xs.length/\i=.int .i64 k/\xs.take k=ys.take k/\Below w.heap.size w wr) (λi _=>xs.length-(intOf i).toNat)
  case atStart=>exact⟨0,by omega,rfl,rfl,Below.refl _ _⟩
  case round=>
   obtain⟨k,hk,rfl,htk,hbw⟩:=hrel;have Ht:=Zh htk;have Hb:=Zh hbw;clear htk hbw;by_cases hlt:k<xs.length
   .obtain⟨b,o,rfl,_,_⟩:=hat (by omega);obtain⟨b',o',rfl,_,_⟩:=hat' (by rw[<-Hl.o];omega);have hlt':k<ys.length:=by rw[<-Hl.o];exact hlt
    obtain⟨a1,a2,c1,c2,x0,x1,x2,x3,hr1,hp1⟩:=Qo.cells (H.o.below Hb.o) hlt;obtain⟨b1,b2,d1,d2,y0,y1,y2,y3,hr2,hp2⟩:=Qo.cells (H'.o.below Hb.o) hlt';have Hr1:=Zh hr1;have Hr2:=Zh hr2;have Hp1:=Zh hp1;have Hp2:=Zh hp2;have HC:=Zh (Bx.two (w:=wr) (o:=.cells #[.bool xs[k].open_,.slice a1 xs[k].chain.length c1,.slice a2 xs[k].p.ru.length c2,.int .i64 xs[k].p.df] 52) (o':=.cells #[.bool ys[k].open_,.slice b1 ys[k].chain.length d1,.slice b2 ys[k].p.ru.length d2,.int .i64 ys[k].p.df] 52));have q0:∀O,(wr.alloc O).cell? ⟨b',o'+k*4,none⟩=_:=λO=>(Below.cell_alloc' O y0);have q1:∀O,(wr.alloc O).cell? ⟨b',o'+k*4+1,none⟩=_:=λO=>(Below.cell_alloc' O y1);have q2:∀O,(wr.alloc O).cell? ⟨b',o'+k*4+2,none⟩=_:=λO=>(Below.cell_alloc' O y2);have q3:∀O,(wr.alloc O).cell? ⟨b',o'+k*4+3,none⟩=_:=λO=>(Below.cell_alloc' O y3);clear hr1 hr2 hp1 hp2;go_wp2_with fail
    refine(Qdv xs[k] ys[k] _ _ _ _ _ _ _ _ _ (Hr1.o.below HC.o.bel) (Qc.below Hp1.o HC.o.bel) (Hr2.o.below HC.o.bel) (Qc.below Hp2.o HC.o.bel)).mono ?_;rintro e w1⟨rfl,hb1⟩;have Hb1:=Zh (Ql (Ql Hb.o HC.o.bel) hb1);clear hb1 x0 x1 x2 x3 y0 y1 y2 y3 q0 q1 q2 q3 HC;by_cases he:xs[k]=ys[k]
    .have Hn:=Zh (XM hlt hlt' Ht.o he);have d:decide (xs[k]=ys[k])=true:=decide_eq_true he;clear he;rw[d];go_wp2
     go_roundw
     case rel=>first|exact⟨k+1,by omega,by go_num,Hn.o,Hb1.o⟩|((repeat apply Exists.intro);exact⟨⟨k+1,by omega,by go_num,Hn.o,Hb1.o⟩,rfl⟩)
     case measure=>simp[intOf];omega
    have Hn:=Zh (Zl hlt hlt' he);have d:decide (xs[k]=ys[k])=false:=decide_eq_false he;clear he;rw[d];go_wp2;go_ret;exact⟨by rw[decide_eq_false Hn.o];rfl,Hb1.o⟩
   obtain rfl:k=xs.length:=by omega
   have Hn:Hid (xs=ys):=by
    have:=Ht.o;rw[List.take_length,Hl.o,List.take_length]at this;exact this
   go_wp2;go_ret;exact⟨by rw[decide_eq_true Hn.o];rfl,Hb.o⟩
 have hn:xs≠ys:=λe=>hl (by rw[e]);have hl':((xs.length:Int) !=(ys.length:Int))=true:=bne_iff_ne.2 (by omega);have HD:=Zh (decide_eq_false hn);clear hn;go_enter func89,ntmps89;go_wp2;go_ret;exact⟨by rw[HD.o];rfl,Below.refl _ _⟩
theorem Jd(v u:Value)(xs ys:List TCell)(w:World)(h:Qo w (λ_=>True) v xs)(h':Qo w (λ_=>True) u ys):
  Calls prog 60 #[v,u] w λe w'=>e=.returned (.bool (decide (xs=ys)))/\Below w.heap.size w w':=by
 have H:=Zh h;have H':=Zh h';obtain⟨a,c,rfl,_⟩:=Sl.form h;obtain⟨a',c',rfl,_⟩:=Sl.form h';clear h h';go_enter func60,ntmps60;go_wp2_with fail
 refine(Qho _ _ xs ys w H.o H'.o).mono ?_;rintro e w1⟨rfl,hb1⟩;go_wp2;go_ret;exact⟨rfl,hb1⟩
end
section
open Go.RowKit
theorem Jj{b o o' n n' c c':Nat}(h1:o=o')(h2:n=n')(h3:c=c'):Value.slice (some ⟨b,o,none⟩) n c=.slice (some ⟨b,o',none⟩) n' c':=by subst h1 h2 h3;rfl
theorem QiX(v:Value)(l:List TIns)(x:TCall)(D:Nat->Prop)(w:World)(h:QW w D v l)(hc:Vj l=0):
  Calls prog 63 #[v,Yk x] w λe w'=>e=.returned (.tuple #[.int .i64 (run l x).1,.int .i64 (run l x).2])/\Below w.heap.size w w':=by
 obtain⟨hR,hl⟩:=Qeq hc;have hpos:0<l.length:=List.length_pos_iff.2 hR.ne;obtain⟨a,c,rfl,hlc,hcm,hat⟩:=Sl.form h;obtain⟨b,o,rfl,hDb,hb⟩:=hat hpos;have H:=Zh h;have HR:=Zh hR;clear h hR hc hat;go_enter func63,ntmps63;go_wp2_with fail
 go_loopw[0,6,7](λs n d wr=>∃(k dn:Nat)(nn:Int),k<l.length/\dn<=k/\s=.slice (some ⟨b,o+k*4,none⟩) (l.length-k) (c-k)/\n=.int .i64 nn/\d=.int .i64 (dn+1)/\Gu x l k nn dn/\Below (w.heap.size+1) (w.alloc (.cells #[.int .i64 x.a0,.int .i64 x.a1,.int .i64 x.a2,.int .i64 x.a3,.int .i64 x.a4] 46)) wr) (λs _ _ _=>match s with|.slice _ n _=>n|_=>0)
 case atStart=>exact⟨0,0,0,hpos,by omega,by simp,rfl,rfl,Gu.start x l,Below.refl _ _⟩
 case round=>
  obtain⟨k,dn,nn,hk,hdn,rfl,rfl,rfl,hrun,hbx⟩:=hrel;have Hrun:=Zh hrun;have hsz:=U5 hbx;obtain⟨c0,c1,c2,c3⟩:=QW.cells (QW.below H.o (UL hbx)) hk;have hcell:=UU hbx;obtain⟨hi,hn4⟩:=HR.o.at_ hk;have Hn4:=Zh hn4;clear hrun hn4;rcases QaB hi with⟨h4,h5,h6,h7,h8⟩|⟨h1,h5,h6,h7,h8⟩|⟨h23,h5,h6,h7,h8,h9,h10⟩
  .rw[h4]at c0;have Hr:=Zh (Hrun.o.ret hk h4);clear hi h4 h5 h6 h7 h8;go_wp2
   all_goals go_ret2
   all_goals exact⟨by rw[Hr.o];simp,Qa (UL hbx) _⟩
  .obtain⟨m,hm⟩:=Int.eq_ofNat_of_zero_le h5;have Hn:=Zh (Hrun.o.load hk h1);have hk1:=Hn4.o (by omega);rw[h1]at c0;rw[hm]at c1 Hn;have hm5:m<5:=by omega
   have hcm:=hcell m;rw[cell5 x m hm5]at hcm;have hcm':∀o,(wr.alloc o).cell? ⟨w.heap.size,m,none⟩=some (.int .i64 (x.get m)):=λo=>(World.cell?_alloc_lt wr o ⟨w.heap.size,m,none⟩ (show w.heap.size<wr.heap.size by omega)).trans hcm;clear hi h1 h5 h6 h7 h8 hm hcell Hrun;go_wp2
   go_roundw
   case rel=>exact⟨k+1,dn+1,_,hk1,by omega,Jj (by omega) (by omega) (by omega),rfl,by go_num,Hn.o,hbx.trans (Zbr.alloc (U5 hbx) _)⟩
   case measure=>simp;omega
  obtain⟨mb,hmb⟩:=Int.eq_ofNat_of_zero_le h7;obtain⟨mc,hmc⟩:=Int.eq_ofNat_of_zero_le h9;have Hn:=Zh (Hrun.o.jump hk h23);rw[hmb]at c2;rw[hmc]at c3;have hx:Hid (VV l[k] nn=if(l[k].k=2/\nn=l[k].a)\/(l[k].k=3/\nn<l[k].a)then mb else mc):=by unfold VV;rw[hmb,hmc];rfl
  have hb1:k+1+mb<l.length:=by omega
  have hb2:k+1+mc<l.length:=by omega
  clear hi h5 h6 h7 h8 h9 h10 hmb hmc hcell Hrun;rcases h23 with h2|h3
  .rw[h2]at c0;by_cases he:nn=l[k].a
   .have be:(nn==l[k].a)=true:=beq_iff_eq.2 he;have Hm:Hid (VV l[k] nn=mb):=by rw[hx.o];exact if_pos (.inl ⟨h2,he⟩)
    clear he h2 hx;go_wp2
    go_roundw
    case rel=>exact⟨k+1+mb,dn+1,nn,hb1,by omega,Jj (by omega) (by omega) (by omega),rfl,by go_num,by have:=Hn.o;rwa [Hm.o]at this,hbx.trans (Zbr.alloc (U5 hbx) _)⟩
    case measure=>simp;omega
   have be:(nn==l[k].a)=false:=beq_eq_false_iff_ne.2 he;have Hm:Hid (VV l[k] nn=mc):=by rw[hx.o];exact if_neg (by omega)
   clear he h2 hx;go_wp2
   go_roundw
   case rel=>exact⟨k+1+mc,dn+1,nn,hb2,by omega,Jj (by omega) (by omega) (by omega),rfl,by go_num,by have:=Hn.o;rwa [Hm.o]at this,hbx.trans (Zbr.alloc (U5 hbx) _)⟩
   case measure=>simp;omega
  rw[h3]at c0;by_cases he:nn<l[k].a
  .have Hm:Hid (VV l[k] nn=mb):=by rw[hx.o];exact if_pos (.inr ⟨h3,he⟩)
   clear h3 hx;go_wp2
   go_roundw
   case rel=>exact⟨k+1+mb,dn+1,nn,hb1,by omega,Jj (by omega) (by omega) (by omega),rfl,by go_num,by have:=Hn.o;rwa [Hm.o]at this,hbx.trans (Zbr.alloc (U5 hbx) _)⟩
   case measure=>simp;omega
  have Hm:Hid (VV l[k] nn=mc):=by rw[hx.o];exact if_neg (by omega)
  clear h3 hx;go_wp2
  go_roundw
  case rel=>exact⟨k+1+mc,dn+1,nn,hb2,by omega,Jj (by omega) (by omega) (by omega),rfl,by go_num,by have:=Hn.o;rwa [Hm.o]at this,hbx.trans (Zbr.alloc (U5 hbx) _)⟩
  case measure=>simp;omega
theorem N9(v:Value)(l:List TIns)(D:Nat->Prop)(w:World)(h:QW w D v l):Calls prog 157 #[v] w λe w'=>e=.returned (.int .i64 (Vj l))/\Below w.heap.size w w':=by
 obtain⟨a,c,rfl,hlc,hcm,hat⟩:=Sl.form h;have H:=Zh h;clear h;by_cases h0:¬(1<=(l.length:Int)/\(l.length:Int)<=1500)
 .have d:=Zi h0;have hs:Vj l=2:=if_pos (by omega);rw[hs];clear hs hat H h0;go_enter func157,ntmps157;go_wp2_with(go_at_call 56;refine(Vx _ _ _ _).mono ?_;rintro e w1 ⟨rfl,rfl⟩)
  go_ret;exact⟨rfl,Below.refl _ _⟩
 obtain⟨b,o,rfl,hDb,hb⟩:=hat (by omega);have d:=XW (n:=(l.length:Int)) (a:=1) (b:=1500) (by omega) (by omega);have hE:=Zh (show Vj l=if Vk l≠0 then Vk l else if N8 l=4 then 0 else 4 from if_neg (by omega));have h1:1<=l.length:=by omega
 clear hat h0;go_enter func157,ntmps157;go_wp2_with(go_at_call 56;refine(Vx _ _ _ _).mono ?_;rintro e w1 ⟨rfl,rfl⟩)
 go_loopw[14](λi wr=>∃k:Nat,k<=l.length/\i=.int .i64 k/\Vk l=Vk (l.drop k)/\Below w.heap.size w wr) (λi _=>l.length-(intOf i).toNat)
 case atStart=>exact⟨0,by omega,rfl,rfl,Below.refl _ _⟩
 case round=>
  obtain⟨k,hk,rfl,hgo,hbw⟩:=hrel;have Hgo:=Zh hgo;clear hgo d;by_cases hlt:k<l.length
  .obtain⟨c0,c1,c2,c3⟩:=QW.cells (QW.below H.o hbw) hlt;have hsz:=hbw.size
   have bad:∀e:Int,OG l[k] ((l.length:Int)-1-k)=e->e≠0->∀wz,Below w.heap.size w wz->Ending.returned (.int .i64 e)=.returned (.int .i64 (Vj l))/\Below w.heap.size w wz:=λe he h0 wz hz=>by
    refine⟨Q3 ?_,hz⟩;rw[hE.o,Hgo.o,J4 l k hlt,he,if_neg h0,if_pos h0]
   have good:OG l[k] ((l.length:Int)-1-k)=0->Vk l=Vk (l.drop (k+1)):=λhe=>by rw[Hgo.o,J4 l k hlt,if_pos he]
   have hx:=Zh (show OG l[k] ((l.length:Int)-1-k)=_ from rfl);generalize hX:l[k]=X at *;clear hX hx;obtain⟨xk,xa,xb,xc⟩:=X;dsimp only at c0 c1 c2 c3;have Hbad:=Zh bad;have Hgood:=Zh good;clear bad good;by_cases hA:xk=1\/xk=4
   .by_cases hbz:xb=0
    .subst hbz;by_cases hcz:xc=0
     .subst hcz;by_cases ha:0<=xa/\xa<=4
      .have d:=XW ha.1 ha.2;have Hg:=Zh (Hgood.o (by simp[OG,hA];omega));clear Hbad Hgood ha;rcases hA with rfl|rfl
       .go_wp2_with(go_at_call 56;refine(Vx _ _ _ _).mono ?_;rintro e w1 ⟨rfl,rfl⟩)
        go_roundw
        case rel=>exact⟨k+1,by omega,by go_num,Hg.o,Qa hbw _⟩
        case measure=>simp[intOf];omega
       go_wp2_with(go_at_call 56;refine(Vx _ _ _ _).mono ?_;rintro e w1 ⟨rfl,rfl⟩)
       go_roundw
       case rel=>exact⟨k+1,by omega,by go_num,Hg.o,Qa hbw _⟩
       case measure=>simp[intOf];omega
      have d:=Zi ha;have Hb:=Zh (Hbad.o 3 (by simp only[OG,hA];simp;omega) (by decide));clear Hbad Hgood ha;rcases hA with rfl|rfl
      .go_wp2_with(go_at_call 56;refine(Vx _ _ _ _).mono ?_;rintro e w1 ⟨rfl,rfl⟩)
       go_ret;exact Hb.o _ (Qa hbw _)
      go_wp2_with(go_at_call 56;refine(Vx _ _ _ _).mono ?_;rintro e w1 ⟨rfl,rfl⟩)
      go_ret;exact Hb.o _ (Qa hbw _)
     have bz:(xc != 0)=true:=bne_iff_ne.2 hcz;have Hb:=Zh (Hbad.o 4 (by simp[OG,hA,hcz]) (by decide));clear Hbad Hgood hcz;rcases hA with rfl|rfl
     .go_wp2_with(go_at_call 56;refine(Vx _ _ _ _).mono ?_;rintro e w1 ⟨rfl,rfl⟩)
      go_ret;exact Hb.o _ (Qa hbw _)
     go_wp2_with(go_at_call 56;refine(Vx _ _ _ _).mono ?_;rintro e w1 ⟨rfl,rfl⟩)
     go_ret;exact Hb.o _ (Qa hbw _)
    have bz:(xb != 0)=true:=bne_iff_ne.2 hbz;have Hb:=Zh (Hbad.o 4 (by simp[OG,hA,hbz]) (by decide));clear Hbad Hgood hbz;rcases hA with rfl|rfl
    .go_wp2_with(go_at_call 56;refine(Vx _ _ _ _).mono ?_;rintro e w1 ⟨rfl,rfl⟩)
     go_ret;exact Hb.o _ (Qa hbw _)
    go_wp2_with(go_at_call 56;refine(Vx _ _ _ _).mono ?_;rintro e w1 ⟨rfl,rfl⟩)
    go_ret;exact Hb.o _ (Qa hbw _)
   by_cases hB:xk=2\/xk=3
   .have hA1:¬(xk=1):=λe=>hA (.inl e);have hA4:¬(xk=4):=λe=>hA (.inr e);by_cases ha:0<=xa/\xa<=65535
    .have d:=XW ha.1 ha.2;have Hgood':Hid (0<=xb/\xb<(l.length:Int)-1-k->0<=xc/\xc<(l.length:Int)-1-k->Vk l=Vk (l.drop (k+1))):=λh1 h2=>Hgood.o (by simp only[OG,if_neg hA,if_pos hB];rw[if_neg (by omega),if_neg (by omega)]);have Hbad':Hid (¬(0<=xb/\xb<(l.length:Int)-1-k)\/¬(0<=xc/\xc<(l.length:Int)-1-k)->∀wz,Below w.heap.size w wz->Ending.returned (.int .i64 5)=.returned (.int .i64 (Vj l))/\Below w.heap.size w wz):=λh1=>Hbad.o 5 (by simp only[OG,if_neg hA,if_pos hB];rw[if_neg (by omega),if_pos (by omega)]) (by decide);clear Hbad Hgood ha hA hA1 hA4;rcases hB with rfl|rfl
     .go_wp2_with(go_at_call 56;refine(Vx _ _ _ _).mono ?_;rintro e w1 ⟨rfl,rfl⟩)
      go_loop [54](λi=>∃j:Nat,j<=2/\i=.int .i64 j/\Hid (1<=j->0<=xb/\xb<(l.length:Int)-1-k)/\Hid (2<=j->0<=xc/\xc<(l.length:Int)-1-k)) (λi=>2-(intOf i).toNat)
      case atStart=>exact⟨0,by omega,rfl,λh=>absurd h (by omega),λh=>absurd h (by omega)⟩
      case round=>
       obtain⟨j,hj,rfl,hj1,hj2⟩:=hrel;have hjj:j=0\/j=1\/j=2:=by omega
       rcases hjj with rfl|rfl|rfl
       .by_cases hq:0<=xb/\xb<(l.length:Int)-1-k
        .have Hq:=Zh hq;obtain⟨hq1,hq2⟩:=hq;go_wp2
         go_round
         case rel=>exact⟨1,by omega,rfl,λ_=>Hq.o,λh=>absurd h (by omega)⟩
         case measure=>simp[intOf]
        have Hf:=Zh (Hbad'.o (.inl hq));by_cases hq1:xb<0
        .clear hq;go_wp2;go_ret;exact Hf.o _ (Qa (Qa hbw _) _)
        have hq2:(l.length:Int)-1-k<=xb:=by omega
        clear hq;go_wp2;go_ret;exact Hf.o _ (Qa (Qa hbw _) _)
       .by_cases hq:0<=xc/\xc<(l.length:Int)-1-k
        .have Hq:=Zh hq;obtain⟨hq1,hq2⟩:=hq;go_wp2
         go_round
         case rel=>exact⟨2,by omega,rfl,λ_=>hj1.o (by omega),λ_=>Hq.o⟩
         case measure=>simp[intOf]
        have Hf:=Zh (Hbad'.o (.inr hq));by_cases hq1:xc<0
        .clear hq;go_wp2;go_ret;exact Hf.o _ (Qa (Qa hbw _) _)
        have hq2:(l.length:Int)-1-k<=xc:=by omega
        clear hq;go_wp2;go_ret;exact Hf.o _ (Qa (Qa hbw _) _)
       have Hg:=Zh (Hgood'.o (hj1.o (by omega)) (hj2.o (by omega)));go_wp2
       go_roundw
       case rel=>exact⟨k+1,by omega,by go_num,Hg.o,Qa (Qa hbw _) _⟩
       case measure=>simp[intOf];omega
     go_wp2_with(go_at_call 56;refine(Vx _ _ _ _).mono ?_;rintro e w1 ⟨rfl,rfl⟩)
     go_loop [54](λi=>∃j:Nat,j<=2/\i=.int .i64 j/\Hid (1<=j->0<=xb/\xb<(l.length:Int)-1-k)/\Hid (2<=j->0<=xc/\xc<(l.length:Int)-1-k)) (λi=>2-(intOf i).toNat)
     case atStart=>exact⟨0,by omega,rfl,λh=>absurd h (by omega),λh=>absurd h (by omega)⟩
     case round=>
      obtain⟨j,hj,rfl,hj1,hj2⟩:=hrel;have hjj:j=0\/j=1\/j=2:=by omega
      rcases hjj with rfl|rfl|rfl
      .by_cases hq:0<=xb/\xb<(l.length:Int)-1-k
       .have Hq:=Zh hq;obtain⟨hq1,hq2⟩:=hq;go_wp2
        go_round
        case rel=>exact⟨1,by omega,rfl,λ_=>Hq.o,λh=>absurd h (by omega)⟩
        case measure=>simp[intOf]
       have Hf:=Zh (Hbad'.o (.inl hq));by_cases hq1:xb<0
       .clear hq;go_wp2;go_ret;exact Hf.o _ (Qa (Qa hbw _) _)
       have hq2:(l.length:Int)-1-k<=xb:=by omega
       clear hq;go_wp2;go_ret;exact Hf.o _ (Qa (Qa hbw _) _)
      .by_cases hq:0<=xc/\xc<(l.length:Int)-1-k
       .have Hq:=Zh hq;obtain⟨hq1,hq2⟩:=hq;go_wp2
        go_round
        case rel=>exact⟨2,by omega,rfl,λ_=>hj1.o (by omega),λ_=>Hq.o⟩
        case measure=>simp[intOf]
       have Hf:=Zh (Hbad'.o (.inr hq));by_cases hq1:xc<0
       .clear hq;go_wp2;go_ret;exact Hf.o _ (Qa (Qa hbw _) _)
       have hq2:(l.length:Int)-1-k<=xc:=by omega
       clear hq;go_wp2;go_ret;exact Hf.o _ (Qa (Qa hbw _) _)
      have Hg:=Zh (Hgood'.o (hj1.o (by omega)) (hj2.o (by omega)));go_wp2
      go_roundw
      case rel=>exact⟨k+1,by omega,by go_num,Hg.o,Qa (Qa hbw _) _⟩
      case measure=>simp[intOf];omega
    have d:=Zi ha;have Hb:=Zh (Hbad.o 3 (by simp only[OG,if_neg hA,if_pos hB];rw[if_pos (by omega)]) (by decide));clear Hbad Hgood ha hA hA1 hA4;rcases hB with rfl|rfl
    .go_wp2_with(go_at_call 56;refine(Vx _ _ _ _).mono ?_;rintro e w1 ⟨rfl,rfl⟩)
     go_ret;exact Hb.o _ (Qa hbw _)
    go_wp2_with(go_at_call 56;refine(Vx _ _ _ _).mono ?_;rintro e w1 ⟨rfl,rfl⟩)
    go_ret;exact Hb.o _ (Qa hbw _)
   have e1:(xk==1)=false:=beq_eq_false_iff_ne.2 (by omega);have e2:(xk==2)=false:=beq_eq_false_iff_ne.2 (by omega);have e3:(xk==3)=false:=beq_eq_false_iff_ne.2 (by omega);have e4:(xk==4)=false:=beq_eq_false_iff_ne.2 (by omega);have Hb:=Zh (Hbad.o 4 (by simp only[OG,if_neg hA,if_neg hB]) (by decide));clear Hbad Hgood hA hB;go_wp2;go_ret;exact Hb.o _ (Qa hbw _)
  obtain rfl:k=l.length:=by omega
  have hz:Vk l=0:=by rw[Hgo.o,List.drop_length];rfl
  have Hz:=Zh hz;have hl1:l.length-1<l.length:=by omega
  obtain⟨c0,_,_,_⟩:=QW.cells (QW.below H.o hbw) hl1;have Hl:=Zh (Qbq l (by omega));clear hz;by_cases h4:l[l.length-1].k=4
  .rw[h4]at c0;have Hf:=Zh (show Vj l=0 by rw[hE.o,Hz.o,Hl.o,h4];simp);clear h4;go_wp2;go_ret;exact⟨Q3 Hf.o.symm,hbw⟩
  have b4:(l[l.length-1].k != 4)=true:=bne_iff_ne.2 h4;have Hf:=Zh (show Vj l=4 by rw[hE.o,Hz.o,Hl.o,if_neg h4];simp);clear h4;go_wp2;go_ret;exact⟨Q3 Hf.o.symm,hbw⟩
end
section
open Go.RowKit
theorem QcB(v u:Value)(f g:List TIns)(w:World)(h:QW w (λ_=>True) v f)(h':QW w (λ_=>True) u g):
  Calls prog 130 #[v,u] w λe w'=>e=.returned (.bool (decide (f=g)))/\Below w.heap.size w w':=by
 have H:=Zh h;have H':=Zh h';obtain⟨a,c,rfl,_⟩:=Sl.form h;obtain⟨a',c',rfl,_⟩:=Sl.form h';clear h h';go_enter func130,ntmps130;go_wp2_with fail
 refine(Qcb _ _ f g _ w H.o H'.o).mono ?_;rintro e w1⟨rfl,hb1⟩;go_wp2;go_ret;exact⟨rfl,hb1⟩
theorem Qgw(v u:Value)(xs ys:List (List TIns))(w:World)(h:Qz w (λ_=>True) v xs)(h':Qz w (λ_=>True) u ys):
  Calls prog 129 #[v,u,.func (.func 130) #[] #[]] w λe w'=>e=.returned (.bool (decide (xs=ys)))/\Below w.heap.size w w':=by
 have H:=Zh h;have H':=Zh h';obtain⟨a,c,rfl,hlc,hcm,hat⟩:=Sl.form h;obtain⟨a',c',rfl,hlc',hcm',hat'⟩:=Sl.form h';clear h h';by_cases hl:xs.length=ys.length
 .have Hl:=Zh hl;have hln:((xs.length:Int) !=(ys.length:Int))=false:=by rw[hl];simp
  clear hl;go_enter func129,ntmps129;go_wp2_with fail
  go_loopw[17](λi wr=>∃k:Nat,k<=xs.length/\i=.int .i64 k/\xs.take k=ys.take k/\Below w.heap.size w wr) (λi _=>xs.length-(intOf i).toNat)
  case atStart=>exact⟨0,by omega,rfl,rfl,Below.refl _ _⟩
  case round=>
   obtain⟨k,hk,rfl,htk,hbw⟩:=hrel;have Ht:=Zh htk;have Hb:=Zh hbw;clear htk hbw;by_cases hlt:k<xs.length
   .obtain⟨b,o,rfl,_,_⟩:=hat (by omega);obtain⟨b',o',rfl,_,_⟩:=hat' (by rw[<-Hl.o];omega);have hlt':k<ys.length:=by rw[<-Hl.o];exact hlt
    obtain⟨a1,c1,hc1,hr1⟩:=Qz.cells (H.o.below Hb.o) hlt;obtain⟨a2,c2,hc2,hr2⟩:=Qz.cells (H'.o.below Hb.o) hlt';have Hr1:=Zh hr1;have Hr2:=Zh hr2;clear hr1 hr2;go_wp2_with fail
    refine(QcB _ _ xs[k] ys[k] _ Hr1.o Hr2.o).mono ?_;rintro e w1⟨rfl,hb1⟩;have Hb1:=Zh (Ql Hb.o hb1);clear hb1 hc1 hc2;by_cases he:xs[k]=ys[k]
    .have Hn:=Zh (XM hlt hlt' Ht.o he);have d:decide (xs[k]=ys[k])=true:=decide_eq_true he;clear he;rw[d];go_wp2
     go_roundw
     case rel=>first|exact⟨k+1,by omega,by go_num,Hn.o,Hb1.o⟩|((repeat apply Exists.intro);exact⟨⟨k+1,by omega,by go_num,Hn.o,Hb1.o⟩,rfl⟩)
     case measure=>simp[intOf];omega
    have Hn:=Zh (Zl hlt hlt' he);have d:decide (xs[k]=ys[k])=false:=decide_eq_false he;clear he;rw[d];go_wp2;go_ret;exact⟨by rw[decide_eq_false Hn.o];rfl,Hb1.o⟩
   obtain rfl:k=xs.length:=by omega
   have Hn:Hid (xs=ys):=by
    have:=Ht.o;rw[List.take_length,Hl.o,List.take_length]at this;exact this
   go_wp2;go_ret;exact⟨by rw[decide_eq_true Hn.o];rfl,Hb.o⟩
 have hn:xs≠ys:=λe=>hl (by rw[e]);have hl':((xs.length:Int) !=(ys.length:Int))=true:=bne_iff_ne.2 (by omega);have HD:=Zh (decide_eq_false hn);clear hn;go_enter func129,ntmps129;go_wp2;go_ret;exact⟨by rw[HD.o];rfl,Below.refl _ _⟩
theorem QdG(v u:Value)(xs ys:List (List TIns))(w:World)(h:Qz w (λ_=>True) v xs)(h':Qz w (λ_=>True) u ys):
  Calls prog 91 #[v,u] w λe w'=>e=.returned (.bool (decide (xs=ys)))/\Below w.heap.size w w':=by
 have H:=Zh h;have H':=Zh h';obtain⟨a,c,rfl,_⟩:=Sl.form h;obtain⟨a',c',rfl,_⟩:=Sl.form h';clear h h';go_enter func91,ntmps91;go_wp2_with fail
 refine(Qgw _ _ xs ys w H.o H'.o).mono ?_;rintro e w1⟨rfl,hb1⟩;go_wp2;go_ret;exact⟨rfl,hb1⟩
theorem Iu(v:Value)(l:List (List TIns))(D:Nat->Prop)(w:World)(h:Qz w D v l):
  Calls prog 132 #[v] w λe w'=>e=.returned (.int .i64 (chainE l))/\Below w.heap.size w w':=by
 obtain⟨a,c,rfl,hlc,hcm,hat⟩:=Sl.form h;have H:=Zh h;clear h;go_enter func132,ntmps132;by_cases h6:6<l.length
 .have hE:chainE l=2:=by unfold chainE;rw[if_pos h6]
  rw[hE];go_wp2;go_ret;exact⟨rfl,Below.refl _ _⟩
 have HE:Hid (chainE l=V4 l):=by show chainE l=_;unfold chainE;rw[if_neg h6]
 go_wp2_with fail
 go_loopw[11](λkv wr=>∃k:Nat,kv=.int .i64 k/\k<=l.length/\V4 l=V4 (l.drop k)/\Below w.heap.size w wr) (λkv _=>l.length-(intOf kv).toNat)
 case atStart=>exact⟨0,rfl,by omega,rfl,Below.refl _ _⟩
 case round=>
  obtain⟨k,rfl,hk,hd,hb⟩:=hrel;have Hd:=Zh hd;have Hb:=Zh hb;clear hd hb;by_cases hlt:k<l.length
  .obtain⟨b,o,rfl,_,_⟩:=hat (by omega);obtain⟨a',c',hc,hr⟩:=Qz.cells (H.o.below Hb.o) hlt;have Hr:=Zh hr;have Hdk:=Zh (O9 l k hlt);obtain⟨f,hf⟩:∃f,l[k]=f:=⟨_,rfl⟩;rw[hf]at hc Hr Hdk;clear hr hf;go_wp2_with fail
   refine(N9 _ f _ _ Hr.o).mono ?_;rintro e w1⟨rfl,hb1⟩;have Hb1:=Zh (Ql Hb.o hb1);clear hb1 hc;by_cases h0:Vj f=0
   .have Hn:Hid (V4 l=V4 (l.drop (k+1))):=by show _=_;rw[Hd.o,Hdk.o,if_pos h0]
    rw[h0];clear h0;go_wp2
    go_roundw
    case rel=>exact⟨k+1,by go_num,by omega,Hn.o,Hb1.o⟩
    case measure=>simp[intOf];omega
   have Hn:Hid (chainE l=Vj f):=by show _=_;rw[HE.o,Hd.o,Hdk.o,if_neg h0]
   have hb0:(Vj f != 0)=true:=bne_iff_ne.2 h0;clear h0;go_wp2;go_ret;exact⟨Q3 Hn.o.symm,Hb1.o⟩
  obtain rfl:k=l.length:=by omega
  have Hn:Hid (chainE l=0):=by show _=_;rw[HE.o,Hd.o,List.drop_length];rfl
  go_wp2;go_ret;exact⟨Q3 Hn.o.symm,Hb.o⟩
theorem Qff(v:Value)(l:List (List TIns))(x:TCall)(D:Nat->Prop)(w:World)(h:Qz w D v l)(hok:∀f∈l,Vj f=0)(hx:x.ok):
  Calls prog 24 #[v,Yk x] w λe w'=>e=.returned (.int .i64 (asked l x))/\Below w.heap.size w w':=by
 obtain⟨a,c,rfl,hlc,hcm,hat⟩:=Sl.form h;have H:=Zh h;have Hok:=Zh hok;have Hx:=Zh hx;clear h hok hx;go_enter func24,ntmps24;go_wp2_with fail
 have HB:=Zh (Bx.one (w:=w) (o:=.cells #[.int .i64 x.a0,.int .i64 x.a1,.int .i64 x.a2,.int .i64 x.a3,.int .i64 x.a4] 46))
 go_loopw[5,12](λvv kv wr=>∃(k:Nat)(t:Int),kv=.int .i64 k/\vv=.int .i64 t/\k<=l.length/\asked l x=YJ x (l.drop k) t/\Bx w [.cells #[.int .i64 x.a0,.int .i64 x.a1,.int .i64 x.a2,.int .i64 x.a3,.int .i64 x.a4] 46] wr) (λ_ kv _=>l.length-(intOf kv).toNat)
 case atStart=>exact⟨0,4,rfl,rfl,by omega,rfl,HB.o⟩
 case round=>
  obtain⟨k,t,rfl,rfl,hk,hd,hb⟩:=hrel;have Hd:=Zh hd;have HBr:=Zh hb;clear hd hb;by_cases hlt:k<l.length
  .obtain⟨b,o,rfl,_,_⟩:=hat (by omega);obtain⟨a',c',hc,hr⟩:=Qz.cells (H.o.below HBr.o.bel) hlt;have Hr:=Zh hr;have Hck:=Zh (Hok.o l[k] (List.getElem_mem hlt));have Hdk:=Zh (Qaj x l k t hlt);obtain⟨f,hf⟩:∃f,l[k]=f:=⟨_,rfl⟩;rw[hf]at hc Hr Hdk Hck;have hc0:=HBr.o.cells0;clear hr hf;go_wp2_with fail
   refine(QiX _ f x _ _ Hr.o Hck.o).mono ?_;rintro e w3⟨rfl,hb3⟩;have HB3:=Zh (HBr.o.below hb3);clear hb3 hc hc0;obtain⟨u,hu⟩:∃u,(run f x).1=u:=⟨_,rfl⟩;rw[hu]at Hdk⊢;have Hn:Hid (asked l x=YJ x (l.drop (k+1)) (minOf t u)):=by show _=_;rw[Hd.o,Hdk.o]
   by_cases htu:u<t
   .have hd1:decide (u<t)=true:=decide_eq_true htu;have e1:minOf t u=u:=by unfold minOf;rw[if_neg (by omega)]
    rw[e1]at Hn;clear htu e1;go_wp2
    go_roundw
    case rel=>exact⟨k+1,u,by go_num,rfl,by omega,Hn.o,HB3.o⟩
    case measure=>simp[intOf];omega
   have hd1:decide (u<t)=false:=decide_eq_false htu;have e1:minOf t u=t:=by unfold minOf;rw[if_pos (by omega)]
   rw[e1]at Hn;clear htu e1;go_wp2
   go_roundw
   case rel=>exact⟨k+1,t,by go_num,rfl,by omega,Hn.o,HB3.o⟩
   case measure=>simp[intOf];omega
  obtain rfl:k=l.length:=by omega
  have Hn:Hid (asked l x=t):=by show _=_;rw[Hd.o,List.drop_length];rfl
  have HBf:=Zh HBr.o.bel;go_wp2;go_ret;exact⟨Q3 Hn.o.symm,HBf.o⟩
end
section
open Go.RowKit
attribute [local go_sem] gives QG
theorem QeM{w wr w1:World}{o o':Obj}(hb:Below (w.heap.size+2) ((w.alloc o).alloc o') wr)(h1:Below wr.heap.size wr w1):Below (w.heap.size+2) ((w.alloc o).alloc o') w1:=hb.trans (h1.mono (Zr hb))
theorem QgE(v u:Value)(p q:TPol)(D:Nat->Prop)(w:World)(h:Qc w D v p.ru)(h':Qc w D u q.ru):
  Calls prog 75 #[U8 v p.df,U8 u q.df] w λe w'=>e=.returned (.bool (decide (p=q)))/\Below w.heap.size w w':=by
 obtain⟨xs,pd⟩:=p;obtain⟨ys,qd⟩:=q;dsimp only at h h'⊢;obtain⟨a,c,rfl,hlc,hcm,hat⟩:=Sl.form h;obtain⟨a',c',rfl,hlc',hcm',hat'⟩:=Sl.form h';have H:=Zh h;have H':=Zh h';clear h h';by_cases hv:pd=qd
 .have b0:(pd != qd)=false:=bne_eq_false_iff_eq.2 hv;have hd:decide ((⟨xs,pd⟩:TPol)=⟨ys,qd⟩)=decide (xs=ys):=by rw[decide_eq_decide];simp[hv]
  rw[hd];clear hd hv;by_cases hl:xs.length=ys.length
  .have b1:((xs.length:Int) !=(ys.length:Int))=false:=bne_eq_false_iff_eq.2 (by omega);have hl':=Zh hl;have hl1:xs.length<=ys.length:=by omega
   have hl2:ys.length<=xs.length:=by omega
   clear hl;go_enter func75,ntmps75;go_wp2_with fail
   go_loopw[24](λi wr=>∃k:Nat,k<=xs.length/\i=.int .i64 k/\xs.take k=ys.take k/\Below (w.heap.size+2) ((w.alloc (.cells #[.slice a xs.length c,.int .i64 pd] 38)).alloc (.cells #[.slice a' ys.length c',.int .i64 qd] 38)) wr) (λi _=>xs.length-(intOf i).toNat)
   case atStart=>exact⟨0,by omega,rfl,rfl,Below.refl _ _⟩
   case round=>
    obtain⟨k,hk,rfl,htk,hbx⟩:=hrel;have Ht:=Zh htk;have Hbx:=Zh hbx;have Hb:=Zh (XG hbx);have hsz:=Zr hbx;obtain⟨hc1,hc2⟩:=VS hbx;clear htk hbx;by_cases hlt:k<xs.length
    .obtain⟨b,o,rfl,hDb,hb⟩:=hat (by omega);obtain⟨b',o',rfl,hDb',hb'⟩:=hat' (by omega);have hlt':k<ys.length:=by omega
     obtain⟨ra,rc,k0,k1,hr,hlr,hcr,_⟩:=Qc.cells (Qc.below H.o Hb.o) hlt;obtain⟨qa,qc,q0,q1,hq,hlq,hcq,_⟩:=Qc.cells (Qc.below H'.o Hb.o) hlt';have hbr:b'<wr.heap.size:=by omega
     have hcc:∀W,Cls (wr.heap.size+1) (wr.alloc (.cells #[.slice ra xs[k].cd.length rc,.int .i64 xs[k].vd] 147)) W->(∀j,W.cell? ⟨wr.heap.size,j,none⟩=(#[.slice ra xs[k].cd.length rc,.int .i64 xs[k].vd]:Array Value)[j]?)/\(∀j,W.cell? ⟨w.heap.size+1,j,none⟩=(#[.slice (some ⟨b',o',none⟩) ys.length c',.int .i64 qd]:Array Value)[j]?) /\
       W.cell? ⟨b',o'+k*2,none⟩=some (.slice qa ys[k].cd.length qc)/\W.cell? ⟨b',o'+k*2+1,none⟩=some (.int .i64 ys[k].vd):=λW hW=>by
      have hbw:=UL hW.2;exact⟨UU hW.2,λj=>(hbw.cell (p:=⟨w.heap.size+1,j,none⟩) (by show w.heap.size+1<wr.heap.size;omega)).trans (hc2 j),(hbw.cell (p:=⟨b',o'+k*2,none⟩) hbr).trans q0,(hbw.cell (p:=⟨b',o'+k*2+1,none⟩) hbr).trans q1⟩
     have Hcc:=Zh hcc
     have hcall:∀W,Cls (wr.heap.size+1) (wr.alloc (.cells #[.slice ra xs[k].cd.length rc,.int .i64 xs[k].vd] 147)) W ->
       Calls prog 116 #[.slice ra xs[k].cd.length rc,.slice qa ys[k].cd.length qc] W λe w'=>e=.returned (.bool (decide (xs[k].cd=ys[k].cd)))/\Below W.heap.size W w':=λW hW=>
      Es _ _ _ _ D W (QF.below hr (UL hW.2)) (QF.below hq (UL hW.2))
     have Hcall:=Zh hcall;have hfin:∀W,Cls (wr.heap.size+1) (wr.alloc (.cells #[.slice ra xs[k].cd.length rc,.int .i64 xs[k].vd] 147)) W->Below wr.heap.size wr W:=λW hW=>UL hW.2;have Hfin:=Zh hfin;clear hr hq q0 q1 hcc hcall hfin hc1 hc2;by_cases hvv:xs[k].vd=ys[k].vd
     .have d0:(xs[k].vd != ys[k].vd)=false:=bne_eq_false_iff_eq.2 hvv;have Hvv:=Zh hvv;clear hvv;go_wp2_with fail
      refine Qy (wr.heap.size+1) (by simp) (by kernel_rfl) (by kernel_rfl) ?_
      repeat(refine QL (λK hK=>?_);apply Exists.intro;refine⟨λW hC R hR=>?_,?_⟩;(first
       |(have hcell:=Hcc.o W hC;go_simp;exact hR _ _ Zbr rfl)
       |(go_simp;go_at_call 116;refine(Hcall.o W hC).mono ?_;rintro e w1 ⟨rfl,hb1⟩;exact⟨_,rfl,hR _ _ hb1 rfl⟩));(go_simp;refine hK _ ?_;clear hK K))
      intro w2 hC2;by_cases he:xs[k].cd=ys[k].cd
      .have Hn:Hid (xs.take (k+1)=ys.take (k+1)):=ZN hlt hlt' Ht.o (by
        have h1:=Hvv.o;have h2:=he;revert h1 h2;generalize xs[k]=r;generalize ys[k]=s;cases r;cases s
        rintro h1 h2;dsimp only at h1 h2;subst h1 h2;rfl)
       have d:decide (xs[k].cd=ys[k].cd)=true:=decide_eq_true he;clear he;simp only[d];go_wp2
       go_roundw
       case rel=>exact⟨k+1,by omega,by go_num,Hn.o,QeM Hbx.o (Hfin.o _ hC2)⟩
       case measure=>simp[intOf];omega
      have Hn:=Zh (JB hlt hlt' (λe=>he (by rw[e])));have d:decide (xs[k].cd=ys[k].cd)=false:=decide_eq_false he;clear he;simp only[d];go_wp2;go_ret;exact⟨VM (decide_eq_false Hn.o).symm,Ql Hb.o (Hfin.o _ hC2)⟩
     have d0:(xs[k].vd != ys[k].vd)=true:=bne_iff_ne.2 hvv;have Hn:=Zh (JB hlt hlt' (λe=>hvv (by rw[e])));clear hvv;go_wp2_with fail
     refine Qy (wr.heap.size+1) (by simp) (by kernel_rfl) (by kernel_rfl) ?_
     repeat(refine QL (λK hK=>?_);apply Exists.intro;refine⟨λW hC R hR=>?_,?_⟩;(have hcell:=Hcc.o W hC;go_simp;exact hR _ _ Zbr rfl);(go_simp;refine hK _ ?_;clear hK K))
     intro w2 hC2;go_wp2;go_ret;exact⟨VM (decide_eq_false Hn.o).symm,Ql Hb.o (Hfin.o _ hC2)⟩
    obtain rfl:k=xs.length:=by omega
    have Hn:Hid (xs=ys):=by
     have:=Ht.o;rw[List.take_length,hl'.o,List.take_length]at this;exact this
    go_wp2;go_ret;exact⟨VM (decide_eq_true Hn.o).symm,Hb.o⟩
  have b1:((xs.length:Int) !=(ys.length:Int))=true:=bne_iff_ne.2 (by omega);have hn:decide (xs=ys)=false:=decide_eq_false λe=>hl (by rw[e]);rw[hn];clear hn hl;go_enter func75,ntmps75;go_wp2;go_ret;exact⟨rfl,Qa (Qa Zbr _) _⟩
 have b0:(pd != qd)=true:=bne_iff_ne.2 hv;have hd:decide ((⟨xs,pd⟩:TPol)=⟨ys,qd⟩)=false:=decide_eq_false λe=>hv (by injection e);rw[hd];clear hd hv;go_enter func75,ntmps75;go_wp2;go_ret;exact⟨rfl,Qa (Qa Zbr _) _⟩
end
end Go.Proofs.YthkgjohhbdipcaaGreatDoor
