/- Texts laid one behind the other: KNext, CellPutE. No condition beyond theirs. -/
import Derived.Test.YthkgjohhbdipcaaGreatDoorQ28
import Derived.Test.YthkgjohhbdipcaaGreatDoorQ11
import Derived.Test.YthkgjohhbdipcaaGreatDoorQ29
set_option linter.all false
set_option maxHeartbeats 64000000
set_option maxRecDepth 100000
namespace Go.Proofs.YthkgjohhbdipcaaGreatDoor
open Tryz
section
open Go.RowKit
attribute [local go_sem] gives QG
theorem QcY{g B:Nat}{T:List (List TIns)}{te:Int}:Gp g (λv W=>∃a c,v=.tuple #[.slice a T.length c,.int .i64 te]/\Qz W (Dg B g) (.slice a T.length c) T):=λ_ _ _ hg ⟨a,c,h1,h2⟩=>
 ⟨a,c,h1,h2.keep (λ_ h _=>h) (λb hb hl=>hg.block b hl (λe=>hb.2 (by injection e))) hg.size⟩
theorem Gz{g B:Nat}{l:List (List TIns)}:Gp g (λv W=>∃a c,v=.slice a l.length c/\Qz W (Dg B g) v l):=λ_ _ _ hg ⟨a,c,h1,h2⟩=>
 ⟨a,c,h1,h2.keep (λ_ h _=>h) (λb hb hl=>hg.block b hl (λe=>hb.2 (by injection e))) hg.size⟩
theorem QdE{g B:Nat}{l:List TRule}{d:Int}:Gp g (λv W=>∃a c,v=U8 (.slice a l.length c) d/\Qc W (Dg B g) (.slice a l.length c) l):=λ_ _ _ hg ⟨a,c,h1,h2⟩=>
 ⟨a,c,h1,h2.keep (λ_ h _=>h) (λb hb hl=>hg.block b hl (λe=>hb.2 (by injection e))) hg.size⟩
theorem QT.put'{W:World}{B0 B g n c:Nat}{m:List TCell}{A:(Nat->Bool)->List TCell}{dn:Nat->Bool}{w0:World}(h:XE w0 B0 52 4 g n c (λW=>XD W (Dg B g)) A dn W)(e:A dn=m):QT W B0 B g n c m:=by
 subst e;exact h.own
theorem Uz{B g:Nat}(W W':World)(y:TCell)(cs:List Value)(hb:Below W.heap.size W W')(h:XD W (Dg B g) y cs):XD W' (Dg B g) y cs:=h.keep (λ_ h _=>h) (λb _ hl=>hb.block b hl) hb.size
theorem Ua(w:World)(D:Nat->Prop):Qo w D (.slice none 0 0) []:=⟨none,0,rfl,Nat.le_refl _,by decide,λ_=>rfl,λh=>by cases h⟩
theorem YA{w W:World}{B g k:Nat}{o:Bool}{u v:Value}{d:Int}(h:Below B w W)(hg:B<=g):Below B w ((((W.setCell ⟨g,k*4,none⟩ (.bool o)).setCell ⟨g,k*4+1,none⟩ u).setCell ⟨g,k*4+2,none⟩ v).setCell ⟨g,k*4+3,none⟩ (.int .i64 d)):=
 Qw (Qw (Qw (Qw h hg) hg) hg) hg
theorem XZ(w:World)(D:Nat->Prop):Qc w D (.slice none 0 0) []:=⟨none,0,rfl,Nat.le_refl _,by decide,λ_=>rfl,λh=>by cases h⟩
theorem next_any(v u:Value)(l:List TCell)(r:TRec)(D D':Nat->Prop)(w:World)(h:Qo w D v l)(h':Qc w D' u r.p.ru):
  Calls prog 98 #[v,Yg r u] w λe w'=>∃a1 c1,e=.returned (.tuple #[.slice a1 (QI l r).1.length c1,.int .i64 (QI l r).2])/\Qo w' (λb=>w.heap.size<=b) (.slice a1 (QI l r).1.length c1) (QI l r).1/\Below w.heap.size w w':=by
 have H:=Zh h;have Hr:Hid (Qc w (λb=>b<w.heap.size) u r.p.ru):=h'.keep (λ_ _ hl=>hl) (λ_ _ _=>rfl) Znl;obtain⟨kd,cl,fr,p⟩:=r;dsimp only at Hr h'⊢;obtain⟨a,c,rfl,_⟩:=Sl.form h;obtain⟨ap,cp,rfl,_⟩:=Sl.form h';clear h h';go_enter func98,ntmps98;go_wp2_with fail
 have HB:=Zh (Bx.one (w:=w) (o:=.cells #[.int .i64 kd,.int .i64 cl,.int .i64 fr,.slice ap p.ru.length cp,.int .i64 p.df] 56));refine(QeV _ l D _ (H.o.below HB.o.bel)).mono ?_;rintro e w1⟨rfl,hb1⟩;have HB1:=Zh (HB.o.below hb1);have H1:=Zh ((H.o.below HB.o.bel).below hb1);have Hr1:=Zh (Qc.below (Qc.below Hr.o HB.o.bel) hb1);clear hb1 HB H Hr;by_cases h0:cellsE l=0
 .rw[h0];have H0:=Zh h0;have hq0:=HB1.o.cells0;go_wp2_with fail
  refine(Xb _ ⟨kd,cl,fr,p⟩ _ _ Hr1.o).mono ?_;rintro e w2⟨rfl,hb2⟩;have HB2:=Zh (HB1.o.below hb2);have H2:=Zh (H1.o.below hb2);have Hr2:=Zh (Qc.below Hr1.o hb2);clear hb2 HB1 H1 Hr1 hq0;by_cases h3:UJ ⟨kd,cl,fr,p⟩=0
  .rw[h3];obtain⟨hk1,hk2,hcl0,hcl1,hfr0,hfr1,hnf,hno,hokp⟩:=Y5 h3;dsimp only at hk1 hk2 hcl0 hcl1 hfr0 hfr1 hokp;clear hnf hno;obtain⟨hl4,hce⟩:=(XR l).1 h0;obtain⟨k,rfl⟩:∃k:Nat,cl=k:=⟨cl.toNat,by omega⟩;obtain⟨j,rfl⟩:∃j:Nat,fr=j:=⟨fr.toNat,by omega⟩;obtain⟨x,hx⟩:∃x,l[k]?=some x:=⟨_,List.getElem?_eq_getElem (by omega)⟩;obtain⟨y,hy⟩:∃y,l[j]?=some y:=⟨_,List.getElem?_eq_getElem (by omega)⟩;have hxk:cellAt l k=x:=by unfold cellAt;rw[Int.toNat_natCast,List.getD_eq_getElem?_getD,hx];rfl
   have hyj:cellAt l j=y:=by unfold cellAt;rw[Int.toNat_natCast,List.getD_eq_getElem?_getD,hy];rfl
   have HN:Hid (QI l ⟨kd,k,j,p⟩=if x.open_=decide (kd=1\/kd=3)then([],6)else if(nextCell l ⟨kd,k,j,p⟩).2≠0 then([],(nextCell l ⟨kd,k,j,p⟩).2)else(l.set k (nextCell l ⟨kd,k,j,p⟩).1,0)):=by
    show QI _ _=_;unfold QI;rw[if_neg (by rw[h0];simp),if_neg (by rw[h3];simp)];dsimp only;rw[hxk,Int.toNat_natCast]
   have Hx:=Zh hx;have Hy:=Zh hy;have Hxk:=Zh hxk;have Hyj:=Zh hyj;have Hsm:Hid (∀c∈l,Oh c):=λc hc=>Qam (hce c hc);have Hokp:=Zh hokp;have Hl4:=Zh hl4;have hkl:(k:Int)<(l.length:Int):=by omega
   have hjl:(j:Int)<(l.length:Int):=by omega
   have hk0:(0:Int)<=(k:Int):=by omega
   have hj0:(0:Int)<=(j:Int):=by omega
   have hkw:IntKind.i64.wrap (k:Int)=(k:Int):=IntWalk.i64_in _ (by omega);have hjw:IntKind.i64.wrap (j:Int)=(j:Int):=IntWalk.i64_in _ (by omega);have HT:=Zh HB2.o.top;clear h0 h3 hokp hce hl4 hxk hyj hx hy hcl0 hcl1 hfr0 hfr1;have hq0:=HB2.o.cells0;go_wp2_with fail
   refine(Il _ l D _ H2.o (by have:=Hl4.o;omega) Hsm.o).mono ?_;rintro e w3⟨v3,rfl,ho3,hb3⟩;have HB3:=Zh (HB2.o.below hb3);have Hr3:=Zh (Qc.below Hr2.o hb3);obtain⟨a3,c3,rfl⟩:=ho3.slice;obtain⟨g,rfl,hgb,hgl,_⟩:=Qg.addr ho3 (by have:=Hl4.o;omega);have HO:Hid (QT w3 w2.heap.size w2.heap.size g l.length c3 l):=ho3.monoR λ_ _ _ hy=>hy.keep (λb hb _=>⟨hb.1,λe=>hb.2 (by rw[e];rfl)⟩) (λ_ _ _=>rfl) Znl;have Hg:Hid (w2.heap.size<=g/\w.heap.size+1<=w2.heap.size):=⟨hgb,HT.o⟩;have HBL3:Hid (Below w.heap.size w w3):=HB3.o.bel;clear ho3 hb3 hgb hgl hq0 HB2 H2 Hr2 Hsm;obtain⟨xa1,xa2,xc1,xc2,x0,x1,x2,x3,hxc,hxp⟩:=HO.o.cells Hx.o;have Hxc:=Zh hxc;have Hxp:=Zh hxp;clear hxc hxp;have hq0:=HB3.o.cells0;have Hc0:Hid (∀W,Cls w3.heap.size w3 W->(∀i,W.cell? ⟨w.heap.size,i,none⟩=(#[Value.int .i64 kd,.int .i64 k,.int .i64 j,.slice ap p.ru.length cp,.int .i64 p.df]:Array Value)[i]?)/\W.cell? ⟨g,k*4,none⟩=some (.bool x.open_)):=λW hC=>⟨(HB3.o.below hC.2).cells0,by obtain⟨_,_,_,_,h,_⟩:=(HO.o.below hC.2).cells Hx.o;exact h⟩;go_wp2_with fail
   have hkd:kd=1\/kd=3\/kd=2\/kd=4:=by omega
   clear hk1 hk2;rcases hkd with rfl|rfl|rfl|rfl
   .cases xo:x.open_ with
    |true=>
     refine Qy w3.heap.size Znl (by kernel_rfl) (by kernel_rfl) ?_
     repeat(refine QL (λK hK=>?_);apply Exists.intro;refine⟨λW hC R hR=>?_,?_⟩;(have hcc:=Hc0.o W hC;rw[xo]at hcc;go_simp;exact hR _ _ Zbr rfl);(go_simp;refine hK _ ?_;clear hK K))
     intro w4 hC4;have HB4:=Zh (HB3.o.below hC4.2);have HO4:=Zh (HO.o.below hC4.2);have Hr4:=Zh (Qc.below Hr3.o hC4.2);have HBL:Hid (Below w.heap.size w w4):=HB4.o.bel;clear hC4 Hc0 HB3 HO Hr3 HBL3 Hxc Hxp x0 x1 x2 x3 hq0;have HE:Hid (QI l ⟨1,k,j,p⟩=([],6)):=by show QI _ _=_;rw[HN.o,if_pos (by rw[xo];decide)]
     go_wp2;go_ret2;rw[HE.o];exact⟨_,_,rfl,Ua _ _,HBL.o⟩
    |false=>
     refine Qy w3.heap.size Znl (by kernel_rfl) (by kernel_rfl) ?_
     repeat(refine QL (λK hK=>?_);apply Exists.intro;refine⟨λW hC R hR=>?_,?_⟩;(have hcc:=Hc0.o W hC;rw[xo]at hcc;go_simp;exact hR _ _ Zbr rfl);(go_simp;refine hK _ ?_;clear hK K))
     intro w4 hC4;have HB4:=Zh (HB3.o.below hC4.2);have HO4:=Zh (HO.o.below hC4.2);have Hr4:=Zh (Qc.below Hr3.o hC4.2);have HBL:Hid (Below w.heap.size w w4):=HB4.o.bel;clear hC4 Hc0 HB3 HO Hr3 HBL3 Hxc Hxp x0 x1 x2 x3 hq0;have HN':Hid (QI l ⟨1,k,j,p⟩=if(nextCell l ⟨1,k,j,p⟩).2≠0 then([],(nextCell l ⟨1,k,j,p⟩).2)else(l.set k (nextCell l ⟨1,k,j,p⟩).1,0)):=by show QI _ _=_;rw[HN.o,if_neg (by rw[xo];decide)]
     clear HN;have HP:=Zh (Bx.one (w:=w4) (o:=(.cells #[.slice ap p.ru.length cp,.int .i64 p.df] 38)));have HBq:=Zh (HB4.o.below HP.o.bel);have HOq:=Zh (HO4.o.below HP.o.bel);have Hrq:=Zh (Qc.below Hr4.o HP.o.bel);have hqp:=HP.o.cells0;have hqb:=HBq.o.cells0;have hq4:=HB4.o.cells0;have HgL:=Zh (HO4.o.lt (by have:=Hl4.o;omega)).2;go_wp2_with fail
     refine(QbX _ p _ _ Hrq.o).mono ?_;obtain⟨⟨Y,ye⟩,hY⟩:∃E,Vh p=E:=⟨_,rfl⟩;have HY:=Zh hY;have HNC:Hid (nextCell l ⟨1,k,j,p⟩=(Y,ye)):=by show nextCell _ _=_;unfold nextCell;rw[if_neg (by show ¬(1:Int)=3;decide),if_pos rfl];exact hY
     clear hY;rw[HY.o];rintro e w5⟨ya1,yc1,ya2,yc2,rfl,hyc,hyp,hb5⟩;dsimp only at hyc hyp;have HB5:=Zh (HBq.o.below hb5);have HO5:=Zh (HOq.o.below hb5)
     have hge:∀b,(w4.alloc (.cells #[.slice ap p.ru.length cp,.int .i64 p.df] 38)).heap.size<=b->Dg w2.heap.size g b:=λb hb=>by
      have h1:w4.heap.size+1<=b:=by simpa using hb
      have h2:=Hg.o;have h3:=HgL.o;exact⟨by omega,by omega⟩
     have HYC:Hid (Qz w5 (Dg w2.heap.size g) (.slice ya1 Y.chain.length yc1) Y.chain):=hyc.keep (λb hb _=>hge b hb) (λ_ _ _=>rfl) Znl;have HYP:Hid (Qc w5 (Dg w2.heap.size g) (.slice ya2 Y.p.ru.length yc2) Y.p.ru):=hyp.keep (λb hb _=>hge b hb) (λ_ _ _=>rfl) Znl;clear hge;clear hyc hyp hb5;obtain⟨za1,za2,zc1,zc2,z0,z1,z2,z3,_,_⟩:=HO5.o.cells Hx.o;have hfz:=HO5.o.frz (by have:=Hl4.o;omega);have HOw:=Zh (HO5.o.put (y:=Y) Hx.o HYC.o HYP.o);have HBL5:=Zh (YA (k:=k) (o:=Y.open_) (u:=.slice ya1 Y.chain.length yc1) (v:=.slice ya2 Y.p.ru.length yc2) (d:=Y.p.df) HB5.o.bel (show w.heap.size<=g by have:=Hg.o;omega));clear hqp hqb hq4;by_cases hye:ye=0
     .subst hye;have HE:Hid (QI l ⟨1,k,j,p⟩=(l.set k Y,0)):=by show QI _ _=_;rw[HN'.o,HNC.o];simp
      have HRD:=Zh (HOw.o.read (B':=w.heap.size) (by have:=Hg.o;omega) (by have:=Hg.o;omega));have hls:(l.set k Y).length=l.length:=List.length_set;have Hls:=Zh hls;clear hls;go_wp2;go_ret2;rw[HE.o];dsimp only;rw[Hls.o];exact⟨_,_,rfl,HRD.o,HBL5.o⟩
     have hne:(ye != 0)=true:=bne_iff_ne.2 hye;have HE:Hid (QI l ⟨1,k,j,p⟩=([],ye)):=by show QI _ _=_;rw[HN'.o,HNC.o];simp[hye]
     clear hye;go_wp2;go_ret2;rw[HE.o];exact⟨_,_,rfl,Ua _ _,HBL5.o⟩
   .cases xo:x.open_ with
    |true=>
     refine Qy w3.heap.size Znl (by kernel_rfl) (by kernel_rfl) ?_
     repeat(refine QL (λK hK=>?_);apply Exists.intro;refine⟨λW hC R hR=>?_,?_⟩;(have hcc:=Hc0.o W hC;rw[xo]at hcc;go_simp;exact hR _ _ Zbr rfl);(go_simp;refine hK _ ?_;clear hK K))
     intro w4 hC4;have HB4:=Zh (HB3.o.below hC4.2);have HO4:=Zh (HO.o.below hC4.2);have Hr4:=Zh (Qc.below Hr3.o hC4.2);have HBL:Hid (Below w.heap.size w w4):=HB4.o.bel;clear hC4 Hc0 HB3 HO Hr3 HBL3 Hxc Hxp x0 x1 x2 x3 hq0;have HE:Hid (QI l ⟨3,k,j,p⟩=([],6)):=by show QI _ _=_;rw[HN.o,if_pos (by rw[xo];decide)]
     go_wp2;go_ret2;rw[HE.o];exact⟨_,_,rfl,Ua _ _,HBL.o⟩
    |false=>
     refine Qy w3.heap.size Znl (by kernel_rfl) (by kernel_rfl) ?_
     repeat(refine QL (λK hK=>?_);apply Exists.intro;refine⟨λW hC R hR=>?_,?_⟩;(have hcc:=Hc0.o W hC;rw[xo]at hcc;go_simp;exact hR _ _ Zbr rfl);(go_simp;refine hK _ ?_;clear hK K))
     intro w4 hC4;have HB4:=Zh (HB3.o.below hC4.2);have HO4:=Zh (HO.o.below hC4.2);have Hr4:=Zh (Qc.below Hr3.o hC4.2);have HBL:Hid (Below w.heap.size w w4):=HB4.o.bel;clear hC4 Hc0 HB3 HO Hr3 HBL3 Hxc Hxp x0 x1 x2 x3 hq0;have HN':Hid (QI l ⟨3,k,j,p⟩=if(nextCell l ⟨3,k,j,p⟩).2≠0 then([],(nextCell l ⟨3,k,j,p⟩).2)else(l.set k (nextCell l ⟨3,k,j,p⟩).1,0)):=by show QI _ _=_;rw[HN.o,if_neg (by rw[xo];decide)]
     clear HN;have HP:=Zh (Bx.one (w:=w4) (o:=(.cells #[.slice ap p.ru.length cp,.int .i64 p.df] 38)));have HBq:=Zh (HB4.o.below HP.o.bel);have HOq:=Zh (HO4.o.below HP.o.bel);have Hrq:=Zh (Qc.below Hr4.o HP.o.bel);have hqp:=HP.o.cells0;have hqb:=HBq.o.cells0;have hq4:=HB4.o.cells0;have HgL:=Zh (HO4.o.lt (by have:=Hl4.o;omega)).2;obtain⟨ja1,ja2,jc1,jc2,j0,j1,j2,j3,hjc,hjp⟩:=HOq.o.cells Hy.o;have Hjp:=Zh hjp;clear hjc hjp
     cases yo:y.open_ with
     |false=>
      have HNC:Hid (nextCell l ⟨3,k,j,p⟩=(zeroCell,5)):=by show nextCell _ _=_;unfold nextCell;rw[if_pos rfl,Hyj.o,if_neg (by rw[yo];decide)]
      rw[yo]at j0;have HBLq:Hid (Below w.heap.size w _):=HBq.o.bel;have HE:Hid (QI l ⟨3,k,j,p⟩=([],5)):=by show QI _ _=_;rw[HN'.o,HNC.o];simp
      go_wp2;go_ret2;rw[HE.o];exact⟨_,_,rfl,Ua _ _,HBLq.o⟩
     |true=>
      rw[yo]at j0;go_wp2_with fail
      refine(QbX _ y.p _ _ Hjp.o).mono ?_;clear j0 j1 j2 j3;obtain⟨⟨Y,ye⟩,hY⟩:∃E,Vh y.p=E:=⟨_,rfl⟩;have HY:=Zh hY;have HNC:Hid (nextCell l ⟨3,k,j,p⟩=(Y,ye)):=by show nextCell _ _=_;unfold nextCell;rw[if_pos rfl,Hyj.o,if_pos yo];exact hY
      clear hY;rw[HY.o];rintro e w5⟨ya1,yc1,ya2,yc2,rfl,hyc,hyp,hb5⟩;dsimp only at hyc hyp;have HB5:=Zh (HBq.o.below hb5);have HO5:=Zh (HOq.o.below hb5)
      have hge:∀b,(w4.alloc (.cells #[.slice ap p.ru.length cp,.int .i64 p.df] 38)).heap.size<=b->Dg w2.heap.size g b:=λb hb=>by
       have h1:w4.heap.size+1<=b:=by simpa using hb
       have h2:=Hg.o;have h3:=HgL.o;exact⟨by omega,by omega⟩
      have HYC:Hid (Qz w5 (Dg w2.heap.size g) (.slice ya1 Y.chain.length yc1) Y.chain):=hyc.keep (λb hb _=>hge b hb) (λ_ _ _=>rfl) Znl;have HYP:Hid (Qc w5 (Dg w2.heap.size g) (.slice ya2 Y.p.ru.length yc2) Y.p.ru):=hyp.keep (λb hb _=>hge b hb) (λ_ _ _=>rfl) Znl;clear hge;clear hyc hyp hb5;obtain⟨za1,za2,zc1,zc2,z0,z1,z2,z3,_,_⟩:=HO5.o.cells Hx.o;have hfz:=HO5.o.frz (by have:=Hl4.o;omega);have HOw:=Zh (HO5.o.put (y:=Y) Hx.o HYC.o HYP.o);have HBL5:=Zh (YA (k:=k) (o:=Y.open_) (u:=.slice ya1 Y.chain.length yc1) (v:=.slice ya2 Y.p.ru.length yc2) (d:=Y.p.df) HB5.o.bel (show w.heap.size<=g by have:=Hg.o;omega));clear hqp hqb hq4;by_cases hye:ye=0
      .subst hye;have HE:Hid (QI l ⟨3,k,j,p⟩=(l.set k Y,0)):=by show QI _ _=_;rw[HN'.o,HNC.o];simp
       have HRD:=Zh (HOw.o.read (B':=w.heap.size) (by have:=Hg.o;omega) (by have:=Hg.o;omega));have hls:(l.set k Y).length=l.length:=List.length_set;have Hls:=Zh hls;clear hls;go_wp2;go_ret2;rw[HE.o];dsimp only;rw[Hls.o];exact⟨_,_,rfl,HRD.o,HBL5.o⟩
      have hne:(ye != 0)=true:=bne_iff_ne.2 hye;have HE:Hid (QI l ⟨3,k,j,p⟩=([],ye)):=by show QI _ _=_;rw[HN'.o,HNC.o];simp[hye]
      clear hye;go_wp2;go_ret2;rw[HE.o];exact⟨_,_,rfl,Ua _ _,HBL5.o⟩
   .cases xo:x.open_ with
    |false=>
     refine Qy w3.heap.size Znl (by kernel_rfl) (by kernel_rfl) ?_
     repeat(refine QL (λK hK=>?_);apply Exists.intro;refine⟨λW hC R hR=>?_,?_⟩;(have hcc:=Hc0.o W hC;rw[xo]at hcc;go_simp;exact hR _ _ Zbr rfl);(go_simp;refine hK _ ?_;clear hK K))
     intro w4 hC4;have HB4:=Zh (HB3.o.below hC4.2);have HO4:=Zh (HO.o.below hC4.2);have Hr4:=Zh (Qc.below Hr3.o hC4.2);have HBL:Hid (Below w.heap.size w w4):=HB4.o.bel;clear hC4 Hc0 HB3 HO Hr3 HBL3 Hxc Hxp x0 x1 x2 x3 hq0;have HE:Hid (QI l ⟨2,k,j,p⟩=([],6)):=by show QI _ _=_;rw[HN.o,if_pos (by rw[xo];decide)]
     go_wp2;go_ret2;rw[HE.o];exact⟨_,_,rfl,Ua _ _,HBL.o⟩
    |true=>
     refine Qy w3.heap.size Znl (by kernel_rfl) (by kernel_rfl) ?_
     repeat(refine QL (λK hK=>?_);apply Exists.intro;refine⟨λW hC R hR=>?_,?_⟩;(have hcc:=Hc0.o W hC;rw[xo]at hcc;go_simp;exact hR _ _ Zbr rfl);(go_simp;refine hK _ ?_;clear hK K))
     intro w4 hC4;have HB4:=Zh (HB3.o.below hC4.2);have HO4:=Zh (HO.o.below hC4.2);have Hr4:=Zh (Qc.below Hr3.o hC4.2);have HBL:Hid (Below w.heap.size w w4):=HB4.o.bel;clear hC4 Hc0 HB3 HO Hr3 HBL3 Hxc Hxp x0 x1 x2 x3 hq0;have HN':Hid (QI l ⟨2,k,j,p⟩=if(nextCell l ⟨2,k,j,p⟩).2≠0 then([],(nextCell l ⟨2,k,j,p⟩).2)else(l.set k (nextCell l ⟨2,k,j,p⟩).1,0)):=by show QI _ _=_;rw[HN.o,if_neg (by rw[xo];decide)]
     clear HN;have HP:=Zh (Bx.one (w:=w4) (o:=(.cells #[.slice ap p.ru.length cp,.int .i64 p.df] 38)));have HBq:=Zh (HB4.o.below HP.o.bel);have HOq:=Zh (HO4.o.below HP.o.bel);have Hrq:=Zh (Qc.below Hr4.o HP.o.bel);have hqp:=HP.o.cells0;have hqb:=HBq.o.cells0;have hq4:=HB4.o.cells0;have HgL:=Zh (HO4.o.lt (by have:=Hl4.o;omega)).2;go_wp2_with fail
     obtain⟨⟨T,te⟩,hT⟩:∃E,UC x.chain x.p p=E:=⟨_,rfl⟩;have HTt:=Zh hT;clear hT;revert HP HBq HOq Hrq hqp hqb;generalize hwq:(w4.alloc (.cells #[.slice ap p.ru.length cp,.int .i64 p.df] 38))=wq;intro HP HBq HOq Hrq hqp hqb;have Hsq:Hid (w4.heap.size<wq.heap.size):=by rw[<-hwq];show _<_;simp
     clear hwq hqp hqb hq4
     refine ZP g [ex (.pointer (some ⟨g,k*4,none⟩)),ex (.pointer (some ⟨g,k*4,none⟩)),ex (.pointer (some ⟨g,k*4,none⟩)),ex (.pointer (some ⟨g,k*4+1,none⟩)),pr (λv W=>∃a c,v=.slice a x.chain.length c/\Qz W (Dg w2.heap.size g) v x.chain),ex (.pointer (some ⟨g,k*4,none⟩)),ex (.pointer (some ⟨g,k*4,none⟩)),ex (.pointer (some ⟨g,k*4+2,none⟩)),pr (λv W=>∃a c,v=U8 (.slice a x.p.ru.length c) x.p.df/\Qc W (Dg w2.heap.size g) (.slice a x.p.ru.length c) x.p.ru),ex (U8 (.slice ap p.ru.length cp) p.df),
       pr (λv W=>∃a c,v=.tuple #[.slice a T.length c,.int .i64 te]/\Qz W (Dg w2.heap.size g) (.slice a T.length c) T),pr (λv W=>∃a c,v=.tuple #[.slice a T.length c,.int .i64 te]/\Qz W (Dg w2.heap.size g) (.slice a T.length c) T),pr (λv W=>∃a c,v=.slice a T.length c/\Qz W (Dg w2.heap.size g) v T),ex (.int .i64 te),ex (.pointer (some ⟨g,k*4,none⟩)),ex (.pointer (some ⟨g,k*4+1,none⟩)),ex undef,ex (.int .i64 te)]
      (XE wq w2.heap.size 52 4 g l.length c3 (λW=>XD W (Dg w2.heap.size g)) (λdn=>if dn 16 then l.set k ⟨true,T,x.p⟩else l)) (by kernel_rfl) (by kernel_rfl) ⟨.inl ⟨_,rfl⟩,.inl ⟨_,rfl⟩,.inl ⟨_,rfl⟩,.inl ⟨_,rfl⟩,.inr ⟨_,rfl,Gz⟩,.inl ⟨_,rfl⟩,.inl ⟨_,rfl⟩,.inl ⟨_,rfl⟩,.inr ⟨_,rfl,QdE⟩,.inl ⟨_,rfl⟩,.inr ⟨_,rfl,QcY⟩,.inr ⟨_,rfl,QcY⟩,.inr ⟨_,rfl,Gz⟩,.inl ⟨_,rfl⟩,.inl ⟨_,rfl⟩,.inl ⟨_,rfl⟩,.inl ⟨_,rfl⟩,.inl ⟨_,rfl⟩,trivial⟩ ⟨HOq.o.below Zbr.drew,GU _ _⟩ _ rfl ?_
     iterate 4 (refine Qj λK hK=>⟨λdn W hI h0 hd hn hf R hR=>?_,?_⟩;(clear h0 hd hn hf;go_simp;exact hR _ _ (hI.step Uz Zbr rfl) (below_grow Zbr _) rfl);(go_simp;refine hK _ ?_;clear hK K))
     (refine QR (λK hK=>?_);refine⟨λdn W hI h0 hd hn hf R hR=>?_,λvA=>?_⟩;(have hno16:dn 16=false:=hn 16 (by decide);have hOW:QT W w2.heap.size w2.heap.size g l.length c3 l:=QT.put' hI (by rw[hno16];rfl);obtain⟨ka1,ka2,kc1,kc2,q0,q1,q2,q3,qc,qp⟩:=hOW.cells Hx.o;have Hqc:=Zh qc;have Hqp:=Zh qp;clear hOW qc qp hno16;clear h0 hd hn hf;go_simp;exact hR _ _ (hI.step Uz Zbr rfl) (below_grow Zbr _) ⟨_,_,rfl,Hqc.o⟩);(go_simp;refine hK _ _ ?_;clear hK K))
     iterate 3 (refine Qj λK hK=>⟨λdn W hI h0 hd hn hf R hR=>?_,?_⟩;(clear h0 hd hn hf;go_simp;exact hR _ _ (hI.step Uz Zbr rfl) (below_grow Zbr _) rfl);(go_simp;refine hK _ ?_;clear hK K))
     (refine QR (λK hK=>?_);refine⟨λdn W hI h0 hd hn hf R hR=>?_,λvB=>?_⟩;(have hno16:dn 16=false:=hn 16 (by decide);have hOW:QT W w2.heap.size w2.heap.size g l.length c3 l:=QT.put' hI (by rw[hno16];rfl);obtain⟨ka1,ka2,kc1,kc2,q0,q1,q2,q3,qc,qp⟩:=hOW.cells Hx.o;have Hqc:=Zh qc;have Hqp:=Zh qp;clear hOW qc qp hno16;clear h0 hd hn hf;go_simp;exact hR _ _ (hI.step Uz Zbr rfl) (below_grow Zbr _) ⟨_,_,rfl,Hqp.o⟩);(go_simp;refine hK _ _ ?_;clear hK K))
     (refine Qj λK hK=>⟨λdn W hI h0 hd hn hf R hR=>?_,?_⟩;(have hcl:∀i,W.cell? ⟨w4.heap.size,i,none⟩=_:=Qb ((hI.gr.block _ Hsq.o (λe=>by injection e with e;have:=HgL.o;omega)).trans (HP.o.at_ 0 _ rfl));clear h0 hd hn hf;go_simp;exact hR _ _ (hI.step Uz Zbr rfl) (below_grow Zbr _) rfl);(go_simp;refine hK _ ?_;clear hK K))
     (refine QR (λK hK=>?_);refine⟨λdn W hI h0 hd hn hf R hR=>?_,λvC=>?_⟩;(have hA:∃a c,vA=.slice a x.chain.length c/\Qz W (Dg w2.heap.size g) vA x.chain:=hf 4 (by decide);have hB:∃a c,vB=U8 (.slice a x.p.ru.length c) x.p.df/\Qc W (Dg w2.heap.size g) (.slice a x.p.ru.length c) x.p.ru:=hf 8 (by decide);obtain⟨aA,cA,rfl,hA⟩:=hA;obtain⟨aB,cB,rfl,hB⟩:=hB;have HA:=Zh hA;have HBB:=Zh (VT hB);have HPW:=Zh (VT (Hrq.o.keep (w':=W) (D':=λb=>b≠g) (λb hb _=>by have h1:b<w.heap.size:=hb;have:=Hg.o;show b≠g;omega) (λb hb hl=>hI.gr.block b hl (λe=>by have h1:b<w.heap.size:=hb;injection e with e;have:=Hg.o;omega)) hI.gr.size));have HgW:Hid (g<W.heap.size/\w2.heap.size<=g):=⟨by have:=hI.gr.size;have:=HgL.o;have:=Hsq.o;omega,Hg.o.1⟩;clear hA hB;clear h0 hd hn hf;go_simp;go_at_call 138;refine(QdR _ _ _ x.chain x.p p _ W HA.o HBB.o HPW.o).mono ?_;rw[HTt.o];rintro e w9 ⟨v9,rfl,hr9,hb9⟩;obtain⟨a9,c9,rfl,_⟩:=Sl.form hr9;exact⟨_,rfl,hR _ _ (hI.step Uz hb9 rfl) (below_grow hb9 _) ⟨_,_,rfl,hr9.keep (λb hb _=>⟨by have h1:=hb;have:=HgW.o;omega,by have h1:=hb;have:=HgW.o;omega⟩) (λ_ _ _=>rfl) Znl⟩⟩);(go_simp;refine hK _ _ ?_;clear hK K))
     (refine QR (λK hK=>?_);refine⟨λdn W hI h0 hd hn hf R hR=>?_,λvD=>?_⟩;(have hC:∃a c,vC=.tuple #[.slice a T.length c,.int .i64 te]/\Qz W (Dg w2.heap.size g) (.slice a T.length c) T:=hf 10 (by decide);have HC:=Zh hC;clear hC;clear h0 hd hn hf;go_simp;exact hR _ _ (hI.step Uz Zbr rfl) (below_grow Zbr _) HC.o);(go_simp;refine hK _ _ ?_;clear hK K))
     (refine QR (λK hK=>?_);refine⟨λdn W hI h0 hd hn hf R hR=>?_,λvE=>?_⟩;(have hC:∃a c,vD=.tuple #[.slice a T.length c,.int .i64 te]/\Qz W (Dg w2.heap.size g) (.slice a T.length c) T:=hf 11 (by decide);obtain⟨aC,cC,rfl,hC⟩:=hC;have HC:=Zh hC;clear hC;clear h0 hd hn hf;go_simp;exact hR _ _ (hI.step Uz Zbr rfl) (below_grow Zbr _) ⟨_,_,rfl,HC.o⟩);(go_simp;refine hK _ _ ?_;clear hK K))
     iterate 5 (refine Qj λK hK=>⟨λdn W hI h0 hd hn hf R hR=>?_,?_⟩;(first|(clear h0 hd hn hf;go_simp;exact hR _ _ (hI.step Uz Zbr rfl) (below_grow Zbr _) rfl)|(have hC:∃a c,vD=.tuple #[.slice a T.length c,.int .i64 te]/\Qz W (Dg w2.heap.size g) (.slice a T.length c) T:=hf 11 (by decide);obtain⟨aC,cC,rfl,hC⟩:=hC;clear hC;clear h0 hd hn hf;go_simp;exact hR _ _ (hI.step Uz Zbr rfl) (below_grow Zbr _) rfl)|(have hC:∃a c,vE=.slice a T.length c/\Qz W (Dg w2.heap.size g) vE T:=hf 12 (by decide);obtain⟨aC,cC,rfl,hC⟩:=hC;have hOW:QT W w2.heap.size w2.heap.size g l.length c3 l:=QT.put' hI (by rw[h0];rfl);obtain⟨ka1,ka2,kc1,kc2,q0,q1,q2,q3,_,_⟩:=hOW.cells Hx.o;have hfz:=hOW.frz (by have:=Hl4.o;omega) (k*4+1);have hON:=hOW.chain Hx.o hC;rw[xo]at hON;have HN1:Hid (XE wq w2.heap.size 52 4 g l.length c3 (λW=>XD W (Dg w2.heap.size g)) (λdn=>if dn 16 then l.set k ⟨true,T,x.p⟩else l) (Qe dn 16) (W.setCell ⟨g,k*4+1,none⟩ (.slice aC T.length cC))):=⟨hON,UW hI.gr (UX W g _ _)⟩;have HT1:=Zh (UX W g (k*4+1) (.slice aC T.length cC));clear h0 hd hn hf hI hOW hON hC;go_simp;exact hR _ _ HN1.o HT1.o rfl));(go_simp;refine hK _ ?_;clear hK K))
     intro dn w5 hdone hI _;have h16:dn 16=true:=hdone 16 (by decide);have HO5:Hid (QT w5 w2.heap.size w2.heap.size g l.length c3 (l.set k ⟨true,T,x.p⟩)):=QT.put' hI (by rw[h16];rfl);have Hb5:=Zh (QV HBq.o.bel hI.gr HBq.o.bel.size (show w.heap.size<=g by have:=Hg.o;omega));have Hr5:Hid (Qc w5 (λb=>b≠g) (.slice ap p.ru.length cp) p.ru):=Hrq.o.keep (λb hb _=>by have h1:b<w.heap.size:=hb;have:=Hg.o;show b≠g;omega) (λb hb hl=>hI.gr.block b hl (λe=>by have h1:b<w.heap.size:=hb;injection e with e;have:=Hg.o;omega)) hI.gr.size;have hcp:∀i,w5.cell? ⟨w4.heap.size,i,none⟩=_:=Qb ((hI.gr.block _ Hsq.o (λe=>by injection e with e;have:=HgL.o;omega)).trans (HP.o.at_ 0 _ rfl));clear h16 hdone hI;by_cases hte:te=0
     .subst hte;have HNC:Hid (nextCell l ⟨2,k,j,p⟩=(⟨true,T,p⟩,0)):=by show nextCell _ _=_;unfold nextCell;dsimp only;rw[if_neg (by decide),if_neg (by decide),if_pos rfl,Hxk.o,HTt.o];simp
      have HE:Hid (QI l ⟨2,k,j,p⟩=(l.set k ⟨true,T,p⟩,0)):=by show QI _ _=_;rw[HN'.o,HNC.o];simp
      go_wp2_with fail
      refine(Gg _ p _ _ Hr5.o (by have:=(Hokp.o (by decide)).len;omega) (λr hr=>by have:=((Hokp.o (by decide)).ru r hr).len;omega)).mono ?_;rintro e w6⟨v6,rfl,hp6,hb6⟩;have HO6:=Zh (HO5.o.below hb6);have HBw6:=Zh (Ql Hb5.o hb6);have Hsz5:Hid (g<w5.heap.size):=(HO5.o.lt (by rw[List.length_set];have:=Hl4.o;omega)).2;have HP6:Hid (Qc w6 (Dg w2.heap.size g) v6 p.ru):=hp6.keep (λb hb _=>⟨by have h1:=hb;have:=Hg.o;have:=Hsz5.o;omega,by have h1:=hb;have:=Hsz5.o;omega⟩) (λ_ _ _=>rfl) Znl;obtain⟨a6,c6,rfl,_⟩:=Sl.form hp6;clear hp6 hb6;have hsk:(l.set k ⟨true,T,x.p⟩)[k]?=some ⟨true,T,x.p⟩:=by rw[List.getElem?_set_self (by have:=Hl4.o;omega)]
      obtain⟨za1,za2,zc1,zc2,z0,z1,z2,z3,_,_⟩:=HO6.o.cells hsk;have hfz:=HO6.o.frz (by rw[List.length_set];have:=Hl4.o;omega);have hpo:=HO6.o.pol hsk HP6.o;rw[ZM]at hpo;have HRD:=Zh (QT.read hpo (B':=w.heap.size) (by have:=Hg.o;omega) (by have:=Hg.o;omega));have hls:(l.set k (⟨true,T,p⟩:TCell)).length=l.length:=List.length_set;have Hls:=Zh hls;have HBL6:=Zh (Qw (a:=⟨g,k*4+3,none⟩) (v:=.int .i64 p.df) (Qw (a:=⟨g,k*4+2,none⟩) (v:=.slice a6 p.ru.length c6) HBw6.o (show w.heap.size<=g by have:=Hg.o;omega)) (show w.heap.size<=g by have:=Hg.o;omega));clear hls hpo hsk hcp;go_wp2;go_ret2;rw[HE.o];dsimp only;rw[Hls.o];exact⟨_,_,rfl,HRD.o,HBL6.o⟩
     have hne:(te==0)=false:=by simpa using hte
     have hne':(te != 0)=true:=bne_iff_ne.2 hte;have HNC:Hid (nextCell l ⟨2,k,j,p⟩=(zeroCell,te)):=by show nextCell _ _=_;unfold nextCell;dsimp only;rw[if_neg (by decide),if_neg (by decide),if_pos rfl,Hxk.o,HTt.o];simp[hte]
     have HE:Hid (QI l ⟨2,k,j,p⟩=([],te)):=by show QI _ _=_;rw[HN'.o,HNC.o];simp[hte]
     clear hte hcp;go_wp2;go_ret2;rw[HE.o];exact⟨_,_,rfl,Ua _ _,Hb5.o⟩
   cases xo:x.open_ with
   |false=>
    refine Qy w3.heap.size Znl (by kernel_rfl) (by kernel_rfl) ?_
    repeat(refine QL (λK hK=>?_);apply Exists.intro;refine⟨λW hC R hR=>?_,?_⟩;(have hcc:=Hc0.o W hC;rw[xo]at hcc;go_simp;exact hR _ _ Zbr rfl);(go_simp;refine hK _ ?_;clear hK K))
    intro w4 hC4;have HB4:=Zh (HB3.o.below hC4.2);have HO4:=Zh (HO.o.below hC4.2);have Hr4:=Zh (Qc.below Hr3.o hC4.2);have HBL:Hid (Below w.heap.size w w4):=HB4.o.bel;clear hC4 Hc0 HB3 HO Hr3 HBL3 Hxc Hxp x0 x1 x2 x3 hq0;have HE:Hid (QI l ⟨4,k,j,p⟩=([],6)):=by show QI _ _=_;rw[HN.o,if_pos (by rw[xo];decide)]
    go_wp2;go_ret2;rw[HE.o];exact⟨_,_,rfl,Ua _ _,HBL.o⟩
   |true=>
    refine Qy w3.heap.size Znl (by kernel_rfl) (by kernel_rfl) ?_
    repeat(refine QL (λK hK=>?_);apply Exists.intro;refine⟨λW hC R hR=>?_,?_⟩;(have hcc:=Hc0.o W hC;rw[xo]at hcc;go_simp;exact hR _ _ Zbr rfl);(go_simp;refine hK _ ?_;clear hK K))
    intro w4 hC4;have HB4:=Zh (HB3.o.below hC4.2);have HO4:=Zh (HO.o.below hC4.2);have Hr4:=Zh (Qc.below Hr3.o hC4.2);have HBL:Hid (Below w.heap.size w w4):=HB4.o.bel;clear hC4 Hc0 HB3 HO Hr3 HBL3 Hxc Hxp x0 x1 x2 x3 hq0;have HN':Hid (QI l ⟨4,k,j,p⟩=if(nextCell l ⟨4,k,j,p⟩).2≠0 then([],(nextCell l ⟨4,k,j,p⟩).2)else(l.set k (nextCell l ⟨4,k,j,p⟩).1,0)):=by show QI _ _=_;rw[HN.o,if_neg (by rw[xo];decide)]
    clear HN;have HP:=Zh (Bx.one (w:=w4) (o:=(.cells #[.slice ap p.ru.length cp,.int .i64 p.df] 38)));have HBq:=Zh (HB4.o.below HP.o.bel);have HOq:=Zh (HO4.o.below HP.o.bel);have Hrq:=Zh (Qc.below Hr4.o HP.o.bel);have hqp:=HP.o.cells0;have hqb:=HBq.o.cells0;have hq4:=HB4.o.cells0;have HgL:=Zh (HO4.o.lt (by have:=Hl4.o;omega)).2;have HNC:Hid (nextCell l ⟨4,k,j,p⟩=(zeroCell,0)):=by show nextCell _ _=_;unfold nextCell;simp
    have HE:Hid (QI l ⟨4,k,j,p⟩=(l.set k zeroCell,0)):=by show QI _ _=_;rw[HN'.o,HNC.o];simp
    obtain⟨za1,za2,zc1,zc2,z0,z1,z2,z3,_,_⟩:=HOq.o.cells Hx.o;have hfz:=HOq.o.frz (by have:=Hl4.o;omega);have HOw:=Zh (HOq.o.put (y:=zeroCell) Hx.o (V6 _ _) (XZ _ _));have HRD:=Zh (HOw.o.read (B':=w.heap.size) (by have:=Hg.o;omega) (by have:=Hg.o;omega));have hls:(l.set k zeroCell).length=l.length:=List.length_set;have Hls:=Zh hls;have HBLq:=Zh (YA (k:=k) (o:=false) (u:=.slice none 0 0) (v:=.slice none 0 0) (d:=0) HBq.o.bel (show w.heap.size<=g by have:=Hg.o;omega));clear hls;go_wp2;go_ret2;rw[HE.o];dsimp only;rw[Hls.o];exact⟨_,_,rfl,HRD.o,HBLq.o⟩
  have HE:Hid (QI l ⟨kd,cl,fr,p⟩=([],UJ ⟨kd,cl,fr,p⟩)):=by show QI _ _=_;unfold QI;rw[if_neg (by rw[H0.o];simp),if_pos h3]
  have HBL:Hid (Below w.heap.size w w2):=HB2.o.bel;have hne:(UJ ⟨kd,cl,fr,p⟩ != 0)=true:=bne_iff_ne.2 h3;generalize UJ ⟨kd,cl,fr,p⟩=E at *;clear h3;go_wp2;go_ret2;rw[HE.o];exact⟨_,_,rfl,Ua _ _,HBL.o⟩
 have HE:Hid (QI l ⟨kd,cl,fr,p⟩=([],cellsE l)):=by show QI _ _=_;unfold QI;rw[if_pos h0]
 have HBL:Hid (Below w.heap.size w w1):=HB1.o.bel;have hne:(cellsE l != 0)=true:=bne_iff_ne.2 h0;generalize cellsE l=E at *;clear h0;go_wp2;go_ret2;rw[HE.o];exact⟨_,_,rfl,Ua _ _,HBL.o⟩
end
section
open Go.RowKit
def De(E:Nat->Prop)(g:Nat)(b:Nat):Prop:=E b/\b≠g
theorem Gw{W:World}{E:Nat->Prop}{g i:Nat}{x:Value}{y:TCell}{cs:List Value}(h:XD W (De E g) y cs):XD (W.setCell ⟨g,i,none⟩ x) (De E g) y cs:=
 h.keep (λ_ h _=>h) (λb hb _=>Qm (by exact hb.2)) (by rw[Qr];exact Nat.le_refl _)
theorem Qao{W:World}{E:Nat->Prop}{g i:Nat}{x v:Value}{l:List (List TIns)}(h:Qz W (De E g) v l):Qz (W.setCell ⟨g,i,none⟩ x) (De E g) v l:=
 h.keep (λ_ h _=>h) (λb hb _=>Qm (by exact hb.2)) (by rw[Qr];exact Nat.le_refl _)
theorem OT{W:World}{E:Nat->Prop}{g i:Nat}{x v:Value}{l:List TRule}(h:Qc W (De E g) v l):Qc (W.setCell ⟨g,i,none⟩ x) (De E g) v l:=
 h.keep (λ_ h _=>h) (λb hb _=>Qm (by exact hb.2)) (by rw[Qr];exact Nat.le_refl _)
section
variable{W:World}{E:Nat->Prop}{B0 g n c k:Nat}{l:List TCell}{u v:Value}
def Ud(W:World)(B0:Nat)(E:Nat->Prop)(g n c:Nat)(l:List TCell):Prop:=Qg W B0 52 4 (XD W (De E g)) (.slice (some ⟨g,0,none⟩) n c) l
theorem Ud.cells(h:Ud W B0 E g n c l){x:TCell}(hk:l[k]?=some x):∃(a1 a2:Option Addr)(c1 c2:Nat),W.cell? ⟨g,k*4,none⟩=some (.bool x.open_)/\W.cell? ⟨g,k*4+1,none⟩=some (.slice a1 x.chain.length c1)/\W.cell? ⟨g,k*4+2,none⟩=some (.slice a2 x.p.ru.length c2)/\W.cell? ⟨g,k*4+3,none⟩=some (.int .i64 x.p.df) /\
      Qz W (De E g) (.slice a1 x.chain.length c1) x.chain/\Qc W (De E g) (.slice a2 x.p.ru.length c2) x.p.ru:=by
 obtain⟨hlt,rfl⟩:=List.getElem?_eq_some_iff.1 hk;have hs:=Qg.sl h (D:=λ_=>True) (λ_ _=>trivial);obtain⟨cs,hl,⟨u,v,rfl,hc,hp⟩,hcell⟩:=Sl.get hs hlt;obtain⟨a1,c1,hv,_⟩:=Sl.form hc;obtain⟨a2,c2,hv2,_⟩:=Sl.form hp;subst hv hv2;exact⟨a1,a2,c1,c2,by have:=hcell 0 _ rfl;simpa using this,by have:=hcell 1 _ rfl;simpa using this,by have:=hcell 2 _ rfl;simpa using this,by have:=hcell 3 _ rfl;simpa using this,hc,hp⟩
theorem Ud.frz(h:Ud W B0 E g n c l)(hl:0<l.length)(j:Nat):W.frozen? ⟨g,j,none⟩=false:=by
 obtain⟨b,e,_,_,cur,hc⟩:=Qg.addr h hl;injection e with e;injection e with e;subst e;exact Qp hc j
theorem Ud.chain(h:Ud W B0 E g n c l){x:TCell}(hk:l[k]?=some x){ch:List (List TIns)}(hu:Qz W (De E g) u ch):
  Ud (W.setCell ⟨g,k*4+1,none⟩ u) B0 E g n c (l.set k ⟨x.open_,ch,x.p⟩):=by
 obtain⟨hlt,rfl⟩:=List.getElem?_eq_some_iff.1 hk;exact Qg.put (Qg.monoR h λz _ cs hz=>Gw hz) hlt (by decide) (λr ⟨u0,v0,hr,h1,h2⟩=>by subst hr;exact⟨_,_,rfl,Qao hu,h2⟩)
theorem Ud.ru(h:Ud W B0 E g n c l){x:TCell}(hk:l[k]?=some x){rs:List TRule}(hu:Qc W (De E g) u rs):
  Ud (W.setCell ⟨g,k*4+2,none⟩ u) B0 E g n c (l.set k ⟨x.open_,x.chain,⟨rs,x.p.df⟩⟩):=by
 obtain⟨hlt,rfl⟩:=List.getElem?_eq_some_iff.1 hk;exact Qg.put (Qg.monoR h λz _ cs hz=>Gw hz) hlt (by decide) (λr ⟨u0,v0,hr,h1,h2⟩=>by subst hr;exact⟨_,_,rfl,h1,OT hu⟩)
theorem Ud.df(h:Ud W B0 E g n c l){x:TCell}(hk:l[k]?=some x)(d:Int):
  Ud (W.setCell ⟨g,k*4+3,none⟩ (.int .i64 d)) B0 E g n c (l.set k ⟨x.open_,x.chain,⟨x.p.ru,d⟩⟩):=by
 obtain⟨hlt,rfl⟩:=List.getElem?_eq_some_iff.1 hk;exact Qg.put (Qg.monoR h λz _ cs hz=>Gw hz) hlt (by decide) (λr ⟨u0,v0,hr,h1,h2⟩=>by subst hr;exact⟨_,_,rfl,h1,h2⟩)
theorem Ud.open_(h:Ud W B0 E g n c l){x:TCell}(hk:l[k]?=some x)(o:Bool):
  Ud (W.setCell ⟨g,k*4,none⟩ (.bool o)) B0 E g n c (l.set k ⟨o,x.chain,x.p⟩):=by
 obtain⟨hlt,rfl⟩:=List.getElem?_eq_some_iff.1 hk;exact Qg.put (i:=k) (j:=0) (Qg.monoR h λz _ cs hz=>Gw hz) hlt (by decide) (λr ⟨u0,v0,hr,h1,h2⟩=>by subst hr;exact⟨_,_,rfl,h1,h2⟩)
theorem Ud.pol(h:Ud W B0 E g n c l){x:TCell}(hk:l[k]?=some x){p:TPol}(hu:Qc W (De E g) u p.ru):
  Ud ((W.setCell ⟨g,k*4+2,none⟩ u).setCell ⟨g,k*4+3,none⟩ (.int .i64 p.df)) B0 E g n c (l.set k ⟨x.open_,x.chain,p⟩):=by
 have hlt:=(List.getElem?_eq_some_iff.1 hk).1;have:=(h.ru hk hu).df (x:=⟨x.open_,x.chain,⟨p.ru,x.p.df⟩⟩) (by rw[List.getElem?_set_self hlt]) p.df
 rwa [ZM]at this
theorem Ud.put(h:Ud W B0 E g n c l){x y:TCell}(hk:l[k]?=some x)(hu:Qz W (De E g) u y.chain)(hv:Qc W (De E g) v y.p.ru):
  Ud ((((W.setCell ⟨g,k*4,none⟩ (.bool y.open_)).setCell ⟨g,k*4+1,none⟩ u).setCell ⟨g,k*4+2,none⟩ v).setCell ⟨g,k*4+3,none⟩ (.int .i64 y.p.df)) B0 E g n c (l.set k y):=by
 have hlt:=(List.getElem?_eq_some_iff.1 hk).1;have h1:=(h.open_ hk y.open_).chain (x:=⟨y.open_,x.chain,x.p⟩) (by rw[List.getElem?_set_self hlt]) (Qao hu);rw[ZM]at h1;have h2:=h1.pol (x:=⟨y.open_,y.chain,x.p⟩) (by rw[List.getElem?_set_self hlt]) (p:=y.p) (OT (OT hv))
 rwa [ZM]at h2
theorem Ud.read(h:Ud W B0 E g n c l)(h1:∀b,B0<=b->E b):Qo W E (.slice (some ⟨g,0,none⟩) n c) l:=
 Sl.mono (Qg.sl h (D:=E) (λb hb=>h1 b hb)) (λ_ h _=>h) (λ_ _ _=>rfl) Znl (λ_ _ _ hy=>hy.keep (λ_ hb _=>hb.1) (λ_ _ _=>rfl) Znl)
end
end
end Go.Proofs.YthkgjohhbdipcaaGreatDoor
