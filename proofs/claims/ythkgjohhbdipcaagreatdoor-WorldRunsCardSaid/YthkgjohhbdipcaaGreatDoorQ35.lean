/- Texts laid one behind the other: WHappen, WDo, WAsk, WSame, ConcatErr, WRun. No condition beyond theirs. -/
import Derived.Test.YthkgjohhbdipcaaGreatDoorQ33
import Derived.Test.YthkgjohhbdipcaaGreatDoorQ32
import Derived.Test.YthkgjohhbdipcaaGreatDoorQ8
import Derived.Test.YthkgjohhbdipcaaGreatDoorQ9
import Derived.Test.YthkgjohhbdipcaaGreatDoorProg
import Derived.Test.YthkgjohhbdipcaaGreatDoorQ3
import Derived.KernelRfl
import Derived.Deep.LoopGhost
import Derived.Test.YthkgjohhbdipcaaGreatDoorQ13
set_option linter.all false
set_option maxHeartbeats 64000000
set_option maxRecDepth 100000
namespace Go.Proofs.YthkgjohhbdipcaaGreatDoor
open Tryz
section
open Go.RowKit
attribute [local go_sem] gives QG
theorem Qaw(bw:Nat)(c u v ur:Value)(t:TWorld)(x:THap)(G D:Nat->Prop)(w:World)(hG0:¬G bw)(hGu:∀b,w.heap.size<=b->G b)(h:WBx w G bw c u v t)(hr:Qc w D ur x.p.ru)(hL:Laid w):
  Calls prog 50 #[.pointer (some ⟨bw,0,none⟩),QiM x ur] w (QiF w G bw (QH t x).1 (QH t x).2):=by
 have HL:=Zh hL;have HG0:=Zh hG0;have HGu:=Zh hGu;clear hG0 hGu;obtain⟨kd,cl,fr,p⟩:=x;obtain⟨cs,d,up⟩:=t;dsimp only at hr⊢;have Hw:=Zh h;have Hr:=Zh hr;obtain⟨a0,c0,rfl,hf0⟩:=Sl.form h.rd.cells;obtain⟨a1,c1,rfl,hf1⟩:=Sl.form h.rd.disk.1;obtain⟨a2,c2,rfl,hf2⟩:=Sl.form h.rd.disk.2;obtain⟨ar,cr,rfl,hf3⟩:=Sl.form hr;clear h hr hL hf0 hf1 hf2 hf3;have HB0:=Zh (Bx.one (w:=w) (o:=.cells #[.int .i64 kd,.int .i64 cl,.int .i64 fr,.slice ar p.ru.length cr,.int .i64 p.df] 40));have Hbw1:Hid ((w.alloc (.cells #[.int .i64 kd,.int .i64 cl,.int .i64 fr,.slice ar p.ru.length cr,.int .i64 p.df] 40)).heap[bw]?=some (.cells #[.slice a0 cs.length c0,.slice a1 d.sa.length c1,.slice a2 d.wt.length c2,.bool up] 27)):=(Hw.o.below HB0.o.bel).box;have Ht1:Hid (Qi _ (λb=>b<w.heap.size/\G b) _ _ _ ⟨cs,d,up⟩):=Qi.below (Qi.keep (D':=λb=>b<w.heap.size/\G b) Hw.o.rd (λb hb hl=>⟨hl,hb⟩) (λ_ _ _=>rfl) Znl) HB0.o.bel;have Hr1:Hid (Qc _ (λb=>b<w.heap.size) _ p.ru):=Qc.below (Qc.keep (D':=λb=>b<w.heap.size) Hr.o (λb hb hl=>hl) (λ_ _ _=>rfl) Znl) HB0.o.bel;have HL1:=Zh (HL.o.below HB0.o.bel);have Hbw:Hid (bw<w.heap.size):=(Array.getElem?_eq_some_iff.1 Hw.o.box).1;have hqb:=HB0.o.cells0;by_cases hk:kd<1\/7<kd
 .have HE:Hid (QH ⟨cs,d,up⟩ ⟨kd,cl,fr,p⟩=(⟨cs,d,up⟩,4)):=by show QH _ _=_;unfold QH;exact if_pos hk
  have Hrd:=Zh (Qi.keep (D':=G) Ht1.o (λk hk _=>hk.2) (λ_ _ _=>rfl) Znl);by_cases hk1:kd<1
  .clear hk;go_enter func50,ntmps50;go_wp2;go_ret;rw[HE.o];exact⟨_,_,_,rfl,⟨Hbw1.o,Hrd.o⟩,below_grown HB0.o.bel⟩
  have hk7:7<kd:=by omega
  clear hk;go_enter func50,ntmps50;go_wp2;go_ret;rw[HE.o];exact⟨_,_,_,rfl,⟨Hbw1.o,Hrd.o⟩,below_grown HB0.o.bel⟩
 have hk1:¬kd<1:=by omega
 have hk7:¬7<kd:=by omega
 have Hk:=Zh hk;clear hk;go_enter func50,ntmps50;go_wp2_with fail
 clear hqb;revert HB0 Hbw1 Ht1 Hr1 HL1;generalize(w.alloc (.cells #[.int .i64 kd,.int .i64 cl,.int .i64 fr,.slice ar p.ru.length cr,.int .i64 p.df] 40))=w1;intro HB0 Hbw1 Ht1 Hr1 HL1;obtain⟨q6,h6⟩:∃q,(kd==6)=q:=⟨_,rfl⟩;obtain⟨qe,he⟩:∃q,(up==q6)=q:=⟨_,rfl⟩;refine Xx [ex (.pointer (some ⟨bw,0,none⟩)),ex (.pointer (some ⟨bw,0,none⟩)),ex (.pointer (some ⟨bw,3,none⟩)),ex (.bool up),ex (.pointer (some ⟨w.heap.size,0,none⟩)),ex (.int .i64 kd),ex (.bool q6),ex (.bool qe)] w1.heap.size Znl (by kernel_rfl) (by kernel_rfl) ⟨.inl ⟨_,rfl⟩,.inl ⟨_,rfl⟩,.inl ⟨_,rfl⟩,.inl ⟨_,rfl⟩,.inl ⟨_,rfl⟩,.inl ⟨_,rfl⟩,.inl ⟨_,rfl⟩,.inl ⟨_,rfl⟩,trivial⟩ ?_
 iterate 8 (refine Qs λK hK=>⟨λW hC hd R hR=>?_,?_⟩;(first|(clear hd;go_simp;exact hR _ _ Zbr rfl)|(have hqr:=(HB0.o.below hC.2).cells0;clear hd;go_simp;exact hR _ _ Zbr rfl)|(have hqw:=Qb (Qd Hbw1.o hC.2);clear hd;go_simp;exact hR _ _ Zbr rfl));(go_simp;refine hK _ ?_;clear hK K))
 intro w2 hC2 hfacts;have HB2:=Zh (HB0.o.below hC2.2);have Hbw2:=Zh (Qd Hbw1.o hC2.2);have Ht2:=Zh (Qi.below Ht1.o hC2.2);have Hr2:=Zh (Qc.below Hr1.o hC2.2);have HL2:=Zh (HL1.o.below hC2.2);have Hlw2:Hid (bw<w2.heap.size):=(Array.getElem?_eq_some_iff.1 Hbw2.o).1;have hqb:=HB2.o.cells0;clear hC2 hfacts HB0 Hbw1 Ht1 Hr1 HL1
 cases qe with
 |true=>
  have HE:Hid (QH ⟨cs,d,up⟩ ⟨kd,cl,fr,p⟩=(⟨cs,d,up⟩,6)):=by
   show QH _ _=_;unfold QH;dsimp only;rw[if_neg Hk.o,if_pos];have:=of_decide_eq_true he;rw[this,<-h6];rfl
  have Hrd:=Zh (Qi.keep (D':=G) Ht2.o (λk hk _=>hk.2) (λ_ _ _=>rfl) Znl);clear hqb;go_wp2;go_ret;rw[HE.o];exact⟨_,_,_,rfl,⟨Hbw2.o,Hrd.o⟩,below_grown HB2.o.bel⟩
 |false=>
 have Hu:Hid (¬up=decide (kd=6)):=by
  show ¬_;intro e;have h7:(kd==6)=decide (kd=6):=rfl;rw[e,<-h6,h7]at he;simp at he
 have Hn:Hid (∀y:TWorld×Int,QH ⟨cs,d,up⟩ ⟨kd,cl,fr,p⟩=y↔(if kd=5 then(⟨newCells,d,false⟩,0)else
  if kd=6 then(if(QD d).2.2≠0 then(⟨cs,d,up⟩,(QD d).2.2)else if(QA (QD d).2.1).2≠0 then(⟨cs,d,up⟩,(QA (QD d).2.1).2)else(⟨(QA (QD d).2.1).1,(QD d).1,true⟩,0))else
  if kd=7 then U0 ⟨cs,d,up⟩ ⟨2,cl,0,p⟩ true fr else
  if kd=3 then U0 ⟨cs,d,up⟩ ⟨3,cl,fr,zeroPol⟩ false 0 else
  if kd=4 then U0 ⟨cs,d,up⟩ ⟨4,cl,0,zeroPol⟩ false 0 else U0 ⟨cs,d,up⟩ ⟨kd,cl,0,p⟩ false 0)=y):=by
  intro y;unfold QH;dsimp only;rw[if_neg Hk.o,if_neg Hu.o]
 by_cases k5:kd=5
 .subst k5;have HE:Hid (QH ⟨cs,d,up⟩ ⟨5,cl,fr,p⟩=(⟨newCells,d,false⟩,0)):=(Hn.o _).2 (if_pos rfl);clear he h6 hk1 hk7;go_wp2_with fail
  clear hqb;refine Un 8 w2.heap.size [ex (.pointer (some ⟨bw,0,none⟩)),pr (λv W=>∃a c,v=.slice a newCells.length c/\Qo W (λb=>w2.heap.size<=b) (.slice a newCells.length c) newCells),ex (.pointer (some ⟨bw,0,none⟩)),ex (.pointer (some ⟨bw,0,none⟩)),ex (.pointer (some ⟨bw,1,none⟩)),ex (.agg #[.slice a1 d.sa.length c1,.slice a2 d.wt.length c2]),pr (λv W=>∃a c,v=.agg #[.slice a newCells.length c,.slice a1 d.sa.length c1,.slice a2 d.wt.length c2,.bool false]/\Qo W (λb=>w2.heap.size<=b) (.slice a newCells.length c) newCells),ex (.pointer (some ⟨bw,0,none⟩)),ex (undef)] (QfI w2 bw (.slice a1 d.sa.length c1) (.slice a2 d.wt.length c2)) (by kernel_rfl) (by kernel_rfl) ⟨.inl ⟨_,rfl⟩,.inr ⟨_,rfl,Yp⟩,.inl ⟨_,rfl⟩,.inl ⟨_,rfl⟩,.inl ⟨_,rfl⟩,.inl ⟨_,rfl⟩,.inr ⟨_,rfl,Y1⟩,.inl ⟨_,rfl⟩,.inl ⟨_,rfl⟩,trivial⟩ _ rfl ?_
  (refine Qj λK hK=>⟨λdn W hI h0 hd hn hf R hR=>?_,?_⟩;(have hno:dn 8=false:=hn 8 (by decide);have hC:=hI.before hno;clear h0 hd hn hf;go_simp;exact hR _ _ (hI.step hno (by decide) Zbr) (Qn.of_below Zbr) rfl);(go_simp;refine hK _ ?_;clear hK K))
  (refine QR λK hK=>⟨λdn W hI h0 hd hn hf R hR=>?_,λv1=>?_⟩;(have hno:dn 8=false:=hn 8 (by decide);have hC:=hI.before hno;have hsz0:w2.heap.size<=W.heap.size:=hC.1;have HSZ:=Zh hsz0;clear hsz0;clear h0 hd hn hf;go_simp;go_at_call 61;refine(ZB _).mono ?_;rintro e w9 ⟨v9,rfl,hr9,hb9⟩;obtain⟨a9,c9,rfl,_⟩:=Sl.form hr9;exact⟨_,rfl,hR _ _ (hI.step hno (by decide) hb9) (Qn.of_below hb9) ⟨_,_,rfl,hr9.keep (λb hb _=>by have h1:_<=b:=hb;have:=HSZ.o;show _<=_;omega) (λ_ _ _=>rfl) Znl⟩⟩);(go_simp;refine hK _ _ ?_;clear hK K))
  iterate 4 (refine Qj λK hK=>⟨λdn W hI h0 hd hn hf R hR=>?_,?_⟩;(first|(have hno:dn 8=false:=hn 8 (by decide);have hC:=hI.before hno;clear h0 hd hn hf;go_simp;exact hR _ _ (hI.step hno (by decide) Zbr) (Qn.of_below Zbr) rfl)|(have hno:dn 8=false:=hn 8 (by decide);have hC:=hI.before hno;have hqw:=Qb (Qd Hbw2.o hC.2);clear h0 hd hn hf;go_simp;exact hR _ _ (hI.step hno (by decide) Zbr) (Qn.of_below Zbr) rfl));(go_simp;refine hK _ ?_;clear hK K))
  (refine QR λK hK=>⟨λdn W hI h0 hd hn hf R hR=>?_,λv6=>?_⟩;(have hno:dn 8=false:=hn 8 (by decide);have hC:=hI.before hno;have h1:∃a c,v1=.slice a newCells.length c/\Qo W (λb=>w2.heap.size<=b) (.slice a newCells.length c) newCells:=hf 1 (by decide);obtain⟨a3,c3,rfl,h1⟩:=h1;have H1:=Zh h1;clear h1 hC;clear h0 hd hn hf;go_simp;exact hR _ _ (hI.step hno (by decide) Zbr) (Qn.of_below Zbr) ⟨_,_,rfl,H1.o⟩);(go_simp;refine hK _ _ ?_;clear hK K))
  iterate 2 (refine Qj λK hK=>⟨λdn W hI h0 hd hn hf R hR=>?_,?_⟩;(first|(have hno:dn 8=false:=hn 8 (by decide);have hC:=hI.before hno;clear h0 hd hn hf;go_simp;exact hR _ _ (hI.step hno (by decide) Zbr) (Qn.of_below Zbr) rfl)|(have hno:dn 8=false:=h0;have hC:=hI.before hno;have h3:∃a c,v6=.agg #[.slice a newCells.length c,.slice a1 d.sa.length c1,.slice a2 d.wt.length c2,.bool false]/\Qo W (λb=>w2.heap.size<=b) (.slice a newCells.length c) newCells:=hf 6 (by decide);obtain⟨a3,c3,rfl,h3⟩:=h3;have hbW:=Qd Hbw2.o hC.2;have hqw:=Qb hbW;have hfw:=Qp hbW;have HFn:=Zh (IW (up:=up) hC.2 hbW Hlw2.o h3 (c1:=.slice a1 d.sa.length c1) (c2:=.slice a2 d.wt.length c2));have HKF:Hid (Qn w2.heap.size W _):=Ju (W:=W) (β:=bw) (a:=.slice a3 newCells.length c3) (b:=.slice a1 d.sa.length c1) (c:=.slice a2 d.wt.length c2) (d:=.bool false) Hlw2.o;clear h3 hbW hC;clear h0 hd hn hf;go_simp;exact hR _ _ (V8.at_ HFn.o) HKF.o rfl));(go_simp;refine hK _ ?_;clear hK K))
  intro dn w6 hdone hI _;obtain⟨y,hbx,hrx,hgx⟩:=hI.after (hdone 8 (by decide));clear hdone hI;have HWB:Hid (WBx w6 G bw y (.slice a1 d.sa.length c1) (.slice a2 d.wt.length c2) ⟨newCells,d,false⟩):=⟨hbx,Qo.keep hrx (λk hk _=>HGu.o _ (by have h1:w2.heap.size<=k:=hk;have:=HB2.o.bel.size;omega)) (λ_ _ _=>rfl) Znl,QB.keep Ht2.o.disk (λk hk _=>hk.2) (λk hk hl=>QC hgx hl (λe=>HG0.o (e▸hk.2))) hgx.size⟩;have HG:Hid (w.grownBy w6 (some bw)):=QM HB2.o.bel hgx;clear hbx hrx hgx;go_wp2;go_ret;rw[HE.o];exact⟨_,_,_,rfl,HWB.o,HG.o⟩
 have b5:(kd==5)=false:=beq_eq_false_iff_ne.2 k5;by_cases k6:kd=6
 .subst k6
  have hu':up=false:=by
   have:=Hu.o
   cases up with
   |true=>exact absurd rfl this
   |false=>rfl
  obtain⟨⟨d',l',e1⟩,hrec⟩:∃E,QD d=E:=⟨_,rfl⟩;obtain⟨⟨N,e2⟩,hrep⟩:∃E,QA l'=E:=⟨_,rfl⟩;have HREC:=Zh hrec;have HREP:=Zh hrep
  have HE:Hid (QH ⟨cs,d,up⟩ ⟨6,cl,fr,p⟩=if e1≠0 then(⟨cs,d,up⟩,e1)else if e2≠0 then(⟨cs,d,up⟩,e2)else(⟨N,d',true⟩,0)):=by
   refine(Hn.o _).2 ?_;rw[if_neg (by simp),if_pos rfl,hrec];dsimp only;rw[hrep]
  have Hrd:=Zh (Qi.keep (D':=G) Ht2.o (λk hk _=>hk.2) (λ_ _ _=>rfl) Znl);have hqw:=Qb Hbw2.o;clear he h6 hk1 hk7 hrec hrep k5;go_wp2_with fail
  clear hqw;refine(Ie _ _ d _ _ Ht2.o.disk HL2.o).mono ?_;rw[HREC.o];rintro e w3⟨u',v',vl,rfl,hrd3,hrl3,hb3⟩;dsimp only at hrd3 hrl3;obtain⟨x1,y1,rfl,_⟩:=Sl.form hrd3.1;obtain⟨x2,y2,rfl,_⟩:=Sl.form hrd3.2;dsimp only;have HD3:=Zh (QfG.new (hb3.mono Znl) hrd3);have HRL3:=Zh (Vg.below hrl3 (Qa Zbr (.cells #[.slice x1 d'.sa.length y1,.slice x2 d'.wt.length y2] 25)));have HDK3:=Zh (QB.below hrd3 (Qa Zbr (.cells #[.slice x1 d'.sa.length y1,.slice x2 d'.wt.length y2] 25)));have HBL3:=Zh (HB2.o.bel.trans (HD3.o.bel.mono HB2.o.bel.size));have Hbw3:=Zh (Qd Hbw2.o HD3.o.bel);have Hrd3:=Zh (Qi.below Hrd.o HD3.o.bel);clear hb3 hrl3 hqb hrd3;by_cases he1:e1=0
  .subst he1;have HE1:Hid (QH ⟨cs,d,up⟩ ⟨6,cl,fr,p⟩=if e2≠0 then(⟨cs,d,up⟩,e2)else(⟨N,d',true⟩,0)):=by show _=_;rw[HE.o,if_neg (by simp)]
   go_wp2_with fail
   refine(OJ vl l' _ _ HRL3.o).mono ?_;rw[HREP.o];rintro e w4⟨a4,c4,rfl,hrc4,hb4⟩;dsimp only at hrc4;dsimp only;have HD4:=Zh (HD3.o.below hb4);have Hbw4:=Zh (Qd Hbw3.o hb4);have HBL4:Hid (Below w.heap.size w w4):=Ql HBL3.o hb4;have Hrd4:=Zh (Qi.below Hrd3.o hb4);have Hdk4:=Zh (QB.below HDK3.o hb4);have Hl3:Hid (bw<w2.heap.size):=Hlw2;by_cases he2:e2=0
   .subst he2;have HE2:Hid (QH ⟨cs,d,up⟩ ⟨6,cl,fr,p⟩=(⟨N,d',true⟩,0)):=by show _=_;rw[HE1.o,if_neg (by simp)]
    have HPA:=Zh (Yr (.slice a4 N.length c4) (.slice x1 d'.sa.length y1) (.slice x2 d'.wt.length y2) (.bool true) Hbw4.o);have HPG:=Zh (Uf (W:=w4) (b:=bw) (.slice a4 N.length c4) (.slice x1 d'.sa.length y1) (.slice x2 d'.wt.length y2) (.bool true));have HWB:=Zh (WBx.mk (t:=⟨N,d',true⟩) HPA.o ⟨Qo.keep (D':=G) hrc4 (λk hk _=>HGu.o _ (by have h1:_<=k:=hk;have h2:=HBL3.o.size;omega)) (λk hk hl=>QC HPG.o hl (by have h1:_<=k:=hk;have h2:=HD3.o.bel.size;have:=Hl3.o;simp at h1 h2;omega)) HPG.o.size,QB.keep (D':=G) Hdk4.o (λk hk _=>HGu.o _ (by have h1:_<=k:=hk;have h2:=HB2.o.bel.size;omega)) (λk hk hl=>QC HPG.o hl (by have h1:_<=k:=hk;have:=Hl3.o;omega)) HPG.o.size⟩);have HG:=Zh (QM HBL4.o HPG.o);have hqd:=HD4.o.cells;have hqw:=Qb Hbw4.o;have hfw:=Qp Hbw4.o;clear hrc4 hb4;go_wp2;go_ret;rw[HE2.o];exact⟨_,_,_,rfl,HWB.o,HG.o⟩
   have HE2:Hid (QH ⟨cs,d,up⟩ ⟨6,cl,fr,p⟩=(⟨cs,d,up⟩,e2)):=by show _=_;rw[HE1.o,if_pos he2]
   have hnz:(e2==0)=false:=beq_eq_false_iff_ne.2 he2;clear he2 hrc4 hb4;go_wp2;go_ret;rw[HE2.o];exact⟨_,_,_,rfl,⟨Hbw4.o,Hrd4.o⟩,below_grown HBL4.o⟩
  have HE1:Hid (QH ⟨cs,d,up⟩ ⟨6,cl,fr,p⟩=(⟨cs,d,up⟩,e1)):=by show _=_;rw[HE.o,if_pos he1]
  have hnz:(e1 != 0)=true:=bne_iff_ne.2 he1;clear he1;go_wp2;go_ret;rw[HE1.o];exact⟨_,_,_,rfl,⟨Hbw3.o,Hrd3.o⟩,below_grown HBL3.o⟩
 have b6:(kd==6)=false:=beq_eq_false_iff_ne.2 k6;by_cases k7:kd=7
 .subst k7;clear he h6 hk1 hk7;have HE:Hid (QH ⟨cs,d,up⟩ ⟨7,cl,fr,p⟩=U0 ⟨cs,d,up⟩ ⟨2,cl,0,p⟩ true fr):=by show QH _ _=_;unfold QH;dsimp only;exact(Hn.o _).2 (by rw[if_neg (by decide),if_neg (by decide),if_pos rfl])
  go_wp2_with fail
  refine(Ou bw _ _ _ (.slice ar p.ru.length cr) ⟨cs,d,up⟩ ⟨2,cl,0,p⟩ true fr G _ _ HG0.o (λb hb=>HGu.o b (Nat.le_trans HB2.o.bel.size hb)) ⟨Hbw2.o,Qi.keep Ht2.o (λk hk _=>hk.2) (λ_ _ _=>rfl) Znl⟩ Hr2.o HL2.o).mono ?_;rintro e w4⟨c',u',v',rfl,hw4,hg4⟩;have HW:=Zh hw4;have HG:Hid (w.grownBy w4 (some bw)):=QM HB2.o.bel hg4;clear hw4 hg4 hqb;go_wp2;go_ret;rw[HE.o];exact⟨_,_,_,rfl,HW.o,HG.o⟩
 have b7:(kd==7)=false:=beq_eq_false_iff_ne.2 k7;by_cases k3:kd=3
 .subst k3;clear he h6 hk1 hk7;have HE:Hid (QH ⟨cs,d,up⟩ ⟨3,cl,fr,p⟩=U0 ⟨cs,d,up⟩ ⟨3,cl,fr,zeroPol⟩ false 0):=by show QH _ _=_;unfold QH;dsimp only;exact(Hn.o _).2 (by rw[if_neg (by decide),if_neg (by decide),if_neg (by decide),if_pos rfl])
  go_wp2_with fail
  refine(Ou bw _ _ _ (.slice none 0 0) ⟨cs,d,up⟩ ⟨3,cl,fr,zeroPol⟩ false 0 G _ _ HG0.o (λb hb=>HGu.o b (Nat.le_trans HB2.o.bel.size hb)) ⟨Hbw2.o,Qi.keep Ht2.o (λk hk _=>hk.2) (λ_ _ _=>rfl) Znl⟩ (XZ _ (λ_=>True)) HL2.o).mono ?_;rintro e w4⟨c',u',v',rfl,hw4,hg4⟩;have HW:=Zh hw4;have HG:Hid (w.grownBy w4 (some bw)):=QM HB2.o.bel hg4;clear hw4 hg4 hqb;go_wp2;go_ret;rw[HE.o];exact⟨_,_,_,rfl,HW.o,HG.o⟩
 have b3:(kd==3)=false:=beq_eq_false_iff_ne.2 k3;by_cases k4:kd=4
 .subst k4;clear he h6 hk1 hk7;have HE:Hid (QH ⟨cs,d,up⟩ ⟨4,cl,fr,p⟩=U0 ⟨cs,d,up⟩ ⟨4,cl,0,zeroPol⟩ false 0):=by show QH _ _=_;unfold QH;dsimp only;exact(Hn.o _).2 (by rw[if_neg (by decide),if_neg (by decide),if_neg (by decide),if_neg (by decide),if_pos rfl])
  go_wp2_with fail
  refine(Ou bw _ _ _ (.slice none 0 0) ⟨cs,d,up⟩ ⟨4,cl,0,zeroPol⟩ false 0 G _ _ HG0.o (λb hb=>HGu.o b (Nat.le_trans HB2.o.bel.size hb)) ⟨Hbw2.o,Qi.keep Ht2.o (λk hk _=>hk.2) (λ_ _ _=>rfl) Znl⟩ (XZ _ (λ_=>True)) HL2.o).mono ?_;rintro e w4⟨c',u',v',rfl,hw4,hg4⟩;have HW:=Zh hw4;have HG:Hid (w.grownBy w4 (some bw)):=QM HB2.o.bel hg4;clear hw4 hg4 hqb;go_wp2;go_ret;rw[HE.o];exact⟨_,_,_,rfl,HW.o,HG.o⟩
 have b4:(kd==4)=false:=beq_eq_false_iff_ne.2 k4;clear he h6 hk1 hk7;have HE:Hid (QH ⟨cs,d,up⟩ ⟨kd,cl,fr,p⟩=U0 ⟨cs,d,up⟩ ⟨kd,cl,0,p⟩ false 0):=by show QH _ _=_;unfold QH;dsimp only;exact(Hn.o _).2 (by rw[if_neg k5,if_neg k6,if_neg k7,if_neg k3,if_neg k4])
 go_wp2_with fail
 refine(Ou bw _ _ _ (.slice ar p.ru.length cr) ⟨cs,d,up⟩ ⟨kd,cl,0,p⟩ false 0 G _ _ HG0.o (λb hb=>HGu.o b (Nat.le_trans HB2.o.bel.size hb)) ⟨Hbw2.o,Qi.keep Ht2.o (λk hk _=>hk.2) (λ_ _ _=>rfl) Znl⟩ Hr2.o HL2.o).mono ?_;rintro e w4⟨c',u',v',rfl,hw4,hg4⟩;have HW:=Zh hw4;have HG:Hid (w.grownBy w4 (some bw)):=QM HB2.o.bel hg4;clear hw4 hg4 hqb;go_wp2;go_ret;rw[HE.o];exact⟨_,_,_,rfl,HW.o,HG.o⟩
end
section
open Go.RowKit
attribute [local go_sem] gives QG
theorem sz3{w W:World}{bs:List Obj}(h:Bx w bs W)(hl:bs.length=3):w.heap.size+3<=W.heap.size:=by have:=h.top;omega
theorem Qix(c u v ur:Value)(t:TWorld)(x:THap)(D D':Nat->Prop)(w:World)(h:Qi w D c u v t)(hr:Qc w D' ur x.p.ru)(hL:Laid w):
  Calls prog 17 #[Ux c u v t.up,QiM x ur] w λe w'=>∃c' u' v',e=.returned (.tuple #[Ux c' u' v' (doE t x).1.up,.int .i64 (doE t x).2])/\Qi w' (λb=>w.heap.size<=b) c' u' v' (doE t x).1/\Below w.heap.size w w':=by
 have HL:=Zh hL;have Ht:=Zh (Qi.lt h);obtain⟨kd,cl,fr,p⟩:=x;dsimp only at hr⊢;have Hr:=Zh (Qc.keep (D':=λb=>b<w.heap.size) hr (λ_ _ hl=>hl) (λ_ _ _=>rfl) Znl);obtain⟨a0,c0,rfl,_⟩:=Sl.form h.cells;obtain⟨a1,c1,rfl,_⟩:=Sl.form h.disk.1;obtain⟨a2,c2,rfl,_⟩:=Sl.form h.disk.2;obtain⟨ar,cr,rfl,_⟩:=Sl.form hr;clear h hr hL;have HB:=Zh (Bx.three (w:=w) (o:=.cells #[.slice a0 t.cells.length c0,.slice a1 t.d.sa.length c1,.slice a2 t.d.wt.length c2,.bool t.up] 27) (o':=.cells #[.int .i64 kd,.int .i64 cl,.int .i64 fr,.slice ar p.ru.length cr,.int .i64 p.df] 40) (o2:=.cells #[.slice none 0 0,.slice none 0 0,.slice none 0 0,.bool false] 27));go_enter func17,ntmps17;go_wp2_with fail
 refine(JG _ _ _ t _ _ (Qi.below Ht.o HB.o.bel) (HL.o.below HB.o.bel)).mono ?_;rintro e w1⟨rfl,hb1⟩;have HB1:=Zh (HB.o.below hb1);clear hb1 HB;by_cases hW:QX t=0
 .have Hsm:=Zh (YH hW);have HD1:Hid (doE t ⟨kd,cl,fr,p⟩=if(QH t ⟨kd,cl,fr,p⟩).2≠0 then(zeroWorld,(QH t ⟨kd,cl,fr,p⟩).2)else((QH t ⟨kd,cl,fr,p⟩).1,0)):=by show doE _ _=_;unfold doE;rw[if_neg (by simp[hW])]
  rw[hW];clear hW;have hq0:=HB1.o.cells0;go_wp2_with fail
  clear hq0;refine(NP _ _ _ t _ _ (Qi.below Ht.o HB1.o.bel) Hsm.o.1 Hsm.o.2).mono ?_;rintro e w2⟨c',u',v',rfl,hr2,hb2⟩;obtain⟨x0,y0,rfl,_⟩:=Sl.form hr2.cells;obtain⟨x1,y1,rfl,_⟩:=Sl.form hr2.disk.1;obtain⟨x2,y2,rfl,_⟩:=Sl.form hr2.disk.2;have HB2:=Zh (HB1.o.below hb2);have hq0:=HB2.o.cells0;have hf0:=HB2.o.free0;have hsz:=sz3 HB1.o rfl;have HB3:=Zh (HB2.o.put4 (.slice x0 t.cells.length y0) (.slice x1 t.d.sa.length y1) (.slice x2 t.d.wt.length y2) (.bool t.up) rfl);have HPG:=Uf (W:=w2) (b:=w.heap.size) (.slice x0 t.cells.length y0) (.slice x1 t.d.sa.length y1) (.slice x2 t.d.wt.length y2) (.bool t.up);have Hr3:=Zh (Qi.keep (D':=λb=>w.heap.size+3<=b) hr2 (λk hk _=>by have h1:w1.heap.size<=k:=hk;show _<=_;omega) (λk hk hl=>QC HPG hl (by have h1:w1.heap.size<=k:=hk;omega)) HPG.size);have hq1:=HB3.o.cells1;have hq0':=HB3.o.cells0;clear hr2 hb2 hsz HPG HB1 HB2;go_wp2_with fail
  clear hq0 hf0 hq1 hq0';revert HB3 Hr3;generalize((((w2.setCell ⟨w.heap.size,0,none⟩ (.slice x0 t.cells.length y0)).setCell ⟨w.heap.size,1,none⟩ (.slice x1 t.d.sa.length y1)).setCell ⟨w.heap.size,2,none⟩ (.slice x2 t.d.wt.length y2)).setCell ⟨w.heap.size,3,none⟩ (.bool t.up))=w3;intro HB3 Hr3;have Hrr3:=Zh (Qc.below Hr.o HB3.o.bel);refine(Qaw w.heap.size _ _ _ (.slice ar p.ru.length cr) t ⟨kd,cl,fr,p⟩ (λb=>w.heap.size+3<=b) _ w3 (by omega) (λb hb=>by have:=sz3 HB3.o rfl;omega) ⟨HB3.o.at_ 0 _ rfl,Hr3.o⟩ Hrr3.o (HL.o.below HB3.o.bel)).mono ?_;obtain⟨⟨s,he⟩,hh⟩:∃E,QH t ⟨kd,cl,fr,p⟩=E:=⟨_,rfl⟩;rw[hh]at HD1⊢;rintro e w4⟨c4,u4,v4,rfl,hw4,hg4⟩;dsimp only at hw4 HD1;obtain⟨z0,k0,rfl,_⟩:=Sl.form hw4.rd.cells;obtain⟨z1,k1,rfl,_⟩:=Sl.form hw4.rd.disk.1;obtain⟨z2,k2,rfl,_⟩:=Sl.form hw4.rd.disk.2;have hsz:=sz3 HB3.o rfl
  have HB4:Hid (Bx w [.cells #[.slice z0 s.cells.length k0,.slice z1 s.d.sa.length k1,.slice z2 s.d.wt.length k2,.bool s.up] 27,.cells #[.int .i64 kd,.int .i64 cl,.int .i64 fr,.slice ar p.ru.length cr,.int .i64 p.df] 40,.cells #[.slice none 0 0,.slice none 0 0,.slice none 0 0,.bool false] 27] w4):=by
   refine⟨QV HB3.o.bel hg4 HB3.o.bel.size Znl,λi o hi=>?_⟩
   match i,hi with
   |0,hi=>injection hi with hi;subst hi;exact hw4.box
   |1,hi=>injection hi with hi;subst hi;exact(QC hg4 (by omega) (by omega)).trans (HB3.o.at_ 1 _ rfl)
   |2,hi=>injection hi with hi;subst hi;exact(QC hg4 (by omega) (by omega)).trans (HB3.o.at_ 2 _ rfl)
  have Hr4:Hid (Qi w4 (λb=>w.heap.size+3<=b) _ _ _ s):=hw4.rd;clear hw4 hg4 hsz HB3 Hr3 hh;dsimp only;by_cases hhe:he=0
  .subst hhe;have HE:Hid (doE t ⟨kd,cl,fr,p⟩=(s,0)):=by show _=_;rw[HD1.o,if_neg (by simp)]
   have HS:=Zh (Yr (.slice z0 s.cells.length k0) (.slice z1 s.d.sa.length k1) (.slice z2 s.d.wt.length k2) (.bool s.up) (HB4.o.at_ 2 _ rfl));have HPG:=Uf (W:=w4) (b:=w.heap.size+1+1) (.slice z0 s.cells.length k0) (.slice z1 s.d.sa.length k1) (.slice z2 s.d.wt.length k2) (.bool s.up);have hq0:=HB4.o.cells0;have hq2:=HB4.o.cells2;have hf2:=HB4.o.free2;have hqs:=Qb HS.o;have HBL:=Zh (QV HB4.o.bel HPG HB4.o.bel.size (by omega));have HRF:=Zh (Qi.keep (D':=λb=>w.heap.size<=b) Hr4.o (λk hk _=>by have h1:w.heap.size+3<=k:=hk;show _<=_;omega) (λk hk hl=>QC HPG hl (by have h1:w.heap.size+3<=k:=hk;omega)) HPG.size);clear HPG HS;go_wp2;refine bodyPost_ret (v:=.tuple #[Ux (.slice z0 s.cells.length k0) (.slice z1 s.d.sa.length k1) (.slice z2 s.d.wt.length k2) s.up,.int .i64 0]) ?_ rfl (by rw[HE.o];exact⟨_,_,_,rfl,HRF.o,HBL.o⟩);simp[results,results17,go_sem,hqs]
  have HE:Hid (doE t ⟨kd,cl,fr,p⟩=(zeroWorld,he)):=by show _=_;rw[HD1.o,if_pos hhe]
  have hnz:(he != 0)=true:=bne_iff_ne.2 hhe;clear hhe;have HS:=Zh (Yr (.slice none 0 0) (.slice none 0 0) (.slice none 0 0) (.bool false) (HB4.o.at_ 2 _ rfl));have hq2:=HB4.o.cells2;have hf2:=HB4.o.free2;have hqs:=Qb HS.o;have HBL:=Zh (QV HB4.o.bel (Uf (b:=w.heap.size+1+1) (.slice none 0 0) (.slice none 0 0) (.slice none 0 0) (.bool false)) HB4.o.bel.size (by omega));clear HS;go_wp2;refine bodyPost_ret (v:=.tuple #[Ux (.slice none 0 0) (.slice none 0 0) (.slice none 0 0) false,.int .i64 (he)]) ?_ rfl (by rw[HE.o];exact⟨_,_,_,rfl,⟨Ua _ _,U7 _ _⟩,HBL.o⟩);simp[results,results17,go_sem,hqs]
 have HE:Hid (doE t ⟨kd,cl,fr,p⟩=(zeroWorld,QX t)):=by show doE _ _=_;unfold doE;rw[if_pos hW]
 obtain⟨L,hLw⟩:∃L,QX t=L:=⟨_,rfl⟩;rw[hLw]at HE hW⊢;have hnz:(L != 0)=true:=bne_iff_ne.2 hW;clear hW hLw;have HS:=Zh (Yr (.slice none 0 0) (.slice none 0 0) (.slice none 0 0) (.bool false) (HB1.o.at_ 2 _ rfl));have hq2:=HB1.o.cells2;have hf2:=HB1.o.free2;have hqs:=Qb HS.o;have HBL:=Zh (QV HB1.o.bel (Uf (b:=w.heap.size+1+1) (.slice none 0 0) (.slice none 0 0) (.slice none 0 0) (.bool false)) HB1.o.bel.size (by omega));clear HS;go_wp2;refine bodyPost_ret (v:=.tuple #[Ux (.slice none 0 0) (.slice none 0 0) (.slice none 0 0) false,.int .i64 (L)]) ?_ rfl (by rw[HE.o];exact⟨_,_,_,rfl,⟨Ua _ _,U7 _ _⟩,HBL.o⟩);simp[results,results17,go_sem,hqs]
end
section
open Go.RowKit
attribute [local go_sem] gives QG
theorem QeD(c u v:Value)(t:TWorld)(cell:Int)(x:TCall)(D:Nat->Prop)(w:World)(h:Qi w D c u v t)(hL:Laid w):
  Calls prog 18 #[Ux c u v t.up,.int .i64 cell,Yk x] w λe w'=>e=.returned (.tuple #[.int .i64 (YK t cell x).1,.int .i64 (YK t cell x).2])/\Below w.heap.size w w':=by
 have HL:=Zh hL;have Ht:=Zh (Qi.true h);obtain⟨a0,c0,rfl,hl0,hm0,hat⟩:=Sl.form h.cells;obtain⟨a1,c1,rfl,_⟩:=Sl.form h.disk.1;obtain⟨a2,c2,rfl,_⟩:=Sl.form h.disk.2;clear h hL;have HB:=Zh (Bx.two (w:=w) (o:=.cells #[.slice a0 t.cells.length c0,.slice a1 t.d.sa.length c1,.slice a2 t.d.wt.length c2,.bool t.up] 27) (o':=.cells #[.int .i64 x.a0,.int .i64 x.a1,.int .i64 x.a2,.int .i64 x.a3,.int .i64 x.a4] 46));go_enter func18,ntmps18;go_wp2_with fail
 refine(JG _ _ _ t _ _ (Qi.below Ht.o HB.o.bel) (HL.o.below HB.o.bel)).mono ?_;rintro e w1⟨rfl,hb1⟩;have HB1:=Zh (HB.o.below hb1);clear hb1 HB;by_cases hW:QX t=0
 .have HE:Hid (YK t cell x=if cell<0\/(t.cells.length:Int)<=cell then(0,5)else if(cellAt t.cells cell).open_ then NV (cellAt t.cells cell).chain x else(0,6)):=by show YK _ _ _=_;unfold YK;rw[if_neg (by simp[hW])]
  rw[hW];clear hW;have hq0:=HB1.o.cells0;by_cases hr:cell<0\/(t.cells.length:Int)<=cell
  .have HE2:Hid (YK t cell x=(0,5)):=by show _=_;rw[HE.o,if_pos hr]
   by_cases hr1:cell<0
   .clear hr;go_wp2;go_ret2;exact⟨by rw[HE2.o];rfl,HB1.o.bel⟩
   have hr2:(t.cells.length:Int)<=cell:=by omega
   clear hr;go_wp2;go_ret2;exact⟨by rw[HE2.o];rfl,HB1.o.bel⟩
  obtain⟨k,rfl⟩:∃k:Nat,cell=(k:Int):=⟨cell.toNat,by omega⟩;have hlt:k<t.cells.length:=by omega
  have hk0:¬(k:Int)<0:=by omega
  have hk1:¬(t.cells.length:Int)<=(k:Int):=by omega
  have hca:cellAt t.cells (k:Int)=t.cells[k]:=by unfold cellAt;simp[hlt]
  rw[hca]at HE;have HE1:Hid (YK t (k:Int) x=if t.cells[k].open_ then NV t.cells[k].chain x else(0,6)):=by show _=_;rw[HE.o,if_neg hr]
  clear hr hca HE;obtain⟨b,o,rfl,_,_⟩:=hat (by omega);clear hat;obtain⟨ca,a6,cc,c6,y0,y1,y2,y3,hp,hp2⟩:=Qo.cells (Ht.o.cells.below HB1.o.bel) hlt;have Hch:=Zh hp;have Hlt:Hid (k<t.cells.length/\True):=⟨hlt,trivial⟩;have hblt:∀j,w1.cell? ⟨b,o+k*4+1,none⟩=some (.slice ca t.cells[k].chain.length cc):=λ_=>y1;obtain⟨op,hop⟩:∃q,t.cells[k].open_=q:=⟨_,rfl⟩;have y0':w1.cell? ⟨b,o+k*4,none⟩=some (.bool op):=y0.trans (congrArg (λq=>some (Value.bool q)) hop);rw[hop]at HE1;clear y0;have y0:=y0';clear y0'
  cases op with
  |false=>
   have HE2:Hid (YK t (k:Int) x=(0,6)):=by show _=_;rw[HE1.o];rfl
   clear hp hp2 y1 y2 y3 hblt hop;go_wp2;go_ret2;exact⟨by rw[HE2.o];rfl,HB1.o.bel⟩
  |true=>
   have HE2:Hid (YK t (k:Int) x=NV t.cells[k].chain x):=by show _=_;rw[HE1.o];rfl
   obtain⟨⟨ve,ee⟩,ha⟩:∃E,NV t.cells[k].chain x=E:=⟨_,rfl⟩;have HA:=Zh ha
   have Hcc:Hid (∀W,Below w1.heap.size w1 W->W.cell? ⟨b,o+k*4+1,none⟩=some (.slice ca t.cells[k].chain.length cc)):=λW hW=>by
    obtain⟨o1,h1,h2⟩:∃o1,w1.heap[b]?=some o1/\W.heap[b]?=some o1:=by
     cases hb:w1.heap[b]? with
     |none=>simp[World.cell?,hb]at y1
     |some o1=>exact⟨o1,rfl,Qd hb hW⟩
    rw[<-y1];simp[World.cell?,h1,h2]
   clear hp hp2 y1 y2 y3 hblt hop ha;go_wp2_with fail
   clear hq0 y0;refine Xx [ex (.pointer (some ⟨w.heap.size,0,none⟩)),ex (.slice (some ⟨b,o,none⟩) t.cells.length c0),ex (.int .i64 (k:Int)),ex (.pointer (some ⟨b,o+k*4,none⟩)),ex (.pointer (some ⟨b,o+k*4+1,none⟩)),ex (.slice ca t.cells[k].chain.length cc),ex (Yk x),ex (.tuple #[.int .i64 ve,.int .i64 ee]),ex (.int .i64 ve),ex (.int .i64 ee),ex (.int .i64 ve),ex (.int .i64 ee)] w1.heap.size Znl (by kernel_rfl) (by kernel_rfl) ⟨.inl ⟨_,rfl⟩,.inl ⟨_,rfl⟩,.inl ⟨_,rfl⟩,.inl ⟨_,rfl⟩,.inl ⟨_,rfl⟩,.inl ⟨_,rfl⟩,.inl ⟨_,rfl⟩,.inl ⟨_,rfl⟩,.inl ⟨_,rfl⟩,.inl ⟨_,rfl⟩,.inl ⟨_,rfl⟩,.inl ⟨_,rfl⟩,trivial⟩ ?_
   iterate 12 (refine Qs λK hK=>⟨λW hC hd R hR=>?_,?_⟩;(first|(clear hd;go_simp;exact hR _ _ Zbr rfl)|(clear hd;go_simp;go_at_call 58;refine(Qh6 _ t.cells[k].chain x _ W (Qz.below Hch.o hC.2)).mono ?_;rw[HA.o];rintro e w9 ⟨rfl,hb9⟩;exact⟨_,rfl,hR _ _ hb9 rfl⟩)|(have hlt:=Hlt.o.1;clear hd;go_simp;exact hR _ _ Zbr rfl)|(have hcc:=Hcc.o W hC.2;clear hd;go_simp;exact hR _ _ Zbr rfl)|(have hq0:=(HB1.o.below hC.2).cells0;clear hd;go_simp;exact hR _ _ Zbr rfl)|(have hq1:=(HB1.o.below hC.2).cells1;clear hd;go_simp;exact hR _ _ Zbr rfl));(go_simp;refine hK _ ?_;clear hK K))
   intro w2 hC2 hfacts;have HBf:=Zh (HB1.o.below hC2.2).bel;clear hC2 hfacts;go_wp2;go_ret2;exact⟨by rw[HE2.o,HA.o];rfl,HBf.o⟩
 have HE:Hid (YK t cell x=(0,QX t)):=by show YK _ _ _=_;unfold YK;rw[if_pos hW]
 obtain⟨L,hLw⟩:∃L,QX t=L:=⟨_,rfl⟩;rw[hLw]at HE hW⊢;have hnz:(L != 0)=true:=bne_iff_ne.2 hW;clear hW hLw;go_wp2;go_ret2;exact⟨by rw[HE.o];rfl,HB1.o.bel⟩
end
section
open Go.RowKit
theorem Qg3(c u v c' u' v':Value)(x y:TWorld)(w:World)(h:Qi w (λ_=>True) c u v x)(h':Qi w (λ_=>True) c' u' v' y):
  Calls prog 20 #[Ux c u v x.up,Ux c' u' v' y.up] w λe w'=>e=.returned (.bool (decide (x=y)))/\Below w.heap.size w w':=by
 have H:=Zh h;have H':=Zh h';obtain⟨a0,c0,rfl,_⟩:=Sl.form h.cells;obtain⟨a1,c1,rfl,_⟩:=Sl.form h.disk.1;obtain⟨a2,c2,rfl,_⟩:=Sl.form h.disk.2;obtain⟨b0,d0,rfl,_⟩:=Sl.form h'.cells;obtain⟨b1,d1,rfl,_⟩:=Sl.form h'.disk.1;obtain⟨b2,d2,rfl,_⟩:=Sl.form h'.disk.2;clear h h';obtain⟨xc,xd,xu⟩:=x;obtain⟨yc,yd,yu⟩:=y;dsimp only at H H'⊢;obtain⟨q,hq⟩:∃q,decide ((⟨xc,xd,xu⟩:TWorld)=⟨yc,yd,yu⟩)=q:=⟨_,rfl⟩
 have HD:Hid (q=(decide (xu=yu)&&(decide (xc=yc)&&decide (xd=yd)))):=by
  show _=_;rw[<-hq,Bool.eq_iff_iff];simp;constructor
  .rintro ⟨h1,h2,h3⟩;exact⟨h3,h1,h2⟩
  rintro ⟨h1,h2,h3⟩;exact⟨h2,h3,h1⟩
 rw[hq];clear hq;have HB:=Zh (Bx.two (w:=w) (o:=.cells #[.slice a0 xc.length c0,.slice a1 xd.sa.length c1,.slice a2 xd.wt.length c2,.bool xu] 27) (o':=.cells #[.slice b0 yc.length d0,.slice b1 yd.sa.length d1,.slice b2 yd.wt.length d2,.bool yu] 27));by_cases hu:xu=yu
 .subst hu;have HD1:Hid (q=(decide (xc=yc)&&decide (xd=yd))):=by show _=_;rw[HD.o];simp
  clear HD;go_enter func20,ntmps20;go_wp2_with fail
  refine(Jd _ _ xc yc _ (H.o.cells.below HB.o.bel) (H'.o.cells.below HB.o.bel)).mono ?_;rintro e w1⟨rfl,hb1⟩;have HB1:=Zh (HB.o.below hb1);clear hb1 HB;by_cases hc:xc=yc
  .have d1:decide (xc=yc)=true:=decide_eq_true hc;have HD':Hid (q=decide (xd=yd)):=by show _=_;rw[HD1.o,d1];simp
   rw[d1];clear hc HD1 d1;have hq0:=HB1.o.cells0;have hq1:=HB1.o.cells1;go_wp2_with fail
   refine(QfY _ _ _ _ xd yd _ (QB.below H.o.disk HB1.o.bel) (QB.below H'.o.disk HB1.o.bel)).mono ?_;rintro e w2⟨rfl,hb2⟩;have HBf:=Zh (HB1.o.below hb2).bel;clear hq0 hq1 hb2;go_wp2;go_ret;exact⟨by rw[HD'.o];rfl,HBf.o⟩
  have d1:decide (xc=yc)=false:=decide_eq_false hc;have HD':Hid (q=false):=by show _=_;rw[HD1.o,d1];simp
  have HBf:=Zh HB1.o.bel;rw[d1];clear hc HD1 d1;go_wp2;go_ret;exact⟨by rw[HD'.o];rfl,HBf.o⟩
 have hu':(xu==yu)=false:=by simpa using hu
 have HD':Hid (q=false):=by show _=_;rw[HD.o];simp[hu]
 have HBf:=Zh HB.o.bel;clear hu HD;go_enter func20,ntmps20;go_wp2;go_ret;exact⟨by rw[HD'.o];rfl,HBf.o⟩
end
section
open Go.RowKit
theorem Qf9:(prog.info? 30).map (λi=>(i.zero,i.size,i.bytes))=some (some (.int .i64 0),1,8):=by kernel_rfl
theorem Qh1(y:Int)(cs:List Value)(h:JI y cs):∀c∈cs,c.oneCell'=true:=by
 unfold JI at h;subst h;simp[Value.oneCell']
end
section
open Go.RowKit
attribute [local go_sem] gives QG
theorem Qeh(w:World)(D:Nat->Prop):UR w D (.slice none 0 0) []:=⟨none,0,rfl,Nat.le_refl _,by decide,λ_=>rfl,λh=>by cases h⟩
structure IJ(w W:World)(sv c u v:Value)(ts:TWorld)(said:List Int):Prop where
 bx:Bx w [.cells #[c,u,v,.bool ts.up] 27,.cells #[.slice none 0 0,.slice none 0 0,.slice none 0 0,.bool false] 27] W
 rd:Qi W (λb=>w.heap.size+2<=b/\sv.ownBlock≠some b) c u v ts
 own:Qg W (w.heap.size+2) 30 1 JI sv said
section
variable{w W W':World}{sv sv' c u v c' u' v':Value}{ts s:TWorld}{said said':List Int}{β:Nat}
theorem IJ.below(h:IJ w W sv c u v ts said)(hb:Below W.heap.size W W'):IJ w W' sv c u v ts said:=⟨h.bx.below hb,Qi.below h.rd hb,Qg.below h.own hb⟩
theorem IJ.lt(h:IJ w W sv c u v ts said):∀g,sv.ownBlock=some g->g<W.heap.size:=λg hg=>by
 obtain⟨o,h1,_⟩:=Qg.typed h.own g hg;exact(Array.getElem?_eq_some_iff.1 h1).1
theorem IJ.grown(h:IJ w W sv c u v ts said){W1:World}(hb:Below W.heap.size W W1)(hβ:W.heap.size<=β)(hg:W1.grownBy W' (some β)):IJ w W' sv c u v ts said:=
 h.below (QV hb hg hb.size hβ)
theorem IJ.app(h:IJ w W sv c u v ts said)(ho:Qg W' (w.heap.size+2) 30 1 JI sv' said')(hg:W.grownBy W' sv.ownBlock)(hat:sv'.ownBlock=sv.ownBlock\/sv'.ownBlock=some W.heap.size):IJ w W' sv' c u v ts said':=by
 have hblk:∀k,k<w.heap.size+2->k<W.heap.size->W'.heap[k]?=W.heap[k]?:=λk hk hl=>hg.block k hl (λe=>by have:=Qg.block h.own k e.symm;omega);refine⟨⟨Qg.grown h.own h.bx.bel hg h.bx.bel.size (by omega),λi o hi=>?_⟩,?_,ho⟩
 .have hlt:=(List.getElem?_eq_some_iff.1 hi).1;have:=h.bx.top;simp at hlt this;exact(hblk _ (by omega) (by omega)).trans (h.bx.at_ i o hi)
 refine Qi.keep h.rd (λk hk hl=>⟨hk.1,λe=>?_⟩) (λk hk hl=>hg.block k hl (λe=>hk.2 e.symm)) hg.size;rcases hat with h9|h9
 .exact hk.2 (h9.symm.trans e)
 rw[h9]at e;injection e with e;omega
theorem IJ.start{c u v:Value}{t:TWorld}(h:Bx w [.cells #[c,u,v,.bool t.up] 27,.cells #[.slice none 0 0,.slice none 0 0,.slice none 0 0,.bool false] 27] W)(hr:Qi W (λb=>w.heap.size+2<=b) c u v t):IJ w W (.slice none 0 0) c u v t []:=⟨h,Qi.keep hr (λk hk _=>⟨hk,λe=>by cases e⟩) (λ_ _ _=>rfl) Znl,Qg.nil⟩
theorem IJ.put(h:IJ w W sv c u v ts said)(hr:Qi W (λb=>w.heap.size+2<=b/\sv.ownBlock≠some b) c' u' v' s):IJ w ((((W.setCell ⟨w.heap.size,0,none⟩ c').setCell ⟨w.heap.size,1,none⟩ u').setCell ⟨w.heap.size,2,none⟩ v').setCell ⟨w.heap.size,3,none⟩ (.bool s.up)) sv c' u' v' s said:=by
 have hg:=Uf (W:=W) (b:=w.heap.size) c' u' v' (.bool s.up);refine⟨h.bx.put4 c' u' v' (.bool s.up) rfl,Qi.keep hr (λ_ hk _=>hk) (λk hk hl=>QC hg hl (by omega)) hg.size,Qg.keepFrom h.own λb hb hl=>QC hg hl (by omega)⟩
end
theorem NT(l:List THap)(k:Nat)(h:k<l.length)(t:TWorld):Vp t (l.drop k)=((Vp (QH t l[k]).1 (l.drop (k+1))).1,(QH t l[k]).2::(Vp (QH t l[k]).1 (l.drop (k+1))).2):=by
 rw[List.drop_eq_getElem_cons h];rfl
theorem QeF(c u v lv:Value)(t:TWorld)(l:List THap)(D D':Nat->Prop)(w:World)(h:Qi w D c u v t)(hl:XF w D' lv l)(hL:Laid w):
  Calls prog 11 #[Ux c u v t.up,lv] w λe w'=>∃c' u' v' sv,e=.returned (.tuple #[Ux c' u' v' (Za t l).1.up,sv,.int .i64 (Za t l).2.2])/\Qi w' (λb=>w.heap.size<=b) c' u' v' (Za t l).1/\UR w' (λb=>w.heap.size<=b) sv (Za t l).2.1/\Below w.heap.size w w':=by
 have HL:=Zh hL;have Ht:=Zh (Qi.lt h);have H:=Zh hl;obtain⟨i0,hi,hz0,hz1,hz2⟩:=info_parts Qf9;have Hi:=Zh hi;obtain⟨a0,c0,rfl,_⟩:=Sl.form h.cells;obtain⟨a1,c1,rfl,_⟩:=Sl.form h.disk.1;obtain⟨a2,c2,rfl,_⟩:=Sl.form h.disk.2;obtain⟨a,c,rfl,hlc,hcm,hat⟩:=Sl.form hl;clear h hl hL hi;have HB:=Zh (Bx.two (w:=w) (o:=.cells #[.slice a0 t.cells.length c0,.slice a1 t.d.sa.length c1,.slice a2 t.d.wt.length c2,.bool t.up] 27) (o':=.cells #[.slice none 0 0,.slice none 0 0,.slice none 0 0,.bool false] 27));go_enter func11,ntmps11;go_wp2_with fail
 refine(JG _ _ _ t _ _ (Qi.below Ht.o HB.o.bel) (HL.o.below HB.o.bel)).mono ?_;rintro e w1⟨rfl,hb1⟩;have HB1:=Zh (HB.o.below hb1);clear hb1 HB;by_cases hW:QX t=0
 .have HW:=Zh hW;have Hsm:=Zh (YH hW);have HD1:Hid (Za t l=if 60<l.length then(zeroWorld,[],2)else((Vp t l).1,(Vp t l).2,0)):=by show Za _ _=_;unfold Za;rw[if_neg (by simp[hW])]
  rw[hW];clear hW;by_cases h60:60<l.length
  .have HE:Hid (Za t l=(zeroWorld,[],2)):=by show _=_;rw[HD1.o,if_pos h60]
   have hz:60<(l.length:Int):=by omega
   clear h60;have HS:=Zh (Yr (.slice none 0 0) (.slice none 0 0) (.slice none 0 0) (.bool false) (HB1.o.at_ 1 _ rfl));have hq2:=HB1.o.cells1;have hf2:=HB1.o.free1;have hqs:=Qb HS.o;have HBL:=Zh (QV HB1.o.bel (Uf (b:=w.heap.size+1) (.slice none 0 0) (.slice none 0 0) (.slice none 0 0) (.bool false)) HB1.o.bel.size (by omega));clear HS;go_wp2;refine bodyPost_ret (v:=.tuple #[Ux (.slice none 0 0) (.slice none 0 0) (.slice none 0 0) false,.slice none 0 0,.int .i64 (2)]) ?_ rfl (by rw[HE.o];exact⟨_,_,_,_,rfl,⟨Ua _ _,U7 _ _⟩,Qeh _ _,HBL.o⟩);simp[results,results11,go_sem,hqs]
  have HD:Hid (Za t l=((Vp t l).1,(Vp t l).2,0)):=by show _=_;rw[HD1.o,if_neg h60]
  have hz:¬60<(l.length:Int):=by omega
  clear h60;have hq0:=HB1.o.cells0;go_wp2_with fail
  clear hq0;refine(NP _ _ _ t _ _ (Qi.below Ht.o HB1.o.bel) Hsm.o.1 Hsm.o.2).mono ?_;rintro e w2⟨c',u',v',rfl,hr2,hb2⟩;obtain⟨x0,y0,rfl,_⟩:=Sl.form hr2.cells;obtain⟨x1,y1,rfl,_⟩:=Sl.form hr2.disk.1;obtain⟨x2,y2,rfl,_⟩:=Sl.form hr2.disk.2;have HB2:=Zh (HB1.o.below hb2);have hq0:=HB2.o.cells0;have hf0:=HB2.o.free0;have hsz:=HB1.o.top;simp at hsz;have HB3:=Zh (HB2.o.put4 (.slice x0 t.cells.length y0) (.slice x1 t.d.sa.length y1) (.slice x2 t.d.wt.length y2) (.bool t.up) rfl);have HPG:=Uf (W:=w2) (b:=w.heap.size) (.slice x0 t.cells.length y0) (.slice x1 t.d.sa.length y1) (.slice x2 t.d.wt.length y2) (.bool t.up);have HR3:=Zh (IJ.start HB3.o (Qi.keep (D':=λb=>w.heap.size+2<=b) hr2 (λk hk _=>by have h1:w1.heap.size<=k:=hk;show _<=_;omega) (λk hk hl=>QC HPG hl (by have h1:w1.heap.size<=k:=hk;omega)) HPG.size));clear hr2 hb2 hsz HPG HB1 HB2 HB3;go_wp2_with fail
  clear hq0 hf0
  go_loopw[8,27](λsv kv wr=>∃(k:Nat)(ts:TWorld)(sv':Value)(said:List Int)(c u v:Value),kv=.int .i64 k/\sv=sv'/\k<=l.length/\Vp t l=((Vp ts (l.drop k)).1,said++(Vp ts (l.drop k)).2)/\said.length=k/\QX ts=0/\IJ w wr sv' c u v ts said) (λ_ kv _=>l.length-(intOf kv).toNat)
  case atStart=>exact⟨0,t,_,[],_,_,_,rfl,rfl,by omega,rfl,rfl,HW.o,HR3.o⟩
  case round=>
   obtain⟨k,ts,sv,said,cv,uv,vv,rfl,rfl,hk,hgo,hsl,hwe,hR⟩:=hrel;have Hgo:=Zh hgo;have Hsl:=Zh hsl;have Hwe:=Zh hwe;have HR:=Zh hR;obtain⟨sa,sc,rfl⟩:=Qg.slice hR.own;obtain⟨b0,d0,rfl,_⟩:=Sl.form hR.rd.cells;obtain⟨b1,d1,rfl,_⟩:=Sl.form hR.rd.disk.1;obtain⟨b2,d2,rfl,_⟩:=Sl.form hR.rd.disk.2;clear hgo hwe hR hsl;by_cases hlt:k<l.length
   .obtain⟨b,o,rfl,_,_⟩:=hat (by omega);obtain⟨a3,c3,x0,x1,x2,x3,x4,hp⟩:=XF.cells (H.o.below HR.o.bx.bel) hlt;have Hp:=Zh (Qc.keep (D':=λb=>b<wr.heap.size) hp (λ_ _ hl=>hl) (λ_ _ _=>rfl) Znl);have Hd:=Zh (NT l k hlt ts);have HA0:=Zh (Qa (Below.refl wr.heap.size wr) (.cells #[.int .i64 l[k].kind,.int .i64 l[k].cell,.int .i64 l[k].fm,.slice a3 l[k].p.ru.length c3,.int .i64 l[k].p.df] 40));have Hx1:=Zh (Qh wr (.cells #[.int .i64 l[k].kind,.int .i64 l[k].cell,.int .i64 l[k].fm,.slice a3 l[k].p.ru.length c3,.int .i64 l[k].p.df] 40));have HR1:=Zh (HR.o.below HA0.o);have hq0:=HR.o.bx.cells0;have hq0':=HR1.o.bx.cells0;have Hsm2:=Zh (YH Hwe.o);clear hp;go_wp2_with fail
    clear x0 x1 x2 x3 x4 hq0 hq0';refine(NP _ _ _ ts _ _ HR1.o.rd Hsm2.o.1 Hsm2.o.2).mono ?_;rintro e w2⟨c',u',v',rfl,hr2,hb2⟩;obtain⟨x0,y0,rfl,_⟩:=Sl.form hr2.cells;obtain⟨x1,y1,rfl,_⟩:=Sl.form hr2.disk.1;obtain⟨x2,y2,rfl,_⟩:=Sl.form hr2.disk.2;have hsz1:wr.heap.size<w2.heap.size:=by have:=hb2.size;simp at this;omega
    have HA2:=Zh (Qa (Below.refl w2.heap.size w2) (.cells #[.slice x0 ts.cells.length y0,.slice x1 ts.d.sa.length y1,.slice x2 ts.d.wt.length y2,.bool ts.up] 27));have Hx3:=Zh (Qd (Qd Hx1.o hb2) HA2.o);have HB3:Hid (Below wr.heap.size wr _):=Ql HA0.o (hb2.trans (HA2.o.mono hb2.size));have Hbx3:=Zh (Qh w2 (.cells #[.slice x0 ts.cells.length y0,.slice x1 ts.d.sa.length y1,.slice x2 ts.d.wt.length y2,.bool ts.up] 27))
    have Hr3:=Zh (Qi.below (Qi.keep (D':=λb=>(w.heap.size+2<=b/\(Value.slice sa said.length sc).ownBlock≠some b)/\b≠w2.heap.size) hr2 (λk hk hl=>by
     have h1:_<=k:=hk;simp at h1;have h2:=HR.o.bx.top;simp at h2;exact⟨⟨by omega,λe=>by have:=HR.o.lt k e;omega⟩,by omega⟩) (λ_ _ _=>rfl) Znl) HA2.o)
    have hqx:=Qb Hx3.o;have Hsz1:=Zh hsz1;clear hr2 hb2 hsz1 HA0 HA2 Hx1 HR1;go_wp2_with fail
    clear hqx;revert Hx3 HB3 Hbx3 Hr3;obtain⟨w3,hw3⟩:∃w3,w2.alloc (.cells #[.slice x0 ts.cells.length y0,.slice x1 ts.d.sa.length y1,.slice x2 ts.d.wt.length y2,.bool ts.up] 27)=w3:=⟨_,rfl⟩;have Hw3s:Hid (w3.heap.size=w2.heap.size+1):=by rw[<-hw3];show _=_;simp
    rw[hw3];clear hw3;intro Hx3 HB3 Hbx3 Hr3
    refine(Qaw w2.heap.size _ _ _ (.slice a3 l[k].p.ru.length c3) ts l[k] (λb=>(w.heap.size+2<=b/\(Value.slice sa said.length sc).ownBlock≠some b)/\b≠w2.heap.size) _ w3 (λh=>h.2 rfl) (λb hb=>by
     have h1:=HR.o.bx.top;simp at h1;have h2:=Hw3s.o;have h3:=Hsz1.o;exact⟨⟨by omega,λe=>by have:=HR.o.lt b e;omega⟩,by omega⟩) ⟨Hbx3.o,Hr3.o⟩ (Qc.below Hp.o HB3.o) (HL.o.below (Ql HR.o.bx.bel HB3.o))).mono ?_
    obtain⟨⟨s,he⟩,hh⟩:∃E,QH ts l[k]=E:=⟨_,rfl⟩;have HH:=Zh hh;rw[hh];rintro e w4⟨c4,u4,v4,rfl,hw4,hg4⟩;dsimp only at hw4;obtain⟨z0,k0,rfl,_⟩:=Sl.form hw4.rd.cells;obtain⟨z1,k1,rfl,_⟩:=Sl.form hw4.rd.disk.1;obtain⟨z2,k2,rfl,_⟩:=Sl.form hw4.rd.disk.2;have HR4:=Zh (IJ.grown HR.o HB3.o (by have:=Hsz1.o;omega) hg4);have Hw4:=Zh hw4;have Hgo2:Hid (Vp t l=((Vp s (l.drop (k+1))).1,(said++[he])++(Vp s (l.drop (k+1))).2)):=by show _=_;rw[Hgo.o,Hd.o,hh];simp
    have HW2:Hid (QX s=0):=by have:=Qcj Hwe.o l[k];rw[hh]at this;exact this
    have hs60:said.length<=60:=by have:=Hsl.o;omega
    clear hw4 hg4 hh Hr3 HB3 Hx3 Hbx3 Hgo Hd;dsimp only;by_cases hhe:he=0
    .subst hhe;have HR5:=Zh (IJ.put HR4.o (Qi.keep Hw4.o.rd (λk hk _=>hk.1) (λ_ _ _=>rfl) Znl));have hq0:=HR4.o.bx.cells0;have hf0:=HR4.o.bx.free0;have hqw:=Qb Hw4.o.box;have HA:=Zh (Qa (Below.refl (((((w4.setCell ⟨w.heap.size,0,none⟩ (.slice z0 s.cells.length k0)).setCell ⟨w.heap.size,1,none⟩ (.slice z1 s.d.sa.length k1)).setCell ⟨w.heap.size,2,none⟩ (.slice z2 s.d.wt.length k2)).setCell ⟨w.heap.size,3,none⟩ (.bool s.up))).heap.size (((((w4.setCell ⟨w.heap.size,0,none⟩ (.slice z0 s.cells.length k0)).setCell ⟨w.heap.size,1,none⟩ (.slice z1 s.d.sa.length k1)).setCell ⟨w.heap.size,2,none⟩ (.slice z2 s.d.wt.length k2)).setCell ⟨w.heap.size,3,none⟩ (.bool s.up)))) (.cells #[.int .i64 0] 30));have HR6:=Zh (IJ.below HR5.o HA.o)
     have HR1:Hid (Sl ((((((w4.setCell ⟨w.heap.size,0,none⟩ (.slice z0 s.cells.length k0)).setCell ⟨w.heap.size,1,none⟩ (.slice z1 s.d.sa.length k1)).setCell ⟨w.heap.size,2,none⟩ (.slice z2 s.d.wt.length k2)).setCell ⟨w.heap.size,3,none⟩ (.bool s.up))).alloc (.cells #[.int .i64 0] 30)) (λ_=>True) 1 JI (.slice (some ⟨w4.heap.size,0,none⟩) 1 1) [0]):=
      Ub (sz:=1) (xs:=[0]) (rows:=[[.int .i64 0]]) (Qq.cons Qq.nil rfl rfl) (UM (by simp)) rfl trivial (by simp[maxLen])
     go_wp2_with(at_builtin;(
      refine QK rfl _ _ 29 rfl (w.heap.size+2) 30 i0 _ 1 8 underlying29 Hi.o hz0 hz1 hz2 rfl (by decide) _ _ rfl HR6.o.own _ _ rfl HR1.o (λy _ cs h=>Qh1 y cs h) (by show _+1<=maxLen;unfold maxLen;omega) (by show(_+1)*8<=_;omega) HR6.o.bx.top ?_;intro v8 w8 hown8 hg8 hat8;have HR8:=Zh (IJ.app HR6.o hown8 hg8 hat8);clear hown8 hg8 hat8))
     go_roundw
     case rel=>exact⟨k+1,_,_,said++[0],_,_,_,by go_num,rfl,by omega,Hgo2.o,by simp[Hsl.o],HW2.o,HR8.o⟩
     case measure=>simp[intOf];omega
    have hnz:(he==0)=false:=beq_eq_false_iff_ne.2 hhe;obtain rfl:s=ts:=by have:=J6 (w:=ts) (x:=l[k]) (by rw[HH.o];exact hhe);rw[HH.o]at this;exact this
    clear hhe;have HA:=Zh (Qa (Below.refl (w4).heap.size (w4)) (.cells #[.int .i64 he] 30));have HR6:=Zh (IJ.below HR4.o HA.o)
    have HR1:Hid (Sl ((w4).alloc (.cells #[.int .i64 he] 30)) (λ_=>True) 1 JI (.slice (some ⟨w4.heap.size,0,none⟩) 1 1) [he]):=
     Ub (sz:=1) (xs:=[he]) (rows:=[[.int .i64 he]]) (Qq.cons Qq.nil rfl rfl) (UM (by simp)) rfl trivial (by simp[maxLen])
    go_wp2_with(at_builtin;(
     refine QK rfl _ _ 29 rfl (w.heap.size+2) 30 i0 _ 1 8 underlying29 Hi.o hz0 hz1 hz2 rfl (by decide) _ _ rfl HR6.o.own _ _ rfl HR1.o (λy _ cs h=>Qh1 y cs h) (by show _+1<=maxLen;unfold maxLen;omega) (by show(_+1)*8<=_;omega) HR6.o.bx.top ?_;intro v8 w8 hown8 hg8 hat8;have HR8:=Zh (IJ.app HR6.o hown8 hg8 hat8);clear hown8 hg8 hat8))
    go_roundw
    case rel=>exact⟨k+1,_,_,said++[he],_,_,_,by go_num,rfl,by omega,Hgo2.o,by simp[Hsl.o],HW2.o,HR8.o⟩
    case measure=>simp[intOf];omega
   obtain rfl:k=l.length:=by omega
   have HE:Hid (Za t l=(ts,said,0)):=by show _=_;rw[HD.o,Hgo.o,List.drop_length];simp[Vp]
   have HS:=Zh (Yr (.slice b0 ts.cells.length d0) (.slice b1 ts.d.sa.length d1) (.slice b2 ts.d.wt.length d2) (.bool ts.up) (HR.o.bx.at_ 1 _ rfl));have HPG:=Uf (W:=wr) (b:=w.heap.size+1) (.slice b0 ts.cells.length d0) (.slice b1 ts.d.sa.length d1) (.slice b2 ts.d.wt.length d2) (.bool ts.up);have hq0:=HR.o.bx.cells0;have hq2:=HR.o.bx.cells1;have hf2:=HR.o.bx.free1;have hqs:=Qb HS.o;have HBL:=Zh (QV HR.o.bx.bel HPG HR.o.bx.bel.size (by omega));have HRF:=Zh (Qi.keep (D':=λb=>w.heap.size<=b) HR.o.rd (λk hk _=>by have h1:=hk.1;show _<=_;omega) (λk hk hl=>QC HPG hl (by have h1:=hk.1;omega)) HPG.size);have HSD:Hid (UR _ (λb=>w.heap.size<=b) _ said):=Qg.sl (Qg.keepFrom HR.o.own λb hb hl=>QC HPG hl (by omega)) (λb hb=>by show _<=_;omega);clear HPG HS;go_wp2
   (try simp only[Exit.inBlock,Exit.then])
   refine bodyPost_ret (v:=.tuple #[Ux (.slice b0 ts.cells.length d0) (.slice b1 ts.d.sa.length d1) (.slice b2 ts.d.wt.length d2) ts.up,.slice sa said.length sc,.int .i64 0]) ?_ rfl (by rw[HE.o];exact⟨_,_,_,_,rfl,HRF.o,HSD.o,HBL.o⟩);simp[results,results11,go_sem,hqs]
 have HE:Hid (Za t l=(zeroWorld,[],QX t)):=by show Za _ _=_;unfold Za;rw[if_pos hW]
 obtain⟨L,hLw⟩:∃L,QX t=L:=⟨_,rfl⟩;rw[hLw]at HE hW⊢;have hnz:(L != 0)=true:=bne_iff_ne.2 hW;clear hW hLw;have HS:=Zh (Yr (.slice none 0 0) (.slice none 0 0) (.slice none 0 0) (.bool false) (HB1.o.at_ 1 _ rfl));have hq2:=HB1.o.cells1;have hf2:=HB1.o.free1;have hqs:=Qb HS.o;have HBL:=Zh (QV HB1.o.bel (Uf (b:=w.heap.size+1) (.slice none 0 0) (.slice none 0 0) (.slice none 0 0) (.bool false)) HB1.o.bel.size (by omega));clear HS;go_wp2;refine bodyPost_ret (v:=.tuple #[Ux (.slice none 0 0) (.slice none 0 0) (.slice none 0 0) false,.slice none 0 0,.int .i64 (L)]) ?_ rfl (by rw[HE.o];exact⟨_,_,_,_,rfl,⟨Ua _ _,U7 _ _⟩,Qeh _ _,HBL.o⟩);simp[results,results11,go_sem,hqs]
end
end Go.Proofs.YthkgjohhbdipcaaGreatDoor
