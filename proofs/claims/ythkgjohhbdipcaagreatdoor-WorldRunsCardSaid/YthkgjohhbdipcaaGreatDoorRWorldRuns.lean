/- WorldRuns returns true at every world and row of happenings. Condition: LaidF. -/
import Derived.Test.YthkgjohhbdipcaaGreatDoorQ34
import Derived.Test.YthkgjohhbdipcaaGreatDoorQ35
import Derived.Test.YthkgjohhbdipcaaGreatDoorQ36
set_option linter.all false
set_option maxHeartbeats 64000000
set_option maxRecDepth 100000
namespace Go.Proofs.YthkgjohhbdipcaaGreatDoor
open Go.RowKit Go.Proofs.Tryz
theorem Qiq{t N:TWorld}{x:THap}(h:Xv t x=(N,0)):(QH t x).1=N/\(QH t x).2=0:=by
 unfold Xv at h;split at h
 .rename_i h0;simp only[Prod.mk.injEq]at h;exact absurd h.2 h0
 rename_i h0;simp only[Prod.mk.injEq]at h;exact⟨h.1,by simpa using h0⟩
theorem QhB{t N:TWorld}{x:THap}{e:Int}(h:Xv t x=(N,e))(he:e≠0):(QH t x).1=t/\(QH t x).2=e:=by
 unfold Xv at h;split at h
 .rename_i h0;simp only[Prod.mk.injEq]at h;exact⟨J6 h0,h.2⟩
 simp only[Prod.mk.injEq]at h;exact absurd h.2.symm he
theorem Qf4(w:World)(g:Option Nat):w.grownBy w g:=⟨rfl,rfl,rfl,Nat.le_refl _,λ_ _ _=>rfl⟩
theorem ED{w0 W W':World}{g:Option Nat}(h:w0.grownBy W g)(hb:Below W.heap.size W W'):w0.grownBy W' g:=
 ⟨hb.os.trans h.os,hb.tape.trans h.tape,hb.output.trans h.output,Nat.le_trans h.size hb.size,λk hk hn=>(hb.block k (Nat.lt_of_lt_of_le hk h.size)).trans (h.block k hk hn)⟩
theorem Qd5{w0 W W':World}{g o:Option Nat}(h:w0.grownBy W g)(hg:W.grownBy W' o)(ho:∀b,o=some b->w0.heap.size<=b):w0.grownBy W' g:=
 ⟨hg.os.trans h.os,hg.tape.trans h.tape,hg.output.trans h.output,Nat.le_trans h.size hg.size,λk hk hn=>(hg.block k (Nat.lt_of_lt_of_le hk h.size) (λe=>by have:=ho k e.symm;omega)).trans (h.block k hk hn)⟩
theorem Qg.lt'{α:Type}{W:World}{B sz:Nat}{T:TypeId}{R:α->List Value->Prop}{v:Value}{l:List α}(h:Qg W B T sz R v l):∀g,v.ownBlock=some g->g<W.heap.size:=λg hg=>by
 obtain⟨o,h1,_⟩:=Qg.typed h g hg;exact(Array.getElem?_eq_some_iff.1 h1).1
theorem Qad{w:World}(hL:Ov w)(v0:Value)(t:TWorld)(rd0:∃c u1 u2,v0=Ux c u1 u2 t.up/\Qi w (λ_=>True) c u1 u2 t)(v1:Value)(l:List THap)(rd1:XF w (λ_=>True) v1 l):
  Calls prog 3 #[v0,v1] w λe w'=>e=.returned (.bool true)/\Below w.heap.size w w':=by
 have HL:=Zh hL;obtain⟨i0,hi,hz0,hz1,hz2⟩:=info_parts Qf9;have Hi:=Zh hi;obtain⟨q0,q1,q2,rfl,ht⟩:=rd0;have Ht:=Zh (Qi.lt ht);have Hl:Hid (XF w (λb=>b<w.heap.size) v1 l):=rd1.keep (λ_ _ hl=>hl) (λ_ _ _=>rfl) Znl;obtain⟨a0,c0,rfl,_⟩:=Sl.form ht.cells;obtain⟨a1,c1,rfl,_⟩:=Sl.form ht.disk.1;obtain⟨a2,c2,rfl,_⟩:=Sl.form ht.disk.2;obtain⟨al,cl,rfl,_,_,hat⟩:=Sl.form rd1;have Hat:=Zh hat;clear hL ht rd1 hat hi;obtain⟨⟨Y,sd,re⟩,hY⟩:∃E,Za t l=E:=⟨_,rfl⟩;have HY:=Zh hY;obtain⟨E,hE⟩:∃E,QX t=E:=⟨_,rfl⟩;have HE:=Zh hE;clear hY hE;have HB:=Zh (Bx.one (w:=w) (o:=.cells #[.slice a0 t.cells.length c0,.slice a1 t.d.sa.length c1,.slice a2 t.d.wt.length c2,.bool t.up] 27));go_enter func3,ntmps3;go_wp2_with fail
 refine(QeF _ _ _ _ t l _ _ _ (Qi.below Ht.o HB.o.bel) (XF.below Hl.o HB.o.bel) (HL.o.below HB.o.bel).base).mono ?_;rw[HY.o];rintro e w1⟨u1,u2,u3,u4,rfl,hr1,hs1,hb1⟩;dsimp only at hr1 hs1;obtain⟨e0,f0,rfl,_⟩:=Sl.form hr1.cells;obtain⟨e1,f1,rfl,_⟩:=Sl.form hr1.disk.1;obtain⟨e2,f2,rfl,_⟩:=Sl.form hr1.disk.2;obtain⟨es,fs,rfl,_⟩:=Sl.form hs1;have hA:=Qa (Below.refl w1.heap.size w1) (.cells #[.slice e0 Y.cells.length f0,.slice e1 Y.d.sa.length f1,.slice e2 Y.d.wt.length f2,.bool Y.up] 27);have HB1:=Zh (HB.o.below (Ql hb1 hA));have HXY:=Zh (Qh w1 (.cells #[.slice e0 Y.cells.length f0,.slice e1 Y.d.sa.length f1,.slice e2 Y.d.wt.length f2,.bool Y.up] 27));have HRY:Hid (Qi (w1.alloc (.cells #[.slice e0 Y.cells.length f0,.slice e1 Y.d.sa.length f1,.slice e2 Y.d.wt.length f2,.bool Y.up] 27)) (λb=>w.heap.size+1<=b) (.slice e0 Y.cells.length f0) (.slice e1 Y.d.sa.length f1) (.slice e2 Y.d.wt.length f2) Y):=Qi.below (hr1.keep (λb hb _=>by have h1:_<=b:=hb;simp at h1;exact h1) (λ_ _ _=>rfl) Znl) hA;have HRS:Hid (UR (w1.alloc (.cells #[.slice e0 Y.cells.length f0,.slice e1 Y.d.sa.length f1,.slice e2 Y.d.wt.length f2,.bool Y.up] 27)) (λb=>w.heap.size+1<=b) (.slice es sd.length fs) sd):=UR.below (hs1.keep (λb hb _=>by have h1:_<=b:=hb;simp at h1;exact h1) (λ_ _ _=>rfl) Znl) hA;have Hw1:Hid (w.heap.size+1<=w1.heap.size):=by have:=(Ql HB.o.bel hb1).size;have h2:=hb1.size;simp at h2;show _<=_;omega
 have hq0:=HB1.o.cells0;clear hr1 hs1 hb1 hA HB;dsimp only;go_wp2_with fail
 clear hq0;refine(Nz _ _ _ t _ _ (Qi.below Ht.o HB1.o.bel) (HL.o.below HB1.o.bel).base).mono ?_;rw[HE.o];rintro e w2⟨rfl,hb2⟩;have HB2:=Zh (HB1.o.below hb2);have HXY2:=Zh (Qd HXY.o hb2);have HRY2:=Zh (Qi.below HRY.o hb2);have HRS2:=Zh (UR.below HRS.o hb2);clear hb2 HB1 HXY HRY HRS;by_cases h0:E=0
 .subst h0;by_cases hl:60<l.length
  .have HG:Hid ((Y,sd,re)=(zeroWorld,[],2)):=by show _=_;rw[<-HY.o];unfold Za;rw[if_neg (by rw[HE.o];simp),if_pos hl]
   obtain⟨rfl,rfl,rfl⟩:Y=zeroWorld/\sd=[]/\re=2:=by have:=HG.o;simpa using this
   have hl':(60:Int)<(l.length:Int):=by omega
   clear hl HG;go_wp2_with fail
   refine(Zk _ (HL.o.below HB2.o.bel).base).mono ?_;rintro e w3⟨rfl,hb3⟩;have HB3:=Zh (HB2.o.below hb3);have HXY3:=Zh (Qd HXY2.o hb3);have HRY3:=Zh (Qi.below HRY2.o hb3);clear hb3;go_wp2_with fail
   refine(Zk _ (HL.o.below HB3.o.bel).base).mono ?_;rintro e w4⟨rfl,hb4⟩;have HB4:=Zh (HB3.o.below hb4);have HXY4:=Zh (Qd HXY3.o hb4);have HRY4:=Zh (Qi.true (Qi.below HRY3.o hb4));have hqy:=Qb HXY4.o;clear hb4;go_wp2_with fail
   clear hqy;refine(X3 _ _ _ _ _ _ zeroWorld zeroWorld _ HRY4.o (Zb _ _)).mono ?_;rw[decide_eq_true (rfl:zeroWorld=zeroWorld)];rintro e w5⟨rfl,hb5⟩;have HBf:=Zh (HB4.o.below hb5).bel;clear hb5;go_wp2;go_ret;exact⟨rfl,HBf.o⟩
  have HG:Hid (Za t l=((Vp t l).1,(Vp t l).2,0)):=by show _=_;unfold Za;rw[if_neg (by rw[HE.o];simp),if_neg hl]
  have hl':¬(60:Int)<(l.length:Int):=by omega
  have Hl60:Hid (l.length<=60):=by show _<=_;omega
  clear hl;go_wp2_with fail
  refine(Zk _ (HL.o.below HB2.o.bel).base).mono ?_;rintro e w3⟨rfl,hb3⟩;have HB3:=Zh (HB2.o.below hb3);have HXY3:=Zh (Qd HXY2.o hb3);have HRY3:=Zh (Qi.below HRY2.o hb3);have HRS3:=Zh (UR.below HRS2.o hb3);have Hw3:Hid (w.heap.size<w3.heap.size):=HB3.o.size (i:=0) (by simp);have HlL:=Zh (HL.o.below HB3.o.bel);have Hl3:=Zh (XF.below Hl.o HB3.o.bel);clear hb3 HB2 HXY2 HRY2 HRS2;go_wp2_with fail
  go_loopw[9,54](λsv iv wr=>∃(k:Nat)(ts:TWorld)(said:List Int)(c u v:Value),iv=.int .i64 k/\k<=l.length/\QX ts=0/\said.length=k/\Vp t l=((Vp ts (l.drop k)).1,said++(Vp ts (l.drop k)).2)/\w3.grownBy wr (some w.heap.size)/\wr.heap[w.heap.size]?=some (.cells #[c,u,v,.bool ts.up] 27)/\Qi wr (λb=>b≠w.heap.size/\sv.ownBlock≠some b) c u v ts/\Qg wr w3.heap.size 30 1 JI sv said) (λ_ iv _=>l.length-(intOf iv).toNat)
  case atStart=>exact⟨0,t,[],_,_,_,rfl,Nat.zero_le _,HE.o,rfl,rfl,Qf4 _ _,HB3.o.at_ 0 _ rfl,Qi.keep (Qi.below Ht.o HB3.o.bel) (λb hb _=>⟨by have h1:b<w.heap.size:=hb;omega,λe=>by cases e⟩) (λ_ _ _=>rfl) Znl,Qg.nil⟩
  case round=>
   obtain⟨k,ts,said,c,u,v,rfl,hk,hts,hsl,hgo,hg,hbx,hrd,hown⟩:=hrel;have Hgo:=Zh hgo;have Hg:=Zh hg;have Hbx:=Zh hbx;have Hrd:=Zh hrd;have Ho:=Zh hown;have Hts:=Zh hts;have Hsl:=Zh hsl;obtain⟨b0,d0,rfl,_⟩:=Sl.form hrd.cells;obtain⟨b1,d1,rfl,_⟩:=Sl.form hrd.disk.1;obtain⟨b2,d2,rfl,_⟩:=Sl.form hrd.disk.2;obtain⟨ow,oc,rfl⟩:=Qg.slice hown;have hk60:k<=60:=by have:=Hl60.o;omega
   clear hgo hg hbx hrd hown hts hsl;by_cases hlt:k<l.length
   .obtain⟨b,ob,rfl,hDb,_⟩:=Hat.o (by omega);have Hlr:Hid (XF wr (λb=>b<w.heap.size) (.slice (some ⟨b,ob,none⟩) l.length cl) l):=XF.keep Hl3.o (λ_ h _=>h) (λb hb hl=>QC Hg.o hl (by have h1:b<w.heap.size:=hb;omega)) Hg.o.size;obtain⟨a3,c3,x0,x1,x2,x3,x4,hp⟩:=XF.cells Hlr.o hlt;have Hp:=Zh hp;have Hd:=Zh (NT l k hlt ts);obtain⟨x,hx⟩:∃x,l[k]=x:=⟨_,rfl⟩;rw[hx]at x0 x1 x2 x3 x4 Hp Hd;clear hp hx;have HA:=Zh (Qa (Below.refl wr.heap.size wr) (.cells #[.int .i64 x.kind,.int .i64 x.cell,.int .i64 x.fm,.slice a3 x.p.ru.length c3,.int .i64 x.p.df] 40));have HXh:=Zh (Qh wr (.cells #[.int .i64 x.kind,.int .i64 x.cell,.int .i64 x.fm,.slice a3 x.p.ru.length c3,.int .i64 x.p.df] 40));have HbA:=Zh (Qd Hbx.o HA.o);have HrA:=Zh (Qi.below Hrd.o HA.o);have HpA:=Zh (Qc.below Hp.o HA.o);have HoA:=Zh (Qg.below Ho.o HA.o);have hqb:=Qb HbA.o;have Hwr:Hid (w3.heap.size<=wr.heap.size/\w.heap.size<wr.heap.size):=⟨Hg.o.size,Nat.lt_of_lt_of_le Hw3.o Hg.o.size⟩;go_wp2_with fail
    clear hqb x0 x1 x2 x3 x4;refine(Oa _ _ _ _ ts x _ _ _ HrA.o HpA.o ((Ov.below HL.o (QV HB3.o.bel Hg.o HB3.o.bel.size Znl)).below HA.o) Hts.o).mono ?_;obtain⟨⟨N,ne⟩,hN⟩:∃E,Xv ts x=E:=⟨_,rfl⟩;have HN:=Zh hN;rw[hN];rintro e w5⟨g0,g1,g2,rfl,hr5,hb5⟩;dsimp only at hr5;obtain⟨n0,m0,rfl,_⟩:=Sl.form hr5.cells;obtain⟨n1,m1,rfl,_⟩:=Sl.form hr5.disk.1;obtain⟨n2,m2,rfl,_⟩:=Sl.form hr5.disk.2;have hBn:=Qa (Below.refl w5.heap.size w5) (.cells #[.slice n0 N.cells.length m0,.slice n1 N.d.sa.length m1,.slice n2 N.d.wt.length m2,.bool N.up] 27);have hB5:=Ql (Ql HA.o hb5) hBn;have HXN:=Zh (Qh w5 (.cells #[.slice n0 N.cells.length m0,.slice n1 N.d.sa.length m1,.slice n2 N.d.wt.length m2,.bool N.up] 27));have Hlow:=Zh (Qg.lt' Ho.o)
    have HrN:Hid (Qi (w5.alloc (.cells #[.slice n0 N.cells.length m0,.slice n1 N.d.sa.length m1,.slice n2 N.d.wt.length m2,.bool N.up] 27)) (λb=>b≠w.heap.size/\(Value.slice ow said.length oc).ownBlock≠some b) (.slice n0 N.cells.length m0) (.slice n1 N.d.sa.length m1) (.slice n2 N.d.wt.length m2) N):=Qi.below (Qi.keep hr5 (λb hb _=>by
     rcases hb with hb|hb|hb
     .exact hb
     .have h1:b<w.heap.size:=hb;exact⟨by omega,λe=>by have:=(Qg.block Ho.o) b e;have:=Hw3.o;omega⟩
     have h1:(wr.alloc (.cells #[.int .i64 x.kind,.int .i64 x.cell,.int .i64 x.fm,.slice a3 x.p.ru.length c3,.int .i64 x.p.df] 40)).heap.size<=b:=hb;simp at h1;have:=Hwr.o;exact⟨by omega,λe=>by have:=Hlow.o b e;omega⟩) (λ_ _ _=>rfl) Znl) hBn
    have HbN:=Zh (Qd Hbx.o hB5);have HrO:=Zh (Qi.below Hrd.o hB5);have HoN:=Zh (Qg.below Ho.o hB5);have HgN:=Zh (ED Hg.o hB5);have Hsz5:Hid (wr.heap.size+1<=w5.heap.size):=by have:=hb5.size;simp at this;exact this
    clear hN hr5 hb5 hBn hB5 HA HXh HbA HrA HpA HoA;dsimp only;by_cases hne:ne=0
    .subst hne;obtain⟨hh1,hh2⟩:=Qiq HN.o;have HN0:Hid (QX N=0):=by show _=_;rw[<-hh1];exact(Qci Hts.o hh2).1
     have HF:Hid (Vp t l=((Vp N (l.drop (k+1))).1,(said++[0])++(Vp N (l.drop (k+1))).2)):=by
      show _=_;rw[Hgo.o,Hd.o,hh1,hh2];simp
     clear hh1 hh2;have hqn:=Qb HXN.o;have hfb:=Qp HbN.o;have hqb:=Qb HbN.o;obtain⟨w6,hw6⟩:∃w6,(((((w5.alloc (.cells #[.slice n0 N.cells.length m0,.slice n1 N.d.sa.length m1,.slice n2 N.d.wt.length m2,.bool N.up] 27)).setCell ⟨w.heap.size,0,none⟩ (.slice n0 N.cells.length m0)).setCell ⟨w.heap.size,1,none⟩ (.slice n1 N.d.sa.length m1)).setCell ⟨w.heap.size,2,none⟩ (.slice n2 N.d.wt.length m2)).setCell ⟨w.heap.size,3,none⟩ (.bool N.up))=w6:=⟨_,rfl⟩;have hg6:(w5.alloc (.cells #[.slice n0 N.cells.length m0,.slice n1 N.d.sa.length m1,.slice n2 N.d.wt.length m2,.bool N.up] 27)).grownBy w6 (some w.heap.size):=by rw[<-hw6];exact Uf _ _ _ _
     have Hb6:Hid (w6.heap[w.heap.size]?=some (.cells #[.slice n0 N.cells.length m0,.slice n1 N.d.sa.length m1,.slice n2 N.d.wt.length m2,.bool N.up] 27)):=by show _=_;rw[<-hw6];exact Yr _ _ _ _ HbN.o
     have Hr6:=Zh (Qi.keep (w':=w6) HrN.o (λ_ h _=>h) (λb hb hl=>QC hg6 hl hb.1) hg6.size);have Ho6:=Zh (Qg.keepFrom HoN.o (w':=w6) λb hb hl=>QC hg6 hl (by have:=Hw3.o;omega));have Hg6:=Zh (UW HgN.o hg6);have Hs6:Hid (w3.heap.size<=w6.heap.size):=Hg6.o.size;clear hg6 HbN HrO HoN HgN HrN;have HA7:=Zh (Qa (Below.refl w6.heap.size w6) (.cells #[.int .i64 0] 30));have Hb7:=Zh (Qd Hb6.o HA7.o);have Hr7:=Zh (Qi.below Hr6.o HA7.o);have Ho7:=Zh (Qg.below Ho6.o HA7.o);have Hg7:=Zh (ED Hg6.o HA7.o);have HR1:Hid (Sl (w6.alloc (.cells #[.int .i64 0] 30)) (λ_=>True) 1 JI (.slice (some ⟨w6.heap.size,0,none⟩) 1 1) [0]):=Ub (sz:=1) (xs:=[0]) (rows:=[[.int .i64 0]]) (Qq.cons Qq.nil rfl rfl) (UM (by simp)) rfl trivial (by simp[maxLen]);have Hs7:Hid (w3.heap.size<=(w6.alloc (.cells #[.int .i64 0] 30)).heap.size):=Hg7.o.size;have hsd60:said.length<=60:=by have:=Hsl.o;omega
     go_wp2_with(at_builtin;(
      refine QK rfl _ _ 29 rfl w3.heap.size 30 i0 _ 1 8 underlying29 Hi.o hz0 hz1 hz2 rfl (by decide) _ _ rfl Ho7.o _ _ rfl HR1.o (λy _ cs h=>by rw[show cs=[.int .i64 y]from h];simp[Value.oneCell']) (by show _+1<=maxLen;unfold maxLen;omega) (by show(_+1)*8<=_;omega) Hs7.o ?_;intro v8 w8 hown8 hg8 hat8;have Hb8:Hid (w8.heap[w.heap.size]?=_):=(hg8.block _ (Array.getElem?_eq_some_iff.1 Hb7.o).1 (λe=>by have:=Qg.block Ho7.o _ e.symm;have:=Hw3.o;omega)).trans Hb7.o
      have Hr8:Hid (Qi w8 (λb=>b≠w.heap.size/\v8.ownBlock≠some b) _ _ _ N):=Qi.keep Hr7.o (λb hb hl=>⟨hb.1,λe=>by
       rcases hat8 with h9|h9
       .exact hb.2 (h9.symm.trans e)
       rw[h9]at e;injection e with e;omega⟩) (λb hb hl=>hg8.block b hl (λe=>hb.2 e.symm)) hg8.size
      have Hg8:=Zh (Qd5 Hg7.o hg8 (λg hg=>Qg.block Ho7.o g hg));have Ho8:=Zh hown8;have hv8:=hat8;clear hown8 hg8 hat8 hv8))
     go_roundw
     case rel=>first|exact⟨k+1,N,said++[0],_,_,_,by go_num,by omega,HN0.o,by simp[Hsl.o],HF.o,Hg8.o,Hb8.o,Hr8.o,Ho8.o⟩|((repeat apply Exists.intro);exact⟨⟨k+1,N,said++[0],_,_,_,by go_num,by omega,HN0.o,by simp[Hsl.o],HF.o,Hg8.o,Hb8.o,Hr8.o,Ho8.o⟩,rfl⟩)
     case measure=>simp[intOf];omega
    have hne1:(ne==0)=false:=beq_eq_false_iff_ne.2 hne
    have HF:Hid (Vp t l=((Vp ts (l.drop (k+1))).1,(said++[ne])++(Vp ts (l.drop (k+1))).2)):=by
     obtain⟨hh1,hh2⟩:=QhB HN.o hne;show _=_;rw[Hgo.o,Hd.o,hh1,hh2];simp
    clear hne HrN;have HA7:=Zh (Qa (Below.refl (w5.alloc (.cells #[.slice n0 N.cells.length m0,.slice n1 N.d.sa.length m1,.slice n2 N.d.wt.length m2,.bool N.up] 27)).heap.size (w5.alloc (.cells #[.slice n0 N.cells.length m0,.slice n1 N.d.sa.length m1,.slice n2 N.d.wt.length m2,.bool N.up] 27))) (.cells #[.int .i64 ne] 30));have Hb7:=Zh (Qd HbN.o HA7.o);have Hr7:=Zh (Qi.below HrO.o HA7.o);have Ho7:=Zh (Qg.below HoN.o HA7.o);have Hg7:=Zh (ED HgN.o HA7.o);have HR1:Hid (Sl ((w5.alloc (.cells #[.slice n0 N.cells.length m0,.slice n1 N.d.sa.length m1,.slice n2 N.d.wt.length m2,.bool N.up] 27)).alloc (.cells #[.int .i64 ne] 30)) (λ_=>True) 1 JI (.slice (some ⟨w5.heap.size+1,0,none⟩) 1 1) [ne]):=Ub (sz:=1) (xs:=[ne]) (rows:=[[.int .i64 ne]]) (Qq.cons Qq.nil rfl rfl) (UM (by simp)) rfl trivial (by simp[maxLen]);have Hs7:Hid (w3.heap.size<=((w5.alloc (.cells #[.slice n0 N.cells.length m0,.slice n1 N.d.sa.length m1,.slice n2 N.d.wt.length m2,.bool N.up] 27)).alloc (.cells #[.int .i64 ne] 30)).heap.size):=Hg7.o.size;have hsd60:said.length<=60:=by have:=Hsl.o;omega
    go_wp2_with(at_builtin;(
     refine QK rfl _ _ 29 rfl w3.heap.size 30 i0 _ 1 8 underlying29 Hi.o hz0 hz1 hz2 rfl (by decide) _ _ rfl Ho7.o _ _ rfl HR1.o (λy _ cs h=>by rw[show cs=[.int .i64 y]from h];simp[Value.oneCell']) (by show _+1<=maxLen;unfold maxLen;omega) (by show(_+1)*8<=_;omega) Hs7.o ?_;intro v8 w8 hown8 hg8 hat8;have Hb8:Hid (w8.heap[w.heap.size]?=_):=(hg8.block _ (Array.getElem?_eq_some_iff.1 Hb7.o).1 (λe=>by have:=Qg.block Ho7.o _ e.symm;have:=Hw3.o;omega)).trans Hb7.o
     have Hr8:Hid (Qi w8 (λb=>b≠w.heap.size/\v8.ownBlock≠some b) _ _ _ ts):=Qi.keep Hr7.o (λb hb hl=>⟨hb.1,λe=>by
      rcases hat8 with h9|h9
      .exact hb.2 (h9.symm.trans e)
      rw[h9]at e;injection e with e;omega⟩) (λb hb hl=>hg8.block b hl (λe=>hb.2 e.symm)) hg8.size
     have Hg8:=Zh (Qd5 Hg7.o hg8 (λg hg=>Qg.block Ho7.o g hg));have Ho8:=Zh hown8;have hv8:=hat8;clear hown8 hg8 hat8 hv8))
    go_roundw
    case rel=>first|exact⟨k+1,ts,said++[ne],_,_,_,by go_num,by omega,Hts.o,by simp[Hsl.o],HF.o,Hg8.o,Hb8.o,Hr8.o,Ho8.o⟩|((repeat apply Exists.intro);exact⟨⟨k+1,ts,said++[ne],_,_,_,by go_num,by omega,Hts.o,by simp[Hsl.o],HF.o,Hg8.o,Hb8.o,Hr8.o,Ho8.o⟩,rfl⟩)
    case measure=>simp[intOf];omega
   obtain rfl:k=l.length:=by omega
   have HF:Hid (Vp t l=(ts,said)):=by show _=_;rw[Hgo.o,List.drop_length];simp[Vp]
   have HQ:Hid ((Y,sd,re)=(ts,said,0)):=by show _=_;rw[<-HY.o,HG.o,HF.o]
   obtain⟨rfl,rfl,rfl⟩:Y=ts/\sd=said/\re=0:=by have:=HQ.o;simpa using this
   have HBr:Hid (Below w.heap.size w wr):=QV HB3.o.bel Hg.o HB3.o.bel.size Znl;have HSr:Hid (UR wr (λ_=>True) (.slice es sd.length fs) sd):=UR.keep HRS3.o (λ_ _ _=>trivial) (λb hb hl=>QC Hg.o hl (by have h1:w.heap.size+1<=b:=hb;omega)) Hg.o.size;have HYr:Hid (Qi wr (λ_=>True) (.slice e0 Y.cells.length f0) (.slice e1 Y.d.sa.length f1) (.slice e2 Y.d.wt.length f2) Y):=Qi.keep HRY3.o (λ_ _ _=>trivial) (λb hb hl=>QC Hg.o hl (by have h1:w.heap.size+1<=b:=hb;omega)) Hg.o.size;have HXr:Hid (wr.heap[w1.heap.size]?=some (.cells #[.slice e0 Y.cells.length f0,.slice e1 Y.d.sa.length f1,.slice e2 Y.d.wt.length f2,.bool Y.up] 27)):=(QC Hg.o (Array.getElem?_eq_some_iff.1 HXY3.o).1 (by have:=Hw1.o;omega)).trans HXY3.o;have HOr:Hid (UR wr (λ_=>True) (.slice ow sd.length oc) sd):=Qg.sl Ho.o (λ_ _=>trivial);clear HQ HF;go_wp2_with fail
   refine(Qaq _ _ sd sd _ _ HSr.o HOr.o).mono ?_;rw[decide_eq_true (rfl:sd=sd)];rintro e w7⟨rfl,hb7⟩;have HYr7:=Zh (Qi.below HYr.o hb7);have HTr7:=Zh (Qi.true (Qi.below Hrd.o hb7));have hqy:=Qb (Qd HXr.o hb7);have hqb:=Qb (Qd Hbx.o hb7);have HB7:=Zh (HBr.o.trans (hb7.mono HBr.o.size));clear hb7;go_wp2_with fail
   clear hqy hqb;refine(X3 _ _ _ _ _ _ Y Y _ HYr7.o HTr7.o).mono ?_;rw[decide_eq_true (rfl:Y=Y)];rintro e w9⟨rfl,hb9⟩;have HBf:=Zh (HB7.o.trans (hb9.mono HB7.o.size));clear hb9;go_wp2;go_ret;exact⟨rfl,HBf.o⟩
 have HG:Hid ((Y,sd,re)=(zeroWorld,[],E)):=by show _=_;rw[<-HY.o];unfold Za;rw[if_pos (by rw[HE.o];exact h0),HE.o]
 obtain⟨rfl,rfl,rfl⟩:Y=zeroWorld/\sd=[]/\re=E:=by have:=HG.o;simpa using this
 have hne:(re != 0)=true:=bne_iff_ne.2 h0;have hnz:(re==0)=false:=beq_eq_false_iff_ne.2 h0;have hrr:(re==re)=true:=beq_self_eq_true _;clear h0 HG;go_wp2_with fail
 refine(Zk _ (HL.o.below HB2.o.bel).base).mono ?_;rintro e w3⟨rfl,hb3⟩;have HB3:=Zh (HB2.o.below hb3);have HXY3:=Zh (Qd HXY2.o hb3);have HRY3:=Zh (Qi.below HRY2.o hb3);clear hb3;go_wp2_with fail
 refine(Zk _ (HL.o.below HB3.o.bel).base).mono ?_;rintro e w4⟨rfl,hb4⟩;have HB4:=Zh (HB3.o.below hb4);have HXY4:=Zh (Qd HXY3.o hb4);have HRY4:=Zh (Qi.true (Qi.below HRY3.o hb4));have hqy:=Qb HXY4.o;clear hb4;go_wp2_with fail
 clear hqy;refine(X3 _ _ _ _ _ _ zeroWorld zeroWorld _ HRY4.o (Zb _ _)).mono ?_;rw[decide_eq_true (rfl:zeroWorld=zeroWorld)];rintro e w5⟨rfl,hb5⟩;have HBf:=Zh (HB4.o.below hb5).bel;clear hb5;go_wp2;go_ret;exact⟨rfl,HBf.o⟩
end Go.Proofs.YthkgjohhbdipcaaGreatDoor
