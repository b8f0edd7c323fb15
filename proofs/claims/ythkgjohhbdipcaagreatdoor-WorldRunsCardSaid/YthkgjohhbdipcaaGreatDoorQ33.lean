/- Texts laid one behind the other: RWCheck, DBox, WNote. No condition beyond theirs. -/
import Derived.Test.YthkgjohhbdipcaaGreatDoorQ20
import Derived.Test.YthkgjohhbdipcaaGreatDoorQ31
import Derived.Test.YthkgjohhbdipcaaGreatDoorQ32
import Derived.Test.YthkgjohhbdipcaaGreatDoorQ17
import Derived.Test.YthkgjohhbdipcaaGreatDoorQ14
import Derived.Test.YthkgjohhbdipcaaGreatDoorQ30
set_option linter.all false
set_option maxHeartbeats 64000000
set_option maxRecDepth 100000
namespace Go.Proofs.YthkgjohhbdipcaaGreatDoor
open Tryz
section
open Go.RowKit
theorem Nz(c u v:Value)(t:TWorld)(D:Nat->Prop)(w:World)(h:Qi w D c u v t)(hL:Laid w):
  Calls prog 12 #[Ux c u v t.up] w λe w'=>e=.returned (.int .i64 (QX t))/\Below w.heap.size w w':=by
 have HL:=Zh hL;have Ht:=Zh (Qi.true h);obtain⟨a0,c0,rfl,hf0⟩:=Sl.form h.cells;obtain⟨a1,c1,rfl,hf1⟩:=Sl.form h.disk.1;obtain⟨a2,c2,rfl,hf2⟩:=Sl.form h.disk.2;clear h hL hf0 hf1 hf2;go_enter func12,ntmps12;go_wp2_with fail
 have HB:=Zh (Bx.one (w:=w) (o:=.cells #[.slice a0 t.cells.length c0,.slice a1 t.d.sa.length c1,.slice a2 t.d.wt.length c2,.bool t.up] 27));refine(EZ _ _ t.d _ _ (QB.below Ht.o.disk HB.o.bel) (HL.o.below HB.o.bel)).mono ?_;rintro e w1⟨rfl,hb1⟩;have HB1:=Zh (HB.o.below hb1);clear hb1 HB;have hq0:=HB1.o.cells0;by_cases h0:UA t.d=0
 .have H0:=Zh h0;rw[h0];obtain⟨⟨rd,rl,re⟩,hr⟩:∃E,QD t.d=E:=⟨_,rfl⟩;have HR:=Zh hr
  obtain rfl:re=0:=by
   have:(QD t.d).2.2=0:=by unfold QD;rw[if_neg (by rw[h0];simp)]
   rw[hr]at this;exact this
  clear h0
  cases hu:t.up with
  |true=>
   rw[hu]at hq0 HB1;by_cases hw:t.d.wt=[]
   .have hw0:((t.d.wt.length:Nat):Int)=0:=by rw[hw];rfl
    have hwl:¬(0:Int)<(t.d.wt.length:Int):=by omega
    have HE:Hid (QX t=if(QA rl).2≠0 then(QA rl).2 else if(QA rl).1=t.cells then 0 else 4):=by
     have e:Yo t=rl:=by unfold Yo;rw[hu,HR.o];rfl
     show _=_;unfold QX;rw[e,HR.o,if_neg (by simp),if_neg (by simp[hw])]
    clear hw hu hr;go_wp2_with fail
    clear hw0 hwl;refine(JR _ _ t.d _ _ (QB.below Ht.o.disk HB1.o.bel) (HL.o.below HB1.o.bel) H0.o).mono ?_;rw[HR.o];rintro e w2⟨u2,v2,vl,rfl,_,hl2,hb2⟩;dsimp only at hl2;obtain⟨al,cl,rfl,_⟩:=Sl.form hl2;have HB2:=Zh (HB1.o.below hb2);have Hl2:=Zh hl2;clear hb2 hl2 hq0;have hq0:=HB2.o.cells0;dsimp only;go_wp2_with fail
    refine(Nr _ rl _ _ Hl2.o).mono ?_;obtain⟨⟨N,ne⟩,hN⟩:∃E,QA rl=E:=⟨_,rfl⟩;rw[hN]at HE⊢;rintro e w3⟨a3,c3,rfl,hr3,hb3⟩;dsimp only at hr3 HE;have HB3:=Zh (HB2.o.below hb3);have Hr3:=Zh (Jp hr3);have hq3:=HB3.o.cells0;clear hr3 hb3 hN hq0;dsimp only;by_cases hne:ne=0
    .subst hne;go_wp2_with fail
     clear hq3;refine(ZI _ _ N t.cells _ Hr3.o (Ht.o.cells.below HB3.o.bel)).mono ?_;rintro e w4⟨rfl,hb4⟩;have HBf:=Zh (HB3.o.below hb4).bel;clear hb4;by_cases hs:N=t.cells
     .have HE':Hid (QX t=0):=by show _=_;rw[HE.o,if_neg (by simp),if_pos hs]
      rw[decide_eq_true hs];clear hs HE;go_wp2;go_ret;exact⟨by rw[HE'.o];rfl,HBf.o⟩
     have HE':Hid (QX t=4):=by show _=_;rw[HE.o,if_neg (by simp),if_neg hs]
     rw[decide_eq_false hs];clear hs HE;go_wp2;go_ret;exact⟨by rw[HE'.o];rfl,HBf.o⟩
    have HE':Hid (QX t=ne):=by show _=_;rw[HE.o];exact if_pos hne
    have hnz:(ne==0)=false:=beq_eq_false_iff_ne.2 hne;have HBf:=Zh HB3.o.bel;clear hne HE;go_wp2;go_ret;exact⟨by rw[HE'.o];rfl,HBf.o⟩
   have hwl:(0:Int)<(t.d.wt.length:Int):=by have:=List.length_pos_iff.2 hw;omega
   have HE:Hid (QX t=4):=by show _=_;unfold QX;rw[HR.o,if_neg (by simp),if_pos ⟨hu,hw⟩]
   have HBf:=Zh HB1.o.bel;have hwe:=hw;clear hw hu hr;go_wp2;go_ret;exact⟨by rw[HE.o];rfl,HBf.o⟩
  |false=>
    have HE:Hid (QX t=if(QA []).2≠0 then(QA []).2 else if(QA []).1=t.cells then 0 else 4):=by
     have e:Yo t=[]:=by unfold Yo;rw[hu];rfl
     show _=_;unfold QX;rw[e,HR.o,if_neg (by simp),if_neg (by simp[hu])]
    rw[hu]at hq0 HB1;clear hu hr;go_wp2_with fail
    refine(Nr _ [] _ _ (Qbu _ (λ_=>True))).mono ?_;obtain⟨⟨N,ne⟩,hN⟩:∃E,QA []=E:=⟨_,rfl⟩;rw[hN]at HE⊢;rintro e w3⟨a3,c3,rfl,hr3,hb3⟩;dsimp only at hr3 HE;have HB3:=Zh (HB1.o.below hb3);have Hr3:=Zh (Jp hr3);have hq3:=HB3.o.cells0;clear hr3 hb3 hN hq0;dsimp only;by_cases hne:ne=0
    .subst hne;go_wp2_with fail
     clear hq3;refine(ZI _ _ N t.cells _ Hr3.o (Ht.o.cells.below HB3.o.bel)).mono ?_;rintro e w4⟨rfl,hb4⟩;have HBf:=Zh (HB3.o.below hb4).bel;clear hb4;by_cases hs:N=t.cells
     .have HE':Hid (QX t=0):=by show _=_;rw[HE.o,if_neg (by simp),if_pos hs]
      rw[decide_eq_true hs];clear hs HE;go_wp2;go_ret;exact⟨by rw[HE'.o];rfl,HBf.o⟩
     have HE':Hid (QX t=4):=by show _=_;rw[HE.o,if_neg (by simp),if_neg hs]
     rw[decide_eq_false hs];clear hs HE;go_wp2;go_ret;exact⟨by rw[HE'.o];rfl,HBf.o⟩
    have HE':Hid (QX t=ne):=by show _=_;rw[HE.o];exact if_pos hne
    have hnz:(ne==0)=false:=beq_eq_false_iff_ne.2 hne;have HBf:=Zh HB3.o.bel;clear hne HE;go_wp2;go_ret;exact⟨by rw[HE'.o];rfl,HBf.o⟩
 have hne:(UA t.d != 0)=true:=bne_iff_ne.2 h0
 have HE:Hid (QX t=UA t.d):=by
  have e:(QD t.d).2.2=UA t.d:=by unfold QD;rw[if_pos h0]
  show _=_;unfold QX;rw[e];exact if_pos h0
 have HBf:=Zh HB1.o.bel;generalize UA t.d=E at *;clear h0;go_wp2;go_ret;exact⟨by rw[HE.o];rfl,HBf.o⟩
theorem Qfk(w:World):Calls prog 22 #[] w λe w'=>∃c,e=.returned (Ux c (.slice none 0 0) (.slice none 0 0) true)/\Qi w' (λb=>w.heap.size<=b) c (.slice none 0 0) (.slice none 0 0) newWorld/\Below w.heap.size w w':=by
 have hmk:=made4;have hr:=IQ (w.alloc (.cells #[.slice (some ⟨w.heap.size+1,0,none⟩) 4 4,.slice none 0 0,.slice none 0 0,.bool true] 27))
 have hr2:Qo ((w.alloc (.cells #[.slice (some ⟨w.heap.size+1,0,none⟩) 4 4,.slice none 0 0,.slice none 0 0,.bool true] 27)).alloc (.cells #[.bool false,.slice none 0 0,.slice none 0 0,.int .i64 0,.bool false,.slice none 0 0,.slice none 0 0,.int .i64 0,.bool false,.slice none 0 0,.slice none 0 0,.int .i64 0,.bool false,.slice none 0 0,.slice none 0 0,.int .i64 0] 52)) (λb=>w.heap.size<=b) (.slice (some ⟨w.heap.size+1,0,none⟩) 4 4) newCells:=by
  have h1:=hr.keep (D':=λb=>w.heap.size<=b) (λb hb _=>by have h1:_<=b:=hb;simp at h1;show _<=_;omega) (λ_ _ _=>rfl) Znl;simpa using h1
 have HBL:Hid (Below w.heap.size w ((w.alloc (.cells #[.slice (some ⟨w.heap.size+1,0,none⟩) 4 4,.slice none 0 0,.slice none 0 0,.bool true] 27)).alloc (.cells #[.bool false,.slice none 0 0,.slice none 0 0,.int .i64 0,.bool false,.slice none 0 0,.slice none 0 0,.int .i64 0,.bool false,.slice none 0 0,.slice none 0 0,.int .i64 0,.bool false,.slice none 0 0,.slice none 0 0,.int .i64 0] 52))):=(Bx.two (w:=w)).bel;have HRD:Hid (Qi _ (λb=>w.heap.size<=b) (.slice (some ⟨w.heap.size+1,0,none⟩) 4 4) (.slice none 0 0) (.slice none 0 0) newWorld):=⟨hr2,U7 _ _⟩;clear hr hr2;go_enter func22,ntmps22;go_wp2;refine bodyPost_ret (v:=Ux (.slice (some ⟨w.heap.size+1,0,none⟩) 4 4) (.slice none 0 0) (.slice none 0 0) true) ?_ rfl ⟨_,rfl,HRD.o,HBL.o⟩;simp[results,results22,go_sem]
end
section
open Go.RowKit
structure QfG(w W:World)(bx:Nat)(u v:Value)(d:TDisk):Prop where
 bel:Below w.heap.size w W
 ge:w.heap.size<=bx
 box:W.heap[bx]?=some (.cells #[u,v] 25)
 rd:QB W (λb=>b≠bx) u v d
section
variable{w W W' W1:World}{bx:Nat}{u v u' v':Value}{d d':TDisk}{D:Nat->Prop}
theorem QfG.below(h:QfG w W bx u v d)(hb:Below W.heap.size W W'):QfG w W' bx u v d:=⟨Ql h.bel hb,h.ge,Qd h.box hb,QB.below h.rd hb⟩
theorem QfG.new(hb:Below w.heap.size w W)(hr:QB W D u v d):QfG w (W.alloc (.cells #[u,v] 25)) W.heap.size u v d:=
 ⟨Qa hb _,hb.size,Qh _ _,QB.below (QB.keep hr (λb _ hl=>by show b≠_;omega) (λ_ _ _=>rfl) Znl) (Qa Zbr _)⟩
theorem QfG.put(h:QfG w W bx u v d)(hb:Below W.heap.size W W1)(hr:QB W1 (λb=>W.heap.size<=b) u' v' d'):QfG w ((W1.setCell ⟨bx,0,none⟩ u').setCell ⟨bx,1,none⟩ v') bx u' v' d':=by
 have hlt:=(Array.getElem?_eq_some_iff.1 h.box).1;have hg:W1.grownBy ((W1.setCell ⟨bx,0,none⟩ u').setCell ⟨bx,1,none⟩ v') (some bx):=UH u' v';have hb1:=Ql h.bel hb;exact⟨QV hb1 hg hb1.size h.ge,h.ge,ZG u' v' (Qd h.box hb),QB.keep hr (λb hb' _=>by have h1:W.heap.size<=b:=hb';show b≠bx;omega) (λb hb' hl=>QC hg hl (by have h1:W.heap.size<=b:=hb';omega)) hg.size⟩
theorem QfG.cells(h:QfG w W bx u v d)(i:Nat):W.cell? ⟨bx,i,none⟩=(#[u,v]:Array Value)[i]?:=Qb h.box i
end
end
section
open Go.RowKit
attribute [local go_sem] gives QG
structure WBx(W:World)(G:Nat->Prop)(bw:Nat)(c u v:Value)(t:TWorld):Prop where
 box:W.heap[bw]?=some (.cells #[c,u,v,.bool t.up] 27)
 rd:Qi W G c u v t
theorem WBx.below{W W':World}{G:Nat->Prop}{bw:Nat}{c u v:Value}{t:TWorld}(h:WBx W G bw c u v t)(hb:Below W.heap.size W W'):WBx W' G bw c u v t:=⟨Qd h.box hb,Qi.below h.rd hb⟩
def QiF(w:World)(G:Nat->Prop)(bw:Nat)(t:TWorld)(E:Int)(e:Ending)(w':World):Prop:=∃c u v,e=.returned (.int .i64 E)/\WBx w' G bw c u v t/\w.grownBy w' (some bw)
theorem NF{G:Nat->Prop}{N:List TCell}{ne:Int}:OY (λv W=>∃a c,v=.tuple #[.slice a N.length c,.int .i64 ne]/\Qo W G (.slice a N.length c) N):=λ_ _ _ hb ⟨a,c,h1,h2⟩=>⟨a,c,h1,Qo.below h2 hb⟩
theorem Gy{G:Nat->Prop}{N:List TCell}:OY (λv W=>∃a c,v=.slice a N.length c/\Qo W G (.slice a N.length c) N):=λ_ _ _ hb ⟨a,c,h1,h2⟩=>⟨a,c,h1,Qo.below h2 hb⟩
theorem Yp{B:Nat}:YF B (λv W=>∃a c,v=.slice a newCells.length c/\Qo W (λb=>B<=b) (.slice a newCells.length c) newCells):=λ_ _ _ hk ⟨a,c,h1,h2⟩=>⟨a,c,h1,Qo.keep h2 (λ_ hx _=>hx) (λx hx hl=>hk.2 x hx hl) hk.1⟩
theorem Y1{B:Nat}{u v:Value}{up:Bool}:YF B (λx W=>∃a c,x=.agg #[.slice a newCells.length c,u,v,.bool up]/\Qo W (λb=>B<=b) (.slice a newCells.length c) newCells):=λ_ _ _ hk ⟨a,c,h1,h2⟩=>⟨a,c,h1,Qo.keep h2 (λ_ hx _=>hx) (λx hx hl=>hk.2 x hx hl) hk.1⟩
def QiL:Value->Value
 |.tuple a=>a.getD 0 undef
 |_=>undef
structure NpI(w0:World)(d':TDisk)(de:Int)(dn:Nat->Bool)(vf:Nat->Value)(W:World):Prop where
 fr:Below w0.heap.size w0 W
 o6:dn 6=true->dn 5=true
 o7:dn 7=true->dn 6=true
 c5:dn 5=true->dn 10=false->∃x y,vf 5=.tuple #[.agg #[x,y],.int .i64 de]/\QB W (λk=>w0.heap.size<=k/\(dn 9=true->vf 9 ≠ .pointer (some ⟨k,0,none⟩))) x y d'
 c5':dn 5=true->∃x y,vf 5=.tuple #[.agg #[x,y],.int .i64 de]
 c9:dn 9=true->∃b,vf 9=.pointer (some ⟨b,0,none⟩)/\w0.heap.size<=b/\(dn 10=false->W.heap[b]?=some (.cells #[.slice none 0 0,.slice none 0 0] 25))
 c10:dn 10=true->∃b x y,vf 9=.pointer (some ⟨b,0,none⟩)/\w0.heap.size<=b/\W.heap[b]?=some (.cells #[x,y] 25)/\QB W (λk=>w0.heap.size<=k/\k≠b) x y d'
section
variable{w0 W W':World}{d':TDisk}{de:Int}{dn:Nat->Bool}{vf:Nat->Value}{v:Value}{i:Nat}
theorem NpI.start:NpI w0 d' de (λ_=>false) (λ_=>undef) w0.drew:=⟨Zbr.drew,(λh=>by cases h),(λh=>by cases h),(λh=>by cases h),(λh=>by cases h),(λh=>by cases h),(λh=>by cases h)⟩
theorem NpI.same'(h:NpI w0 d' de dn vf W)(h5:5≠i)(h9:9≠i)(h10:10≠i)(h6:i=6->dn 5=true)(h7:i=7->dn 6=true):NpI w0 d' de (Qe dn i) (QS vf i v) W:=by
 have e5:Qe dn i 5=dn 5:=if_neg h5;have e9:Qe dn i 9=dn 9:=if_neg h9;have e10:Qe dn i 10=dn 10:=if_neg h10;have f5:QS vf i v 5=vf 5:=if_neg h5;have f9:QS vf i v 9=vf 9:=if_neg h9;refine⟨h.fr,?_,?_,?_,?_,?_,?_⟩
 .intro e;rw[e5];by_cases e6:6=i
  .exact h6 e6.symm
  exact h.o6 (by rw[<-e];exact(if_neg e6).symm)
 .intro e;by_cases e7:7=i
  .subst e7;show Qe dn 7 6=true;exact h7 rfl
  have h1:=h.o7 (by rw[<-e];exact(if_neg e7).symm);unfold Qe;split
  .rfl
  exact h1
 all_goals simp only[e5,e9,e10,f5,f9]
 .exact h.c5
 .exact h.c5'
 .exact h.c9
 exact h.c10
theorem NpI.call5{x y:Value}(h:NpI w0 d' de dn vf W)(n10:dn 10=false)(hb:Below W.heap.size W W')(hr:QB W' (λb=>W.heap.size<=b) x y d'):NpI w0 d' de (Qe dn 5) (QS vf 5 (.tuple #[.agg #[x,y],.int .i64 de])) W':=by
 have f5:QS vf 5 (.tuple #[.agg #[x,y],.int .i64 de]) 5=.tuple #[.agg #[x,y],.int .i64 de]:=if_pos rfl;have f9:QS vf 5 (.tuple #[.agg #[x,y],.int .i64 de]) 9=vf 9:=if_neg (by decide);have e9:Qe dn 5 9=dn 9:=if_neg (by decide);have e10:Qe dn 5 10=dn 10:=if_neg (by decide);refine⟨Ql h.fr hb,λ_=>by simp[Qe],λe=>?_,λ_ _=>⟨x,y,f5,?_⟩,λ_=>⟨x,y,f5⟩,λe=>?_,λe=>by rw[e10,n10]at e;cases e⟩
 .have:=h.o7 (by simpa[Qe]using e);simpa[Qe]using this
 .refine QB.keep hr (λb hb' hl=>⟨by have h1:W.heap.size<=b:=hb';have:=h.fr.size;omega,λh9 e=>?_⟩) (λ_ _ _=>rfl) Znl;rw[e9]at h9;rw[f9]at e;obtain⟨b9,hb9,_,hc9⟩:=h.c9 h9;rw[hb9]at e;injection e with e;injection e with e;injection e with e;have h2:=(Array.getElem?_eq_some_iff.1 (hc9 n10)).1;have h1:W.heap.size<=b:=hb';omega
 rw[e9]at e;obtain⟨b9,hb9,hl9,hc9⟩:=h.c9 e;exact⟨b9,by rw[f9];exact hb9,hl9,λ_=>Qd (hc9 n10) hb⟩
theorem NpI.new9(h:NpI w0 d' de dn vf W)(n10:dn 10=false):NpI w0 d' de (Qe dn 9) (QS vf 9 (.pointer (some ⟨W.heap.size,0,none⟩))) (W.alloc (.cells #[.slice none 0 0,.slice none 0 0] 25)):=by
 have hb:Below W.heap.size W (W.alloc (.cells #[.slice none 0 0,.slice none 0 0] 25)):=Qa Zbr _;have f5:QS vf 9 (.pointer (some ⟨W.heap.size,0,none⟩)) 5=vf 5:=if_neg (by decide);have f9:QS vf 9 (.pointer (some ⟨W.heap.size,0,none⟩)) 9=.pointer (some ⟨W.heap.size,0,none⟩):=if_pos rfl;have e5:Qe dn 9 5=dn 5:=if_neg (by decide);have e10:Qe dn 9 10=dn 10:=if_neg (by decide);refine⟨Ql h.fr hb,λe=>?_,λe=>?_,λe _=>?_,λe=>?_,λ_=>⟨_,f9,h.fr.size,λ_=>Qh _ _⟩,λe=>by rw[e10,n10]at e;cases e⟩
 .have:=h.o6 (by simpa[Qe]using e);simpa[Qe]using this
 .have:=h.o7 (by simpa[Qe]using e);simpa[Qe]using this
 .rw[e5]at e;obtain⟨x,y,h1,h2⟩:=h.c5 e n10;refine⟨x,y,by rw[f5];exact h1,QB.keep h2 (λb hb' hl=>⟨hb'.1,λ_ e9=>?_⟩) (λb _ hl=>hb.block b hl) hb.size⟩;rw[f9]at e9;injection e9 with e9;injection e9 with e9;injection e9 with e9;omega
 rw[e5]at e;rw[f5];exact h.c5' e
theorem NpI.st10(h:NpI w0 d' de dn vf W)(d5:dn 5=true)(d9:dn 9=true)(n10:dn 10=false):∀(b:Nat)(x y:Value),vf 9=.pointer (some ⟨b,0,none⟩)->vf 5=.tuple #[.agg #[x,y],.int .i64 de]->NpI w0 d' de (Qe dn 10) (QS vf 10 v) ((W.setCell ⟨b,0,none⟩ x).setCell ⟨b,1,none⟩ y):=by
 intro b x y hb9 h5;obtain⟨b',hb',hl,hc⟩:=h.c9 d9;rw[hb9]at hb';injection hb' with hb';injection hb' with hb';injection hb' with hb';subst hb';obtain⟨x',y',h5',hr⟩:=h.c5 d5 n10;rw[h5]at h5';simp only[Value.tuple.injEq,Array.mk.injEq,List.cons.injEq,Value.agg.injEq,and_true]at h5';obtain⟨rfl,rfl⟩:=h5';have hg:W.grownBy ((W.setCell ⟨b,0,none⟩ x).setCell ⟨b,1,none⟩ y) (some b):=UH x y;have f5:QS vf 10 v 5=vf 5:=if_neg (by decide);have f9:QS vf 10 v 9=vf 9:=if_neg (by decide);refine⟨QV h.fr hg h.fr.size hl,λe=>?_,λe=>?_,λ_ e=>by simp[Qe]at e,λ_=>⟨x,y,by rw[f5];exact h5⟩,λ_=>⟨b,by rw[f9];exact hb9,hl,λe=>by simp[Qe]at e⟩,λ_=>⟨b,x,y,by rw[f9];exact hb9,hl,ZG x y (hc n10),?_⟩⟩
 .have:=h.o6 (by simpa[Qe]using e);simpa[Qe]using this
 .have:=h.o7 (by simpa[Qe]using e);simpa[Qe]using this
 exact QB.keep hr (λk hk _=>⟨hk.1,λe=>hk.2 d9 (by rw[e];exact hb9)⟩) (λk hk hl'=>QC hg hl' (λe=>hk.2 d9 (by rw[e];exact hb9))) hg.size
end
theorem Yx{W:World}{b k:Nat}{v0 v1 v2 v3:Value}(hk:k<W.heap.size)(hb:k≠b):((((W.setCell ⟨b,0,none⟩ v0).setCell ⟨b,1,none⟩ v1).setCell ⟨b,2,none⟩ v2).setCell ⟨b,3,none⟩ v3).heap[k]?=W.heap[k]?:=QC (Uf v0 v1 v2 v3) hk hb
theorem Ju{B β:Nat}{W:World}{a b c d:Value}(hβ:β<B):Qn B W ((((W.setCell ⟨β,0,none⟩ a).setCell ⟨β,1,none⟩ b).setCell ⟨β,2,none⟩ c).setCell ⟨β,3,none⟩ d):=
 ⟨(Uf (W:=W) (b:=β) a b c d).size,λk hk hl=>Yx hl (by omega)⟩
def QfI(w0:World)(β:Nat)(u v:Value)(W:World):Prop:=∃x,W.heap[β]?=some (.cells #[x,u,v,.bool false] 27)/\Qo W (λb=>w0.heap.size<=b) x newCells/\w0.grownBy W (some β)
theorem IW{w0 W:World}{β:Nat}{x c c0 c1 c2 c3:Value}{up:Bool}(hb:Below w0.heap.size w0 W)(hβ:W.heap[β]?=some (.cells #[c,c0,c3,.bool up] 27))(hlt:β<w0.heap.size)(hx:Qo W (λb=>w0.heap.size<=b) x newCells):
  QfI w0 β c1 c2 ((((W.setCell ⟨β,0,none⟩ x).setCell ⟨β,1,none⟩ c1).setCell ⟨β,2,none⟩ c2).setCell ⟨β,3,none⟩ (.bool false)):=
 ⟨x,Yr x c1 c2 (.bool false) hβ,Qo.keep hx (λ_ h _=>h) (λk hk hl=>Yx hl (by have h1:w0.heap.size<=k:=hk;omega)) (Uf x c1 c2 (.bool false)).size,QM hb (Uf x c1 c2 (.bool false))⟩
structure NwI(w0:World)(bw:Nat)(c u v N x y:Value)(up:Bool)(dn:Nat->Bool)(vf:Nat->Value)(W:World):Prop where
 gr:w0.grownBy W (some bw)
 b:W.heap[bw]?=some (.cells #[if dn 6 then N else c,if dn 9 then x else u,if dn 9 then y else v,.bool up] 27)
section
variable{w0 W:World}{bw:Nat}{c u v N x y z:Value}{up:Bool}{dn:Nat->Bool}{vf:Nat->Value}{i:Nat}
theorem NwI.start(h:w0.heap[bw]?=some (.cells #[c,u,v,.bool up] 27)):NwI w0 bw c u v N x y up (λ_=>false) (λ_=>undef) w0.drew:=⟨⟨rfl,rfl,rfl,Nat.le_refl _,λ_ _ _=>rfl⟩,h⟩
theorem NwI.same(h:NwI w0 bw c u v N x y up dn vf W)(h6:6≠i)(h9:9≠i):NwI w0 bw c u v N x y up (Qe dn i) (QS vf i z) W:=by
 have e6:Qe dn i 6=dn 6:=if_neg h6;have e9:Qe dn i 9=dn 9:=if_neg h9;exact⟨h.gr,by rw[e6,e9];exact h.b⟩
theorem NwI.st6{v':Value}(h:NwI w0 bw c u v' N x y up dn vf W)(n6:dn 6=false)(n9:dn 9=false):NwI w0 bw c u v' N x y up (Qe dn 6) (QS vf 6 v) (W.setCell ⟨bw,0,none⟩ N):=by
 refine⟨UW h.gr (UX _ _ _ _),?_⟩;have hb:=h.b;rw[n6,n9]at hb;have e6:Qe dn 6 6=true:=if_pos rfl;have e9:Qe dn 6 9=false:=(if_neg (by decide)).trans n9;rw[e6,e9];exact QJ hb
theorem NwI.st9{v':Value}(h:NwI w0 bw c u v' N x y up dn vf W)(n9:dn 9=false)(d6:dn 6=true):NwI w0 bw c u v' N x y up (Qe dn 9) (QS vf 9 v) ((W.setCell ⟨bw,1,none⟩ x).setCell ⟨bw,2,none⟩ y):=by
 refine⟨UW (UW h.gr (UX _ _ _ _)) (UX _ _ _ _),?_⟩;have hb:=h.b;rw[d6,n9]at hb;have e6:Qe dn 9 6=true:=(if_neg (by decide)).trans d6;have e9:Qe dn 9 9=true:=if_pos rfl;rw[e6,e9];exact QJ (QJ hb)
end
theorem below_grown{w W:World}{bw:Nat}(hb:Below w.heap.size w W):w.grownBy W (some bw):=⟨hb.os,hb.tape,hb.output,hb.size,λk hk _=>hb.block k hk⟩
theorem Ou(bw:Nat)(c u v ur:Value)(t:TWorld)(r:TRec)(tear:Bool)(kept:Int)(G D:Nat->Prop)(w:World)(hG0:¬G bw)(hGu:∀b,w.heap.size<=b->G b)(h:WBx w G bw c u v t)(hr:Qc w D ur r.p.ru)(hL:Laid w):
  Calls prog 88 #[.pointer (some ⟨bw,0,none⟩),Yg r ur,.bool tear,.int .i64 kept] w (QiF w G bw (U0 t r tear kept).1 (U0 t r tear kept).2):=by
 have HL:=Zh hL;have Hw:=Zh h;have HG0:=Zh hG0;have HGu:=Zh hGu;clear hG0 hGu;obtain⟨kd,cl,fr,p⟩:=r;dsimp only at hr⊢;have Hr:=Zh hr;obtain⟨a0,c0,rfl,hf0⟩:=Sl.form h.rd.cells;obtain⟨a1,c1,rfl,hf1⟩:=Sl.form h.rd.disk.1;obtain⟨a2,c2,rfl,hf2⟩:=Sl.form h.rd.disk.2;obtain⟨ar,cr,rfl,hf3⟩:=Sl.form hr;obtain⟨⟨N,ne⟩,hN⟩:∃E,QI t.cells ⟨kd,cl,fr,p⟩=E:=⟨_,rfl⟩;obtain⟨⟨d',de⟩,hP⟩:∃E,Gi t.d ⟨kd,cl,fr,p⟩=E:=⟨_,rfl⟩;have HN:=Zh hN;have HPt:=Zh hP;clear h hr hL hf0 hf1 hf2 hf3 hN hP;go_enter func88,ntmps88;go_wp2_with fail
 have HB0:=Zh (Bx.one (w:=w) (o:=.cells #[.int .i64 kd,.int .i64 cl,.int .i64 fr,.slice ar p.ru.length cr,.int .i64 p.df] 56));have Hbw1:=Zh (Hw.o.below HB0.o.bel).box;have Ht1:Hid (Qi _ (λb=>b<w.heap.size/\G b) _ _ _ t):=Qi.below (Qi.keep (D':=λb=>b<w.heap.size/\G b) Hw.o.rd (λb hb hl=>⟨hl,hb⟩) (λ_ _ _=>rfl) Znl) HB0.o.bel;have Hr1:=Zh (Qc.below Hr.o HB0.o.bel);have HL1:=Zh (HL.o.below HB0.o.bel);have Hbw:Hid (bw<w.heap.size):=(Array.getElem?_eq_some_iff.1 Hw.o.box).1;revert HB0 Hbw1 Ht1 Hr1 HL1;generalize(w.alloc (.cells #[.int .i64 kd,.int .i64 cl,.int .i64 fr,.slice ar p.ru.length cr,.int .i64 p.df] 56))=w1;intro HB0 Hbw1 Ht1 Hr1 HL1;refine Xx [ex (.pointer (some ⟨bw,0,none⟩)),ex (.pointer (some ⟨bw,0,none⟩)),ex (.pointer (some ⟨bw,0,none⟩)),ex (.slice a0 t.cells.length c0),ex (Yg ⟨kd,cl,fr,p⟩ (.slice ar p.ru.length cr)),pr (λv W=>∃a c,v=.tuple #[.slice a N.length c,.int .i64 ne]/\Qo W G (.slice a N.length c) N),pr (λv W=>∃a c,v=.tuple #[.slice a N.length c,.int .i64 ne]/\Qo W G (.slice a N.length c) N),pr (λv W=>∃a c,v=.slice a N.length c/\Qo W G (.slice a N.length c) N),ex (.int .i64 ne),pr (λv W=>∃a c,v=.slice a N.length c/\Qo W G (.slice a N.length c) N),ex (.int .i64 ne)] w1.heap.size Znl (by kernel_rfl) (by kernel_rfl) ⟨.inl ⟨_,rfl⟩,.inl ⟨_,rfl⟩,.inl ⟨_,rfl⟩,.inl ⟨_,rfl⟩,.inl ⟨_,rfl⟩,.inr ⟨_,rfl,NF⟩,.inr ⟨_,rfl,NF⟩,.inr ⟨_,rfl,Gy⟩,.inl ⟨_,rfl⟩,.inr ⟨_,rfl,Gy⟩,.inl ⟨_,rfl⟩,trivial⟩ ?_
 iterate 5 (refine Qs λK hK=>⟨λW hC hd R hR=>?_,?_⟩;(first|(clear hd;go_simp;exact hR _ _ Zbr rfl)|(have hqw:=Qb (Qd Hbw1.o hC.2);have hqr:=(HB0.o.below hC.2).cells0;clear hd;go_simp;exact hR _ _ Zbr rfl));(go_simp;refine hK _ ?_;clear hK K))
 (refine Ya λK hK=>⟨λW hC hd R hR=>?_,λv5=>?_⟩;(have hcw:=(Ht1.o.below hC.2).cells;have hrw:=Qc.below Hr1.o hC.2;have HCW:=Zh hcw;have HRW:=Zh hrw;have HLT:Hid (w.heap.size<=W.heap.size):=(by show _<=_;have:=hC.1;have:=HB0.o.bel.size;omega);clear hcw hrw;clear hd;go_simp;go_at_call 98;refine(next_any _ _ t.cells ⟨kd,cl,fr,p⟩ _ _ W HCW.o HRW.o).mono ?_;rw[HN.o];rintro e w9 ⟨a9,c9,rfl,hr9,hb9⟩;exact⟨_,rfl,hR _ _ hb9 ⟨_,_,rfl,hr9.keep (λb hb _=>HGu.o _ (by have h1:_<=b:=hb;have:=HLT.o;omega)) (λ_ _ _=>rfl) Znl⟩⟩);(go_simp;refine hK _ _ ?_;clear hK K))
 (refine Ya λK hK=>⟨λW hC hd R hR=>?_,λv6=>?_⟩;(have h5:∃a c,v5=.tuple #[.slice a N.length c,.int .i64 ne]/\Qo W G (.slice a N.length c) N:=hd 5 (by decide);have H5:=Zh h5;clear h5;clear hd;go_simp;exact hR _ _ Zbr H5.o);(go_simp;refine hK _ _ ?_;clear hK K))
 (refine Ya λK hK=>⟨λW hC hd R hR=>?_,λv7=>?_⟩;(have h6:∃a c,v6=.tuple #[.slice a N.length c,.int .i64 ne]/\Qo W G (.slice a N.length c) N:=hd 6 (by decide);obtain⟨a6,c6,rfl,h6⟩:=h6;have H6:=Zh h6;clear h6;clear hd;go_simp;exact hR _ _ Zbr ⟨_,_,rfl,H6.o⟩);(go_simp;refine hK _ _ ?_;clear hK K))
 (refine Qs λK hK=>⟨λW hC hd R hR=>?_,?_⟩;(have h6:∃a c,v6=.tuple #[.slice a N.length c,.int .i64 ne]/\Qo W G (.slice a N.length c) N:=hd 6 (by decide);obtain⟨a6,c6,rfl,h6⟩:=h6;clear h6;clear hd;go_simp;exact hR _ _ Zbr rfl);(go_simp;refine hK _ ?_;clear hK K))
 (refine Ya λK hK=>⟨λW hC hd R hR=>?_,λv9=>?_⟩;(have h7:∃a c,v7=.slice a N.length c/\Qo W G (.slice a N.length c) N:=hd 7 (by decide);have H7:=Zh h7;clear h7;clear hd;go_simp;exact hR _ _ Zbr H7.o);(go_simp;refine hK _ _ ?_;clear hK K))
 (refine Qs λK hK=>⟨λW hC hd R hR=>?_,?_⟩;(clear hd;go_simp;exact hR _ _ Zbr rfl);(go_simp;refine hK _ ?_;clear hK K))
 intro w2 hC2 hfacts;obtain⟨⟨⟨⟨_,h5⟩,h6⟩,h7⟩,h9⟩:=hfacts;obtain⟨a9,c9,rfl,hrc9⟩:=h9;have HB2:=Zh (HB0.o.below hC2.2);have Hbw2:=Zh (Qd Hbw1.o hC2.2);have Ht2:=Zh (Qi.below Ht1.o hC2.2);have Hr2:=Zh (Qc.below Hr1.o hC2.2);have HL2:=Zh (HL1.o.below hC2.2);have Hrc2:Hid (Qo w2 (λb=>b<w2.heap.size/\G b) (.slice a9 N.length c9) N):=hrc9.keep (λb hb hl=>⟨hl,hb⟩) (λ_ _ _=>rfl) Znl;clear hC2 h5 h6 h7 hrc9 HB0 Hbw1 Ht1 Hr1 HL1;by_cases hne:ne=0
 .subst hne
  have HNo:Hid (U0 t ⟨kd,cl,fr,p⟩ tear kept=if de≠0 then(t,de)else if tear then(if(Xn d' (max 0 (min kept d'.wt.length))).2≠0 then(t,(Xn d' (max 0 (min kept d'.wt.length))).2)else(⟨newCells,(Xn d' (max 0 (min kept d'.wt.length))).1,false⟩,0))else if(Y7 d').2≠0 then(t,(Y7 d').2)else(⟨N,(Y7 d').1,t.up⟩,0)):=by
   show U0 _ _ _ _=_;unfold U0;rw[HN.o,HPt.o,if_neg (by simp)]
  go_wp2_with fail
  refine RV.Yu (NpI w2 d' de) (λ_ _ _ _=>True) (λ_ _ _ _=>True) (by kernel_rfl) (by kernel_rfl) _ rfl (λ_ _ _ _ _ _ _ _ _ _ _ _=>trivial) (λ_ _ _ _ _ _ _ _=>trivial) NpI.start ?_
  iterate 5 (refine RV.QU (λK hK=>?_);apply Exists.intro;refine⟨λdn vf W hI hd0 hd hn hf R hR=>?_,?_,?_⟩;(first|(clear hd0 hd hn hf;go_simp;exact hR _ _ (hI.same' (by decide) (by decide) (by decide) (λe=>absurd e (by decide)) (λe=>absurd e (by decide))) trivial rfl trivial);exact(λ_ _ _=>rfl)|(have hqw:=Qb (Qd Hbw2.o hI.fr);have hqr:=(HB2.o.below hI.fr).cells0;clear hd0 hd hn hf;go_simp;exact hR _ _ (hI.same' (by decide) (by decide) (by decide) (λe=>absurd e (by decide)) (λe=>absurd e (by decide))) trivial rfl trivial);exact(λ_ _ _=>rfl));(go_simp;refine hK _ ?_;clear hK K))
  (refine RV.VO λK hK=>⟨λdn vf W hI hd0 hd hn hf R hR=>?_,?_⟩;(have n10:dn 10=false:=hn 10 (by decide);have hdw:=(Ht2.o.below hI.fr).disk;have HDW:=Zh hdw;have HRW:=Zh (Qc.below Hr2.o hI.fr);have HLW:=Zh (HL2.o.below hI.fr);have HI:=Zh hI;clear hdw hI hd hn hf;go_simp;go_at_call 33;refine(Qhe _ _ _ t.d ⟨kd,cl,fr,p⟩ _ _ W HDW.o HRW.o HLW.o).mono ?_;rw[HPt.o];rintro e w9 ⟨u9,v9,rfl,hr9,hb9⟩;exact⟨_,rfl,hR _ _ (HI.o.call5 n10 hb9 hr9) trivial trivial trivial⟩);(go_simp;refine hK _ ?_;clear hK K))
  (refine RV.QU (λK hK=>?_);apply Exists.intro;refine⟨λdn vf W hI hd0 hd hn hf R hR=>?_,?_,?_⟩;(have d5:dn 5=true:=hd 5 (by decide);clear hd0 hd hn hf;go_simp;exact hR _ _ (hI.same' (by decide) (by decide) (by decide) (λ_=>d5) (λe=>absurd e (by decide))) trivial rfl trivial);exact(λf g h=>h 5 (by decide));(go_simp;refine hK _ ?_;clear hK K))
  (refine RV.QU (λK hK=>?_);refine⟨λvf=>QiL (vf 5),?_⟩;refine⟨λdn vf W hI hd0 hd hn hf R hR=>?_,?_,?_⟩;(have d6r:dn 6=true:=hd 6 (by decide);have d6:dn 5=true:=hI.o6 d6r;have n10:dn 10=false:=hn 10 (by decide);obtain⟨x,y,h5,_⟩:=hI.c5 d6 n10;have HI:=Zh hI;clear hI;clear hd0 hd hn hf;go_simp;exact hR _ _ (HI.o.same' (by decide) (by decide) (by decide) (λe=>absurd e (by decide)) (λ_=>d6r)) trivial (by show _=QiL (vf 5);rw[h5];rfl) trivial);exact(λf g h=>by show QiL (f 5)=QiL (g 5);rw[h 5 (by decide)]);(go_simp;refine hK _ ?_;clear hK K))
  (refine RV.QU (λK hK=>?_);apply Exists.intro;refine⟨λdn vf W hI hd0 hd hn hf R hR=>?_,?_,?_⟩;(have d6:dn 5=true:=hI.o6 (hd 6 (by decide));obtain⟨x,y,h5⟩:=hI.c5' d6;have HI:=Zh hI;clear hI;clear hd0 hd hn hf;go_simp;exact hR _ _ (HI.o.same' (by decide) (by decide) (by decide) (λe=>absurd e (by decide)) (λe=>absurd e (by decide))) trivial rfl trivial);exact(λ_ _ _=>rfl);(go_simp;refine hK _ ?_;clear hK K))
  (refine RV.VO λK hK=>⟨λdn vf W hI hd0 hd hn hf R hR=>?_,?_⟩;(have n10:dn 10=false:=hn 10 (by decide);have HNW:=Zh (hI.new9 n10);clear hd hn hf hI;go_simp;exact hR _ _ HNW.o trivial trivial trivial);(go_simp;refine hK _ ?_;clear hK K))
  (refine RV.VO λK hK=>⟨λdn vf W hI hd0 hd hn hf R hR=>?_,?_⟩;(have d9:dn 9=true:=hd 9 (by decide);have d5:dn 5=true:=hI.o6 (hI.o7 (hd 7 (by decide)));have hF:=(λv=>hI.st10 (v:=v) d5 d9 hd0);obtain⟨b,hb9,hbl,hbc⟩:=hI.c9 d9;obtain⟨x,y,h5,hrx⟩:=hI.c5 d5 hd0;obtain⟨x1,y1,rfl,_⟩:=Sl.form hrx.1;obtain⟨x2,y2,rfl,_⟩:=Sl.form hrx.2;have hF':=hF undef _ _ _ hb9 h5;have hqc:=Qb (hbc hd0);have hfc:=Qp (hbc hd0);have HF:=Zh hF';have hfst:QiL (vf 5)=.agg #[.slice x1 d'.sa.length y1,.slice x2 d'.wt.length y2]:=(by rw[h5];rfl);clear hd0 hd hn hf hF hF' hI hrx hbc h5;go_simp;exact hR _ _ HF.o trivial trivial trivial);(go_simp;refine hK _ ?_;clear hK K))
  (refine RV.QU (λK hK=>?_);apply Exists.intro;refine⟨λdn vf W hI hd0 hd hn hf R hR=>?_,?_,?_⟩;(have HI:=Zh hI;clear hI;clear hd0 hd hn hf;go_simp;exact hR _ _ (HI.o.same' (by decide) (by decide) (by decide) (λe=>absurd e (by decide)) (λe=>absurd e (by decide))) trivial rfl trivial);exact(λ_ _ _=>rfl);(go_simp;refine hK _ ?_;clear hK K))
  intro dn vf w3 hdone hI _;obtain⟨bd,x,y,hbd,hbl,hbc,hrd⟩:=hI.c10 (hdone 10 (by decide));have HB3:=Zh (HB2.o.below hI.fr);have Hbw3:=Zh (Qd Hbw2.o hI.fr);have Ht3:=Zh (Qi.below Ht2.o hI.fr);have HL3:=Zh (HL2.o.below hI.fr);have Hrc3:=Zh (Qo.below Hrc2.o hI.fr);have hbw2:=(Array.getElem?_eq_some_iff.1 Hbw2.o).1;have HDB:Hid (QfG w2 w3 bd x y d'):=⟨hI.fr,hbl,hbc,QB.keep hrd (λk hk _=>hk.2) (λ_ _ _=>rfl) Znl⟩;have Hbd2:Hid (w2.heap.size<=bd):=hbl;have Hbdw:Hid (w.heap.size<=bd):=by show _<=_;have:=HB2.o.bel.size;omega
  have Hbn:Hid (bd≠bw):=by show _≠_;omega
  obtain⟨x1,y1,rfl,_⟩:=Sl.form hrd.1;obtain⟨x2,y2,rfl,_⟩:=Sl.form hrd.2;simp only[Exit.then];rw[hbd];clear hdone hI hbl hbc hrd hbw2 hbd;by_cases hde:de=0
  .subst hde
   cases tear with
   |true=>
    obtain⟨mi,hmi⟩:∃mi,min kept (d'.wt.length:Int)=mi:=⟨_,rfl⟩;obtain⟨ma,hma⟩:∃ma,max 0 mi=ma:=⟨_,rfl⟩;obtain⟨⟨d5,ce⟩,hcr⟩:∃E,Xn d' ma=E:=⟨_,rfl⟩;have HCR:=Zh hcr;have HNc:Hid (U0 t ⟨kd,cl,fr,p⟩ true kept=if ce≠0 then(t,ce)else(⟨newCells,d5,false⟩,0)):=by show _=_;rw[HNo.o,if_neg (by simp),if_pos rfl,hmi,hma,hcr]
    have hmin:(if(d'.wt.length:Int)<kept then(d'.wt.length:Int)else kept)=mi:=by rw[<-hmi];omega
    have hmax:(if(0:Int)<mi then mi else 0)=ma:=by rw[<-hma];omega
    have hqd:=HDB.o.cells;clear hcr HNo;go_wp2_with fail
    refine(QeS _ _ d' ma _ _ HDB.o.rd HL3.o).mono ?_;rw[HCR.o];rintro e w4⟨u5,v5,rfl,hr5,hb5⟩;dsimp only at hr5;obtain⟨x1,y1,rfl,_⟩:=Sl.form hr5.1;obtain⟨x2,y2,rfl,_⟩:=Sl.form hr5.2;have hqe:=Qb (Qd HDB.o.box hb5);have hfe:=Qp (Qd HDB.o.box hb5);have HD5:=Zh (HDB.o.put hb5 hr5);have Hg4:Hid (w3.grownBy _ (some bd)):=QM hb5 (UH (b:=bd) (.slice x1 d5.sa.length y1) (.slice x2 d5.wt.length y2));have Hrd5:Hid (QB _ (λk=>G k/\k≠bd) (.slice x1 d5.sa.length y1) (.slice x2 d5.wt.length y2) d5):=QB.keep hr5 (λk hk _=>by have h1:w3.heap.size<=k:=hk;have h2:=(Array.getElem?_eq_some_iff.1 HDB.o.box).1;have h3:=HB3.o.bel.size;exact⟨HGu.o _ (by omega),by omega⟩) (λk hk hl=>QC (UH (b:=bd) (.slice x1 d5.sa.length y1) (.slice x2 d5.wt.length y2)) hl (by have h1:w3.heap.size<=k:=hk;have h2:=(Array.getElem?_eq_some_iff.1 HDB.o.box).1;omega)) (UH (b:=bd) (.slice x1 d5.sa.length y1) (.slice x2 d5.wt.length y2)).size;clear hqd hr5 hb5;dsimp only;by_cases hce:ce=0
    .subst hce;have HE:Hid (U0 t ⟨kd,cl,fr,p⟩ true kept=(⟨newCells,d5,false⟩,0)):=by show _=_;rw[HNc.o,if_neg (by simp)]
     go_wp2_with fail
     clear hqe hfe hmin hmax hmi hma;revert HD5 Hg4 Hrd5;generalize((w4.setCell ⟨bd,0,none⟩ (.slice x1 d5.sa.length y1)).setCell ⟨bd,1,none⟩ (.slice x2 d5.wt.length y2))=w5;intro HD5 Hg4 Hrd5;have Hbw5:Hid (w5.heap[bw]?=some _):=(QC Hg4.o (Array.getElem?_eq_some_iff.1 Hbw3.o).1 Hbn.o.symm).trans Hbw3.o;have Hbd5:Hid (w5.heap[bd]?=some _):=HD5.o.box;have Hsz5:Hid (w.heap.size<=w5.heap.size):=by show _<=_;have:=HB2.o.bel.size;have:=HD5.o.bel.size;omega
     have Hlw5:Hid (bw<w5.heap.size):=(Array.getElem?_eq_some_iff.1 Hbw5.o).1;refine Un 5 w5.heap.size [ex (.pointer (some ⟨bw,0,none⟩)),pr (λv W=>∃a c,v=.slice a newCells.length c/\Qo W (λb=>w5.heap.size<=b) (.slice a newCells.length c) newCells),ex (.agg #[.slice x1 d5.sa.length y1,.slice x2 d5.wt.length y2]),pr (λv W=>∃a c,v=.agg #[.slice a newCells.length c,.slice x1 d5.sa.length y1,.slice x2 d5.wt.length y2,.bool false]/\Qo W (λb=>w5.heap.size<=b) (.slice a newCells.length c) newCells),ex (.pointer (some ⟨bw,0,none⟩)),ex (undef)] (QfI w5 bw (.slice x1 d5.sa.length y1) (.slice x2 d5.wt.length y2)) (by kernel_rfl) (by kernel_rfl) ⟨.inl ⟨_,rfl⟩,.inr ⟨_,rfl,Yp⟩,.inl ⟨_,rfl⟩,.inr ⟨_,rfl,Y1⟩,.inl ⟨_,rfl⟩,.inl ⟨_,rfl⟩,trivial⟩ _ rfl ?_
     (refine Qj λK hK=>⟨λdn W hI h0 hd hn hf R hR=>?_,?_⟩;(have hno:dn 5=false:=hn 5 (by decide);have hC:=hI.before hno;clear h0 hd hn hf;go_simp;exact hR _ _ (hI.step hno (by decide) Zbr) (Qn.of_below Zbr) rfl);(go_simp;refine hK _ ?_;clear hK K))
     (refine QR λK hK=>⟨λdn W hI h0 hd hn hf R hR=>?_,λv1=>?_⟩;(have hno:dn 5=false:=hn 5 (by decide);have hC:=hI.before hno;have hsz0:w5.heap.size<=W.heap.size:=hC.1;have HSZ:=Zh hsz0;clear hsz0;clear h0 hd hn hf;go_simp;go_at_call 61;refine(ZB _).mono ?_;rintro e w9 ⟨v9,rfl,hr9,hb9⟩;obtain⟨a9,c9,rfl,_⟩:=Sl.form hr9;exact⟨_,rfl,hR _ _ (hI.step hno (by decide) hb9) (Qn.of_below hb9) ⟨_,_,rfl,hr9.keep (λb hb _=>by have h1:_<=b:=hb;have:=HSZ.o;show _<=_;omega) (λ_ _ _=>rfl) Znl⟩⟩);(go_simp;refine hK _ _ ?_;clear hK K))
     (refine Qj λK hK=>⟨λdn W hI h0 hd hn hf R hR=>?_,?_⟩;(have hno:dn 5=false:=hn 5 (by decide);have hC:=hI.before hno;have hqw:=Qb (Qd Hbw5.o hC.2);have hqd:=Qb (Qd Hbd5.o hC.2);clear h0 hd hn hf;go_simp;exact hR _ _ (hI.step hno (by decide) Zbr) (Qn.of_below Zbr) rfl);(go_simp;refine hK _ ?_;clear hK K))
     (refine QR λK hK=>⟨λdn W hI h0 hd hn hf R hR=>?_,λv3=>?_⟩;(have hno:dn 5=false:=hn 5 (by decide);have hC:=hI.before hno;have h1:∃a c,v1=.slice a newCells.length c/\Qo W (λb=>w5.heap.size<=b) (.slice a newCells.length c) newCells:=hf 1 (by decide);obtain⟨a1,c1,rfl,h1⟩:=h1;have H1:=Zh h1;clear h1 hC;clear h0 hd hn hf;go_simp;exact hR _ _ (hI.step hno (by decide) Zbr) (Qn.of_below Zbr) ⟨_,_,rfl,H1.o⟩);(go_simp;refine hK _ _ ?_;clear hK K))
     iterate 2 (refine Qj λK hK=>⟨λdn W hI h0 hd hn hf R hR=>?_,?_⟩;(first|(have hno:dn 5=false:=hn 5 (by decide);have hC:=hI.before hno;clear h0 hd hn hf;go_simp;exact hR _ _ (hI.step hno (by decide) Zbr) (Qn.of_below Zbr) rfl)|(have hno:dn 5=false:=h0;have hC:=hI.before hno;have h3:∃a c,v3=.agg #[.slice a newCells.length c,.slice x1 d5.sa.length y1,.slice x2 d5.wt.length y2,.bool false]/\Qo W (λb=>w5.heap.size<=b) (.slice a newCells.length c) newCells:=hf 3 (by decide);obtain⟨a3,c3,rfl,h3⟩:=h3;have hbW:=Qd Hbw5.o hC.2;have hqw:=Qb hbW;have hfw:=Qp hbW;have HFn:=Zh (IW (up:=t.up) hC.2 hbW Hlw5.o h3 (c1:=.slice x1 d5.sa.length y1) (c2:=.slice x2 d5.wt.length y2));have HKF:Hid (Qn w5.heap.size W _):=Ju (W:=W) (β:=bw) (a:=.slice a3 newCells.length c3) (b:=.slice x1 d5.sa.length y1) (c:=.slice x2 d5.wt.length y2) (d:=.bool false) Hlw5.o;clear h3 hbW hC;clear h0 hd hn hf;go_simp;exact hR _ _ (V8.at_ HFn.o) HKF.o rfl));(go_simp;refine hK _ ?_;clear hK K))
     intro dn w6 hdone hI _;obtain⟨x,hbx,hrx,hgx⟩:=hI.after (hdone 5 (by decide));clear hdone hI;have HWB:Hid (WBx w6 G bw x (.slice x1 d5.sa.length y1) (.slice x2 d5.wt.length y2) ⟨newCells,d5,false⟩):=⟨hbx,Qo.keep hrx (λk hk _=>HGu.o _ (by have h1:w5.heap.size<=k:=hk;have:=Hsz5.o;omega)) (λ_ _ _=>rfl) Znl,QB.keep Hrd5.o (λk hk _=>hk.1) (λk hk hl=>QC hgx hl (λe=>HG0.o (e▸hk.1))) hgx.size⟩;have HG:Hid (w.grownBy w6 (some bw)):=QM (HB2.o.bel.trans (HD5.o.bel.mono HB2.o.bel.size)) hgx;clear hbx hrx hgx;go_wp2;go_ret;rw[HE.o];exact⟨_,_,_,rfl,HWB.o,HG.o⟩
    have HE:Hid (U0 t ⟨kd,cl,fr,p⟩ true kept=(t,ce)):=by show _=_;rw[HNc.o,if_pos hce]
    have hnz:(ce==0)=false:=beq_eq_false_iff_ne.2 hce;have Hbw5:Hid (_=some _):=(QC Hg4.o (Array.getElem?_eq_some_iff.1 Hbw3.o).1 Hbn.o.symm).trans Hbw3.o;have Hrw5:=Zh (Qi.keep (D':=G) Ht3.o (λk hk _=>hk.2) (λk hk hl=>QC Hg4.o hl (by have:=hk.1;have:=Hbdw.o;omega)) Hg4.o.size);have HG:=Zh (HB2.o.bel.trans (HD5.o.bel.mono HB2.o.bel.size));clear hce;go_wp2;go_ret;rw[HE.o];exact⟨_,_,_,rfl,⟨Hbw5.o,Hrw5.o⟩,below_grown HG.o⟩
   |false=>
    obtain⟨⟨d5,se⟩,hsy⟩:∃E,Y7 d'=E:=⟨_,rfl⟩;have HSY:=Zh hsy;have HNc:Hid (U0 t ⟨kd,cl,fr,p⟩ false kept=if se≠0 then(t,se)else(⟨N,d5,t.up⟩,0)):=by show _=_;rw[HNo.o,if_neg (by simp),if_neg (by simp),hsy]
    have hqd:=HDB.o.cells;clear hsy HNo;go_wp2_with fail
    refine(QfZ _ _ d' _ _ HDB.o.rd HL3.o).mono ?_;rw[HSY.o];rintro e w4⟨u5,v5,rfl,hr5,hb5⟩;dsimp only at hr5;obtain⟨x1,y1,rfl,_⟩:=Sl.form hr5.1;obtain⟨x2,y2,rfl,_⟩:=Sl.form hr5.2;have hqe:=Qb (Qd HDB.o.box hb5);have hfe:=Qp (Qd HDB.o.box hb5);have HD5:=Zh (HDB.o.put hb5 hr5);have Hg4:Hid (w3.grownBy _ (some bd)):=QM hb5 (UH (b:=bd) (.slice x1 d5.sa.length y1) (.slice x2 d5.wt.length y2));have Hrd5:Hid (QB _ (λk=>G k/\k≠bd) (.slice x1 d5.sa.length y1) (.slice x2 d5.wt.length y2) d5):=QB.keep hr5 (λk hk _=>by have h1:w3.heap.size<=k:=hk;have h2:=(Array.getElem?_eq_some_iff.1 HDB.o.box).1;have h3:=HB3.o.bel.size;exact⟨HGu.o _ (by omega),by omega⟩) (λk hk hl=>QC (UH (b:=bd) (.slice x1 d5.sa.length y1) (.slice x2 d5.wt.length y2)) hl (by have h1:w3.heap.size<=k:=hk;have h2:=(Array.getElem?_eq_some_iff.1 HDB.o.box).1;omega)) (UH (b:=bd) (.slice x1 d5.sa.length y1) (.slice x2 d5.wt.length y2)).size;clear hqd hr5 hb5;dsimp only;by_cases hse:se=0
    .subst hse;have HE:Hid (U0 t ⟨kd,cl,fr,p⟩ false kept=(⟨N,d5,t.up⟩,0)):=by show _=_;rw[HNc.o,if_neg (by simp)]
     have Hrc5:=Zh (Qo.keep (D':=G) Hrc3.o (λk hk _=>hk.2) (λk hk hl=>QC Hg4.o hl (by have:=hk.1;have:=Hbd2.o;omega)) Hg4.o.size);go_wp2_with fail
     clear hqe hfe;revert HD5 Hg4 Hrd5 Hrc5;generalize((w4.setCell ⟨bd,0,none⟩ (.slice x1 d5.sa.length y1)).setCell ⟨bd,1,none⟩ (.slice x2 d5.wt.length y2))=w5;intro HD5 Hg4 Hrd5 Hrc5;have Hbw5:Hid (w5.heap[bw]?=some _):=(QC Hg4.o (Array.getElem?_eq_some_iff.1 Hbw3.o).1 Hbn.o.symm).trans Hbw3.o;have Hbd5:Hid (w5.heap[bd]?=some _):=HD5.o.box;have Hld5:Hid (bd<w5.heap.size):=(Array.getElem?_eq_some_iff.1 Hbd5.o).1;have Hne5:Hid (bd≠bw):=Hbn.o;refine RV.Yu (NwI w5 bw (.slice a0 t.cells.length c0) (.slice a1 t.d.sa.length c1) (.slice a2 t.d.wt.length c2) (.slice a9 N.length c9) (.slice x1 d5.sa.length y1) (.slice x2 d5.wt.length y2) t.up) (λ_ _ _ _=>True) (λ_ _ _ _=>True) (by kernel_rfl) (by kernel_rfl) _ rfl (λ_ _ _ _ _ _ _ _ _ _ _ _=>trivial) (λ_ _ _ _ _ _ _ _=>trivial) (NwI.start Hbw5.o) ?_
     iterate 6 (refine RV.QU (λK hK=>?_);apply Exists.intro;refine⟨λdn vf W hI hd0 hd hn hf R hR=>?_,?_,?_⟩;(first|(have HI:=Zh hI;clear hI;clear hd0 hd hn hf;go_simp;exact hR _ _ (HI.o.same (by decide) (by decide)) trivial rfl trivial);exact(λ_ _ _=>rfl)|(have hqd:=Qb ((QC hI.gr Hld5.o Hne5.o).trans Hbd5.o);clear hd0 hd hn hf;go_simp;exact hR _ _ (hI.same (by decide) (by decide)) trivial rfl trivial);exact(λ_ _ _=>rfl));(go_simp;refine hK _ ?_;clear hK K))
     (refine RV.VO λK hK=>⟨λdn vf W hI hd0 hd hn hf R hR=>?_,?_⟩;(have n9:dn 9=false:=hn 9 (by decide);have hbW:=hI.b;rw[hd0,n9]at hbW;have hqw:=Qb hbW;have hfw:=Qp hbW;have HF:=Zh (hI.st6 (v:=undef) hd0 n9);clear hd0 hd hn hf hI hbW;go_simp;exact hR _ _ HF.o trivial trivial trivial);(go_simp;refine hK _ ?_;clear hK K))
     iterate 2 (refine RV.QU (λK hK=>?_);apply Exists.intro;refine⟨λdn vf W hI hd0 hd hn hf R hR=>?_,?_,?_⟩;(have HI:=Zh hI;clear hI;clear hd0 hd hn hf;go_simp;exact hR _ _ (HI.o.same (by decide) (by decide)) trivial rfl trivial);exact(λ_ _ _=>rfl);(go_simp;refine hK _ ?_;clear hK K))
     (refine RV.VO λK hK=>⟨λdn vf W hI hd0 hd hn hf R hR=>?_,?_⟩;(have d6:dn 6=true:=hd 6 (by decide);have hbW:=hI.b;rw[hd0,d6]at hbW;have hqw:=Qb hbW;have hfw:=Qp hbW;have HF:=Zh (hI.st9 (v:=undef) hd0 d6);clear hd0 hd hn hf hI hbW;go_simp;exact hR _ _ HF.o trivial trivial trivial);(go_simp;refine hK _ ?_;clear hK K))
     intro dn vf w6 hdone hI _;have hb6:=hI.b;rw[hdone 6 (by decide),hdone 9 (by decide)]at hb6;have HWB:Hid (WBx w6 G bw (.slice a9 N.length c9) (.slice x1 d5.sa.length y1) (.slice x2 d5.wt.length y2) ⟨N,d5,t.up⟩):=⟨hb6,Qo.keep Hrc5.o (λk hk _=>hk) (λk hk hl=>QC hI.gr hl (λe=>HG0.o (e▸hk))) hI.gr.size,QB.keep Hrd5.o (λk hk _=>hk.1) (λk hk hl=>QC hI.gr hl (λe=>HG0.o (e▸hk.1))) hI.gr.size⟩;have HG:Hid (w.grownBy w6 (some bw)):=QM (HB2.o.bel.trans (HD5.o.bel.mono HB2.o.bel.size)) hI.gr;clear hdone hI hb6;go_wp2;go_ret;rw[HE.o];exact⟨_,_,_,rfl,HWB.o,HG.o⟩
    have HE:Hid (U0 t ⟨kd,cl,fr,p⟩ false kept=(t,se)):=by show _=_;rw[HNc.o,if_pos hse]
    have hnz:(se==0)=false:=beq_eq_false_iff_ne.2 hse;have Hbw5:Hid (_=some _):=(QC Hg4.o (Array.getElem?_eq_some_iff.1 Hbw3.o).1 Hbn.o.symm).trans Hbw3.o;have Hrw5:=Zh (Qi.keep (D':=G) Ht3.o (λk hk _=>hk.2) (λk hk hl=>QC Hg4.o hl (by have:=hk.1;have:=Hbdw.o;omega)) Hg4.o.size);have HG:=Zh (HB2.o.bel.trans (HD5.o.bel.mono HB2.o.bel.size));clear hse;go_wp2;go_ret;rw[HE.o];exact⟨_,_,_,rfl,⟨Hbw5.o,Hrw5.o⟩,below_grown HG.o⟩
  have HE:Hid (U0 t ⟨kd,cl,fr,p⟩ tear kept=(t,de)):=by show _=_;rw[HNo.o,if_pos hde]
  have hnz:(de != 0)=true:=bne_iff_ne.2 hde;have HG:=Zh HB3.o.bel;clear hde;go_wp2;go_ret;rw[HE.o];exact⟨_,_,_,rfl,⟨Hbw3.o,Qi.keep Ht3.o (λk hk _=>hk.2) (λ_ _ _=>rfl) Znl⟩,below_grown HG.o⟩
 have HE:Hid (U0 t ⟨kd,cl,fr,p⟩ tear kept=(t,ne)):=by show U0 _ _ _ _=_;unfold U0;rw[HN.o];exact if_pos hne
 have hnz:(ne != 0)=true:=bne_iff_ne.2 hne;have HG:=Zh HB2.o.bel;clear hne;go_wp2;go_ret;rw[HE.o];exact⟨_,_,_,rfl,⟨Hbw2.o,Qi.keep Ht2.o (λk hk _=>hk.2) (λ_ _ _=>rfl) Znl⟩,below_grown HG.o⟩
end
end Go.Proofs.YthkgjohhbdipcaaGreatDoor
