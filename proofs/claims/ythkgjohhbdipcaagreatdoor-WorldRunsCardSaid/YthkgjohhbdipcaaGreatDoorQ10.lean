/- Texts laid one behind the other: RKeep, Builder, LastOp. No condition beyond theirs. -/
import Derived.Test.YthkgjohhbdipcaaGreatDoorQ9
import Derived.Test.YthkgjohhbdipcaaGreatDoorQ4
import Derived.Test.YthkgjohhbdipcaaGreatDoorProg
import Derived.Test.YthkgjohhbdipcaaGreatDoorQ2
import Derived.Lib.Builder
import Derived.Lib.UnsafeStr
import Derived.Lib.AppendStr
import Derived.Laws.Externs
import Derived.KernelRfl
import Derived.Test.YthkgjohhbdipcaaGreatDoorQ5
set_option linter.all false
set_option maxHeartbeats 64000000
set_option maxRecDepth 100000
namespace Go.Proofs.YthkgjohhbdipcaaGreatDoor
open Tryz
section
open Go.RowKit
theorem Nk(v:Value)(p:TPol)(D:Nat->Prop)(w:World)(h:Qc w D v p.ru):
  Calls prog 111 #[U8 v p.df] w λe w'=>e=.returned (.bool (decide (Y4 p)))/\Below w.heap.size w w':=by
 obtain⟨rs,d⟩:=p;dsimp only at h⊢;obtain⟨a,c,rfl,_,_,_⟩:=Sl.form h;clear h;by_cases hd:d=0
 .subst hd;rcases Nat.eq_zero_or_pos rs.length with r0|r0
  .obtain rfl:rs=[]:=List.length_eq_zero_iff.1 r0;have HE:Hid (decide (Y4 ⟨[],0⟩)=true):=decide_eq_true ⟨rfl,rfl⟩;have e1:([]:List TRule).length=0:=rfl;go_enter func111,ntmps111;go_wp2;go_ret;exact⟨by rw[HE.o];rfl,Qa Zbr _⟩
  have HE:Hid (decide (Y4 ⟨rs,0⟩)=false):=decide_eq_false (λh=>by have:=h.2;dsimp only at this;rw[this]at r0;simp at r0);have z1:((rs.length:Int)==0)=false:=by simpa using(show ¬(rs.length:Int)=0 by omega)
  have z2:(rs.length==0)=false:=by simpa using(show ¬rs.length=0 by omega)
  have z0:rs≠[]:=λe=>by rw[e]at r0;simp at r0
  clear r0;go_enter func111,ntmps111;go_wp2;go_ret;exact⟨by rw[HE.o];rfl,Qa Zbr _⟩
 have HE:Hid (decide (Y4 ⟨rs,d⟩)=false):=decide_eq_false (λh=>hd h.1);have z1:(d==0)=false:=beq_eq_false_iff_ne.2 hd;clear hd;go_enter func111,ntmps111;go_wp2;go_ret;exact⟨by rw[HE.o];rfl,Qa Zbr _⟩
theorem Xd(v:Value)(r:TRec)(D:Nat->Prop)(w:World)(h:Qc w D v r.p.ru):
  Calls prog 71 #[Yg r v] w λe w'=>e=.returned (.int .i64 (UJ r))/\Below w.heap.size w w':=by
 obtain⟨kd,cl,fr,⟨rs,d⟩⟩:=r;dsimp only at h⊢;have H:=Zh h;obtain⟨a,c,rfl,_,_,_⟩:=Sl.form h;clear h;have HB:=Zh (Bx.one (w:=w) (o:=.cells #[.int .i64 kd,.int .i64 cl,.int .i64 fr,.slice a rs.length c,.int .i64 d] 56));have HbL:Hid (Below w.heap.size w _):=HB.o.bel;go_enter func71,ntmps71;go_wp2_with fail
 refine(Vx kd 1 4 _).mono ?_;rintro e w1⟨rfl,rfl⟩;by_cases hk:kd<1\/4<kd
 .have HE:Hid (UJ ⟨kd,cl,fr,⟨rs,d⟩⟩=4):=by show _=_;unfold UJ;dsimp only;rw[if_pos hk]
  rw[Zi (by omega)];clear hk;go_wp2;go_ret;exact⟨Q3 HE.o.symm,HbL.o⟩
 rw[XW (by omega) (by omega)];go_wp2_with fail
 refine(Vx cl 0 3 _).mono ?_;rintro e w1⟨rfl,rfl⟩;by_cases hc:cl<0\/4<=cl
 .have HE:Hid (UJ ⟨kd,cl,fr,⟨rs,d⟩⟩=3):=by show _=_;unfold UJ;dsimp only;rw[if_neg hk,if_pos (by omega)]
  rw[Zi (by omega)];clear hk hc;go_wp2;go_ret;exact⟨Q3 HE.o.symm,HbL.o⟩
 rw[XW (by omega) (by omega)];go_wp2_with fail
 refine(Vx fr 0 3 _).mono ?_;rintro e w1⟨rfl,rfl⟩;by_cases hf:fr<0\/4<=fr
 .have HE:Hid (UJ ⟨kd,cl,fr,⟨rs,d⟩⟩=3):=by show _=_;unfold UJ;dsimp only;rw[if_neg hk,if_pos (by omega)]
  rw[Zi (by omega)];clear hk hc hf;go_wp2;go_ret;exact⟨Q3 HE.o.symm,HbL.o⟩
 rw[XW (by omega) (by omega)];have HE0:Hid (UJ ⟨kd,cl,fr,⟨rs,d⟩⟩=if(kd≠3/\fr≠0)\/(2<kd/\¬Y4 ⟨rs,d⟩)then 4 else if 2<kd then 0 else UZ ⟨rs,d⟩):=by show _=_;unfold UJ;dsimp only;rw[if_neg hk,if_neg (by omega)]
 by_cases h2:2<kd
 .have b1:(kd==1)=false:=beq_eq_false_iff_ne.2 (by omega);have b2:(kd==2)=false:=beq_eq_false_iff_ne.2 (by omega);by_cases hx:kd≠3/\fr≠0
  .have HE:Hid (UJ ⟨kd,cl,fr,⟨rs,d⟩⟩=4):=by show _=_;rw[HE0.o,if_pos (.inl hx)]
   have b3:(kd != 3)=true:=bne_iff_ne.2 hx.1;have b4:decide (0<fr)=true:=decide_eq_true (by omega);clear hk hc hf hx h2;go_wp2;go_ret;exact⟨Q3 HE.o.symm,HbL.o⟩
  have key:(fr=0/\decide (0<fr)=false)\/(decide (0<fr)=true/\kd=3):=by
   by_cases f0:fr=0
   .exact .inl ⟨f0,decide_eq_false (by omega)⟩
   exact .inr ⟨decide_eq_true (by omega),by omega⟩
  have fin:∀(nb:Bool),nb=decide (Y4 ⟨rs,d⟩)->UJ ⟨kd,cl,fr,⟨rs,d⟩⟩=if nb then 0 else 4:=λnb hnb=>by
   rw[HE0.o,hnb];by_cases hn:Y4 ⟨rs,d⟩
   .rw[if_neg (by rintro (h|h);exact hx h;exact h.2 hn),if_pos h2,decide_eq_true hn];rfl
   rw[if_pos (.inr ⟨h2,hn⟩),decide_eq_false hn];rfl
  have Fin:=Zh fin;clear fin hx h2;rcases key with⟨rfl,b4⟩|⟨b4,rfl⟩
  .clear hk hc hf;go_wp2_with fail
   refine(Nk _ ⟨rs,d⟩ D _ (H.o.below HB.o.bel)).mono ?_;rintro e w1⟨rfl,hb1⟩;obtain⟨nb,hnb⟩:∃nb,nb=decide (Y4 ⟨rs,d⟩):=⟨_,rfl⟩;have HE:=Zh (Fin.o nb hnb);rw[<-hnb];have HbF:=Zh (HB.o.below hb1).bel;clear hnb hb1
   cases nb with
   |true=>
    go_wp2;go_ret;exact⟨Q3 HE.o.symm,HbF.o⟩
   |false=>
    go_wp2;go_ret;exact⟨Q3 HE.o.symm,HbF.o⟩
  clear hk hc hf;go_wp2_with fail
  refine(Nk _ ⟨rs,d⟩ D _ (H.o.below HB.o.bel)).mono ?_;rintro e w1⟨rfl,hb1⟩;obtain⟨nb,hnb⟩:∃nb,nb=decide (Y4 ⟨rs,d⟩):=⟨_,rfl⟩;have HE:=Zh (Fin.o nb hnb);rw[<-hnb];have HbF:=Zh (HB.o.below hb1).bel;clear hnb hb1
  cases nb with
  |true=>
   go_wp2;go_ret;exact⟨Q3 HE.o.symm,HbF.o⟩
  |false=>
   go_wp2;go_ret;exact⟨Q3 HE.o.symm,HbF.o⟩
 by_cases f0:fr=0
 .subst f0;have HE:Hid (UJ ⟨kd,cl,0,⟨rs,d⟩⟩=UZ ⟨rs,d⟩):=by show _=_;rw[HE0.o,if_neg (by rintro (h|h);exact h.2 rfl;exact h2 h.1),if_neg h2]
  rcases(by omega:kd=1\/kd=2)with rfl|rfl
  .clear hk hc hf h2;go_wp2_with fail
   refine(Vz _ ⟨rs,d⟩ D _ (H.o.below HB.o.bel)).mono ?_;rintro e w1⟨rfl,hb1⟩;have HbF:=Zh (HB.o.below hb1).bel;clear hb1;go_wp2;go_ret;exact⟨Q3 HE.o.symm,HbF.o⟩
  clear hk hc hf h2;go_wp2_with fail
  refine(Vz _ ⟨rs,d⟩ D _ (H.o.below HB.o.bel)).mono ?_;rintro e w1⟨rfl,hb1⟩;have HbF:=Zh (HB.o.below hb1).bel;clear hb1;go_wp2;go_ret;exact⟨Q3 HE.o.symm,HbF.o⟩
 have HE:Hid (UJ ⟨kd,cl,fr,⟨rs,d⟩⟩=4):=by show _=_;rw[HE0.o,if_pos (.inl ⟨by omega,f0⟩)]
 have b4:decide (0<fr)=true:=decide_eq_true (by omega);rcases(by omega:kd=1\/kd=2)with rfl|rfl
 .clear hk hc hf f0 h2;go_wp2;go_ret;exact⟨Q3 HE.o.symm,HbL.o⟩
 clear hk hc hf f0 h2;go_wp2;go_ret;exact⟨Q3 HE.o.symm,HbL.o⟩
theorem QdJ(v:Value)(l:List TCell)(D:Nat->Prop)(w:World)(h:Qo w D v l):
  Calls prog 92 #[v] w λe w'=>e=.returned (.int .i64 (cellsE l))/\Below w.heap.size w w':=by
 obtain⟨a,c,rfl,hlc,hcm,hat⟩:=Sl.form h;have H:=Zh h;clear h;by_cases h4:l.length=4
 .have He:=Zh (show cellsE l=V3 l by unfold cellsE;rw[if_pos h4]);have hz:((l.length:Int) != 4)=false:=by simp[h4]
  have H4:=Zh h4;have hat':=hat (by omega);obtain⟨b,o,rfl,hDb,hb⟩:=hat';clear hat h4;go_enter func92,ntmps92;go_wp2_with fail
  go_loopw[12](λi wr=>∃k:Nat,k<=l.length/\i=.int .i64 k/\V3 l=V3 (l.drop k)/\Below w.heap.size w wr) (λi _=>l.length-(intOf i).toNat)
  case atStart=>exact⟨0,by omega,rfl,rfl,Below.refl _ _⟩
  case round=>
   obtain⟨k,hk,rfl,hgo,hbw⟩:=hrel;have Hgo:=Zh hgo;have Hbw:=Zh hbw;clear hgo hbw;by_cases hlt:k<l.length
   .obtain⟨a1,a2,c1,c2,k0,k1,k2,k3,hrc,hrp⟩:=Qo.cells (H.o.below Hbw.o) hlt
    have bad:∀e:Int,VZ l[k]=e->e≠0->∀wz,Below w.heap.size w wz->Ending.returned (.int .i64 e)=.returned (.int .i64 (cellsE l))/\Below w.heap.size w wz:=λe he h0 wz hz=>by
     refine⟨Q3 ?_,hz⟩;rw[He.o,Hgo.o,YM l k hlt,he,if_neg h0]
    have good:VZ l[k]=0->V3 l=V3 (l.drop (k+1)):=λhe=>by rw[Hgo.o,YM l k hlt,if_pos he]
    have Hbad:=Zh bad;have Hgood:=Zh good;clear bad good;generalize hX:l[k]=X at *;clear hX;obtain⟨op,ch,⟨rs,d⟩⟩:=X;dsimp only at k0 k1 k2 k3 hrc hrp;have Hrc:=Zh hrc;have Hrp:=Zh hrp
    have Hsl:Hid (ch.length<=9223372036854775807/\rs.length<=9223372036854775807):=by
     obtain⟨_,_,hv1,h1,h2,_⟩:=Sl.form hrc;obtain⟨_,_,hv2,h3,h4,_⟩:=Sl.form hrp;exact⟨by omega,by omega⟩
    clear hrc hrp
    cases op with
    |false=>
     have HC:=Zh (Bx.one (w:=wr) (o:=.cells #[.bool false,.slice a1 ch.length c1,.slice a2 rs.length c2,.int .i64 d] 52));have HbC:=Zh (Ql Hbw.o HC.o.bel);rcases Nat.eq_zero_or_pos ch.length with hc0|hc0
     .obtain rfl:ch=[]:=List.length_eq_zero_iff.1 hc0;have e1:([]:List (List TIns)).length=0:=rfl;have Hrp1:=Zh (Hrp.o.below HC.o.bel);clear hc0;go_wp2_with fail
      refine(Nk _ ⟨rs,d⟩ D _ Hrp1.o).mono ?_;rintro e w1⟨rfl,hb1⟩;have HbC1:=Zh (Ql HbC.o hb1);have HC1:=Zh (HC.o.below hb1);have hq:=HC1.o.cells0;clear hb1 HC HbC;by_cases hn:Y4 ⟨rs,d⟩
      .have Hg:=Zh (Hgood.o (by unfold VZ;simp[hn]));rw[decide_eq_true hn];clear hn;go_wp2
       go_roundw
       case rel=>exact⟨k+1,by omega,by go_num,Hg.o,HbC1.o⟩
       case measure=>simp[intOf];omega
      have Hb:=Zh (Hbad.o 4 (by unfold VZ;simp[hn]) (by decide));rw[decide_eq_false hn];clear hn;go_wp2;go_ret;exact Hb.o _ HbC1.o
     have Hb:=Zh (Hbad.o 4 (by unfold VZ;rw[if_neg (by simp),if_neg (by intro h;have:=h.1;dsimp only at this;rw[this]at hc0;simp at hc0)]) (by decide));have z1:0<(ch.length:Int):=by omega
     have z0:ch≠[]:=λe=>by rw[e]at hc0;simp at hc0
     clear hc0;go_wp2;go_ret;exact Hb.o _ HbC.o
    |true=>
     rcases Nat.eq_zero_or_pos ch.length with hc0|hc0
     .obtain rfl:ch=[]:=List.length_eq_zero_iff.1 hc0;have Hb:=Zh (Hbad.o 4 (by unfold VZ;simp) (by decide));have e1:([]:List (List TIns)).length=0:=rfl;clear hc0;go_wp2;go_ret;exact Hb.o _ (Qa Hbw.o _)
     have hne:ch≠[]:=λe=>by rw[e]at hc0;simp at hc0
     have Hce:Hid (VZ ⟨true,ch,⟨rs,d⟩⟩=if chainE ch≠0 then chainE ch else UZ ⟨rs,d⟩):=by show VZ _=_;unfold VZ;simp[hne]
     have z1:((ch.length:Int)==0)=false:=by simpa using(show ¬(ch.length:Int)=0 by omega)
     have HC:=Zh (Bx.one (w:=wr) (o:=.cells #[.bool true,.slice a1 ch.length c1,.slice a2 rs.length c2,.int .i64 d] 52));have HbC:=Zh (Ql Hbw.o HC.o.bel);have z3:0<(ch.length:Int):=by omega
     clear hc0;go_wp2_with fail
     refine(Iu _ ch D _ (Hrc.o.below HC.o.bel)).mono ?_;rintro e w1⟨rfl,hb1⟩;have HC1:=Zh (HC.o.below hb1);have HbC1:=Zh (Ql HbC.o hb1);have Hrp1:=Zh ((Hrp.o.below HC.o.bel).below hb1);clear hb1 HC;by_cases he:chainE ch=0
     .rw[he];have hq:=HC1.o.cells0;go_wp2_with fail
      refine(Vz _ ⟨rs,d⟩ D _ Hrp1.o).mono ?_;rintro e w2⟨rfl,hb2⟩;have HbC2:=Zh (Ql HbC1.o hb2);clear hq hb2;by_cases hp:UZ ⟨rs,d⟩=0
      .have Hg:=Zh (Hgood.o (by rw[Hce.o,if_neg (by simp[he]),hp]));rw[hp];go_wp2
       go_roundw
       case rel=>exact⟨k+1,by omega,by go_num,Hg.o,HbC2.o⟩
       case measure=>simp[intOf];omega
      have Hb:=Zh (Hbad.o (UZ ⟨rs,d⟩) (by rw[Hce.o,if_neg (by simp[he])]) hp);have hp':(UZ ⟨rs,d⟩ != 0)=true:=bne_iff_ne.2 hp;generalize UZ ⟨rs,d⟩=E at Hb hp'⊢;clear hp;go_wp2;go_ret;exact Hb.o _ HbC2.o
     have Hb:=Zh (Hbad.o (chainE ch) (by rw[Hce.o,if_pos he]) he);have hp':(chainE ch != 0)=true:=bne_iff_ne.2 he;generalize chainE ch=E at Hb hp'⊢;clear he;go_wp2;go_ret;exact Hb.o _ HbC1.o
   obtain rfl:k=l.length:=by omega
   go_wp2;go_ret;exact⟨Q3 (by rw[He.o,Hgo.o,List.drop_length];rfl),Hbw.o⟩
 have He:=Zh (show cellsE l=4 by unfold cellsE;rw[if_neg h4]);have hz:((l.length:Int) != 4)=true:=bne_iff_ne.2 (by omega);clear h4 hat;go_enter func92,ntmps92;go_wp2;go_ret;exact⟨Q3 (by rw[He.o]),Below.refl _ _⟩
theorem QdK(x y:TCell)(a1 a2 b1 b2:Option Addr)(c1 c2 d1 d2:Nat)(w:World)(h1:Qz w (λ_=>True) (.slice a1 x.chain.length c1) x.chain)(h2:Qc w (λ_=>True) (.slice a2 x.p.ru.length c2) x.p.ru)(h3:Qz w (λ_=>True) (.slice b1 y.chain.length d1) y.chain)(h4:Qc w (λ_=>True) (.slice b2 y.p.ru.length d2) y.p.ru):
  Calls prog 90 #[cellV x a1 c1 a2 c2,cellV y b1 d1 b2 d2] w λe w'=>e=.returned (.bool (decide (x=y)))/\Below w.heap.size w w':=by
 have H1:=Zh h1;have H2:=Zh h2;have H3:=Zh h3;have H4:=Zh h4;clear h1 h2 h3 h4;obtain⟨ox,cx,px⟩:=x;obtain⟨oy,cy,py⟩:=y;dsimp only at H1 H2 H3 H4⊢;have HB:=Zh (Bx.two (w:=w) (o:=.cells #[.bool ox,.slice a1 cx.length c1,.slice a2 px.ru.length c2,.int .i64 px.df] 52) (o':=.cells #[.bool oy,.slice b1 cy.length d1,.slice b2 py.ru.length d2,.int .i64 py.df] 52));have HD:Hid (decide ((⟨ox,cx,px⟩:TCell)=⟨oy,cy,py⟩)=(decide (ox=oy)&&decide (cx=cy)&&decide (px=py))):=by show _=_;simp[Bool.and_assoc]
 by_cases ho:ox=oy
 .subst ho;go_enter func90,ntmps90;go_wp2_with fail
  refine(QdG _ _ cx cy _ (H1.o.below HB.o.bel) (H3.o.below HB.o.bel)).mono ?_;rintro e w1⟨rfl,hb1⟩;have HB1:=Zh (HB.o.below hb1);clear hb1;by_cases hc:cx=cy
  .have d1:decide (cx=cy)=true:=decide_eq_true hc;have HD':Hid (decide ((⟨ox,cx,px⟩:TCell)=⟨ox,cy,py⟩)=decide (px=py)):=by show _=_;rw[HD.o,d1];simp
   rw[d1];clear hc HD d1;have hq0:=HB1.o.cells0;have hq1:=HB1.o.cells1;go_wp2_with fail
   refine(QgE _ _ px py (λ_=>True) _ (Qc.below H2.o HB1.o.bel) (Qc.below H4.o HB1.o.bel)).mono ?_;rintro e w2⟨rfl,hb2⟩;have HB2:=Zh (HB1.o.below hb2);clear hq0 hq1 hb2;go_wp2;go_ret;exact⟨by rw[HD'.o];rfl,HB2.o.bel⟩
  have d1:decide (cx=cy)=false:=decide_eq_false hc;have HD':Hid (decide ((⟨ox,cx,px⟩:TCell)=⟨ox,cy,py⟩)=false):=by show _=_;rw[HD.o,d1];simp
  rw[d1];clear hc HD d1;go_wp2;go_ret;exact⟨by rw[HD'.o];rfl,HB1.o.bel⟩
 have d1:(ox==oy)=false:=by simpa using ho
 have HD':Hid (decide ((⟨ox,cx,px⟩:TCell)=⟨oy,cy,py⟩)=false):=by show _=_;rw[HD.o];simp[ho]
 clear ho HD;have HBL:Hid (Below w.heap.size w _):=HB.o.bel;go_enter func90,ntmps90;go_wp2;go_ret;exact⟨by rw[HD'.o];rfl,HBL.o⟩
theorem QhC(v u:Value)(xs ys:List TCell)(w:World)(h:Qo w (λ_=>True) v xs)(h':Qo w (λ_=>True) u ys):
  Calls prog 89 #[v,u,.func (.func 90) #[] #[]] w λe w'=>e=.returned (.bool (decide (xs=ys)))/\Below w.heap.size w w':=by
 have H:=Zh h;have H':=Zh h';obtain⟨a,c,rfl,hlc,hcm,hat⟩:=Sl.form h;obtain⟨a',c',rfl,hlc',hcm',hat'⟩:=Sl.form h';clear h h';by_cases hl:xs.length=ys.length
 .have Hl:=Zh hl;have hln:((xs.length:Int) !=(ys.length:Int))=false:=by rw[hl];simp
  clear hl;go_enter func89,ntmps89;go_wp2_with fail
  go_loopw[17](λi wr=>∃k:Nat,k<=xs.length/\i=.int .i64 k/\xs.take k=ys.take k/\Below w.heap.size w wr) (λi _=>xs.length-(intOf i).toNat)
  case atStart=>exact⟨0,by omega,rfl,rfl,Below.refl _ _⟩
  case round=>
   obtain⟨k,hk,rfl,htk,hbw⟩:=hrel;have Ht:=Zh htk;have Hb:=Zh hbw;clear htk hbw;by_cases hlt:k<xs.length
   .obtain⟨b,o,rfl,_,_⟩:=hat (by omega);obtain⟨b',o',rfl,_,_⟩:=hat' (by rw[<-Hl.o];omega);have hlt':k<ys.length:=by rw[<-Hl.o];exact hlt
    obtain⟨a1,a2,c1,c2,x0,x1,x2,x3,hr1,hp1⟩:=Qo.cells (H.o.below Hb.o) hlt;obtain⟨b1,b2,d1,d2,y0,y1,y2,y3,hr2,hp2⟩:=Qo.cells (H'.o.below Hb.o) hlt';have Hr1:=Zh hr1;have Hr2:=Zh hr2;have Hp1:=Zh hp1;have Hp2:=Zh hp2;have HC:=Zh (Bx.two (w:=wr) (o:=.cells #[.bool xs[k].open_,.slice a1 xs[k].chain.length c1,.slice a2 xs[k].p.ru.length c2,.int .i64 xs[k].p.df] 52) (o':=.cells #[.bool ys[k].open_,.slice b1 ys[k].chain.length d1,.slice b2 ys[k].p.ru.length d2,.int .i64 ys[k].p.df] 52));have q0:∀O,(wr.alloc O).cell? ⟨b',o'+k*4,none⟩=_:=λO=>(Below.cell_alloc' O y0);have q1:∀O,(wr.alloc O).cell? ⟨b',o'+k*4+1,none⟩=_:=λO=>(Below.cell_alloc' O y1);have q2:∀O,(wr.alloc O).cell? ⟨b',o'+k*4+2,none⟩=_:=λO=>(Below.cell_alloc' O y2);have q3:∀O,(wr.alloc O).cell? ⟨b',o'+k*4+3,none⟩=_:=λO=>(Below.cell_alloc' O y3);clear hr1 hr2 hp1 hp2;go_wp2_with fail
    refine(QdK xs[k] ys[k] _ _ _ _ _ _ _ _ _ (Hr1.o.below HC.o.bel) (Qc.below Hp1.o HC.o.bel) (Hr2.o.below HC.o.bel) (Qc.below Hp2.o HC.o.bel)).mono ?_;rintro e w1⟨rfl,hb1⟩;have Hb1:=Zh (Ql (Ql Hb.o HC.o.bel) hb1);clear hb1 x0 x1 x2 x3 y0 y1 y2 y3 q0 q1 q2 q3 HC;by_cases he:xs[k]=ys[k]
    .have Hn:=Zh (XM hlt hlt' Ht.o he);have d:decide (xs[k]=ys[k])=true:=decide_eq_true he;clear he;rw[d];go_wp2
     go_roundw
     case rel=>first|exact⟨k+1,by omega,by go_num,Hn.o,Hb1.o⟩|((repeat apply Exists.intro);exact⟨⟨k+1,by omega,by go_num,Hn.o,Hb1.o⟩,rfl⟩)
     case measure=>simp[intOf];omega
    have Hn:=Zh (Zl hlt hlt' he);have d:decide (xs[k]=ys[k])=false:=decide_eq_false he;clear he;rw[d];go_wp2;go_ret;exact⟨by rw[decide_eq_false Hn.o];rfl,Hb1.o⟩
   obtain rfl:k=xs.length:=by omega
   have Hn:Hid (xs=ys):=by
    have:=Ht.o;rw[List.take_length,Hl.o,List.take_length]at this;exact this
   go_wp2;go_ret;exact⟨by rw[decide_eq_true Hn.o];rfl,Hb.o⟩
 have hn:xs≠ys:=λe=>hl (by rw[e]);have hl':((xs.length:Int) !=(ys.length:Int))=true:=bne_iff_ne.2 (by omega);have HD:=Zh (decide_eq_false hn);clear hn;go_enter func89,ntmps89;go_wp2;go_ret;exact⟨by rw[HD.o];rfl,Below.refl _ _⟩
theorem ZI(v u:Value)(xs ys:List TCell)(w:World)(h:Qo w (λ_=>True) v xs)(h':Qo w (λ_=>True) u ys):
  Calls prog 52 #[v,u] w λe w'=>e=.returned (.bool (decide (xs=ys)))/\Below w.heap.size w w':=by
 have H:=Zh h;have H':=Zh h';obtain⟨a,c,rfl,_⟩:=Sl.form h;obtain⟨a',c',rfl,_⟩:=Sl.form h';clear h h';go_enter func52,ntmps52;go_wp2_with fail
 refine(QhC _ _ xs ys w H.o H'.o).mono ?_;rintro e w1⟨rfl,hb1⟩;go_wp2;go_ret;exact⟨rfl,hb1⟩
end
section
open Go.RowKit
theorem EE:(prog.info? 144).map (·.size)=some 2:=by kernel_rfl
theorem liesBuilder:liesAt prog prog.depth 144 (2 / prog.cellsOf 144) 0 144 1=true:=by kernel_rfl
theorem Qf7:(prog.info? 5).map (λi=>(i.zero,i.size,i.bytes))=some (some (.int .u8 0),1,1):=by kernel_rfl
theorem QeO:prog.cellsOf 5=1:=by kernel_rfl
def Bd(B b:Nat)(l:List UInt8)(w:World):Prop:=Lib.IsBuilder 144 5 B b (Lib.byteCells l) w
theorem Qdd(b:Nat)(w:World)(h0:w.cell? ⟨b,0,none⟩=some (.pointer (some ⟨b,0,none⟩))):
  Calls prog 141 #[.pointer (some ⟨b,0,none⟩)] w λe w'=>e=.returned (.tuple #[])/\w'=w:=by
 obtain⟨j,hj,_⟩:=Option.map_eq_some_iff.1 EE;go_enter func141,ntmps141;go_wp2;rw[Lib.run_neq_ptr_same w _ underlying142 hj];go_wp2
 go_end0
 exact⟨rfl,rfl⟩
theorem QbW(b:Nat)(w:World)(h0:w.cell? ⟨b,0,none⟩=some (.pointer none))(hsh:w.shape? b=some (144,2))(hfz:w.frozen? ⟨b,0,none⟩=false):
  Calls prog 141 #[.pointer (some ⟨b,0,none⟩)] w λe w'=>e=.returned (.tuple #[])/\w'=w.setCell ⟨b,0,none⟩ (.pointer (some ⟨b,0,none⟩)):=by
 obtain⟨j,hj,hjs⟩:=Option.map_eq_some_iff.1 EE;go_enter func141,ntmps141;go_wp2;rw[Lib.run_to_unsafe w ⟨b,0,none⟩ underlying142 underlying205 hj (by rw[hjs];decide) hsh (Nat.zero_lt_succ 1)];simp only[Result.andThen];rw[Oper.upon_value];go_wp2;rw[run_callFunc_extern func168 (by kernel_rfl) (by kernel_rfl) (by kernel_rfl) (e:=Extern.AbiNoEscape.same) (by kernel_rfl)];rw[Lib.run_noEscape];simp only[Result.andThen];rw[Oper.upon_value];go_wp2;rw[Lib.run_from_unsafe w ⟨b,0,none⟩ underlying205 underlying142 hj hsh liesBuilder];simp only[Result.andThen];rw[Oper.upon_value];go_wp2
 go_end0
 exact⟨rfl,rfl⟩
def BFr(b:Nat)(w w':World):Prop:=∀k,k<w.heap.size->k≠b->(∀v,w.cell? ⟨b,1,none⟩=some v->v.ownBlock≠some k)->w'.heap[k]?=w.heap[k]?
theorem QeK(B b:Nat)(bs:List Value)(w:World)(h:Lib.IsBuilder 144 5 B b bs w):
  Calls prog 141 #[.pointer (some ⟨b,0,none⟩)] w λe w'=>e=.returned (.tuple #[])/\(Lib.BuilderAt 144 5 B b (.pointer (some ⟨b,0,none⟩)) bs w'/\Below B w w')/\w'.heap.size=w.heap.size/\(∀k,k≠b->w'.heap[k]?=w.heap[k]?)/\w'.cell? ⟨b,1,none⟩=w.cell? ⟨b,1,none⟩:=by
 rcases h with h|h
 .refine(QbW b w h.cell0 h.shape h.frozen0).mono ?_;rintro e w'⟨rfl,rfl⟩;exact⟨rfl,⟨h.used _,(Below.refl B w).setCell (p:=⟨b,0,none⟩) h.1 _⟩,by simp[World.setCell],λk hk=>Below.heap_setCell _ _ _ _ (λe=>hk e),World.cell?_setCell_other _ _ _ _ (by intro e;injection e with _ e _;cases e)⟩
 refine(Qdd b w h.cell0).mono ?_;rintro e w'⟨rfl,rfl⟩;exact⟨rfl,⟨h,Below.refl B _⟩,rfl,λ_ _=>rfl,rfl⟩
theorem Jo(B b:Nat)(l:List UInt8)(s:ByteArray)(w:World)(h:Bd B b l w)(hlen:l.length+s.size<=140737488355328)(hBw:B<=w.heap.size):
  Calls prog 102 #[.pointer (some ⟨b,0,none⟩),.string s] w λe w'=>e=.returned (.tuple #[.int .i64 s.size,.nilIface])/\Bd B b (l++s.data.toList) w'/\Below B w w'/\BFr b w w':=by
 obtain⟨i0,hi,hz0,hz1,hz2⟩:=info_parts Qf7;have hl:(Lib.byteCells l).length=l.length:=Lib.byteCells_length l;have H:=Zh h;have Hi:=Zh hi;clear h hi;go_enter func102,ntmps102;go_wp2_with fail
 refine(QeK B b _ _ H.o).mono ?_;rintro e w1⟨rfl,⟨h1,hb1⟩,hs1,hk1,hc11⟩;obtain⟨hB,v,hbk,hown,hne⟩:=h1;have Hk1:=Zh hk1;have Hs1:=Zh hs1;have Hc11:=Zh hc11;clear hk1 hs1 hc11;have c0:w1.cell? ⟨b,0,none⟩=some (.pointer (some ⟨b,0,none⟩)):=by rw[Lib.cell_of_heap hbk];rfl
 have c1:w1.cell? ⟨b,1,none⟩=some v:=by rw[Lib.cell_of_heap hbk];rfl
 have Hown:=Zh hown;have Hbk:=Zh hbk;have Hb1:=Zh hb1;have Hne:=Zh hne;clear hown hbk hb1 hne;go_wp2_with(at_builtin;refine Lib.wpList_append_own_string _ rfl _ _ 23 9 rfl B 5 i0 underlying23 underlying9 Hi.o hz0 hz1 hz2 _ _ _ rfl Hown.o s rfl ?c3 ?c4 ?c5 ?_)
 case c3=>rw[hl];unfold maxLen;omega
 case c4=>rw[hl];omega
 case c5=>have:=Hb1.o.size;omega
 intro v' w2 hown' hgrow _;have hlt:b<w1.heap.size:=(Array.getElem?_eq_some_iff.1 Hbk.o).1
 have hb2:w2.heap[b]?=some (.cells #[.pointer (some ⟨b,0,none⟩),v] 144 (0,0)):=by
  rw[hgrow.block b hlt (λe=>Hne.o e.symm)];exact Hbk.o
 have d0:w2.cell? ⟨b,0,none⟩=some (.pointer (some ⟨b,0,none⟩)):=by rw[Lib.cell_of_heap hb2];rfl
 have d1:w2.cell? ⟨b,1,none⟩=some v:=by rw[Lib.cell_of_heap hb2];rfl
 have f1:w2.frozen? ⟨b,1,none⟩=false:=Lib.frozen_of_heap hb2 1
 obtain⟨ao,n',cap,rfl⟩:∃ao n' cap,v'=.slice ao n' cap:=by
  rcases hown'.2 with⟨hv,_⟩|⟨g,cap,cur,hv,_⟩
  .exact⟨_,_,_,hv⟩
  exact⟨_,_,_,hv⟩
 have Hgrow:=Zh hgrow;have Hown':=Zh hown';have Hb2:=Zh hb2;have Hc1:Hid (w.cell? ⟨b,1,none⟩=some v):=by show _=_;rw[<-Hc11.o];exact c1
 clear hgrow hown' hb2 c0 c1;go_wp2;go_ret2;refine⟨rfl,?_,?_,?_⟩
 .have hap:Lib.byteCells l++Lib.strCells s=Lib.byteCells (l++s.data.toList):=by rw[Lib.byteCells_append];rfl
  have:=Hown'.o;rw[hap]at this;refine .inr (Lib.BuilderAt.put (T:=144) (e:=5) hB Hb2.o ?_ (by decide))
  have hl2:(Lib.byteCells (l++s.data.toList)).length=(Lib.byteCells l).length+s.size:=by
   rw[Lib.byteCells_length,List.length_append,hl];rfl
  rw[hl2,hl];exact this
 .exact(Hb1.o.grown Hgrow.o (by have:=Hb1.o.size;omega) (λk hk=>(Hown.o.lt k hk).1)).setCell (p:=⟨b,1,none⟩) hB _
 intro k hk hkb hkv;rw[Below.heap_setCell _ _ _ _ (λe=>hkb e),Hgrow.o.block k (by rw[Hs1.o];exact hk) (λe=>hkv v Hc1.o e.symm)];exact Hk1.o k hkb
theorem Bd.lt{B b:Nat}{l:List UInt8}{w:World}(h:Bd B b l w):B<=b/\b<w.heap.size:=by
 rcases h with h|h
 .exact⟨h.1,h.lt⟩
 exact⟨h.1,h.lt⟩
theorem Bd.own{B b:Nat}{l:List UInt8}{w:World}(h:Bd B b l w):∀v,w.cell? ⟨b,1,none⟩=some v->∀g,v.ownBlock=some g->g<w.heap.size:=by
 have key:∀p,Lib.BuilderAt 144 5 B b p (Lib.byteCells l) w->∀v,w.cell? ⟨b,1,none⟩=some v->∀g,v.ownBlock=some g->g<w.heap.size:=by
  rintro p⟨hB,v,hbk,hown,hne⟩ v' hv g hg;rw[Lib.cell_of_heap hbk]at hv;injection hv with hv;subst hv;exact(hown.lt g hg).2
 rcases h with h|h
 .exact key _ h
 exact key _ h
theorem Bd.below{B b:Nat}{l:List UInt8}{w w':World}(h:Bd B b l w)(hb:Below w.heap.size w w'):Bd B b l w':=by
 have key:∀p,Lib.BuilderAt 144 5 B b p (Lib.byteCells l) w->Lib.BuilderAt 144 5 B b p (Lib.byteCells l) w':=by
  rintro p⟨hB,v,hbk,hown,hne⟩
  exact⟨hB,v,(hb.block b (Array.getElem?_eq_some_iff.1 hbk).1).trans hbk,by
   obtain⟨h1,h2⟩:=hown;refine⟨h1,?_⟩;rcases h2 with h2|⟨g,cap,cur,hv,hg,hh,r⟩
   .exact .inl h2
   exact .inr ⟨g,cap,cur,hv,hg,(hb.block g (Array.getElem?_eq_some_iff.1 hh).1).trans hh,r⟩,hne⟩
 rcases h with h|h
 .exact .inl (key _ h)
 exact .inr (key _ h)
def Qn(B:Nat)(W W':World):Prop:=W.heap.size<=W'.heap.size/\∀k,B<=k->k<W.heap.size->W'.heap[k]?=W.heap[k]?
theorem Qn.of_below{B:Nat}{W W':World}(h:Below W.heap.size W W'):Qn B W W':=⟨h.size,λk _ hk=>h.block k hk⟩
theorem Bd.keep{B b:Nat}{l:List UInt8}{w0 W W':World}(h:Bd B b l w0)(hC:Below w0.heap.size w0 W)(hF:BFr b W W')(hs:W.heap.size<=W'.heap.size):Qn w0.heap.size W W':=by
 refine⟨hs,λk hk hlt=>hF k hlt (by have:=h.lt;omega) λv hv e=>?_⟩
 have hv':w0.cell? ⟨b,1,none⟩=some v:=by
  rw[<-hv];exact(hC.cell (p:=⟨b,1,none⟩) h.lt.2).symm
 have:=h.own v hv' k e;omega
theorem Qdf(B b:Nat)(l:List UInt8)(w:World)(h:Bd B b l w)(h0:l≠[]):
  Calls prog 106 #[.pointer (some ⟨b,0,none⟩)] w λe w'=>e=.returned (.string ⟨l.toArray⟩)/\Below B w w':=by
 obtain⟨p,hB,v,hbk,hown,hne⟩:∃p,Lib.BuilderAt 144 5 B b p (Lib.byteCells l) w:=by
  rcases h with h|h
  .exact⟨_,h⟩
  exact⟨_,h⟩
 have hl0:l.length≠0:=by simpa using h0
 rw[Lib.byteCells_length]at hown
 obtain⟨g,cap,cur,rfl,hbg,hg,hnc,hcm,hcs,htake⟩:∃g cap cur,v=.slice (some ⟨g,0,none⟩) l.length cap/\B<=g/\w.heap[g]?=some (.cells cur 5 (0,0))/\l.length<=cap/\cap<=maxLen/\cur.size=cap*1/\cur.toList.take (l.length*1)=Lib.byteCells l:=by
  rcases hown.2 with⟨_,hz⟩|⟨g,cap,cur,hv,r⟩
  .exact absurd hz hl0
  exact⟨g,cap,cur,hv,r⟩
 have c1:w.drew.cell? ⟨b,1,none⟩=some (.slice (some ⟨g,0,none⟩) l.length cap):=by
  have:w.drew.heap[b]?=some (.cells #[p,.slice (some ⟨g,0,none⟩) l.length cap] 144 (0,0)):=hbk;rw[Lib.cell_of_heap this];rfl
 have hSD:(Builtin.unsafeSliceData_ #[23] 184 #[.slice (some ⟨g,0,none⟩) l.length cap]).run prog w.drew=.ok (.pointer (some ⟨g,0,none⟩)) w.drew:=
  Lib.run_unsafeSliceData_row _ _ _ _ _ _ (by omega)
 have hUS:(Builtin.unsafeString_ #[184,3] 9 #[.pointer (some ⟨g,0,none⟩),.int .i64 l.length]).run prog w.drew=.ok (.string ⟨l.toArray⟩) (w.drew.freeze ⟨g,0,none⟩ l.length):=by
  refine Lib.run_unsafeString_row w.drew 184 3 9 5 underlying184 QeO g cur.size (by have hg':w.drew.heap[g]?=some (.cells cur 5 (0,0)):=hg;simp[World.shape?,hg']) l h0 (by omega) (by unfold maxLen at hcm;omega) ?_;intro j x hx;have:=hown.cells (g:=g) rfl j (.int .u8 x.toNat) (by simp[Lib.byteCells,hx]);exact this
 have Hg:=Zh hg;clear h hown hne hbk hg htake hcs hcm hnc h0;go_enter func106,ntmps106;go_wp2
 go_region
 all_goals(go_wp2;go_ret;exact⟨rfl,Lib.below_freeze (Below.drew (Below.refl B w)) (p:=⟨g,0,none⟩) hbg _⟩)
end
section
open Go.RowKit
def V8(n:Nat)(w0:World)(Fin:World->Prop)(dn:Nat->Bool)(W:World):Prop:=if dn n=true then Fin W else Cls w0.heap.size w0 W
section
variable{n k:Nat}{w0 W W':World}{Fin:World->Prop}{dn:Nat->Bool}
theorem V8.start:V8 n w0 Fin (λ_=>false) w0.drew:=by
 unfold V8;rw[if_neg (by simp)];exact⟨Nat.le_refl _,Zbr.drew⟩
theorem V8.before(h:V8 n w0 Fin dn W)(hd:dn n=false):Cls w0.heap.size w0 W:=by
 unfold V8 at h;rw[if_neg (by rw[hd];simp)]at h;exact h
theorem V8.step(h:V8 n w0 Fin dn W)(hd:dn n=false)(hk:n≠k)(hb:Below W.heap.size W W'):V8 n w0 Fin (Qe dn k) W':=by
 have hC:=h.before hd;unfold V8 Qe;rw[if_neg hk,hd,if_neg (by simp)];exact hC.step hb
theorem V8.at_(h:Fin W):V8 n w0 Fin (Qe dn n) W:=by
 unfold V8 Qe;rw[if_pos rfl,if_pos rfl];exact h
theorem V8.after(h:V8 n w0 Fin dn W)(hd:dn n=true):Fin W:=by
 unfold V8 at h;rw[if_pos hd]at h;exact h
end
def YF(B:Nat)(p:Value->World->Prop):Prop:=∀v w w',Qn B w w'->p v w->p v w'
def QbH(B:Nat):List Spec->Prop
 |[]=>True
 |s::r=>((∃x,s=ex x)\/∃p,s=pr p/\YF B p)/\QbH B r
theorem Iy{B:Nat}:∀(ss:List Spec),QbH B ss->∀s∈ss,∀v w w',Qn B w w'->s.fact v w->s.fact v w'
 |[],_,s,h=>by cases h
 |s0::r,h,s,hm=>by
  rcases List.mem_cons.1 hm with rfl|hm
  .rcases h.1 with⟨x,rfl⟩|⟨p,rfl,hp⟩
   .exact λ_ _ _ _ _=>trivial
   exact λv w w' hg hf=>hp v w w' hg hf
  exact Iy r h.2 s hm
theorem Un{P:Program}{l:List Oper}{Q:Exit->Act->World->Prop}{a:Act}{id:Nat}{w:World}(n B:Nat)(ss:List Spec)(Fin:World->Prop)(hm:P.follows .mixedOrders=true)(hB:YD (l.map prune) a.tmps.size=true)
  (hst:QbH B ss) (bs:List (List Nat)) (hbs:befores (l.map prune) []=bs) (h:IE P l.toArray (V8 n w Fin) (λ_ W W'=>Qn B W W') bs (Q .normal) l.length l ss 0 a [] (λ_=>True)):(Code.region id l.toArray true).wp P Q a w:=
 XN ss (V8 n w Fin) (λ_ W W'=>Qn B W W') hm hB (λ_ _ s _ hk v _ w1 w2 _ hT hf=>Iy ss hst s (List.mem_of_getElem? hk) v w1 w2 hT hf) V8.start bs hbs h
def Qah(B:Nat)(T:TypeId)(cells:Array Value)(n:Nat)(v:Value)(W:World):Prop:=∃b,v=.slice (some ⟨b,0,none⟩) n n/\B<=b/\W.heap[b]?=some (.cells cells T)
def VAt(B:Nat)(T:TypeId)(cells:Array Value)(k:Nat)(v:Value)(W:World):Prop:=∃b,v=.pointer (some ⟨b,k,none⟩)/\B<=b/\W.heap[b]?=some (.cells cells T)
theorem Qah.stable{B n:Nat}{T:TypeId}{cells:Array Value}:YF B (Qah B T cells n):=λv w w' h ⟨b,hv,hB,hb⟩=>⟨b,hv,hB,(h.2 b hB (Array.getElem?_eq_some_iff.1 hb).1).trans hb⟩
theorem VAt.stable{B k:Nat}{T:TypeId}{cells:Array Value}:YF B (VAt B T cells k):=λv w w' h ⟨b,hv,hB,hb⟩=>⟨b,hv,hB,(h.2 b hB (Array.getElem?_eq_some_iff.1 hb).1).trans hb⟩
end
end Go.Proofs.YthkgjohhbdipcaaGreatDoor
