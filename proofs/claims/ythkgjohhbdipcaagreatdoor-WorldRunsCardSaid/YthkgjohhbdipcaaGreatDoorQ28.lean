/- Texts laid one behind the other: RTight2, KCheck, PolCopy, Begin, CloneCell. No condition beyond theirs. -/
import Derived.Test.YthkgjohhbdipcaaGreatDoorQ27
import Derived.Test.YthkgjohhbdipcaaGreatDoorQ8
import Derived.Test.YthkgjohhbdipcaaGreatDoorQ14
import Derived.Test.YthkgjohhbdipcaaGreatDoorQ20
import Derived.Test.YthkgjohhbdipcaaGreatDoorQ25
import Derived.Test.YthkgjohhbdipcaaGreatDoorQ4
import Derived.Test.YthkgjohhbdipcaaGreatDoorQ3
set_option linter.all false
set_option maxHeartbeats 64000000
set_option maxRecDepth 100000
namespace Go.Proofs.YthkgjohhbdipcaaGreatDoor
open Tryz
section
open Go.RowKit
theorem QcJ(v u0 u1:Value)(l:List (List TIns))(p q:TPol)(D:Nat->Prop)(w:World)(h:Qz w D v l)(hp:Qc w (λ_=>True) u0 p.ru)(hq:Qc w (λ_=>True) u1 q.ru):
  Calls prog 94 #[v,U8 u0 p.df,U8 u1 q.df] w λe w'=>∃v',e=.returned (.tuple #[v',.int .i64 (UC l p q).2])/\Qz w' (λb=>D b\/w.heap.size<=b) v' (UC l p q).1/\Below w.heap.size w w':=by
 have H:=Zh h;have Hp:=Zh hp;have Hq:=Zh hq;obtain⟨a,c,rfl,hlc,hcm,hat⟩:=Sl.form h;obtain⟨ap,cp,rfl,_⟩:=Sl.form hp;obtain⟨aq,cq,rfl,_⟩:=Sl.form hq;clear h hp hq;obtain⟨⟨Y,ye⟩,hY⟩:∃E,Us p q=E:=⟨_,rfl⟩;have HY:=Zh hY;obtain⟨⟨F,fe⟩,hF⟩:∃E,Uy Y=E:=⟨_,rfl⟩;have HF:=Zh hF;have HFl:Hid (fe=0->Q7 Y=F):=λh=>by have:=(XU (p:=Y) (by rw[hF];exact h)).2.1;rw[hF]at this;exact(Prod.mk.inj this).1.symm
 have HT:Hid (UC l p q=if chainE l≠0 then([],chainE l)else if ye≠0 then([],ye)else if l.length=6 then([],2)else if fe≠0 then([],fe)else(l++[Q7 Y],0)):=by
  show UC l p q=_;unfold UC;rw[hY];dsimp only;rw[hF]
 clear hY hF;go_enter func94,ntmps94;go_wp2_with fail
 have HB:=Zh (Bx.two (w:=w) (o:=.cells #[.slice ap p.ru.length cp,.int .i64 p.df] 38) (o':=.cells #[.slice aq q.ru.length cq,.int .i64 q.df] 38));refine(Iu _ l D _ (H.o.below HB.o.bel)).mono ?_;rintro e w1⟨rfl,hb1⟩;have HB1:=Zh (HB.o.below hb1);clear hb1;by_cases h0:chainE l=0
 .obtain⟨hl6,hcodes⟩:=(V9 l).1 h0;have Hcd:=Zh hcodes;have H0:=Zh h0;have hq0:=HB1.o.cells0;have hq1:=HB1.o.cells1;rw[h0];clear h0 hcodes;go_wp2_with fail
  refine(Qfh _ _ p q _ (Hp.o.below HB1.o.bel) (Hq.o.below HB1.o.bel)).mono ?_;rw[HY.o];rintro e w2⟨rY,rfl,hrY,hb2⟩;have HB2:=Zh (HB1.o.below hb2);have RY:=Zh (VT hrY);obtain⟨aY,cY,rfl,_⟩:=Sl.form hrY;have HC:=Zh (Bx.one (w:=w2) (o:=.cells #[.slice aY Y.ru.length cY,.int .i64 Y.df] 38));have HB3:=Zh (HB2.o.below HC.o.bel);have RY3:=Zh (RY.o.below HC.o.bel);have hqc:=HC.o.cells0;clear hrY hb2 hq0 hq1;by_cases hy:ye=0
  .subst hy;by_cases h6:l.length=6
   .have HE:Hid (UC l p q=([],2)):=by show UC l p q=_;rw[HT.o,if_neg (by rw[H0.o];simp),if_neg (by simp),if_pos h6]
    have HBf:=Zh HB3.o.bel;have h6':((l.length:Int)==6)=true:=beq_iff_eq.2 (by omega);go_wp2;go_ret2;rw[HE.o];exact⟨_,rfl,V6 _ _,HBf.o⟩
   have h6':((l.length:Int)==6)=false:=by simpa using(show ¬(l.length:Int)=6 by omega)
   go_wp2_with fail
   refine(Gl _ Y _ _ RY3.o).mono ?_;rw[HF.o];rintro e w4⟨vF,rfl,hrF,hb4⟩;have HB4:=Zh (HB3.o.below hb4);have RF:=Zh hrF;obtain⟨aF,cF,rfl,_⟩:=Sl.form hrF;clear hrF hb4 hqc;by_cases hf:fe=0
   .subst hf;have HE:Hid (UC l p q=(l++[F],0)):=by show UC l p q=_;rw[HT.o,if_neg (by rw[H0.o];simp),if_neg (by simp),if_neg h6,if_neg (by simp),HFl.o rfl]
    have htop:w.heap.size+2<=w4.heap.size:=HB4.o.top;have hsz3:w.heap.size<=(w2.alloc (.cells #[.slice aY Y.ru.length cY,.int .i64 Y.df] 38)).heap.size:=HB3.o.bel.size;obtain⟨i0,hi,hz0,hz1,hz2⟩:=info_parts OE;have Hi:=Zh hi;have H4:Hid (Qz w4 (λb=>b<w4.heap.size/\(D b\/w.heap.size<=b)) (.slice a l.length c) l):=Qz.keep (H.o.below HB4.o.bel) (λ_ hd hl=>⟨hl,.inl hd⟩) (λ_ _ _=>rfl) Znl;have RF4:Hid (QW w4 (λb=>b<w4.heap.size/\(D b\/w.heap.size<=b)) (.slice aF F.length cF) F):=RF.o.keep (λb hb hl=>⟨hl,.inr (Nat.le_trans hsz3 hb)⟩) (λ_ _ _=>rfl) Znl;have h4c:∀(b o:Nat),a=some ⟨b,o,none⟩->True:=λ_ _ _=>trivial;obtain⟨w5,hw5⟩:∃w5,w4.alloc (.cells #[] 98)=w5:=⟨_,rfl⟩;have Hb5:Hid (Below w4.heap.size w4 w5):=by show Below _ _ _;rw[<-hw5];exact Qa Zbr _
    have Ho5:Hid (Qg w5 w4.heap.size 98 1 (XQ w5 (λb=>b<w4.heap.size/\(D b\/w.heap.size<=b))) (.slice (some ⟨w4.heap.size,0,none⟩) 0 0) []):=Qgr (by rw[<-hw5];exact Qh _ _) Znl;have H5:=Zh (H4.o.below Hb5.o);have RF5:Hid (QW w5 (λb=>b<w4.heap.size/\(D b\/w.heap.size<=b)) (.slice aF F.length cF) F):=RF4.o.below Hb5.o;have hsz5:w5.heap.size=w4.heap.size+1:=by rw[<-hw5];simp
    clear hi h4c;have hq4:=HB4.o.bel.size
    go_wp2_with(at_builtin;first
     |(refine QK rfl _ _ 50 rfl w4.heap.size 98 i0 _ 1 24 underlying50 Hi.o hz0 hz1 hz2 rfl (by decide) _ _ rfl Ho7.o _ _ rfl HN7.o (λy _ cs h=>Jq y cs h) (by show _+1<=maxLen;unfold maxLen;omega) (by show(_+1)*24<=_;omega) (by simp;omega) ?_;intro v8 w8 hown8 hg8 hat8;have Hown8:=Zh hown8;have Hg8:=Zh hg8;clear hown8 hg8 hat8)
     |(refine QK rfl _ _ 50 rfl w4.heap.size 98 i0 _ 1 24 underlying50 Hi.o hz0 hz1 hz2 rfl (by decide) _ _ rfl Ho5.o _ _ rfl H5.o (λy _ cs h=>Jq y cs h) (by show 0+_<=maxLen;unfold maxLen;omega) (by show(0+_)*24<=_;omega) (by omega) ?_;intro v6 w6 hown6 hg6 hat6;rw[List.nil_append]at hown6;have Hg6:=Zh hg6;have hsame:∀b,b<w4.heap.size->w6.heap[b]?=w5.heap[b]?:=(λb hb=>Hg6.o.block b (by omega) (λe=>by have e2:some b=some w4.heap.size:=e;injection e2 with e2;omega));have hs6:w5.heap.size<=w6.heap.size:=Hg6.o.size;have Ho6:Hid (Qg w6 w4.heap.size 98 1 (XQ w6 (λb=>b<w4.heap.size/\(D b\/w.heap.size<=b))) v6 l):=(hown6.monoR λ_ _ _ ⟨u,e1,e2⟩=>⟨u,e1,e2.keep (λ_ h _=>h) (λb hb _=>hsame b hb.1) hs6⟩);have RF6:Hid (QW w6 (λb=>b<w4.heap.size/\(D b\/w.heap.size<=b)) (.slice aF F.length cF) F):=RF5.o.keep (λ_ h _=>h) (λb hb _=>hsame b hb.1) hs6;have Hb6:Hid (Below w4.heap.size w4 w6):=Below.grown Hb5.o Hg6.o (by omega) (λg hg=>by have e2:some w4.heap.size=some g:=hg;injection e2 with e2;omega);have Hb7:=Zh (Qa (Below.refl w6.heap.size w6) (.cells #[.slice aF F.length cF] 98));have Ho7:Hid (Qg (w6.alloc (.cells #[.slice aF F.length cF] 98)) w4.heap.size 98 1 (XQ (w6.alloc (.cells #[.slice aF F.length cF] 98)) (λb=>b<w4.heap.size/\(D b\/w.heap.size<=b))) v6 l):=((Ho6.o.below Hb7.o).monoR λ_ _ _ ⟨u,e1,e2⟩=>⟨u,e1,e2.below Hb7.o⟩);have HN7:=Zh (Qek (T:=98) (Qh w6 (.cells #[.slice aF F.length cF] 98)) (RF6.o.below Hb7.o));clear hown6 hg6 hat6 hsame;obtain⟨a6,c6,rfl⟩:=Ho6.o.slice))
    go_ret2;rw[HE.o];have hblk:=Ho7.o.block;have hb8:Below w4.heap.size w4 w8:=Below.grown (Hb6.o.trans (Hb7.o.mono (by omega))) Hg8.o (by simp;omega) (λg hg=>hblk g hg);refine⟨v8,rfl,?_,HB4.o.bel.trans (hb8.mono hq4)⟩;exact(Hown8.o.monoR (R':=XQ w8 (λb=>D b\/w.heap.size<=b)) λ_ _ _ ⟨u,h1,h2⟩=>⟨u,h1,h2.keep (λ_ hb _=>hb.2) (λb hb hl=>Hg8.o.block b hl (λe=>by have h9:b<w4.heap.size:=hb.1;have:=hblk b e.symm;omega)) Hg8.o.size⟩).sl (λb hb=>.inr (Nat.le_trans hq4 hb))
   have HE:Hid (UC l p q=([],fe)):=by show UC l p q=_;rw[HT.o,if_neg (by rw[H0.o];simp),if_neg (by simp),if_neg h6,if_pos hf]
   have hb0:(fe != 0)=true:=bne_iff_ne.2 hf;have HBf:=Zh HB4.o.bel;clear hf;go_wp2;go_ret2;rw[HE.o];exact⟨_,rfl,V6 _ _,HBf.o⟩
  have HE:Hid (UC l p q=([],ye)):=by show UC l p q=_;rw[HT.o,if_neg (by rw[H0.o];simp),if_pos hy]
  have hb0:(ye != 0)=true:=bne_iff_ne.2 hy;have HBf:=Zh HB3.o.bel;clear hy;go_wp2;go_ret2;rw[HE.o];exact⟨_,rfl,V6 _ _,HBf.o⟩
 have HE:Hid (UC l p q=([],chainE l)):=by show UC l p q=_;rw[HT.o,if_pos h0]
 have hb0:(chainE l != 0)=true:=bne_iff_ne.2 h0;have HBf:=Zh HB1.o.bel;clear h0;go_wp2;go_ret2;rw[HE.o];exact⟨_,rfl,V6 _ _,HBf.o⟩
end
section
open Go.RowKit
theorem QeV(v:Value)(l:List TCell)(D:Nat->Prop)(w:World)(h:Qo w D v l):
  Calls prog 136 #[v] w λe w'=>e=.returned (.int .i64 (cellsE l))/\Below w.heap.size w w':=by
 obtain⟨a,c,rfl,hlc,hcm,hat⟩:=Sl.form h;have H:=Zh h;clear h;by_cases h4:l.length=4
 .have He:=Zh (show cellsE l=V3 l by unfold cellsE;rw[if_pos h4]);have hz:((l.length:Int) != 4)=false:=by simp[h4]
  have H4:=Zh h4;have hat':=hat (by omega);obtain⟨b,o,rfl,hDb,hb⟩:=hat';clear hat h4;go_enter func136,ntmps136;go_wp2_with fail
  go_loopw[12](λi wr=>∃k:Nat,k<=l.length/\i=.int .i64 k/\V3 l=V3 (l.drop k)/\Below w.heap.size w wr) (λi _=>l.length-(intOf i).toNat)
  case atStart=>exact⟨0,by omega,rfl,rfl,Below.refl _ _⟩
  case round=>
   obtain⟨k,hk,rfl,hgo,hbw⟩:=hrel;have Hgo:=Zh hgo;have Hbw:=Zh hbw;clear hgo hbw;by_cases hlt:k<l.length
   .obtain⟨a1,a2,c1,c2,k0,k1,k2,k3,hrc,hrp⟩:=Qo.cells (H.o.below Hbw.o) hlt
    have bad:∀e:Int,VZ l[k]=e->e≠0->∀wz,Below w.heap.size w wz->Ending.returned (.int .i64 e)=.returned (.int .i64 (cellsE l))/\Below w.heap.size w wz:=λe he h0 wz hz=>by
     refine⟨Q3 ?_,hz⟩;rw[He.o,Hgo.o,YM l k hlt,he,if_neg h0]
    have good:VZ l[k]=0->V3 l=V3 (l.drop (k+1)):=λhe=>by rw[Hgo.o,YM l k hlt,if_pos he]
    have Hbad:=Zh bad;have Hgood:=Zh good;clear bad good;generalize hX:l[k]=X at *;clear hX;obtain⟨op,ch,⟨rs,d⟩⟩:=X;dsimp only at k0 k1 k2 k3 hrc hrp;have Hrc:=Zh hrc;have Hrp:=Zh hrp
    have Hsl:Hid (ch.length<=9223372036854775807/\rs.length<=9223372036854775807):=by
     obtain⟨_,_,hv1,h1,h2,_⟩:=Sl.form hrc;obtain⟨_,_,hv2,h3,h4,_⟩:=Sl.form hrp;exact⟨by omega,by omega⟩
    clear hrc hrp
    cases op with
    |false=>
     rcases Nat.eq_zero_or_pos ch.length with hc0|hc0
     .obtain rfl:ch=[]:=List.length_eq_zero_iff.1 hc0;have e1:([]:List (List TIns)).length=0:=rfl;by_cases hd:d=0
      .subst hd;rcases Nat.eq_zero_or_pos rs.length with hr0|hr0
       .obtain rfl:rs=[]:=List.length_eq_zero_iff.1 hr0;have Hg:=Zh (Hgood.o (by unfold VZ;simp[Y4]));have e2:([]:List TRule).length=0:=rfl;go_wp2
        go_roundw
        case rel=>exact⟨k+1,by omega,by go_num,Hg.o,Qa Hbw.o _⟩
        case measure=>simp[intOf];omega
       have Hb:=Zh (Hbad.o 4 (by unfold VZ;rw[if_neg (by simp),if_neg (by intro h;have:=h.2.2;dsimp only at this;rw[this]at hr0;simp at hr0)]) (by decide));have z2:0<(rs.length:Int):=by omega
       have z0:rs≠[]:=λe=>by rw[e]at hr0;simp at hr0
       clear hc0 hr0;go_wp2;go_ret;exact Hb.o _ (Qa Hbw.o _)
      have Hb:=Zh (Hbad.o 4 (by unfold VZ;rw[if_neg (by simp),if_neg (by intro h;exact hd h.2.1)]) (by decide));have z2:(d != 0)=true:=bne_iff_ne.2 hd;clear hc0 hd;go_wp2;go_ret;exact Hb.o _ (Qa Hbw.o _)
     have Hb:=Zh (Hbad.o 4 (by unfold VZ;rw[if_neg (by simp),if_neg (by intro h;have:=h.1;dsimp only at this;rw[this]at hc0;simp at hc0)]) (by decide));have z1:0<(ch.length:Int):=by omega
     have z0:ch≠[]:=λe=>by rw[e]at hc0;simp at hc0
     clear hc0;go_wp2;go_ret;exact Hb.o _ (Qa Hbw.o _)
    |true=>
     rcases Nat.eq_zero_or_pos ch.length with hc0|hc0
     .obtain rfl:ch=[]:=List.length_eq_zero_iff.1 hc0;have Hb:=Zh (Hbad.o 4 (by unfold VZ;simp) (by decide));have e1:([]:List (List TIns)).length=0:=rfl;clear hc0;go_wp2;go_ret;exact Hb.o _ (Qa Hbw.o _)
     have hne:ch≠[]:=λe=>by rw[e]at hc0;simp at hc0
     have Hce:Hid (VZ ⟨true,ch,⟨rs,d⟩⟩=if chainE ch≠0 then chainE ch else UZ ⟨rs,d⟩):=by show VZ _=_;unfold VZ;simp[hne]
     have z1:((ch.length:Int)==0)=false:=by simpa using(show ¬(ch.length:Int)=0 by omega)
     have HC:=Zh (Bx.one (w:=wr) (o:=.cells #[.bool true,.slice a1 ch.length c1,.slice a2 rs.length c2,.int .i64 d] 52));have HbC:=Zh (Ql Hbw.o HC.o.bel);clear hc0 hne;go_wp2_with fail
     refine(J3 _ ch D _ (Hrc.o.below HC.o.bel)).mono ?_;rintro e w1⟨rfl,hb1⟩;have HC1:=Zh (HC.o.below hb1);have HbC1:=Zh (Ql HbC.o hb1);have Hrp1:=Zh ((Hrp.o.below HC.o.bel).below hb1);clear hb1 HC;by_cases he:chainE ch=0
     .rw[he];have hq:=HC1.o.cells0;go_wp2_with fail
      refine(UO _ ⟨rs,d⟩ D _ Hrp1.o).mono ?_;rintro e w2⟨rfl,hb2⟩;have HbC2:=Zh (Ql HbC1.o hb2);clear hq hb2;by_cases hp:UZ ⟨rs,d⟩=0
      .have Hg:=Zh (Hgood.o (by rw[Hce.o,if_neg (by simp[he]),hp]));rw[hp];go_wp2
       go_roundw
       case rel=>exact⟨k+1,by omega,by go_num,Hg.o,HbC2.o⟩
       case measure=>simp[intOf];omega
      have Hb:=Zh (Hbad.o (UZ ⟨rs,d⟩) (by rw[Hce.o,if_neg (by simp[he])]) hp);have hp':(UZ ⟨rs,d⟩ != 0)=true:=bne_iff_ne.2 hp;generalize UZ ⟨rs,d⟩=E at Hb hp'⊢;clear hp;go_wp2;go_ret;exact Hb.o _ HbC2.o
     have Hb:=Zh (Hbad.o (chainE ch) (by rw[Hce.o,if_pos he]) he);have hp':(chainE ch != 0)=true:=bne_iff_ne.2 he;generalize chainE ch=E at Hb hp'⊢;clear he;go_wp2;go_ret;exact Hb.o _ HbC1.o
   obtain rfl:k=l.length:=by omega
   go_wp2;go_ret;exact⟨Q3 (by rw[He.o,Hgo.o,List.drop_length];rfl),Hbw.o⟩
 have He:=Zh (show cellsE l=4 by unfold cellsE;rw[if_neg h4]);have hz:((l.length:Int) != 4)=true:=bne_iff_ne.2 (by omega);clear h4 hat;go_enter func136,ntmps136;go_wp2;go_ret;exact⟨Q3 (by rw[He.o]),Below.refl _ _⟩
end
section
open Go.RowKit
attribute [local go_sem] gives QG
def QbC(g B:Nat)(W:World)(y:TRule×Bool)(cs:List Value):Prop:=∃v,cs=[v,.int .i64 y.1.vd]/\QF W (λb=>b≠g/\(y.2=true->B<=b)) v y.1.cd
theorem VB{g B:Nat}(W W':World)(y:TRule×Bool)(cs:List Value)(hb:Below W.heap.size W W')(h:QbC g B W y cs):QbC g B W' y cs:=by
 obtain⟨v,h1,h2⟩:=h;exact⟨v,h1,h2.below hb⟩
theorem QgF{g B i:Nat}{u:Value}{W:World}(y:TRule×Bool)(cs:List Value)(h:QbC g B W y cs):QbC g B (W.setCell ⟨g,i,none⟩ u) y cs:=by
 obtain⟨v,h1,h2⟩:=h;exact⟨v,h1,h2.keep (λ_ h _=>h) (λb hb _=>Qm (by exact hb.1)) (by rw[Qr];exact Nat.le_refl _)⟩
theorem QfR(y:TCond)(cs:List Value)(h:Ve y cs):∀c∈cs,c.oneCell'=true:=by
 unfold Ve at h;subst h;simp[Value.oneCell']
theorem Qb9{g B:Nat}{cs:List TCond}:Gp g (λv W=>∃a c,v=.slice a cs.length c/\QF W (λb=>B<=b/\b≠g) v cs):=λ_ _ _ hg ⟨a,c,h1,h2⟩=>
 ⟨a,c,h1,h2.keep (λ_ h _=>h) (λb hb hl=>hg.block b hl (λe=>hb.2 (by injection e))) hg.size⟩
theorem Gg(v:Value)(p:TPol)(D:Nat->Prop)(w:World)(h:Qc w D v p.ru)(hn:p.ru.length<=1000000)(hc:∀r∈p.ru,r.cd.length<=1000000):
  Calls prog 128 #[U8 v p.df] w λe w'=>∃v',e=.returned (U8 v' p.df)/\Qc w' (λb=>w.heap.size<=b) v' p.ru/\Below w.heap.size w w':=by
 obtain⟨ru,df⟩:=p;dsimp only at h hn hc⊢;have H:=Zh h;have Hc:=Zh hc;obtain⟨a,c,rfl,hlc,hcm,hat⟩:=Sl.form h;clear h hc hat;go_enter func128,ntmps128;go_wp2_with fail
 have HB:=Zh (Bx.two (w:=w) (o:=.cells #[.slice a ru.length c,.int .i64 df] 38) (o':=.cells #[.slice none 0 0,.int .i64 0] 38));have HbA:=Zh HB.o.bel;obtain⟨wA,hwA⟩:∃W,((w.alloc (.cells #[.slice a ru.length c,.int .i64 df] 38)).alloc (.cells #[.slice none 0 0,.int .i64 0] 38))=W:=⟨_,rfl⟩;rw[hwA]at HB HbA⊢;have hsA:wA.heap.size=w.heap.size+1+1:=by rw[<-hwA];simp
 have HsA:=Zh hsA;clear hwA hsA;have H0:Hid (Sl wA D 2 (VP wA (λb=>b<w.heap.size)) (.slice a ru.length c) ru):=Sl.mono H.o (λ_ h _=>h) (λb _ hl=>HbA.o.block b hl) HbA.o.size (λ_ _ _ ⟨u,h1,h2⟩=>⟨u,h1,h2.keep (λ_ _ hl=>hl) (λb _ hl=>HbA.o.block b hl) HbA.o.size⟩);refine(GH (VP wA (λb=>b<w.heap.size)) (λy cs h=>OO y cs h) _ ru D wA H0.o (by omega)).mono ?_;rintro e w1⟨v1,rfl,ho1,hb1⟩;have HB1:=Zh (HB.o.below hb1);have ho1':Qg w1 wA.heap.size 147 2 (VP w1 (λb=>b<w.heap.size)) v1 ru:=ho1.monoR λ_ _ _ ⟨u,h1,h2⟩=>⟨u,h1,h2.below hb1⟩;have hsz1:=hb1.size;obtain⟨a1,c1,rfl⟩:=ho1.slice;have HB2:Hid (Bx w [.cells #[.slice a1 ru.length c1,.int .i64 df] 38,.cells #[.slice none 0 0,.int .i64 0] 38] (w1.setCell ⟨w.heap.size,0,none⟩ (.slice a1 ru.length c1))):=HB1.o.set (i:=0) rfl 0 (.slice a1 ru.length c1)
 have Ho2:Hid (Qg (w1.setCell ⟨w.heap.size,0,none⟩ (.slice a1 ru.length c1)) wA.heap.size 147 2 (VP (w1.setCell ⟨w.heap.size,0,none⟩ (.slice a1 ru.length c1)) (λb=>b<w.heap.size)) (.slice a1 ru.length c1) ru):=
  (ho1'.kept (λb hb _=>Qm (by have:=HsA.o;show b≠w.heap.size;omega))).monoR λ_ _ _ ⟨u,h1,h2⟩=>⟨u,h1,h2.keep (λ_ h _=>h) (λb hb _=>Qm (by show b≠w.heap.size;omega)) (by rw[Qr];exact Nat.le_refl _)⟩
 clear ho1 ho1' hb1 hsz1 H0 HbA;have hq0:=HB1.o.cells0;have hf0:=HB1.o.free0;have hq2:=HB2.o.cells0;rcases Nat.eq_zero_or_pos ru.length with h0|hpos
 .have hl0:ru=[]:=List.length_eq_zero_iff.1 h0;subst hl0;have hlen0:([]:List TRule).length=0:=rfl
  have hRe:∀W D',Qc W D' (.slice a1 0 c1) []:=λW D'=>by
   obtain⟨a',c',hv,h1,h2,h3,_⟩:=Qg.sl Ho2.o (D:=λ_=>True) (λ_ _=>trivial);injection hv with e1 e2 e3;subst e1 e3;exact⟨_,_,rfl,h1,h2,h3,λh=>by cases h⟩
  have HRe:=Zh hRe;clear hRe;generalize hw2:w1.setCell ⟨w.heap.size,0,none⟩ (.slice a1 0 c1)=w2 at *;go_wp2_with fail
  clear hw2 hq0 hf0 hq2 HB1 HB Ho2
  go_loopw[12](λkv wr=>kv=.int .i64 0/\wr=w2) (λ_ _=>0)
  case atStart=>exact⟨rfl,rfl⟩
  case round=>
   obtain⟨rfl,rfl⟩:=hrel;have HS1:Hid (Bx w [.cells #[.slice a1 0 c1,.int .i64 df] 38,.cells #[.slice a1 0 c1,.int .i64 0] 38] (wr.setCell ⟨w.heap.size+1,0,none⟩ (.slice a1 0 c1))):=HB2.o.set (i:=1) rfl 0 _;have HS2:Hid (Bx w [.cells #[.slice a1 0 c1,.int .i64 df] 38,.cells #[.slice a1 0 c1,.int .i64 df] 38] ((wr.setCell ⟨w.heap.size+1,0,none⟩ (.slice a1 0 c1)).setCell ⟨w.heap.size+1,1,none⟩ (.int .i64 df))):=HS1.o.set (i:=1) rfl 1 _;have hq0:=HB2.o.cells0;have hq1:=HB2.o.cells1;have hf1:=HB2.o.free1;have hqs:=HS2.o.cells1;go_wp2;exact bodyPost_ret (v:=U8 (.slice a1 0 c1) df) (by simp[results,results128,go_sem,hqs]) rfl ⟨_,rfl,HRe.o _ _,HS2.o.bel⟩
 obtain⟨g,rfl,hgb,hgl,cur,hcur⟩:=Qg.addr Ho2.o hpos;generalize hw2:w1.setCell ⟨w.heap.size,0,none⟩ (.slice (some ⟨g,0,none⟩) ru.length c1)=w2 at *
 have HM:Hid (Qg w2 wA.heap.size 147 2 (QbC g wA.heap.size w2) (.slice (some ⟨g,0,none⟩) ru.length c1) (marks ru 0 true false)):=by
  show Qg _ _ _ _ _ _ _;rw[QaJ];exact Ho2.o.mark' λx cs ⟨u,h1,h2⟩=>⟨u,h1,h2.keep (λb hb _=>⟨by have:=HsA.o;omega,λh=>by cases h⟩) (λ_ _ _=>rfl) Znl⟩
 have Hg:=Zh hgb;clear hcur;go_wp2_with fail
 clear hw2 hq0 hf0 hq2 HB1 HB Ho2
 go_loopw[12](λkv wr=>∃k:Nat,kv=.int .i64 k/\k<=ru.length/\Qg wr wA.heap.size 147 2 (QbC g wA.heap.size wr) (.slice (some ⟨g,0,none⟩) ru.length c1) (marks ru k true false)/\Bx w [.cells #[.slice (some ⟨g,0,none⟩) ru.length c1,.int .i64 df] 38,.cells #[.slice none 0 0,.int .i64 0] 38] wr) (λkv _=>ru.length-(intOf kv).toNat)
 case atStart=>exact⟨0,rfl,by omega,HM.o,HB2.o⟩
 case round=>
  obtain⟨k,rfl,hk,hown,hbx⟩:=hrel;have Hown:=Zh hown;have Hbx:=Zh hbx;clear hown hbx;have hqb:=Hbx.o.cells0;by_cases hlt:k<ru.length
  .obtain⟨r,hr⟩:∃r,ru[k]?=some r:=⟨_,List.getElem?_eq_getElem hlt⟩;have Hrk:=Zh hr;have Hck:=Zh (Hc.o r (List.mem_of_getElem? hr))
   have hown0:XE wr wA.heap.size 147 2 g ru.length c1 (QbC g wA.heap.size) (λdn=>markm ru k r true (dn 8) false) (λ_=>false) wr:=
    ⟨by show Qg _ _ _ _ _ _ _;rw[IR hr];exact Hown.o,below_grow Zbr _⟩
   obtain⟨cs,_,⟨u,hu,hrd⟩,hcell⟩:=hown0.cells (XL hlt);have Hrd:=Zh hrd;have Hg2:=Zh (hown0.blk (by rw[Jf hlt];omega)).2.1;obtain⟨ac,cc,rfl,_⟩:=Sl.form hrd;subst hu;have hck0:=hcell 0 _ rfl;have hck1:=hcell 1 _ rfl;simp only[Nat.add_zero]at hck0;clear hcell hrd hown0 hr;go_wp2_with fail
   have HC:=Zh (Bx.one (w:=wr) (o:=.cells #[.slice ac r.cd.length cc,.int .i64 r.vd] 147));have HBq:=Zh (Hbx.o.below HC.o.bel)
   have Hownq:Hid (Qg (wr.alloc (.cells #[.slice ac r.cd.length cc,.int .i64 r.vd] 147)) wA.heap.size 147 2 (QbC g wA.heap.size (wr.alloc (.cells #[.slice ac r.cd.length cc,.int .i64 r.vd] 147))) (.slice (some ⟨g,0,none⟩) ru.length c1) (markm ru k r true false false)):=by
    show Qg _ _ _ _ _ _ _;rw[IR Hrk.o];exact(Hown.o.below HC.o.bel).monoR λ_ _ _ hy=>VB _ _ _ _ HC.o.bel hy
   have Hrdq:=Zh (QF.below Hrd.o HC.o.bel);have Hsq:Hid ((wr.alloc (.cells #[.slice ac r.cd.length cc,.int .i64 r.vd] 147)).heap.size=wr.heap.size+1):=by show _=_;simp
   revert HC HBq Hownq Hrdq Hsq;generalize(wr.alloc (.cells #[.slice ac r.cd.length cc,.int .i64 r.vd] 147))=wq;intro HC HBq Hownq Hrdq Hsq;clear hck0 hck1 hqb;have hk0:(0:Int)<=(k:Int):=by omega
   have hkl:(k:Int)<(ru.length:Int):=by omega
   have hkw:IntKind.i64.wrap (k:Int)=(k:Int):=IntWalk.i64_in _ (by omega);have Hlt:=Zh hlt
   refine ZP g [ex (.pointer (some ⟨w.heap.size,0,none⟩)),ex (.slice (some ⟨g,0,none⟩) ru.length c1),ex (.int .i64 k),ex (.pointer (some ⟨wr.heap.size,0,none⟩)),ex (.slice ac r.cd.length cc),pr (λv W=>∃a c,v=.slice a r.cd.length c/\QF W (λb=>wA.heap.size<=b/\b≠g) v r.cd),ex (.pointer (some ⟨g,k*2,none⟩)),ex (.pointer (some ⟨g,k*2,none⟩)),ex undef]
    (XE wq wA.heap.size 147 2 g ru.length c1 (QbC g wA.heap.size) (λdn=>markm ru k r true (dn 8) false)) (by kernel_rfl) (by kernel_rfl) ⟨.inl ⟨_,rfl⟩,.inl ⟨_,rfl⟩,.inl ⟨_,rfl⟩,.inl ⟨_,rfl⟩,.inl ⟨_,rfl⟩,.inr ⟨_,rfl,Qb9⟩,.inl ⟨_,rfl⟩,.inl ⟨_,rfl⟩,.inl ⟨_,rfl⟩,trivial⟩ ⟨(Hownq.o.below Zbr.drew).monoR λ_ _ _ hy=>VB _ _ _ _ Zbr.drew hy,GU _ _⟩ _ rfl ?_
   iterate 5 (refine Qj λK hK=>⟨λdn W hI h0 hd hn hf R hR=>?_,?_⟩;(first|(clear h0 hd hn hf;go_simp;exact hR _ _ (hI.step VB Zbr rfl) (below_grow Zbr _) rfl)|(have hcl:∀j,W.cell? ⟨wr.heap.size,j,none⟩=_:=Qb ((hI.gr.block _ (by have:=Hsq.o;omega) (λe=>by injection e with e;have:=Hg2.o;omega)).trans (HC.o.at_ 0 _ rfl));clear h0 hd hn hf;go_simp;exact hR _ _ (hI.step VB Zbr rfl) (below_grow Zbr _) rfl)|(have hcl:∀j,W.cell? ⟨w.heap.size,j,none⟩=_:=Qb ((hI.gr.block _ (HBq.o.size (i:=0) (by simp)) (λe=>by injection e with e;have:=Hg.o;have:=HsA.o;omega)).trans (HBq.o.at_ 0 _ rfl));clear h0 hd hn hf;go_simp;exact hR _ _ (hI.step VB Zbr rfl) (below_grow Zbr _) rfl));(go_simp;refine hK _ ?_;clear hK K))
   (refine QR λK hK=>⟨λdn W hI h0 hd hn hf R hR=>?_,λv5=>?_⟩;(have Hrw:Hid (QF W (λb=>b≠g) (.slice ac r.cd.length cc) r.cd):=Hrdq.o.keep (λ_ h _=>h.1) (λb hb hl=>hI.gr.block b hl (λe=>hb.1 (by injection e))) hI.gr.size;have HgW:Hid (g<W.heap.size/\wA.heap.size<=W.heap.size):=⟨by have:=hI.gr.size;have:=Hg2.o;have:=Hsq.o;omega,by have:=hI.gr.size;have:=Hg.o;have:=Hg2.o;have:=Hsq.o;omega⟩;clear h0 hd hn hf;go_simp;go_at_call 156;refine(GG Ve QfR _ r.cd _ W Hrw.o (by have:=Hck.o;omega)).mono ?_;rintro e w5 ⟨v6,rfl,ho6,hb6⟩;exact⟨_,rfl,hR _ _ (hI.step VB hb6 rfl) (below_grow hb6 _) (by obtain⟨a6,c6,rfl⟩:=ho6.slice;exact⟨a6,c6,rfl,ho6.sl λb hb=>⟨by have:=HgW.o.2;omega,by have:=HgW.o.1;omega⟩⟩)⟩);(go_simp;refine hK _ _ ?_;clear hK K))
   iterate 3 (refine Qj λK hK=>⟨λdn W hI h0 hd hn hf R hR=>?_,?_⟩;(first|(clear h0 hd hn hf;go_simp;exact hR _ _ (hI.step VB Zbr rfl) (below_grow Zbr _) rfl)|(have h5:∃a c,v5=.slice a r.cd.length c/\QF W (λb=>wA.heap.size<=b/\b≠g) v5 r.cd:=hf 5 (by decide);obtain⟨a5,c5,rfl,hr5⟩:=h5;have hI0:=hI;obtain⟨_,_,⟨u9,rfl,hr9⟩,hcell⟩:=hI.cells (by exact XL Hlt.o);have hck:=hcell 0 _ rfl;simp only[Nat.add_zero]at hck;have hfz:=hI.frz (by rw[Jf Hlt.o];have:=Hlt.o;omega) (k*2);have HN:=Zh (hI.put (done':=Qe dn 8) (i:=k) (j:=0) (u:=.slice a5 r.cd.length c5) (y':=(r,true)) (by decide) (by exact XL Hlt.o) (λcs0 hcs=>by obtain⟨v0,rfl,_⟩:=hcs;exact⟨_,rfl,hr5.keep (λb hb _=>⟨hb.2,λ_=>hb.1⟩) (λb hb _=>Qm (by exact hb.2)) (by rw[Qr];exact Nat.le_refl _)⟩) (λz cs0 hz=>QgF z cs0 hz) (by rw[GZ Hlt.o];rfl));have HT:=Zh (UX W g (k*2) (.slice a5 r.cd.length c5));clear h0 hd hn hf hcell hI hI0 hr9 hr5;go_simp;exact hR _ _ HN.o HT.o rfl));(go_simp;refine hK _ ?_;clear hK K))
   intro dn W hdone hI _;have h8:dn 8=true:=hdone 8 (by decide);have ho:=hI.own;rw[h8,Qee Hrk.o]at ho;have HO:=Zh ho;have Hbw:=Zh (QV (B:=wA.heap.size) (Below.refl _ wq) hI.gr (by have:=Hg.o;have:=Hg2.o;have:=Hsq.o;omega) Hg.o);have HBw:=Zh (HBq.o.lift Hbw.o (by have:=HsA.o;show w.heap.size+2<=_;omega));clear hI hdone h8 ho;go_wp2
   go_roundw
   case rel=>exact⟨k+1,by go_num,by omega,HO.o,HBw.o⟩
   case measure=>simp[intOf];omega
  obtain rfl:k=ru.length:=by omega
  have ho:=Hown.o;rw[Qcs]at ho;have hR:Qc wr (λb=>wA.heap.size<=b) (.slice (some ⟨g,0,none⟩) ru.length c1) ru:=Sl.mono ((ho.unmark' (R:=VP wr (λb=>wA.heap.size<=b)) λx cs ⟨u,h1,h2⟩=>⟨u,h1,h2.keep (λb hb _=>hb.2 rfl) (λ_ _ _=>rfl) Znl⟩).sl (D:=λb=>wA.heap.size<=b) (λ_ h=>h)) (λ_ h _=>h) (λ_ _ _=>rfl) Znl (λ_ _ _ h=>h);have HR:=Zh hR;have HS1:Hid (Bx w [.cells #[.slice (some ⟨g,0,none⟩) ru.length c1,.int .i64 df] 38,.cells #[.slice (some ⟨g,0,none⟩) ru.length c1,.int .i64 0] 38] (wr.setCell ⟨w.heap.size+1,0,none⟩ (.slice (some ⟨g,0,none⟩) ru.length c1))):=Hbx.o.set (i:=1) rfl 0 _;have HS2:Hid (Bx w [.cells #[.slice (some ⟨g,0,none⟩) ru.length c1,.int .i64 df] 38,.cells #[.slice (some ⟨g,0,none⟩) ru.length c1,.int .i64 df] 38] ((wr.setCell ⟨w.heap.size+1,0,none⟩ (.slice (some ⟨g,0,none⟩) ru.length c1)).setCell ⟨w.heap.size+1,1,none⟩ (.int .i64 df))):=HS1.o.set (i:=1) rfl 1 _;have HR2:Hid (Qc ((wr.setCell ⟨w.heap.size+1,0,none⟩ (.slice (some ⟨g,0,none⟩) ru.length c1)).setCell ⟨w.heap.size+1,1,none⟩ (.int .i64 df)) (λb=>w.heap.size<=b) (.slice (some ⟨g,0,none⟩) ru.length c1) ru):=HR.o.keep (λb hb _=>by have h:wA.heap.size<=b:=hb;have:=HsA.o;omega) (λb hb _=>by have h:wA.heap.size<=b:=hb;have:=HsA.o;rw[Qm (by show b≠w.heap.size+1;omega),Qm (by show b≠w.heap.size+1;omega)]) (by rw[Qr,Qr];exact Nat.le_refl _);have hq1:=Hbx.o.cells1;have hf1:=Hbx.o.free1;have hqs:=HS2.o.cells1;clear hR ho;go_wp2;exact bodyPost_ret (v:=U8 (.slice (some ⟨g,0,none⟩) ru.length c1) df) (by simp[results,results128,go_sem,hqs]) rfl ⟨_,rfl,HR2.o,HS2.o.bel⟩
end
section
open Go.RowKit
theorem QbX(v:Value)(p:TPol)(D:Nat->Prop)(w:World)(h:Qc w D v p.ru):
  Calls prog 137 #[U8 v p.df] w λe w'=>∃a1 c1 a2 c2,e=.returned (.tuple #[.agg #[.bool (Vh p).1.open_,.slice a1 (Vh p).1.chain.length c1,.slice a2 (Vh p).1.p.ru.length c2,.int .i64 (Vh p).1.p.df],.int .i64 (Vh p).2]) /\
   Qz w' (λb=>w.heap.size<=b) (.slice a1 (Vh p).1.chain.length c1) (Vh p).1.chain/\Qc w' (λb=>w.heap.size<=b) (.slice a2 (Vh p).1.p.ru.length c2) (Vh p).1.p.ru/\Below w.heap.size w w':=by
 have H:=Zh h;obtain⟨a,c,rfl,_⟩:=Sl.form h;clear h;obtain⟨⟨F,fe⟩,hF⟩:∃E,Uy p=E:=⟨_,rfl⟩;have HF:=Zh hF;go_enter func137,ntmps137;go_wp2_with fail
 have HB:=Zh (Bx.two (w:=w) (o:=.cells #[.slice a p.ru.length c,.int .i64 p.df] 38) (o':=.cells #[.bool false,.slice none 0 0,.slice none 0 0,.int .i64 0] 52));have hq0:=HB.o.cells0;refine(Ei _ p D _ (H.o.below HB.o.bel)).mono ?_;rw[HF.o];rintro e w1⟨vF,rfl,hrF,hb1⟩;have HB1:=Zh (HB.o.below hb1);have RF:=Zh (show QW w1 (λb=>w.heap.size+2<=b) vF F from hrF.keep (λb hb _=>by have h1:=HB.o.top;have h2:=hb;simp at h1 h2;omega) (λ_ _ _=>rfl) Znl);have H1:=Zh ((H.o.below HB.o.bel).below hb1);obtain⟨aF,cF,rfl,_⟩:=Sl.form hrF;clear hrF hb1 hq0 HB;by_cases h0:fe=0
 .subst h0;obtain⟨hpok,hfe2,_,_⟩:=XU (p:=p) (by rw[hF]);have hFe:F=Q7 p:=(Prod.mk.inj (hF.symm.trans hfe2)).1;have hbe:Vh p=(⟨true,[F],p⟩,0):=by unfold Vh;rw[hF,<-hFe];simp
  have Hbe:=Zh hbe;have Hok:=Zh hpok;clear hF hfe2 hFe hbe hpok;have HC:=Zh (Bx.one (w:=w1) (o:=.cells #[.slice aF F.length cF] 98));have HB2:=Zh (HB1.o.below HC.o.bel);have H2:=Zh (H1.o.below HC.o.bel);have RF2:=Zh (RF.o.below HC.o.bel);have HT:=Zh HB1.o.top;have hq0:=HB2.o.cells0;go_wp2_with fail
  refine(Gg _ p D _ H2.o (by have:=Hok.o.len;omega) (λr hr=>by have:=(Hok.o.ru r hr).len;omega)).mono ?_;rintro e w2⟨vP,rfl,hrP,hb2⟩;have HB3:=Zh (HB2.o.below hb2);have RF3:=Zh (RF2.o.below hb2);have HC3:=Zh (HC.o.below hb2);have HrP:=Zh hrP;obtain⟨aP,cP,rfl,_⟩:=Sl.form hrP;clear hrP hb2 hq0 HB1 HB2 H1 H2 RF RF2 HC;have hq1:=HB3.o.cells1;have hf1:=HB3.o.free1;have HS1:=Zh (HB3.o.set (i:=1) rfl 0 (.bool true));have HS2:=Zh (HS1.o.set (i:=1) rfl 1 (.slice (some ⟨w1.heap.size,0,none⟩) 1 1));have HS3:=Zh (HS2.o.set (i:=1) rfl 2 (.slice aP p.ru.length cP));have HS4:=Zh (HS3.o.set (i:=1) rfl 3 (.int .i64 p.df));have hqs:=HS4.o.cells1;have hoth:∀b,b≠w.heap.size+1->((((w2.setCell ⟨w.heap.size+1,0,none⟩ (.bool true)).setCell ⟨w.heap.size+1,1,none⟩ (.slice (some ⟨w1.heap.size,0,none⟩) 1 1)).setCell ⟨w.heap.size+1,2,none⟩ (.slice aP p.ru.length cP)).setCell ⟨w.heap.size+1,3,none⟩ (.int .i64 p.df)).heap[b]?=w2.heap[b]?:=λb hb=>by rw[Qm (by exact hb),Qm (by exact hb),Qm (by exact hb),Qm (by exact hb)]
  have hszs:((((w2.setCell ⟨w.heap.size+1,0,none⟩ (.bool true)).setCell ⟨w.heap.size+1,1,none⟩ (.slice (some ⟨w1.heap.size,0,none⟩) 1 1)).setCell ⟨w.heap.size+1,2,none⟩ (.slice aP p.ru.length cP)).setCell ⟨w.heap.size+1,3,none⟩ (.int .i64 p.df)).heap.size=w2.heap.size:=by simp only[Qr]
  have htop:w.heap.size+2<=w1.heap.size:=HT.o;have HRP:Hid (Qc ((((w2.setCell ⟨w.heap.size+1,0,none⟩ (.bool true)).setCell ⟨w.heap.size+1,1,none⟩ (.slice (some ⟨w1.heap.size,0,none⟩) 1 1)).setCell ⟨w.heap.size+1,2,none⟩ (.slice aP p.ru.length cP)).setCell ⟨w.heap.size+1,3,none⟩ (.int .i64 p.df)) (λb=>w.heap.size<=b) (.slice aP p.ru.length cP) p.ru):=HrP.o.keep (λb hb _=>by have h1:=hb;simp at h1;omega) (λb hb _=>hoth b (by have h1:=hb;simp at h1;omega)) (by rw[hszs];exact Nat.le_refl _)
  have HRC:Hid (Qz ((((w2.setCell ⟨w.heap.size+1,0,none⟩ (.bool true)).setCell ⟨w.heap.size+1,1,none⟩ (.slice (some ⟨w1.heap.size,0,none⟩) 1 1)).setCell ⟨w.heap.size+1,2,none⟩ (.slice aP p.ru.length cP)).setCell ⟨w.heap.size+1,3,none⟩ (.int .i64 p.df)) (λb=>w.heap.size<=b) (.slice (some ⟨w1.heap.size,0,none⟩) 1 1) [F]):=
   Ub (xs:=[F]) (rows:=[[.slice aF F.length cF]]) (Qq.cons Qq.nil ⟨_,rfl,RF3.o.keep (λb hb _=>by have h1:w.heap.size+2<=b:=hb;show w.heap.size<=b;omega) (λb hb _=>hoth b (by have h1:w.heap.size+2<=b:=hb;omega)) (by rw[hszs];exact Nat.le_refl _)⟩ rfl) ((hoth _ (by omega)).trans (HC3.o.at_ 0 _ rfl)) rfl (by show w.heap.size<=w1.heap.size;omega) (by simp[maxLen])
  have HBL:Hid (Below w.heap.size w ((((w2.setCell ⟨w.heap.size+1,0,none⟩ (.bool true)).setCell ⟨w.heap.size+1,1,none⟩ (.slice (some ⟨w1.heap.size,0,none⟩) 1 1)).setCell ⟨w.heap.size+1,2,none⟩ (.slice aP p.ru.length cP)).setCell ⟨w.heap.size+1,3,none⟩ (.int .i64 p.df))):=HS4.o.bel;have hqr:∀j,((((w2.setCell ⟨w.heap.size+1,0,none⟩ (.bool true)).setCell ⟨w.heap.size+1,1,none⟩ (.slice (some ⟨w1.heap.size,0,none⟩) 1 1)).setCell ⟨w.heap.size+1,2,none⟩ (.slice aP p.ru.length cP)).setCell ⟨w.heap.size+1,3,none⟩ (.int .i64 p.df)).cell? ⟨w.heap.size+1,j,none⟩=(#[Value.bool true,.slice (some ⟨w1.heap.size,0,none⟩) 1 1,.slice aP p.ru.length cP,.int .i64 p.df]:Array Value)[j]?:=HS4.o.cells (i:=1) rfl;clear hoth hszs htop hqs HS1 HS2 HS3 HS4;go_wp2;refine bodyPost_ret (v:=.tuple #[.agg #[.bool true,.slice (some ⟨w1.heap.size,0,none⟩) 1 1,.slice aP p.ru.length cP,.int .i64 p.df],.int .i64 0]) ?_ rfl (by rw[Hbe.o];exact⟨_,_,_,_,rfl,HRC.o,HRP.o,HBL.o⟩);rw[results_cell_tmp rfl];go_simp
 have hne:(fe != 0)=true:=bne_iff_ne.2 h0;have hbe:Vh p=(zeroCell,fe):=by unfold Vh;rw[hF];simp[h0]
 have Hbe:=Zh hbe;clear hF h0 hbe;have hq1:=HB1.o.cells1;have hf1:=HB1.o.free1;have HS4:=Zh ((((HB1.o.set (i:=1) rfl 0 (.bool false)).set (i:=1) rfl 1 (.slice none 0 0)).set (i:=1) rfl 2 (.slice none 0 0)).set (i:=1) rfl 3 (.int .i64 0));have HBL:Hid (Below w.heap.size w ((((w1.setCell ⟨w.heap.size+1,0,none⟩ (.bool false)).setCell ⟨w.heap.size+1,1,none⟩ (.slice none 0 0)).setCell ⟨w.heap.size+1,2,none⟩ (.slice none 0 0)).setCell ⟨w.heap.size+1,3,none⟩ (.int .i64 0))):=HS4.o.bel;have hqr:∀j,((((w1.setCell ⟨w.heap.size+1,0,none⟩ (.bool false)).setCell ⟨w.heap.size+1,1,none⟩ (.slice none 0 0)).setCell ⟨w.heap.size+1,2,none⟩ (.slice none 0 0)).setCell ⟨w.heap.size+1,3,none⟩ (.int .i64 0)).cell? ⟨w.heap.size+1,j,none⟩=(#[Value.bool false,.slice none 0 0,.slice none 0 0,.int .i64 0]:Array Value)[j]?:=HS4.o.cells (i:=1) rfl;clear HS4;go_wp2;refine bodyPost_ret (v:=.tuple #[.agg #[.bool false,.slice none 0 0,.slice none 0 0,.int .i64 0],.int .i64 fe]) ?_ rfl (by rw[Hbe.o];exact⟨none,0,none,0,rfl,V6 _ _,⟨none,0,rfl,Nat.le_refl _,by decide,λ_=>rfl,λh=>by cases h⟩,HBL.o⟩);rw[results_cell_tmp rfl];go_simp
end
section
open Go.RowKit
theorem YC:(prog.info? 52).map (λi=>(i.zero,i.size,i.bytes))=some (some (.agg #[.bool false,.slice none 0 0,.slice none 0 0,.int .i64 0]),4,64):=by kernel_rfl
theorem Qbh{α:Type}(R:α->List Value->Prop)(h1R:∀(y:α)(cs:List Value),R y cs->∀c∈cs,c.oneCell'=true)(v:Value)(xs:List α)(D:Nat->Prop)(w:World)(h:Sl w D 4 R v xs)(hn:xs.length*64<=140737488355328):
  Calls prog 126 #[v] w λe w'=>∃v',e=.returned v'/\Qg w' w.heap.size 52 4 R v' xs/\Below w.heap.size w w':=by
 obtain⟨i0,hi,hz0,hz1,hz2⟩:=info_parts YC;have H:=Zh h;obtain⟨a,c,rfl,hlc,hcm,hnil,hat⟩:=h;have Hi:=Zh hi;clear hi
 cases a with
 |none=>
  have hc:=hnil rfl;subst hc;have hx:xs=[]:=List.length_eq_zero_iff.1 (by omega);subst hx;have hq:=λ(a:Option Addr)(n c:Nat)(W:World)=>Lib.run_eql_slice_nil (P:=prog) W 22 52 a n c 0 0 underlying22;go_enter func126,ntmps126;go_wp2;go_ret;exact⟨_,rfl,Qg.nil,Below.refl _ _⟩
 |some ad=>
  have H2:=Zh (H.o.belowR (Qa (Below.refl _ w) (.cells #[] 52)) (λ_ _ _ h=>h))
  have Hown:Hid (Qg (w.alloc (.cells #[] 52)) w.heap.size 52 4 R (.slice (some ⟨w.heap.size,0,none⟩) 0 0) ([]:List α)):=
   ⟨[],Qq.nil,by simp,.inr ⟨w.heap.size,0,#[],rfl,Nat.le_refl _,Qh _ _,by simp,by simp,by simp,by simp⟩⟩
  clear hat hnil;have hq:=λ(a:Option Addr)(n c:Nat)(W:World)=>Lib.run_eql_slice_nil (P:=prog) W 22 52 a n c 0 0 underlying22;go_enter func126,ntmps126;go_wp2_with(at_builtin;refine U6 rfl _ _ 22 rfl w.heap.size 52 i0 _ 4 64 underlying22 Hi.o hz0 hz1 hz2 rfl (by decide) _ _ rfl Hown.o _ _ rfl H2.o (λy _ cs h=>h1R y cs h) (by show 0+_<=maxLen;unfold maxLen;omega) (by show(0+_)*64<=_;omega) (by simp) ?_;intro v' w3 hown' hg)
  go_ret;exact⟨_,rfl,hown',Hown.o.grown (Qa Zbr _) hg (by simp) Znl⟩
end
end Go.Proofs.YthkgjohhbdipcaaGreatDoor
