/- Texts laid one behind the other: RNext, KNew, Replay, RReplay. No condition beyond theirs. -/
import Derived.Test.YthkgjohhbdipcaaGreatDoorQ10
import Derived.Test.YthkgjohhbdipcaaGreatDoorQ28
import Derived.Test.YthkgjohhbdipcaaGreatDoorQ27
import Derived.Test.YthkgjohhbdipcaaGreatDoorQ30
import Derived.Test.YthkgjohhbdipcaaGreatDoorQ12
import Derived.Test.YthkgjohhbdipcaaGreatDoorQ13
import Derived.Test.YthkgjohhbdipcaaGreatDoorQ8
import Derived.Laws.MakeOwn
import Derived.Test.YthkgjohhbdipcaaGreatDoorQ9
set_option linter.all false
set_option maxHeartbeats 64000000
set_option maxRecDepth 100000
namespace Go.Proofs.YthkgjohhbdipcaaGreatDoor
open Tryz
section
open Go.RowKit
attribute [local go_sem] gives QG
theorem JD{α:Type}{W:World}{base b sz:Nat}{e:TypeId}{R:α->List Value->Prop}(hb:W.heap[b]?=some (.cells #[] e))(hbase:base<=b):Qg W base e sz R (.slice (some ⟨b,0,none⟩) 0 0) ([]:List α):=
 ⟨[],Qq.nil,by simp,.inr ⟨b,0,#[],by simp,hbase,hb,by simp,by unfold maxLen;omega,by simp,by simp⟩⟩
theorem Bx.put4n{w W:World}{T:TypeId}{a b c d a' b' c' d':Value}{r:List Obj}(h:Bx w (.cells #[a,b,c,d] T::r) W):
  Bx w (.cells #[a',b',c',d'] T::r) ((((W.setCell ⟨w.heap.size,0,none⟩ a').setCell ⟨w.heap.size,1,none⟩ b').setCell ⟨w.heap.size,2,none⟩ c').setCell ⟨w.heap.size,3,none⟩ d'):=
 (((h.set (i:=0) rfl 0 a').set (i:=0) rfl 1 b').set (i:=0) rfl 2 c').set (i:=0) rfl 3 d'
theorem QaZ{W:World}{g b:Nat}{x y z u:Value}(h:b≠g):((((W.setCell ⟨g,0,none⟩ x).setCell ⟨g,1,none⟩ y).setCell ⟨g,2,none⟩ z).setCell ⟨g,3,none⟩ u).heap[b]?=W.heap[b]?:=by
 rw[Qm h,Qm h,Qm h,Qm h]
theorem QcA{W:World}{g:Nat}{x y z u:Value}:((((W.setCell ⟨g,0,none⟩ x).setCell ⟨g,1,none⟩ y).setCell ⟨g,2,none⟩ z).setCell ⟨g,3,none⟩ u).heap.size=W.heap.size:=by
 simp only[Qr]
structure QfH(w0 wq:World)(T:TypeId)(pol:Obj)(c0 c1 c2 c3 d1 d2 d3:Value)(dn:Nat->Bool)(W:World):Prop where
 bx:Bx w0 [.cells #[c0,if dn 3 then d1 else c1,if dn 5 then d2 else c2,if dn 5 then d3 else c3] T,pol] W
 gr:wq.grownBy W (some w0.heap.size)
section
variable{w0 wq W:World}{T:TypeId}{pol:Obj}{c0 c1 c2 c3 d1 d2 d3:Value}{dn:Nat->Bool}{k:Nat}
theorem QfH.step(h:QfH w0 wq T pol c0 c1 c2 c3 d1 d2 d3 dn W)(h3:3≠k)(h5:5≠k):QfH w0 wq T pol c0 c1 c2 c3 d1 d2 d3 (Qe dn k) W:=by
 refine⟨?_,h.gr⟩;unfold Qe;rw[if_neg h3,if_neg h5];exact h.bx
theorem QfH.st3(h:QfH w0 wq T pol c0 c1 c2 c3 d1 d2 d3 dn W):QfH w0 wq T pol c0 c1 c2 c3 d1 d2 d3 (Qe dn 3) (W.setCell ⟨w0.heap.size,1,none⟩ d1):=by
 refine⟨?_,UW h.gr (UX W _ _ _)⟩;have e3:Qe dn 3 3=true:=rfl;have e5:Qe dn 3 5=dn 5:=rfl;rw[e3,e5];exact h.bx.set (i:=0) rfl 1 d1
theorem QfH.st5(h:QfH w0 wq T pol c0 c1 c2 c3 d1 d2 d3 dn W):QfH w0 wq T pol c0 c1 c2 c3 d1 d2 d3 (Qe dn 5) ((W.setCell ⟨w0.heap.size,2,none⟩ d2).setCell ⟨w0.heap.size,3,none⟩ d3):=by
 refine⟨?_,UW (UW h.gr (UX W _ _ _)) (UX _ _ _ _)⟩;have e3:Qe dn 5 3=dn 3:=rfl;have e5:Qe dn 5 5=true:=rfl;rw[e3,e5];exact(h.bx.set (i:=0) rfl 2 d2).set (i:=0) rfl 3 d3
end
theorem QcF(v u:Value)(l:List TCell)(r:TRec)(D D':Nat->Prop)(w:World)(h:Qo w D v l)(h':Qc w D' u r.p.ru):
  Calls prog 57 #[v,Yg r u] w λe w'=>∃a1 c1,e=.returned (.tuple #[.slice a1 (QI l r).1.length c1,.int .i64 (QI l r).2])/\Qo w' (λb=>D b\/D' b\/w.heap.size<=b) (.slice a1 (QI l r).1.length c1) (QI l r).1/\Below w.heap.size w w':=by
 have H:=Zh h;have Hr:Hid (Qc w (λb=>b<w.heap.size/\D' b) u r.p.ru):=h'.keep (λ_ hd hl=>⟨hl,hd⟩) (λ_ _ _=>rfl) Znl;obtain⟨kd,cl,fr,p⟩:=r;dsimp only at Hr h'⊢;obtain⟨a,c,rfl,hlc,hcm,hat⟩:=Sl.form h;have Hat:=Zh hat;obtain⟨ap,cp,rfl,_⟩:=Sl.form h';clear h h' hat hlc hcm;go_enter func57,ntmps57;go_wp2_with fail
 have HB:=Zh (Bx.one (w:=w) (o:=.cells #[.int .i64 kd,.int .i64 cl,.int .i64 fr,.slice ap p.ru.length cp,.int .i64 p.df] 56));refine(QdJ _ l D _ (H.o.below HB.o.bel)).mono ?_;rintro e w1⟨rfl,hb1⟩;have HB1:=Zh (HB.o.below hb1);have H1:=Zh ((H.o.below HB.o.bel).below hb1);have Hr1:=Zh (Qc.below (Qc.below Hr.o HB.o.bel) hb1);clear hb1 HB H Hr;by_cases h0:cellsE l=0
 .rw[h0];have H0:=Zh h0;have hq0:=HB1.o.cells0;go_wp2_with fail
  refine(Xd _ ⟨kd,cl,fr,p⟩ _ _ Hr1.o).mono ?_;rintro e w2⟨rfl,hb2⟩;have HB2:=Zh (HB1.o.below hb2);have H2:=Zh (H1.o.below hb2);have Hr2:=Zh (Qc.below Hr1.o hb2);clear hb2 HB1 H1 Hr1 hq0;by_cases h3:UJ ⟨kd,cl,fr,p⟩=0
  .rw[h3];obtain⟨hk1,hk2,hcl0,hcl1,hfr0,hfr1,hnf,hno,hokp⟩:=Y5 h3;dsimp only at hk1 hk2 hcl0 hcl1 hfr0 hfr1 hokp;clear hnf hno hokp;obtain⟨hl4,hce⟩:=(XR l).1 h0;obtain⟨k,rfl⟩:∃k:Nat,cl=k:=⟨cl.toNat,by omega⟩;obtain⟨j,rfl⟩:∃j:Nat,fr=j:=⟨fr.toNat,by omega⟩;have hkL:k<l.length:=by omega
   have hjL:j<l.length:=by omega
   have hx:=List.getElem?_eq_getElem hkL;have hy:=List.getElem?_eq_getElem hjL;obtain⟨b,o,rfl,_,_⟩:=Hat.o (by omega);obtain⟨a1,a2,c1,c2,x0,x1,x2,x3,hrc,hrp⟩:=Qo.cells H2.o hkL;obtain⟨x,hX⟩:∃x,l[k]=x:=⟨_,rfl⟩;obtain⟨y,hY⟩:∃y,l[j]=y:=⟨_,rfl⟩;rw[hX]at x0 x1 x2 x3 hrc hrp hx;obtain⟨xop,hxop⟩:∃q,x.open_=q:=⟨_,rfl⟩;rw[hxop]at x0;have Hxop:=Zh hxop;clear hxop;rw[hY]at hy;have Hy:=Zh hy;have hxk:cellAt l k=x:=by unfold cellAt;rw[Int.toNat_natCast,List.getD_eq_getElem?_getD,hx];rfl
   have hyj:cellAt l j=y:=by unfold cellAt;rw[Int.toNat_natCast,List.getD_eq_getElem?_getD,hy];rfl
   have HN:Hid (QI l ⟨kd,k,j,p⟩=if x.open_=decide (kd=1\/kd=3)then([],6)else if(nextCell l ⟨kd,k,j,p⟩).2≠0 then([],(nextCell l ⟨kd,k,j,p⟩).2)else(l.set k (nextCell l ⟨kd,k,j,p⟩).1,0)):=by
    show QI _ _=_;unfold QI;rw[if_neg (by rw[h0];simp),if_neg (by rw[h3];simp)];dsimp only;rw[hxk,Int.toNat_natCast]
   have Hx:=Zh hx;have Hrc:=Zh hrc;have Hrp:=Zh hrp;have Hxk:=Zh hxk;have Hyj:=Zh hyj;have Hl4:=Zh hl4;have hkl:(k:Int)<(l.length:Int):=by omega
   have hjl:(j:Int)<(l.length:Int):=by omega
   have hk0:(0:Int)<=(k:Int):=by omega
   have hj0:(0:Int)<=(j:Int):=by omega
   have hkw:IntKind.i64.wrap (k:Int)=(k:Int):=IntWalk.i64_in _ (by omega);have hjw:IntKind.i64.wrap (j:Int)=(j:Int):=IntWalk.i64_in _ (by omega);have HT:=Zh HB2.o.top;clear hX hY hrc hrp hkL hjL Hat;clear h0 h3 hce hl4 hxk hyj hx hy hcl0 hcl1 hfr0 hfr1;have hq0:=HB2.o.cells0;have HC:=Zh (Bx.two (w:=w2) (o:=.cells #[.bool xop,.slice a1 x.chain.length c1,.slice a2 x.p.ru.length c2,.int .i64 x.p.df] 52) (o':=.cells #[.slice ap p.ru.length cp,.int .i64 p.df] 38));have HC1:=Zh (Bx.one (w:=w2) (o:=.cells #[.bool xop,.slice a1 x.chain.length c1,.slice a2 x.p.ru.length c2,.int .i64 x.p.df] 52));have HBq:=Zh (HB2.o.below HC.o.bel);have Hqq:Hid (∀O,∀i,(w2.alloc O).cell? ⟨w.heap.size,i,none⟩=(#[Value.int .i64 kd,.int .i64 k,.int .i64 j,.slice ap p.ru.length cp,.int .i64 p.df]:Array Value)[i]?):=λO=>(HB2.o.alloc O).cells0;have hqq:=Hqq.o;have hc1:=HC1.o.cells0;have hqb:=HBq.o.cells0;have hcb:=HC.o.cells0;have hpb:=HC.o.cells1;have hcf:=HC.o.free0;have hpf:∀i,_=false:=HC.o.free1;have hkd:kd=1\/kd=3\/kd=2\/kd=4:=by omega
   clear hk1 hk2 Hqq;rcases hkd with rfl|rfl|rfl|rfl
   .cases xop with
    |true=>
     have HE:Hid (QI l ⟨1,k,j,p⟩=([],6)):=by show QI _ _=_;rw[HN.o,if_pos (by rw[Hxop.o];decide)]
     have HBL1:Hid (Below w.heap.size w _):=(HB2.o.below HC1.o.bel).bel;clear HN;go_wp2;go_ret2;rw[HE.o];exact⟨_,_,rfl,Ua _ _,HBL1.o⟩
    |false=>
     have HN':Hid (QI l ⟨1,k,j,p⟩=if(nextCell l ⟨1,k,j,p⟩).2≠0 then([],(nextCell l ⟨1,k,j,p⟩).2)else(l.set k (nextCell l ⟨1,k,j,p⟩).1,0)):=by show QI _ _=_;rw[HN.o,if_neg (by rw[Hxop.o];decide)]
     clear HN;have HNC0:Hid (nextCell l ⟨1,k,j,p⟩=Vh p):=by show nextCell _ _=_;unfold nextCell;rw[if_neg (by show ¬(1:Int)=3;decide),if_pos rfl]
     have Hp2:=Zh Hr2.o;have HCc:=Zh HC.o;have Hpp:=Zh (Hr2.o.below HC.o.bel);go_wp2_with fail
     refine(Gl _ p _ _ Hpp.o).mono ?_;obtain⟨⟨F,fe⟩,hF⟩:∃E,Uy p=E:=⟨_,rfl⟩;have HFl:Hid (fe=0->Q7 p=F):=λh=>by have:=(XU (p:=p) (by rw[hF];exact h)).2.1;rw[hF]at this;exact(Prod.mk.inj this).1.symm
     have HBe:Hid (Vh p=if fe≠0 then(zeroCell,fe)else(⟨true,[Q7 p],p⟩,0)):=by show Vh _=_;unfold Vh;rw[hF]
     rw[hF];rintro e w5⟨vF,rfl,hrF,hb5⟩;have HC5:=Zh (HCc.o.below hb5);have HB5:=Zh (HB2.o.below HC5.o.bel);have RF:=Zh (QW.keep hrF (D':=λb=>w2.heap.size+2<=b) (λb hb _=>Nat.le_trans HCc.o.top hb) (λ_ _ _=>rfl) Znl);obtain⟨aF,cF,rfl,_⟩:=Sl.form hrF;clear hrF hb5 hF;clear hqq hc1 hqb hcb hpb;by_cases hf:fe=0
     .subst hf;have HNC:Hid (nextCell l ⟨1,k,j,p⟩=(⟨true,[F],p⟩,0)):=by show nextCell _ _=_;rw[HNC0.o,HBe.o,if_neg (by simp),HFl.o rfl]
      have HE:Hid (QI l ⟨1,k,j,p⟩=(l.set k ⟨true,[F],p⟩,0)):=by show QI _ _=_;rw[HN'.o,HNC.o];simp
      have HK:=Zh (Bx.one (w:=w5) (o:=.cells #[.slice aF F.length cF] 98));have HCk:=Zh (HC5.o.below HK.o.bel);have HBk:=Zh (HB5.o.below HK.o.bel);have Hsz5:Hid (w2.heap.size+2<=w5.heap.size):=HC5.o.top;have hckk:=HCk.o.cells0;have hpkk:=HCk.o.cells1;have hfkk:=HCk.o.free0;have hc5:=HC5.o.cells0;have hp5:=HC5.o.cells1;have hb5k:=HBk.o.cells0;obtain⟨wF,hwF⟩:∃wF,(((((w5.alloc (.cells #[.slice aF F.length cF] 98)).setCell ⟨w2.heap.size,0,none⟩ (.bool true)).setCell ⟨w2.heap.size,1,none⟩ (.slice (some ⟨w5.heap.size,0,none⟩) 1 1)).setCell ⟨w2.heap.size,2,none⟩ (.slice ap p.ru.length cp)).setCell ⟨w2.heap.size,3,none⟩ (.int .i64 p.df))=wF:=⟨_,rfl⟩;have hoth:∀b,b≠w2.heap.size->wF.heap[b]?=(w5.alloc (.cells #[.slice aF F.length cF] 98)).heap[b]?:=λb hb=>by rw[<-hwF];exact QaZ hb
      have hszF:wF.heap.size=(w5.alloc (.cells #[.slice aF F.length cF] 98)).heap.size:=by rw[<-hwF];exact QcA
      have HCF:=Zh (show Bx w2 _ wF by rw[<-hwF];exact HCk.o.put4n (a':=.bool true) (b':=.slice (some ⟨w5.heap.size,0,none⟩) 1 1) (c':=.slice ap p.ru.length cp) (d':=.int .i64 p.df));have HYp:Hid (Qc wF (λb=>D b\/D' b\/w.heap.size<=b) (.slice ap p.ru.length cp) p.ru):=Qc.keep (Hp2.o.below HCF.o.bel) (λ_ hb _=>.inr (.inl hb.2)) (λ_ _ _=>rfl) Znl
      have HYc:Hid (Qz wF (λb=>D b\/D' b\/w.heap.size<=b) (.slice (some ⟨w5.heap.size,0,none⟩) 1 1) [F]):=
       Ub (xs:=[F]) (rows:=[[.slice aF F.length cF]]) (Qq.cons Qq.nil ⟨_,rfl,(RF.o.below HK.o.bel).keep (λb hb _=>.inr (.inr (by have h1:w2.heap.size+2<=b:=hb;have:=HT.o;simp at this;omega))) (λb hb _=>hoth b (by have h1:w2.heap.size+2<=b:=hb;omega)) (by rw[hszF];exact Nat.le_refl _)⟩ rfl) ((hoth _ (by have:=Hsz5.o;omega)).trans (HK.o.at_ 0 _ rfl)) rfl (.inr (.inr (by have:=Hsz5.o;have:=HT.o;simp at this;omega))) (by simp[maxLen])
      clear hoth hszF;have HBF:=Zh (HB2.o.below HCF.o.bel);have HF:Hid (Qo wF (λb=>b<wF.heap.size/\(D b\/D' b\/w.heap.size<=b)) (.slice (some ⟨b,o,none⟩) l.length c) l):=(H2.o.below HCF.o.bel).keep (λ_ hd hl=>⟨hl,.inl hd⟩) (λ_ _ _=>rfl) Znl;have hqf:=HBF.o.cells0;have hcq:=HCF.o.cells0;obtain⟨i0,hi,hz0,hz1,hz2⟩:=info_parts YC;have Hi:=Zh hi;obtain⟨w7,hw7⟩:∃w7,wF.alloc (.cells #[] 52)=w7:=⟨_,rfl⟩;have Hb7:Hid (Below wF.heap.size wF w7):=by show Below _ _ _;rw[<-hw7];exact Qa Zbr _
      have Ho7:Hid (Qg w7 wF.heap.size 52 4 (XD w7 (λb=>b<wF.heap.size/\(D b\/D' b\/w.heap.size<=b))) (.slice (some ⟨wF.heap.size,0,none⟩) 0 0) []):=JD (by rw[<-hw7];exact Qh _ _) Znl;have H7:=Zh (HF.o.below Hb7.o);have hsz7:w7.heap.size=wF.heap.size+1:=by rw[<-hw7];simp
      have HL4:=Zh Hl4.o;have hq7:∀i,w7.cell? ⟨w.heap.size,i,none⟩=(#[Value.int .i64 1,.int .i64 k,.int .i64 j,.slice ap p.ru.length cp,.int .i64 p.df]:Array Value)[i]?:=(HBF.o.below Hb7.o).cells0;have Hge:Hid (w.heap.size+1<=w2.heap.size/\w2.heap.size+2<=wF.heap.size):=⟨HT.o,HCF.o.top⟩;clear hi
      go_wp2_with(at_builtin;(
       refine QK rfl _ _ 22 rfl wF.heap.size 52 i0 _ 4 64 underlying22 Hi.o hz0 hz1 hz2 rfl (by decide) _ _ rfl Ho7.o _ _ rfl H7.o (λy _ cs h=>ZY y cs h) (by have:=HL4.o;show 0+_<=maxLen;unfold maxLen;omega) (by have:=HL4.o;show(0+_)*64<=_;omega) (by omega) ?_;intro v8 w8 hown8 hg8 hat8;rw[List.nil_append]at hown8;have Hb8:Hid (Below wF.heap.size wF w8):=Below.grown Hb7.o hg8 (by omega) (λg hg=>by have e2:some wF.heap.size=some g:=hg;injection e2 with e2;omega);have hsame:∀b,b<wF.heap.size->w8.heap[b]?=w7.heap[b]?:=(λb hb=>hg8.block b (by omega) (λe=>by have e2:some b=some wF.heap.size:=e;injection e2 with e2;omega));have hs8:w7.heap.size<=w8.heap.size:=hg8.size;obtain⟨a8,c8,rfl⟩:=hown8.slice;obtain⟨g,rfl,hgb,hgl,_⟩:=Qg.addr hown8 (by have:=HL4.o;omega);have HO8:Hid (Ud w8 wF.heap.size (λb=>D b\/D' b\/w.heap.size<=b) g l.length c8 l):=hown8.monoR λ_ _ _ hy=>hy.keep (λb hb _=>⟨hb.2,by have h9:b<wF.heap.size:=hb.1;omega⟩) (λb hb _=>hsame b hb.1) hs8;have Hgb:Hid (wF.heap.size<=g):=hgb;have HBF8:=Zh (HBF.o.below Hb8.o);have HCF8:=Zh (HCF.o.below Hb8.o);have hqf8:=HBF8.o.cells0;have hcq8:=HCF8.o.cells0;have HYc8:Hid (Qz w8 (De (λb=>D b\/D' b\/w.heap.size<=b) g) (.slice (some ⟨w5.heap.size,0,none⟩) 1 1) (⟨true,[F],p⟩:TCell).chain):=HYc.o.keep (λb hb hl=>⟨hb,by have h9:=Hgb.o;omega⟩) (λb _ hl=>Hb8.o.block b hl) Hb8.o.size;have HYp8:Hid (Qc w8 (De (λb=>D b\/D' b\/w.heap.size<=b) g) (.slice ap p.ru.length cp) (⟨true,[F],p⟩:TCell).p.ru):=HYp.o.keep (λb hb hl=>⟨hb,by have h9:=Hgb.o;omega⟩) (λb _ hl=>Hb8.o.block b hl) Hb8.o.size;obtain⟨za1,za2,zc1,zc2,z0,z1,z2,z3,_,_⟩:=HO8.o.cells Hx.o;have hfz:=HO8.o.frz (by have:=HL4.o;omega);have HOw:=Zh (HO8.o.put (y:=(⟨true,[F],p⟩:TCell)) Hx.o HYc8.o HYp8.o);have HRD:=Zh (HOw.o.read (λb hb=>.inr (.inr (by have:=Hge.o;omega))));have Hls:Hid ((l.set k (⟨true,[F],p⟩:TCell)).length=l.length):=List.length_set;have HBL:=Zh (YA (k:=k) (o:=true) (u:=.slice (some ⟨w5.heap.size,0,none⟩) 1 1) (v:=.slice ap p.ru.length cp) (d:=p.df) HBF8.o.bel (show w.heap.size<=g by have:=Hge.o;have:=Hgb.o;omega));clear hown8 hg8 hat8 hgb hgl hsame hs8))
      go_ret2;rw[HE.o];dsimp only;rw[Hls.o];exact⟨_,_,rfl,HRD.o,HBL.o⟩
     have HE:Hid (QI l ⟨1,k,j,p⟩=([],fe)):=by show QI _ _=_;rw[HN'.o,HNC0.o,HBe.o,if_pos hf];simp[hf]
     have hne:(fe != 0)=true:=bne_iff_ne.2 hf;have HBL5:Hid (Below w.heap.size w w5):=HB5.o.bel;clear hf;go_wp2;go_ret2;rw[HE.o];exact⟨_,_,rfl,Ua _ _,HBL5.o⟩
   .cases xop with
    |true=>
     have HE:Hid (QI l ⟨3,k,j,p⟩=([],6)):=by show QI _ _=_;rw[HN.o,if_pos (by rw[Hxop.o];decide)]
     have HBL1:Hid (Below w.heap.size w _):=(HB2.o.below HC1.o.bel).bel;clear HN;go_wp2;go_ret2;rw[HE.o];exact⟨_,_,rfl,Ua _ _,HBL1.o⟩
    |false=>
     have HN':Hid (QI l ⟨3,k,j,p⟩=if(nextCell l ⟨3,k,j,p⟩).2≠0 then([],(nextCell l ⟨3,k,j,p⟩).2)else(l.set k (nextCell l ⟨3,k,j,p⟩).1,0)):=by show QI _ _=_;rw[HN.o,if_neg (by rw[Hxop.o];decide)]
     clear HN;obtain⟨hjL,hY⟩:=List.getElem?_eq_some_iff.1 Hy.o;obtain⟨b1,b2,d1,d2,g0,-,g2,g3,-,hyp⟩:=Qo.cells H2.o hjL;rw[hY]at g0 g2 g3 hyp;have Hp2:Hid (Qc w2 D (.slice b2 y.p.ru.length d2) y.p.ru):=hyp;clear hyp hY hjL;have y0:=Below.cell_alloc' (.cells #[.slice ap p.ru.length cp,.int .i64 p.df] 38) (Below.cell_alloc' (.cells #[.bool false,.slice a1 x.chain.length c1,.slice a2 x.p.ru.length c2,.int .i64 x.p.df] 52) g0);have y2:=Below.cell_alloc' (.cells #[.slice ap p.ru.length cp,.int .i64 p.df] 38) (Below.cell_alloc' (.cells #[.bool false,.slice a1 x.chain.length c1,.slice a2 x.p.ru.length c2,.int .i64 x.p.df] 52) g2);have y3:=Below.cell_alloc' (.cells #[.slice ap p.ru.length cp,.int .i64 p.df] 38) (Below.cell_alloc' (.cells #[.bool false,.slice a1 x.chain.length c1,.slice a2 x.p.ru.length c2,.int .i64 x.p.df] 52) g3);clear g0 g2 g3
     cases yo:y.open_ with
     |false=>
      have HNC:Hid (nextCell l ⟨3,k,j,p⟩=(zeroCell,5)):=by show nextCell _ _=_;unfold nextCell;rw[if_pos rfl,Hyj.o,yo];simp
      have HE:Hid (QI l ⟨3,k,j,p⟩=([],5)):=by show QI _ _=_;rw[HN'.o,HNC.o];simp
      have HBLq:Hid (Below w.heap.size w _):=HBq.o.bel;rw[yo]at y0;go_wp2;go_ret2;rw[HE.o];exact⟨_,_,rfl,Ua _ _,HBLq.o⟩
     |true=>
      have HNC0:Hid (nextCell l ⟨3,k,j,p⟩=Vh y.p):=by show nextCell _ _=_;unfold nextCell;rw[if_pos rfl,Hyj.o,yo];rfl
      rw[yo]at y0;have HCc:=Zh (Bx.two (w:=w2) (o:=.cells #[.bool false,.slice a1 x.chain.length c1,.slice a2 x.p.ru.length c2,.int .i64 x.p.df] 52) (o':=.cells #[.slice b2 y.p.ru.length d2,.int .i64 y.p.df] 38));have Hpp:=Zh (Hp2.o.below HCc.o.bel);have hcS:=HCc.o.cells0;have hpS:=HCc.o.cells1;have hqS:=(HB2.o.below HCc.o.bel).cells0;go_wp2_with fail
      refine(Gl _ y.p _ _ Hpp.o).mono ?_;obtain⟨⟨F,fe⟩,hF⟩:∃E,Uy y.p=E:=⟨_,rfl⟩;have HFl:Hid (fe=0->Q7 y.p=F):=λh=>by have:=(XU (p:=y.p) (by rw[hF];exact h)).2.1;rw[hF]at this;exact(Prod.mk.inj this).1.symm
      have HBe:Hid (Vh y.p=if fe≠0 then(zeroCell,fe)else(⟨true,[Q7 y.p],y.p⟩,0)):=by show Vh _=_;unfold Vh;rw[hF]
      rw[hF];rintro e w5⟨vF,rfl,hrF,hb5⟩;have HC5:=Zh (HCc.o.below hb5);have HB5:=Zh (HB2.o.below HC5.o.bel);have RF:=Zh (QW.keep hrF (D':=λb=>w2.heap.size+2<=b) (λb hb _=>Nat.le_trans HCc.o.top hb) (λ_ _ _=>rfl) Znl);obtain⟨aF,cF,rfl,_⟩:=Sl.form hrF;clear hrF hb5 hF;clear hqq hc1 hqb hcb hpb;by_cases hf:fe=0
      .subst hf;have HNC:Hid (nextCell l ⟨3,k,j,p⟩=(⟨true,[F],y.p⟩,0)):=by show nextCell _ _=_;rw[HNC0.o,HBe.o,if_neg (by simp),HFl.o rfl]
       have HE:Hid (QI l ⟨3,k,j,p⟩=(l.set k ⟨true,[F],y.p⟩,0)):=by show QI _ _=_;rw[HN'.o,HNC.o];simp
       have HK:=Zh (Bx.one (w:=w5) (o:=.cells #[.slice aF F.length cF] 98));have HCk:=Zh (HC5.o.below HK.o.bel);have HBk:=Zh (HB5.o.below HK.o.bel);have Hsz5:Hid (w2.heap.size+2<=w5.heap.size):=HC5.o.top;have hckk:=HCk.o.cells0;have hpkk:=HCk.o.cells1;have hfkk:=HCk.o.free0;have hc5:=HC5.o.cells0;have hp5:=HC5.o.cells1;have hb5k:=HBk.o.cells0;obtain⟨wF,hwF⟩:∃wF,(((((w5.alloc (.cells #[.slice aF F.length cF] 98)).setCell ⟨w2.heap.size,0,none⟩ (.bool true)).setCell ⟨w2.heap.size,1,none⟩ (.slice (some ⟨w5.heap.size,0,none⟩) 1 1)).setCell ⟨w2.heap.size,2,none⟩ (.slice b2 y.p.ru.length d2)).setCell ⟨w2.heap.size,3,none⟩ (.int .i64 y.p.df))=wF:=⟨_,rfl⟩;have hoth:∀b,b≠w2.heap.size->wF.heap[b]?=(w5.alloc (.cells #[.slice aF F.length cF] 98)).heap[b]?:=λb hb=>by rw[<-hwF];exact QaZ hb
       have hszF:wF.heap.size=(w5.alloc (.cells #[.slice aF F.length cF] 98)).heap.size:=by rw[<-hwF];exact QcA
       have HCF:=Zh (show Bx w2 _ wF by rw[<-hwF];exact HCk.o.put4n (a':=.bool true) (b':=.slice (some ⟨w5.heap.size,0,none⟩) 1 1) (c':=.slice b2 y.p.ru.length d2) (d':=.int .i64 y.p.df));have HYp:Hid (Qc wF (λb=>D b\/D' b\/w.heap.size<=b) (.slice b2 y.p.ru.length d2) y.p.ru):=Qc.keep (Hp2.o.below HCF.o.bel) (λ_ hb _=>.inl hb) (λ_ _ _=>rfl) Znl
       have HYc:Hid (Qz wF (λb=>D b\/D' b\/w.heap.size<=b) (.slice (some ⟨w5.heap.size,0,none⟩) 1 1) [F]):=
        Ub (xs:=[F]) (rows:=[[.slice aF F.length cF]]) (Qq.cons Qq.nil ⟨_,rfl,(RF.o.below HK.o.bel).keep (λb hb _=>.inr (.inr (by have h1:w2.heap.size+2<=b:=hb;have:=HT.o;simp at this;omega))) (λb hb _=>hoth b (by have h1:w2.heap.size+2<=b:=hb;omega)) (by rw[hszF];exact Nat.le_refl _)⟩ rfl) ((hoth _ (by have:=Hsz5.o;omega)).trans (HK.o.at_ 0 _ rfl)) rfl (.inr (.inr (by have:=Hsz5.o;have:=HT.o;simp at this;omega))) (by simp[maxLen])
       clear hoth hszF;have HBF:=Zh (HB2.o.below HCF.o.bel);have HF:Hid (Qo wF (λb=>b<wF.heap.size/\(D b\/D' b\/w.heap.size<=b)) (.slice (some ⟨b,o,none⟩) l.length c) l):=(H2.o.below HCF.o.bel).keep (λ_ hd hl=>⟨hl,.inl hd⟩) (λ_ _ _=>rfl) Znl;have hqf:=HBF.o.cells0;have hcq:=HCF.o.cells0;obtain⟨i0,hi,hz0,hz1,hz2⟩:=info_parts YC;have Hi:=Zh hi;obtain⟨w7,hw7⟩:∃w7,wF.alloc (.cells #[] 52)=w7:=⟨_,rfl⟩;have Hb7:Hid (Below wF.heap.size wF w7):=by show Below _ _ _;rw[<-hw7];exact Qa Zbr _
       have Ho7:Hid (Qg w7 wF.heap.size 52 4 (XD w7 (λb=>b<wF.heap.size/\(D b\/D' b\/w.heap.size<=b))) (.slice (some ⟨wF.heap.size,0,none⟩) 0 0) []):=JD (by rw[<-hw7];exact Qh _ _) Znl;have H7:=Zh (HF.o.below Hb7.o);have hsz7:w7.heap.size=wF.heap.size+1:=by rw[<-hw7];simp
       have HL4:=Zh Hl4.o;have hq7:∀i,w7.cell? ⟨w.heap.size,i,none⟩=(#[Value.int .i64 3,.int .i64 k,.int .i64 j,.slice ap p.ru.length cp,.int .i64 p.df]:Array Value)[i]?:=(HBF.o.below Hb7.o).cells0;have Hge:Hid (w.heap.size+1<=w2.heap.size/\w2.heap.size+2<=wF.heap.size):=⟨HT.o,HCF.o.top⟩;clear hi
       go_wp2_with(at_builtin;(
        refine QK rfl _ _ 22 rfl wF.heap.size 52 i0 _ 4 64 underlying22 Hi.o hz0 hz1 hz2 rfl (by decide) _ _ rfl Ho7.o _ _ rfl H7.o (λy _ cs h=>ZY y cs h) (by have:=HL4.o;show 0+_<=maxLen;unfold maxLen;omega) (by have:=HL4.o;show(0+_)*64<=_;omega) (by omega) ?_;intro v8 w8 hown8 hg8 hat8;rw[List.nil_append]at hown8;have Hb8:Hid (Below wF.heap.size wF w8):=Below.grown Hb7.o hg8 (by omega) (λg hg=>by have e2:some wF.heap.size=some g:=hg;injection e2 with e2;omega);have hsame:∀b,b<wF.heap.size->w8.heap[b]?=w7.heap[b]?:=(λb hb=>hg8.block b (by omega) (λe=>by have e2:some b=some wF.heap.size:=e;injection e2 with e2;omega));have hs8:w7.heap.size<=w8.heap.size:=hg8.size;obtain⟨a8,c8,rfl⟩:=hown8.slice;obtain⟨g,rfl,hgb,hgl,_⟩:=Qg.addr hown8 (by have:=HL4.o;omega);have HO8:Hid (Ud w8 wF.heap.size (λb=>D b\/D' b\/w.heap.size<=b) g l.length c8 l):=hown8.monoR λ_ _ _ hy=>hy.keep (λb hb _=>⟨hb.2,by have h9:b<wF.heap.size:=hb.1;omega⟩) (λb hb _=>hsame b hb.1) hs8;have Hgb:Hid (wF.heap.size<=g):=hgb;have HBF8:=Zh (HBF.o.below Hb8.o);have HCF8:=Zh (HCF.o.below Hb8.o);have hqf8:=HBF8.o.cells0;have hcq8:=HCF8.o.cells0;have HYc8:Hid (Qz w8 (De (λb=>D b\/D' b\/w.heap.size<=b) g) (.slice (some ⟨w5.heap.size,0,none⟩) 1 1) (⟨true,[F],y.p⟩:TCell).chain):=HYc.o.keep (λb hb hl=>⟨hb,by have h9:=Hgb.o;omega⟩) (λb _ hl=>Hb8.o.block b hl) Hb8.o.size;have HYp8:Hid (Qc w8 (De (λb=>D b\/D' b\/w.heap.size<=b) g) (.slice b2 y.p.ru.length d2) (⟨true,[F],y.p⟩:TCell).p.ru):=HYp.o.keep (λb hb hl=>⟨hb,by have h9:=Hgb.o;omega⟩) (λb _ hl=>Hb8.o.block b hl) Hb8.o.size;obtain⟨za1,za2,zc1,zc2,z0,z1,z2,z3,_,_⟩:=HO8.o.cells Hx.o;have hfz:=HO8.o.frz (by have:=HL4.o;omega);have HOw:=Zh (HO8.o.put (y:=(⟨true,[F],y.p⟩:TCell)) Hx.o HYc8.o HYp8.o);have HRD:=Zh (HOw.o.read (λb hb=>.inr (.inr (by have:=Hge.o;omega))));have Hls:Hid ((l.set k (⟨true,[F],y.p⟩:TCell)).length=l.length):=List.length_set;have HBL:=Zh (YA (k:=k) (o:=true) (u:=.slice (some ⟨w5.heap.size,0,none⟩) 1 1) (v:=.slice b2 y.p.ru.length d2) (d:=y.p.df) HBF8.o.bel (show w.heap.size<=g by have:=Hge.o;have:=Hgb.o;omega));clear hown8 hg8 hat8 hgb hgl hsame hs8))
       go_ret2;rw[HE.o];dsimp only;rw[Hls.o];exact⟨_,_,rfl,HRD.o,HBL.o⟩
      have HE:Hid (QI l ⟨3,k,j,p⟩=([],fe)):=by show QI _ _=_;rw[HN'.o,HNC0.o,HBe.o,if_pos hf];simp[hf]
      have hne:(fe != 0)=true:=bne_iff_ne.2 hf;have HBL5:Hid (Below w.heap.size w w5):=HB5.o.bel;clear hf;go_wp2;go_ret2;rw[HE.o];exact⟨_,_,rfl,Ua _ _,HBL5.o⟩
   .cases xop with
    |false=>
     have HE:Hid (QI l ⟨2,k,j,p⟩=([],6)):=by show QI _ _=_;rw[HN.o,if_pos (by rw[Hxop.o];decide)]
     have HBL1:Hid (Below w.heap.size w _):=(HB2.o.below HC1.o.bel).bel;clear HN;go_wp2;go_ret2;rw[HE.o];exact⟨_,_,rfl,Ua _ _,HBL1.o⟩
    |true=>
     have HN':Hid (QI l ⟨2,k,j,p⟩=if(nextCell l ⟨2,k,j,p⟩).2≠0 then([],(nextCell l ⟨2,k,j,p⟩).2)else(l.set k (nextCell l ⟨2,k,j,p⟩).1,0)):=by show QI _ _=_;rw[HN.o,if_neg (by rw[Hxop.o];decide)]
     clear HN;obtain⟨⟨T,te⟩,hTt⟩:∃E,UC x.chain x.p p=E:=⟨_,rfl⟩;have HTt:=Zh hTt;have HNC0:Hid (nextCell l ⟨2,k,j,p⟩=if te≠0 then(zeroCell,te)else(⟨true,T,p⟩,0)):=by show nextCell _ _=_;unfold nextCell;dsimp only;rw[if_neg (by decide),if_neg (by decide),if_pos rfl,Hxk.o,hTt]
     clear hTt;have Hrc2:Hid (Qz w2 (λb=>b<w2.heap.size/\D b) (.slice a1 x.chain.length c1) x.chain):=Hrc.o.keep (λ_ hd hl=>⟨hl,hd⟩) (λ_ _ _=>rfl) Znl;have HcC:=Zh (Hrc2.o.below HC.o.bel);have HcP:=Zh (VT (Hrp.o.below HC.o.bel));have HcR:=Zh (VT (Hr2.o.below HC.o.bel));go_wp2_with fail
     refine(QcJ _ _ _ x.chain x.p p _ _ HcC.o HcP.o HcR.o).mono ?_;rw[HTt.o];rintro e w5⟨v5,rfl,hr5,hb5⟩;have HC5:=Zh (HC.o.below hb5);have HB5:=Zh (HB2.o.below HC5.o.bel);have RT:Hid (Qz w5 (λb=>(b<w2.heap.size/\D b)\/w2.heap.size+2<=b) v5 T):=hr5.keep (λb hb _=>hb.elim .inl (λh=>.inr (Nat.le_trans HC.o.top h))) (λ_ _ _=>rfl) Znl;obtain⟨a5,c5,rfl,_⟩:=Sl.form hr5;clear hr5 hb5 hqq hc1 hqb hcb hpb;by_cases hte:te=0
     .subst hte;have HNC:Hid (nextCell l ⟨2,k,j,p⟩=(⟨true,T,p⟩,0)):=by show nextCell _ _=_;rw[HNC0.o,if_neg (by simp)]
      have HE:Hid (QI l ⟨2,k,j,p⟩=(l.set k ⟨true,T,p⟩,0)):=by show QI _ _=_;rw[HN'.o,HNC.o];simp
      have hc5:=HC5.o.cells0;have hp5:=HC5.o.cells1;have hf5:=HC5.o.free0;have HI0:Hid (QfH w2 w5 52 (.cells #[.slice ap p.ru.length cp,.int .i64 p.df] 38) (.bool true) (.slice a1 x.chain.length c1) (.slice a2 x.p.ru.length c2) (.int .i64 x.p.df) (.slice a5 T.length c5) (.slice ap p.ru.length cp) (.int .i64 p.df) (λ_=>false) w5.drew):=⟨HC5.o.drew,GU _ _⟩;go_wp2_with fail
      refine Vf (QfH w2 w5 52 (.cells #[.slice ap p.ru.length cp,.int .i64 p.df] 38) (.bool true) (.slice a1 x.chain.length c1) (.slice a2 x.p.ru.length c2) (.int .i64 x.p.df) (.slice a5 T.length c5) (.slice ap p.ru.length cp) (.int .i64 p.df)) (by kernel_rfl) (by kernel_rfl) HI0.o _ rfl ?_
      iterate 3 (refine Qk (λK hK=>?_);apply Exists.intro;refine⟨λdn W hI h0 hd hn R hR=>?_,?_⟩;(have hpw:=hI.bx.cells1;have hcw:=hI.bx.cells0;clear h0 hd hn;go_simp;exact hR _ _ (hI.step (by decide) (by decide)) rfl);(go_simp;refine hK _ ?_;clear hK K))
      iterate 3 (refine Qk (λK hK=>?_);apply Exists.intro;refine⟨λdn W hI h0 hd hn R hR=>?_,?_⟩;(first|(have hpw:=hI.bx.cells1;have hcw:=hI.bx.cells0;clear h0 hd hn;go_simp;exact hR _ _ (hI.step (by decide) (by decide)) rfl)|(have hcw:=hI.bx.cells0;have hcf:=hI.bx.free0;have HS:=Zh hI.st3;clear h0 hd hn hI;go_simp;exact hR _ _ HS.o rfl)|(have hcw:=hI.bx.cells0;have hcf:=hI.bx.free0;have HS:=Zh hI.st5;clear h0 hd hn hI;go_simp;exact hR _ _ HS.o rfl));(go_simp;refine hK _ ?_;clear hK K))
      intro dn wF hdone hI;have hbx:=hI.bx;rw[hdone 3 (by decide),hdone 5 (by decide)]at hbx;have HCF:Hid (Bx w2 [.cells #[.bool true,.slice a5 T.length c5,.slice ap p.ru.length cp,.int .i64 p.df] 52,.cells #[.slice ap p.ru.length cp,.int .i64 p.df] 38] wF):=hbx;have HYp:Hid (Qc wF (λb=>D b\/D' b\/w.heap.size<=b) (.slice ap p.ru.length cp) p.ru):=Qc.keep (Hr2.o.below HCF.o.bel) (λ_ hb _=>.inr (.inl hb.2)) (λ_ _ _=>rfl) Znl;have HYc:Hid (Qz wF (λb=>D b\/D' b\/w.heap.size<=b) (.slice a5 T.length c5) T):=RT.o.keep (λb hb _=>hb.elim (λh=>.inl h.2) (λh=>.inr (.inr (by have:=HT.o;simp at this;omega)))) (λb hb hl=>hI.gr.block b hl (λe=>by have hb2:(b<w2.heap.size/\D b)\/w2.heap.size+2<=b:=hb;injection e with e;rcases hb2 with hb2|hb2;all_goals omega)) hI.gr.size;clear hbx hdone hI hc5 hp5 hf5;have HBF:=Zh (HB2.o.below HCF.o.bel);have HF:Hid (Qo wF (λb=>b<wF.heap.size/\(D b\/D' b\/w.heap.size<=b)) (.slice (some ⟨b,o,none⟩) l.length c) l):=(H2.o.below HCF.o.bel).keep (λ_ hd hl=>⟨hl,.inl hd⟩) (λ_ _ _=>rfl) Znl;have hqf:=HBF.o.cells0;have hcq:=HCF.o.cells0;obtain⟨i0,hi,hz0,hz1,hz2⟩:=info_parts YC;have Hi:=Zh hi;obtain⟨w7,hw7⟩:∃w7,wF.alloc (.cells #[] 52)=w7:=⟨_,rfl⟩;have Hb7:Hid (Below wF.heap.size wF w7):=by show Below _ _ _;rw[<-hw7];exact Qa Zbr _
      have Ho7:Hid (Qg w7 wF.heap.size 52 4 (XD w7 (λb=>b<wF.heap.size/\(D b\/D' b\/w.heap.size<=b))) (.slice (some ⟨wF.heap.size,0,none⟩) 0 0) []):=JD (by rw[<-hw7];exact Qh _ _) Znl;have H7:=Zh (HF.o.below Hb7.o);have hsz7:w7.heap.size=wF.heap.size+1:=by rw[<-hw7];simp
      have HL4:=Zh Hl4.o;have hq7:∀i,w7.cell? ⟨w.heap.size,i,none⟩=(#[Value.int .i64 2,.int .i64 k,.int .i64 j,.slice ap p.ru.length cp,.int .i64 p.df]:Array Value)[i]?:=(HBF.o.below Hb7.o).cells0;have Hge:Hid (w.heap.size+1<=w2.heap.size/\w2.heap.size+2<=wF.heap.size):=⟨HT.o,HCF.o.top⟩;clear hi
      go_wp2_with(at_builtin;(
       refine QK rfl _ _ 22 rfl wF.heap.size 52 i0 _ 4 64 underlying22 Hi.o hz0 hz1 hz2 rfl (by decide) _ _ rfl Ho7.o _ _ rfl H7.o (λy _ cs h=>ZY y cs h) (by have:=HL4.o;show 0+_<=maxLen;unfold maxLen;omega) (by have:=HL4.o;show(0+_)*64<=_;omega) (by omega) ?_;intro v8 w8 hown8 hg8 hat8;rw[List.nil_append]at hown8;have Hb8:Hid (Below wF.heap.size wF w8):=Below.grown Hb7.o hg8 (by omega) (λg hg=>by have e2:some wF.heap.size=some g:=hg;injection e2 with e2;omega);have hsame:∀b,b<wF.heap.size->w8.heap[b]?=w7.heap[b]?:=(λb hb=>hg8.block b (by omega) (λe=>by have e2:some b=some wF.heap.size:=e;injection e2 with e2;omega));have hs8:w7.heap.size<=w8.heap.size:=hg8.size;obtain⟨a8,c8,rfl⟩:=hown8.slice;obtain⟨g,rfl,hgb,hgl,_⟩:=Qg.addr hown8 (by have:=HL4.o;omega);have HO8:Hid (Ud w8 wF.heap.size (λb=>D b\/D' b\/w.heap.size<=b) g l.length c8 l):=hown8.monoR λ_ _ _ hy=>hy.keep (λb hb _=>⟨hb.2,by have h9:b<wF.heap.size:=hb.1;omega⟩) (λb hb _=>hsame b hb.1) hs8;have Hgb:Hid (wF.heap.size<=g):=hgb;have HBF8:=Zh (HBF.o.below Hb8.o);have HCF8:=Zh (HCF.o.below Hb8.o);have hqf8:=HBF8.o.cells0;have hcq8:=HCF8.o.cells0;have HYc8:Hid (Qz w8 (De (λb=>D b\/D' b\/w.heap.size<=b) g) (.slice a5 T.length c5) (⟨true,T,p⟩:TCell).chain):=HYc.o.keep (λb hb hl=>⟨hb,by have h9:=Hgb.o;omega⟩) (λb _ hl=>Hb8.o.block b hl) Hb8.o.size;have HYp8:Hid (Qc w8 (De (λb=>D b\/D' b\/w.heap.size<=b) g) (.slice ap p.ru.length cp) (⟨true,T,p⟩:TCell).p.ru):=HYp.o.keep (λb hb hl=>⟨hb,by have h9:=Hgb.o;omega⟩) (λb _ hl=>Hb8.o.block b hl) Hb8.o.size;obtain⟨za1,za2,zc1,zc2,z0,z1,z2,z3,_,_⟩:=HO8.o.cells Hx.o;have hfz:=HO8.o.frz (by have:=HL4.o;omega);have HOw:=Zh (HO8.o.put (y:=(⟨true,T,p⟩:TCell)) Hx.o HYc8.o HYp8.o);have HRD:=Zh (HOw.o.read (λb hb=>.inr (.inr (by have:=Hge.o;omega))));have Hls:Hid ((l.set k (⟨true,T,p⟩:TCell)).length=l.length):=List.length_set;have HBL:=Zh (YA (k:=k) (o:=true) (u:=.slice a5 T.length c5) (v:=.slice ap p.ru.length cp) (d:=p.df) HBF8.o.bel (show w.heap.size<=g by have:=Hge.o;have:=Hgb.o;omega));clear hown8 hg8 hat8 hgb hgl hsame hs8))
      go_ret2;rw[HE.o];dsimp only;rw[Hls.o];exact⟨_,_,rfl,HRD.o,HBL.o⟩
     have HE:Hid (QI l ⟨2,k,j,p⟩=([],te)):=by show QI _ _=_;rw[HN'.o,HNC0.o,if_pos hte];simp[hte]
     have hne:(te != 0)=true:=bne_iff_ne.2 hte;have HBL5:Hid (Below w.heap.size w w5):=HB5.o.bel;clear hte;go_wp2;go_ret2;rw[HE.o];exact⟨_,_,rfl,Ua _ _,HBL5.o⟩
   cases xop with
   |false=>
    have HE:Hid (QI l ⟨4,k,j,p⟩=([],6)):=by show QI _ _=_;rw[HN.o,if_pos (by rw[Hxop.o];decide)]
    have HBL1:Hid (Below w.heap.size w _):=(HB2.o.below HC1.o.bel).bel;clear HN;go_wp2;go_ret2;rw[HE.o];exact⟨_,_,rfl,Ua _ _,HBL1.o⟩
   |true=>
    have HN':Hid (QI l ⟨4,k,j,p⟩=if(nextCell l ⟨4,k,j,p⟩).2≠0 then([],(nextCell l ⟨4,k,j,p⟩).2)else(l.set k (nextCell l ⟨4,k,j,p⟩).1,0)):=by show QI _ _=_;rw[HN.o,if_neg (by rw[Hxop.o];decide)]
    clear HN;have HNC:Hid (nextCell l ⟨4,k,j,p⟩=(zeroCell,0)):=by show nextCell _ _=_;unfold nextCell;simp
    have HE:Hid (QI l ⟨4,k,j,p⟩=(l.set k zeroCell,0)):=by show QI _ _=_;rw[HN'.o,HNC.o];simp
    obtain⟨wF,hwF⟩:∃wF,((w2.alloc (.cells #[.bool false,.slice none 0 0,.slice none 0 0,.int .i64 0] 52)).alloc (.cells #[.slice ap p.ru.length cp,.int .i64 p.df] 38))=wF:=⟨_,rfl⟩;have HCF:=Zh (show Bx w2 _ wF by rw[<-hwF];exact Bx.two (o:=.cells #[.bool false,.slice none 0 0,.slice none 0 0,.int .i64 0] 52) (o':=.cells #[.slice ap p.ru.length cp,.int .i64 p.df] 38));have HYp:Hid (Qc wF (λb=>D b\/D' b\/w.heap.size<=b) (.slice none 0 0) []):=XZ _ _;have HYc:Hid (Qz wF (λb=>D b\/D' b\/w.heap.size<=b) (.slice none 0 0) []):=V6 _ _;have HBF:=Zh (HB2.o.below HCF.o.bel);have HF:Hid (Qo wF (λb=>b<wF.heap.size/\(D b\/D' b\/w.heap.size<=b)) (.slice (some ⟨b,o,none⟩) l.length c) l):=(H2.o.below HCF.o.bel).keep (λ_ hd hl=>⟨hl,.inl hd⟩) (λ_ _ _=>rfl) Znl;have hqf:=HBF.o.cells0;have hcq:=HCF.o.cells0;obtain⟨i0,hi,hz0,hz1,hz2⟩:=info_parts YC;have Hi:=Zh hi;obtain⟨w7,hw7⟩:∃w7,wF.alloc (.cells #[] 52)=w7:=⟨_,rfl⟩;have Hb7:Hid (Below wF.heap.size wF w7):=by show Below _ _ _;rw[<-hw7];exact Qa Zbr _
    have Ho7:Hid (Qg w7 wF.heap.size 52 4 (XD w7 (λb=>b<wF.heap.size/\(D b\/D' b\/w.heap.size<=b))) (.slice (some ⟨wF.heap.size,0,none⟩) 0 0) []):=JD (by rw[<-hw7];exact Qh _ _) Znl;have H7:=Zh (HF.o.below Hb7.o);have hsz7:w7.heap.size=wF.heap.size+1:=by rw[<-hw7];simp
    have HL4:=Zh Hl4.o;have hq7:∀i,w7.cell? ⟨w.heap.size,i,none⟩=(#[Value.int .i64 4,.int .i64 k,.int .i64 j,.slice ap p.ru.length cp,.int .i64 p.df]:Array Value)[i]?:=(HBF.o.below Hb7.o).cells0;have Hge:Hid (w.heap.size+1<=w2.heap.size/\w2.heap.size+2<=wF.heap.size):=⟨HT.o,HCF.o.top⟩;clear hi
    go_wp2_with(at_builtin;(
     refine QK rfl _ _ 22 rfl wF.heap.size 52 i0 _ 4 64 underlying22 Hi.o hz0 hz1 hz2 rfl (by decide) _ _ rfl Ho7.o _ _ rfl H7.o (λy _ cs h=>ZY y cs h) (by have:=HL4.o;show 0+_<=maxLen;unfold maxLen;omega) (by have:=HL4.o;show(0+_)*64<=_;omega) (by omega) ?_;intro v8 w8 hown8 hg8 hat8;rw[List.nil_append]at hown8;have Hb8:Hid (Below wF.heap.size wF w8):=Below.grown Hb7.o hg8 (by omega) (λg hg=>by have e2:some wF.heap.size=some g:=hg;injection e2 with e2;omega);have hsame:∀b,b<wF.heap.size->w8.heap[b]?=w7.heap[b]?:=(λb hb=>hg8.block b (by omega) (λe=>by have e2:some b=some wF.heap.size:=e;injection e2 with e2;omega));have hs8:w7.heap.size<=w8.heap.size:=hg8.size;obtain⟨a8,c8,rfl⟩:=hown8.slice;obtain⟨g,rfl,hgb,hgl,_⟩:=Qg.addr hown8 (by have:=HL4.o;omega);have HO8:Hid (Ud w8 wF.heap.size (λb=>D b\/D' b\/w.heap.size<=b) g l.length c8 l):=hown8.monoR λ_ _ _ hy=>hy.keep (λb hb _=>⟨hb.2,by have h9:b<wF.heap.size:=hb.1;omega⟩) (λb hb _=>hsame b hb.1) hs8;have Hgb:Hid (wF.heap.size<=g):=hgb;have HBF8:=Zh (HBF.o.below Hb8.o);have HCF8:=Zh (HCF.o.below Hb8.o);have hqf8:=HBF8.o.cells0;have hcq8:=HCF8.o.cells0;have HYc8:Hid (Qz w8 (De (λb=>D b\/D' b\/w.heap.size<=b) g) (.slice none 0 0) (zeroCell:TCell).chain):=HYc.o.keep (λb hb hl=>⟨hb,by have h9:=Hgb.o;omega⟩) (λb _ hl=>Hb8.o.block b hl) Hb8.o.size;have HYp8:Hid (Qc w8 (De (λb=>D b\/D' b\/w.heap.size<=b) g) (.slice none 0 0) (zeroCell:TCell).p.ru):=HYp.o.keep (λb hb hl=>⟨hb,by have h9:=Hgb.o;omega⟩) (λb _ hl=>Hb8.o.block b hl) Hb8.o.size;obtain⟨za1,za2,zc1,zc2,z0,z1,z2,z3,_,_⟩:=HO8.o.cells Hx.o;have hfz:=HO8.o.frz (by have:=HL4.o;omega);have HOw:=Zh (HO8.o.put (y:=(zeroCell:TCell)) Hx.o HYc8.o HYp8.o);have HRD:=Zh (HOw.o.read (λb hb=>.inr (.inr (by have:=Hge.o;omega))));have Hls:Hid ((l.set k (zeroCell:TCell)).length=l.length):=List.length_set;have HBL:=Zh (YA (k:=k) (o:=false) (u:=.slice none 0 0) (v:=.slice none 0 0) (d:=0) HBF8.o.bel (show w.heap.size<=g by have:=Hge.o;have:=Hgb.o;omega));clear hown8 hg8 hat8 hgb hgl hsame hs8))
    go_ret2;rw[HE.o];dsimp only;rw[Hls.o];exact⟨_,_,rfl,HRD.o,HBL.o⟩
  have HE:Hid (QI l ⟨kd,cl,fr,p⟩=([],UJ ⟨kd,cl,fr,p⟩)):=by show QI _ _=_;unfold QI;rw[if_neg (by rw[H0.o];simp),if_pos h3]
  have HBL:Hid (Below w.heap.size w w2):=HB2.o.bel;have hne:(UJ ⟨kd,cl,fr,p⟩ != 0)=true:=bne_iff_ne.2 h3;generalize UJ ⟨kd,cl,fr,p⟩=E at *;clear h3;go_wp2;go_ret2;rw[HE.o];exact⟨_,_,rfl,Ua _ _,HBL.o⟩
 have HE:Hid (QI l ⟨kd,cl,fr,p⟩=([],cellsE l)):=by show QI _ _=_;unfold QI;rw[if_pos h0]
 have HBL:Hid (Below w.heap.size w w1):=HB1.o.bel;have hne:(cellsE l != 0)=true:=bne_iff_ne.2 h0;generalize cellsE l=E at *;clear h0;go_wp2;go_ret2;rw[HE.o];exact⟨_,_,rfl,Ua _ _,HBL.o⟩
end
section
open Go.RowKit
theorem ZB(w:World):Calls prog 61 #[] w λe w'=>∃v,e=.returned v/\Qo w' (λb=>w.heap.size<=b) v newCells/\Below w.heap.size w w':=by
 obtain⟨i0,hi,hz0,hz1,hz2⟩:=info_parts YC;have hmk:=λ(W:World)=>run_make (P:=prog) W 22 52 i0 (.agg #[.bool false,.slice none 0 0,.slice none 0 0,.int .i64 0]) underlying22 hi hz0 .i64 .i64 4 4 (by decide) (by decide) (by rw[hz2];decide) (by decide);have hcs:madeCells (Value.agg #[.bool false,.slice none 0 0,.slice none 0 0,.int .i64 0]).cells ((4:Int).toNat*i0.size) = #[.bool false,.slice none 0 0,.slice none 0 0,.int .i64 0,.bool false,.slice none 0 0,.slice none 0 0,.int .i64 0,.bool false,.slice none 0 0,.slice none 0 0,.int .i64 0,.bool false,.slice none 0 0,.slice none 0 0,.int .i64 0]:=by rw[hz1];kernel_rfl
 rw[hcs,show(4:Int).toNat=4 from rfl]at hmk
 have hrd:∀W:World,Qo (W.alloc (.cells #[.bool false,.slice none 0 0,.slice none 0 0,.int .i64 0,.bool false,.slice none 0 0,.slice none 0 0,.int .i64 0,.bool false,.slice none 0 0,.slice none 0 0,.int .i64 0,.bool false,.slice none 0 0,.slice none 0 0,.int .i64 0] 52)) (λb=>W.heap.size<=b) (.slice (some ⟨W.heap.size,0,none⟩) 4 4) newCells:=λW=>by
  have hz:∀W' D',XD W' D' zeroCell [.bool false,.slice none 0 0,.slice none 0 0,.int .i64 0]:=λW' D'=>⟨_,_,rfl,⟨none,0,rfl,Nat.le_refl _,by decide,λ_=>rfl,λh=>by cases h⟩,⟨none,0,rfl,Nat.le_refl _,by decide,λ_=>rfl,λh=>by cases h⟩⟩;exact Ub (xs:=newCells) (Qq.cons (Qq.cons (Qq.cons (Qq.cons Qq.nil (hz _ _) rfl) (hz _ _) rfl) (hz _ _) rfl) (hz _ _) rfl) (Qh _ _) rfl Znl (by simp[maxLen,newCells])
 have Hrd:=Zh hrd;clear hrd hcs hi hz0 hz1 hz2;go_enter func61,ntmps61;go_wp2;go_ret;exact⟨_,rfl,Hrd.o w,Qa Zbr _⟩
end
section
open Go.RowKit
theorem G9(l:List TRec)(k:Nat)(h:k<l.length)(c:List TCell):Uj (l.drop k) c=if(QI c l[k]).2≠0 then([],(QI c l[k]).2)else Uj (l.drop (k+1)) (QI c l[k]).1:=by
 rw[List.drop_eq_getElem_cons h];rfl
theorem OJ(v:Value)(l:List TRec)(D:Nat->Prop)(w:World)(h:Vg w D v l):
  Calls prog 59 #[v] w λe w'=>∃a1 c1,e=.returned (.tuple #[.slice a1 (QA l).1.length c1,.int .i64 (QA l).2])/\Qo w' (λb=>w.heap.size<=b) (.slice a1 (QA l).1.length c1) (QA l).1/\Below w.heap.size w w':=by
 have H:=Zh h;obtain⟨a,c,rfl,hlc,hcm,hat⟩:=Sl.form h;clear h;by_cases h40:40<l.length
 .have HE:Hid (QA l=([],2)):=by show QA l=_;unfold QA;rw[if_pos h40]
  have hz:40<(l.length:Int):=by omega
  clear h40 hat;go_enter func59,ntmps59;go_wp2;go_ret2;rw[HE.o];exact⟨_,_,rfl,Ua _ _,Below.refl _ _⟩
 have HE:Hid (QA l=Uj l newCells):=by show QA l=_;unfold QA;rw[if_neg h40]
 have hz:¬40<(l.length:Int):=by omega
 clear h40;go_enter func59,ntmps59;go_wp2_with fail
 refine(ZB _).mono ?_;rintro e w1⟨v1,rfl,hr1,hb1⟩;have Hr1:=Zh hr1;have Hb1:=Zh hb1;obtain⟨a1,c1,rfl,_⟩:=Sl.form hr1;clear hr1 hb1;go_wp2_with fail
 go_loopw[4,14](λov kv wr=>∃(k:Nat)(ls:List TCell)(a2:Option Addr)(c2:Nat),kv=.int .i64 k/\ov=.slice a2 ls.length c2/\k<=l.length/\Uj l newCells=Uj (l.drop k) ls/\Qo wr (λb=>w.heap.size<=b) (.slice a2 ls.length c2) ls/\Below w.heap.size w wr) (λ_ kv _=>l.length-(intOf kv).toNat)
 case atStart=>exact⟨0,newCells,_,_,rfl,rfl,by omega,rfl,Hr1.o,Hb1.o⟩
 case round=>
  obtain⟨k,ls,a2,c2,rfl,rfl,hk,hgo,hrd,hbw⟩:=hrel;have Hgo:=Zh hgo;have Hrd:=Zh hrd;have Hb:=Zh hbw;clear hgo hrd hbw;by_cases hlt:k<l.length
  .obtain⟨b,o,rfl,_,_⟩:=hat (by omega);obtain⟨a3,c3,x0,x1,x2,x3,x4,hp⟩:=Vg.cells (H.o.below Hb.o) hlt;have Hp:=Zh hp;have Hd:=Zh (G9 l k hlt ls);have HC:=Zh (Bx.one (w:=wr) (o:=.cells #[.int .i64 l[k].kind,.int .i64 l[k].cell,.int .i64 l[k].fm,.slice a3 l[k].p.ru.length c3,.int .i64 l[k].p.df] 56));have hq0:=HC.o.cells0;clear hp;go_wp2_with fail
   refine(next_any _ _ ls l[k] _ _ _ (Hrd.o.below HC.o.bel) (Qc.below Hp.o HC.o.bel)).mono ?_;obtain⟨⟨N,ne⟩,hN⟩:∃E,QI ls l[k]=E:=⟨_,rfl⟩;have HN:=Zh hN;clear hN;rw[HN.o];rintro e w2⟨a4,c4,rfl,hr2,hb2⟩;have Hr2:Hid (Qo w2 (λb=>w.heap.size<=b) (.slice a4 N.length c4) N):=hr2.keep (λb hb _=>Nat.le_trans (Ql Hb.o HC.o.bel).size hb) (λ_ _ _=>rfl) Znl;have Hb2:=Zh (Ql (Ql Hb.o HC.o.bel) hb2);clear hr2 hb2 x0 x1 x2 x3 x4 HC hq0;by_cases h0:ne=0
   .subst h0;have Hn:Hid (Uj l newCells=Uj (l.drop (k+1)) N):=by show Uj _ _=_;rw[Hgo.o,Hd.o,HN.o,if_neg (by simp)]
    go_wp2
    go_roundw
    case rel=>exact⟨k+1,N,a4,c4,by go_num,rfl,by omega,Hn.o,Hr2.o,Hb2.o⟩
    case measure=>simp[intOf];omega
   have HE2:Hid (QA l=([],ne)):=by show QA l=_;rw[HE.o,Hgo.o,Hd.o,HN.o,if_pos h0]
   have hne:(ne != 0)=true:=bne_iff_ne.2 h0;clear h0;go_wp2;go_ret2;rw[HE2.o];exact⟨_,_,rfl,Ua _ _,Hb2.o⟩
  obtain rfl:k=l.length:=by omega
  have HE2:Hid (QA l=(ls,0)):=by show QA l=_;rw[HE.o,Hgo.o,List.drop_length];rfl
  go_wp2;go_ret2;rw[HE2.o];exact⟨_,_,rfl,Hrd.o,Hb.o⟩
end
section
open Go.RowKit
theorem made4(W:World):(Instr.makeSlice 22 (.int .i64 4) (.int .i64 4)).run prog W=.ok (.slice (some ⟨W.heap.size,0,none⟩) 4 4) (W.alloc (.cells #[.bool false,.slice none 0 0,.slice none 0 0,.int .i64 0,.bool false,.slice none 0 0,.slice none 0 0,.int .i64 0,.bool false,.slice none 0 0,.slice none 0 0,.int .i64 0,.bool false,.slice none 0 0,.slice none 0 0,.int .i64 0] 52)):=by
 obtain⟨i0,hi,hz0,hz1,hz2⟩:=info_parts YC;have hmk:=λ(W:World)=>run_make (P:=prog) W 22 52 i0 (.agg #[.bool false,.slice none 0 0,.slice none 0 0,.int .i64 0]) underlying22 hi hz0 .i64 .i64 4 4 (by decide) (by decide) (by rw[hz2];decide) (by decide);have hcs:madeCells (Value.agg #[.bool false,.slice none 0 0,.slice none 0 0,.int .i64 0]).cells ((4:Int).toNat*i0.size) = #[.bool false,.slice none 0 0,.slice none 0 0,.int .i64 0,.bool false,.slice none 0 0,.slice none 0 0,.int .i64 0,.bool false,.slice none 0 0,.slice none 0 0,.int .i64 0,.bool false,.slice none 0 0,.slice none 0 0,.int .i64 0]:=by rw[hz1];kernel_rfl
 rw[hcs,show(4:Int).toNat=4 from rfl]at hmk;exact hmk W
theorem IQ(W:World):Qo (W.alloc (.cells #[.bool false,.slice none 0 0,.slice none 0 0,.int .i64 0,.bool false,.slice none 0 0,.slice none 0 0,.int .i64 0,.bool false,.slice none 0 0,.slice none 0 0,.int .i64 0,.bool false,.slice none 0 0,.slice none 0 0,.int .i64 0] 52)) (λb=>W.heap.size<=b) (.slice (some ⟨W.heap.size,0,none⟩) 4 4) newCells:=by
 have hz:∀W' D',XD W' D' zeroCell [.bool false,.slice none 0 0,.slice none 0 0,.int .i64 0]:=λW' D'=>⟨_,_,rfl,⟨none,0,rfl,Nat.le_refl _,by decide,λ_=>rfl,λh=>by cases h⟩,⟨none,0,rfl,Nat.le_refl _,by decide,λ_=>rfl,λh=>by cases h⟩⟩;exact Ub (xs:=newCells) (Qq.cons (Qq.cons (Qq.cons (Qq.cons Qq.nil (hz _ _) rfl) (hz _ _) rfl) (hz _ _) rfl) (hz _ _) rfl) (Qh _ _) rfl Znl (by simp[maxLen,newCells])
theorem Ns(v:Value)(l:List TRec)(D:Nat->Prop)(w:World)(h:Vg w D v l):
  Calls prog 51 #[v] w λe w'=>∃a1 c1,e=.returned (.tuple #[.slice a1 (QA l).1.length c1,.int .i64 (QA l).2])/\Qo w' (λb=>D b\/w.heap.size<=b) (.slice a1 (QA l).1.length c1) (QA l).1/\Below w.heap.size w w':=by
 have H:=Zh h;obtain⟨a,c,rfl,hlc,hcm,hat⟩:=Sl.form h;clear h;by_cases h40:40<l.length
 .have HE:Hid (QA l=([],2)):=by show QA l=_;unfold QA;rw[if_pos h40]
  have hz:40<(l.length:Int):=by omega
  clear h40 hat;go_enter func51,ntmps51;go_wp2;go_ret2;rw[HE.o];exact⟨_,_,rfl,Ua _ _,Below.refl _ _⟩
 have HE:Hid (QA l=Uj l newCells):=by show QA l=_;unfold QA;rw[if_neg h40]
 have hz:¬40<(l.length:Int):=by omega
 clear h40;go_enter func51,ntmps51;have hmk:=made4;have Hr1:=Zh (Qo.keep (IQ w) (D':=λb=>D b\/w.heap.size<=b) (λ_ hb _=>.inr hb) (λ_ _ _=>rfl) Znl);have Hb1:=Zh (Qa (Below.refl w.heap.size w) (.cells #[.bool false,.slice none 0 0,.slice none 0 0,.int .i64 0,.bool false,.slice none 0 0,.slice none 0 0,.int .i64 0,.bool false,.slice none 0 0,.slice none 0 0,.int .i64 0,.bool false,.slice none 0 0,.slice none 0 0,.int .i64 0] 52));go_wp2_with fail
 go_loopw[4,15](λov kv wr=>∃(k:Nat)(ls:List TCell)(a2:Option Addr)(c2:Nat),kv=.int .i64 k/\ov=.slice a2 ls.length c2/\k<=l.length/\Uj l newCells=Uj (l.drop k) ls/\Qo wr (λb=>D b\/w.heap.size<=b) (.slice a2 ls.length c2) ls/\Below w.heap.size w wr) (λ_ kv _=>l.length-(intOf kv).toNat)
 case atStart=>exact⟨0,newCells,_,_,rfl,rfl,by omega,rfl,Hr1.o,Hb1.o⟩
 case round=>
  obtain⟨k,ls,a2,c2,rfl,rfl,hk,hgo,hrd,hbw⟩:=hrel;have Hgo:=Zh hgo;have Hrd:=Zh hrd;have Hb:=Zh hbw;clear hgo hrd hbw;by_cases hlt:k<l.length
  .obtain⟨b,o,rfl,_,_⟩:=hat (by omega);obtain⟨a3,c3,x0,x1,x2,x3,x4,hp⟩:=Vg.cells (H.o.below Hb.o) hlt;have Hp:=Zh hp;have Hd:=Zh (G9 l k hlt ls);have HC:=Zh (Bx.one (w:=wr) (o:=.cells #[.int .i64 l[k].kind,.int .i64 l[k].cell,.int .i64 l[k].fm,.slice a3 l[k].p.ru.length c3,.int .i64 l[k].p.df] 56));have hq0:=HC.o.cells0;clear hp;go_wp2_with fail
   refine(QcF _ _ ls l[k] _ _ _ (Hrd.o.below HC.o.bel) (Qc.below Hp.o HC.o.bel)).mono ?_;obtain⟨⟨N,ne⟩,hN⟩:∃E,QI ls l[k]=E:=⟨_,rfl⟩;have HN:=Zh hN;clear hN;rw[HN.o];rintro e w2⟨a4,c4,rfl,hr2,hb2⟩;have Hr2:=Zh (Qo.keep (D':=λb=>D b\/w.heap.size<=b) hr2 (λb hb _=>hb.elim id (λh=>h.elim .inl (λh=>.inr (Nat.le_trans (Ql Hb.o HC.o.bel).size h)))) (λ_ _ _=>rfl) Znl);have Hb2:=Zh (Ql (Ql Hb.o HC.o.bel) hb2);clear hr2 hb2 x0 x1 x2 x3 x4 HC hq0;by_cases h0:ne=0
   .subst h0;have Hn:Hid (Uj l newCells=Uj (l.drop (k+1)) N):=by show Uj _ _=_;rw[Hgo.o,Hd.o,HN.o,if_neg (by simp)]
    go_wp2
    go_roundw
    case rel=>exact⟨k+1,N,a4,c4,by go_num,rfl,by omega,Hn.o,Hr2.o,Hb2.o⟩
    case measure=>simp[intOf];omega
   have HE2:Hid (QA l=([],ne)):=by show QA l=_;rw[HE.o,Hgo.o,Hd.o,HN.o,if_pos h0]
   have hne:(ne != 0)=true:=bne_iff_ne.2 h0;clear h0;go_wp2;go_ret2;rw[HE2.o];exact⟨_,_,rfl,Ua _ _,Hb2.o⟩
  obtain rfl:k=l.length:=by omega
  have HE2:Hid (QA l=(ls,0)):=by show QA l=_;rw[HE.o,Hgo.o,List.drop_length];rfl
  go_wp2;go_ret2;rw[HE2.o];exact⟨_,_,rfl,Hrd.o,Hb.o⟩
theorem Nr(v:Value)(l:List TRec)(D:Nat->Prop)(w:World)(h:Vg w D v l):
  Calls prog 51 #[v] w λe w'=>∃a1 c1,e=.returned (.tuple #[.slice a1 (QA l).1.length c1,.int .i64 (QA l).2])/\Qo w' (λ_=>True) (.slice a1 (QA l).1.length c1) (QA l).1/\Below w.heap.size w w':=
 (Ns v l D w h).mono λ_ _ ⟨a1,c1,h1,h2,h3⟩=>⟨a1,c1,h1,h2.keep (λ_ _ _=>trivial) (λ_ _ _=>rfl) Znl,h3⟩
end
end Go.Proofs.YthkgjohhbdipcaaGreatDoor
