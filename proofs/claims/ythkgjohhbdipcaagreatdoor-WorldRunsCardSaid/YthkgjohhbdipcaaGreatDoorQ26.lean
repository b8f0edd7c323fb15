/- Texts laid one behind the other: RShort, RDelta, CompRule, Compile. No condition beyond theirs. -/
import Derived.Test.YthkgjohhbdipcaaGreatDoorQ25
import Derived.Test.YthkgjohhbdipcaaGreatDoorQ20
import Derived.Test.YthkgjohhbdipcaaGreatDoorQ13
import Derived.Test.YthkgjohhbdipcaaGreatDoorQ23
import Derived.Test.YthkgjohhbdipcaaGreatDoorQ4
import Derived.Laws.ResultCell
import Derived.Test.YthkgjohhbdipcaaGreatDoorQ6
import Derived.Test.YthkgjohhbdipcaaGreatDoorQ3
import Derived.Test.YthkgjohhbdipcaaGreatDoorQ8
import Derived.Test.YthkgjohhbdipcaaGreatDoorQ7
set_option linter.all false
set_option maxHeartbeats 64000000
set_option maxRecDepth 100000
namespace Go.Proofs.YthkgjohhbdipcaaGreatDoor
open Tryz
section
open Go.RowKit
attribute [local go_sem] gives QG
def JJ(p:TPol)(S:List TCall)(k:Nat):List TRule:=Um (YY p S) (p.ru.take k) 0
theorem Qgd{p:TPol}{S:List TCall}{k:Nat}(h:k<p.ru.length)(hk:(YY p S).contains k=true):JJ p S (k+1)=JJ p S k++[p.ru[k]]:=by
 unfold JJ;rw[NH h,if_pos hk]
theorem Qhp{p:TPol}{S:List TCall}{k:Nat}(h:k<p.ru.length)(hk:(YY p S).contains k=false):JJ p S (k+1)=JJ p S k:=by
 unfold JJ;rw[NH h,if_neg (by rw[hk];simp),List.append_nil]
theorem Qcq(p:TPol)(S:List TCall)(k:Nat):(JJ p S k).length<=p.ru.length:=by
 unfold JJ;have:=QgX (YY p S) (p.ru.take k) 0;rw[List.length_take]at this;omega
theorem QhQ{p:TPol}{S:List TCall}{j k:Nat}(h:j<S.length)(hw:which S[j] p.ru=k):(YY p S).contains k=true:=by
 rw[List.contains_iff_mem];exact List.mem_map.2 ⟨S[j],List.getElem_mem h,hw⟩
theorem QhR{p:TPol}{S:List TCall}{k:Nat}(h:∀x∈S,which x p.ru≠k):(YY p S).contains k=false:=by
 cases hc:(YY p S).contains k with
 |false=>rfl
 |true=>
  rw[List.contains_iff_mem]at hc;obtain⟨x,hx,he⟩:=List.mem_map.1 hc;exact absurd he (h x hx)
theorem Qhr{W:World}{b:Nat}{T:TypeId}{u:Value}{r:TRule}{D:Nat->Prop}(hb:W.heap[b]?=some (.cells #[u,.int .i64 r.vd] T))(hu:QF W D u r.cd):Sl W (λ_=>True) 2 (VP W D) (.slice (some ⟨b,0,none⟩) 1 1) [r]:=
 Ub (xs:=[r]) (rows:=[[u,.int .i64 r.vd]]) (Qq.cons Qq.nil ⟨_,rfl,hu⟩ rfl) hb rfl trivial (by simp[maxLen])
theorem OU{w W:World}{B B':Nat}{D:Nat->Prop}{v:Value}{l:List TRule}(h:Qg w B 147 2 (VP w D) v l)(hb:∀b,D b->b<w.heap.size->W.heap[b]?=w.heap[b]?)(hs:w.heap.size<=W.heap.size)(hk:∀b,B<=b->b<w.heap.size->W.heap[b]?=w.heap[b]?)(hB:B'<=B):Qg W B' 147 2 (VP W D) v l:=
 (Qg.base (show Qg W B 147 2 (VP w D) v l by obtain⟨rows,hr,ho⟩:=h;exact⟨rows,hr,Jh ho hk⟩) hB).monoR λ_ _ _ ⟨u,e1,e2⟩=>⟨u,e1,e2.keep (λ_ h _=>h) hb hs⟩
theorem Qfp(u:Value)(p:TPol)(D:Nat->Prop)(w:World)(hp:Qc w D u p.ru):
  Calls prog 160 #[U8 u p.df] w λe w'=>∃r,e=.returned (.tuple #[U8 r (Xi p).1.df,.int .i64 (Xi p).2])/\Qc w' (λb=>D b\/w.heap.size<=b) r (Xi p).1.ru/\Below w.heap.size w w':=by
 have Hp:Hid (Qc w (λb=>D b/\b<w.heap.size) u p.ru):=hp.keep (λ_ h hl=>⟨h,hl⟩) (λ_ _ _=>rfl) Znl;obtain⟨ap,cp,rfl,_⟩:=Sl.form hp;clear hp;go_enter func160,ntmps160;go_wp2_with fail
 have HB:=Zh (Bx.two (w:=w) (o:=.cells #[.slice ap p.ru.length cp,.int .i64 p.df] 38) (o':=.cells #[.slice none 0 0,.int .i64 0] 38));refine(Np _ [p] (λ_=>True) _ (Qgm (UM (by simp)) ((Qc.below Hp.o (Qa HB.o.bel _)).keep (λ_ _ _=>trivial) (λ_ _ _=>rfl) Znl) trivial) (λh0=>QcO h0 (by simp))).mono ?_;rintro e w1⟨v1,rfl,ho1,hb1⟩;replace HB:=Zh (HB.o.below ((Qa Zbr (.cells #[.slice ap p.ru.length cp,.int .i64 p.df] 38)).trans (hb1.mono (by simp))));have hs1:w.heap.size+2<=w1.heap.size:=HB.o.top;have Ho1:=Zh ho1;obtain⟨a1,c1,rfl⟩:=ho1.slice;clear ho1 hb1;by_cases h0:(Q8 [p]).2=0
 .obtain⟨hok,hsz5,hpe⟩:=Yw h0;have HE:Hid (Xi p=(Xr p,0)):=QcQ (hok p (by simp)) hsz5;have HokP:=Zh (hok p (by simp));have hlp:=HokP.o.len;rw[hpe]at Ho1⊢;dsimp only at Ho1⊢;have Hl1:Hid (Xj w1 (λ_=>True) (.slice a1 (stage [p] 5).length c1) (stage [p] 5)):=Ho1.o.sl (λ_ _=>trivial);have hSl:(stage [p] 5).length<=1000:=by rw[VJ];assumption
  have Hpo:=Zh (λx (hx:x∈stage [p] 5)=>IV hok hx);have HSP:Hid (Xr p=⟨VQ p.df (JJ p (stage [p] 5) p.ru.length),p.df⟩):=by show _=_;unfold JJ;rw[List.take_length];rfl
  obtain⟨S,hS⟩:∃S,S=stage [p] 5:=⟨_,rfl⟩;rw[<-hS]at Hl1 Hpo hSl HSP⊢;have hat:=λh0=>Sl.at_ Hl1.o h0;obtain⟨i0,hi,hz0,hz1,hz2⟩:=info_parts Zj;have Hi:=Zh hi;clear h0 hok hpe hS Ho1 hsz5 hi;have hc0:=HB.o.cells0;have hbl:Below w1.heap.size w1 (w1.alloc (.cells #[.slice none 0 0,.int .i64 p.df] 38)):=Qa Zbr _;have hc0':=(HB.o.below hbl).cells0;have Hst:Hid ((w1.alloc (.cells #[.slice none 0 0,.int .i64 p.df] 38)).heap[w1.heap.size]?=some (.cells #[.slice none 0 0,.int .i64 p.df] 38)):=Qh _ _;go_wp2_with fail
  clear hc0 hc0'
  go_loopw[7,30](λnv kv wr=>∃(k:Nat)(v:Value),kv=.int .i64 k/\nv=.int .i64 ((VQ p.df (JJ p S k)).length:Nat)/\k<=p.ru.length/\wr.heap[w1.heap.size]?=some (.cells #[v,.int .i64 p.df] 38)/\Qg wr (w1.heap.size+1) 147 2 (VP wr (λb=>D b/\b<w.heap.size)) v (JJ p S k)/\Below w1.heap.size w1 wr) (λ_ kv _=>p.ru.length-(intOf kv).toNat)
  case atStart=>exact⟨0,_,rfl,rfl,by omega,Hst.o,Qg.nil,hbl⟩
  case round=>
   obtain⟨k,v,rfl,rfl,hk,hbox,hown,hb⟩:=hrel;obtain⟨wo,rfl⟩:∃wo:World,wo=wr:=⟨_,rfl⟩;have Hbox:=Zh hbox;have Hown:=Zh hown;have Hb:=Zh hb;have hszr:=hb.size;have hβ:w1.heap.size<wo.heap.size:=(Array.getElem?_eq_some_iff.1 hbox).1;clear hbox hown hb Hst hbl;have HBr:=Zh (HB.o.below Hb.o);have Hpr:Hid (Qc wo (λb=>D b/\b<w.heap.size) (.slice ap p.ru.length cp) p.ru):=Qc.below Hp.o HBr.o.bel;by_cases hlt:k<p.ru.length
   .obtain⟨bp,op,rfl,_,_⟩:=Sl.at_ Hpr.o (by omega);obtain⟨ca,cc,hca0,hca1,hrd,_,_,_⟩:=Qc.cells Hpr.o hlt;have Hyes:=Zh (Qgd (p:=p) (S:=S) hlt);have Hno:=Zh (Qhp (p:=p) (S:=S) hlt);obtain⟨r,hr⟩:∃r,p.ru[k]=r:=⟨_,rfl⟩;rw[hr]at hca0 hca1 hrd Hyes;have Hrd:=Zh hrd;have hll:=Qcq p S k;obtain⟨U,hU⟩:∃U,JJ p S k=U:=⟨_,rfl⟩;rw[hU]at Hown Hyes Hno hll⊢;have htl:=QdS p.df U;have Htr:=Zh (QhM p.df r U);clear hrd hr hU;obtain⟨w2,hw2⟩:∃w2,wo.alloc (.cells #[.slice ca r.cd.length cc,.int .i64 r.vd] 147)=w2:=⟨_,rfl⟩;have Hb2:Hid (Below wo.heap.size wo w2):=by show Below _ _ _;rw[<-hw2];exact Qa Zbr _
    have H13:Hid (w2.heap[wo.heap.size]?=some (.cells #[.slice ca r.cd.length cc,.int .i64 r.vd] 147)):=by show _=_;rw[<-hw2];exact Qh _ _
    have hsz2:w2.heap.size=wo.heap.size+1:=by rw[<-hw2];simp
    go_wp2_with fail
    try rw[hw2]
    clear hca0 hca1 hw2
    go_loopw[7,37](λnv jv wj=>∃j:Nat,jv=.int .i64 j/\nv=.int .i64 ((VQ p.df U).length:Nat)/\j<=S.length/\(∀x∈S.take j,which x p.ru≠k)/\Below w2.heap.size w2 wj) (λ_ jv _=>S.length-(intOf jv).toNat)
    case atStart=>exact⟨0,rfl,rfl,by omega,λx hx=>by simp at hx,Below.refl _ _⟩
    case round=>
     obtain⟨j,rfl,rfl,hj,hnone,hbj⟩:=hrel;obtain⟨wj,rfl⟩:∃wj:World,wj=wr:=⟨_,rfl⟩;have Hnone:=Zh hnone;have Hbj:=Zh hbj;have hszj:=hbj.size;clear hnone hbj;have HbO:Hid (Below wo.heap.size wo wj):=Hb2.o.trans (Hbj.o.mono (by omega));have HBj:=Zh (HBr.o.below HbO.o);by_cases hjl:j<S.length
     .obtain⟨b,o,rfl,_,hblt⟩:=hat (by omega);obtain⟨h0c,h1c,h2c,h3c,h4c⟩:=Xj.cells (Hl1.o.below (Hb.o.trans (HbO.o.mono hszr))) hjl;have Hxo:=Zh (Hpo.o S[j] (List.getElem_mem hjl));have Hmem:=Zh (λh=>QhQ (p:=p) (k:=k) hjl h)
      have Htk:Hid (∀x∈S.take (j+1),x∈S.take j\/x=S[j]):=λx hx=>by
       rw[List.take_succ_eq_append_getElem hjl]at hx;rcases List.mem_append.1 hx with hx|hx
       .exact .inl hx
       exact .inr (by simpa using hx)
      obtain⟨x,hx⟩:∃x,S[j]=x:=⟨_,rfl⟩;rw[hx]at h0c h1c h2c h3c h4c Hxo Hmem Htk;have HBx:=Zh (HBj.o.alloc (.cells #[.int .i64 x.a0,.int .i64 x.a1,.int .i64 x.a2,.int .i64 x.a3,.int .i64 x.a4] 46));have hc0':=HBx.o.cells0;clear hx;go_wp2_with fail
      clear h0c h1c h2c h3c h4c hc0';refine(Gm _ p x (λb=>D b/\b<w.heap.size) _ (Qc.below Hp.o HBx.o.bel) HokP.o).mono ?_;rintro e w3⟨rfl,hb3⟩;have Hb3:Hid (Below wo.heap.size wo w3):=(HbO.o.trans ((Qa (Below.refl wj.heap.size wj) _).mono (by omega))).trans (hb3.mono (by simp;omega));have Hbk3:Hid (Below w2.heap.size w2 w3):=(Hbj.o.trans ((Qa (Below.refl wj.heap.size wj) _).mono hszj)).trans (hb3.mono (by simp;omega));have hsz3:wj.heap.size+1<=w3.heap.size:=by have:=hb3.size;simp at this;omega
      clear hb3;obtain⟨wi,hwi⟩:∃wi,which x p.ru=wi:=⟨_,rfl⟩;have hj2:(judged p x).2=wi:=by rw[<-hwi];rfl
      rw[hj2];have Hwi:=Zh hwi;clear hj2 hwi;by_cases hik:wi=k
      .subst hik;have hu:=Hmem.o Hwi.o;have HU:Hid (JJ p S (wi+1)=U++[r]):=Hyes.o hu;have hbox3:=Zh (Qd Hbox.o Hb3.o);have Hown3:=Zh (OU (B':=w1.heap.size+1) Hown.o (λb hb hl=>Hb3.o.block b hl) Hb3.o.size (λb _ hl=>Hb3.o.block b hl) Znl);have H133:Hid (w3.heap[wo.heap.size]?=some (.cells #[.slice ca r.cd.length cc,.int .i64 r.vd] 147)):=(Hbk3.o.block _ (by omega)).trans H13.o;have Hrd3:Hid (QF w3 (λb=>D b/\b<w.heap.size) (.slice ca r.cd.length cc) r.cd):=Hrd.o.below Hb3.o;have hcb:=Qb hbox3.o;have hcr:=Qb H133.o;obtain⟨av,cv,rfl⟩:=Hown3.o.slice
       have hne:∀g,(Value.slice av U.length cv).ownBlock=some g->w1.heap.size+1<=g/\g<wo.heap.size:=λg hg=>by
        obtain⟨rows,_,ho⟩:=Hown.o;exact ho.lt g hg
       have Hne:=Zh hne;have hul:U.length<=120:=by omega
       clear hu hne;have HbA:=Zh (Qa (Below.refl w3.heap.size w3) (.cells #[.slice ca r.cd.length cc,.int .i64 r.vd] 147));have HownA:=Zh (OU (B':=w1.heap.size+1) Hown3.o (λb hb hl=>HbA.o.block b hl) HbA.o.size (λb _ hl=>HbA.o.block b hl) Znl);have Hnew:Hid (Sl (w3.alloc (.cells #[.slice ca r.cd.length cc,.int .i64 r.vd] 147)) (λ_=>True) 2 (VP (w3.alloc (.cells #[.slice ca r.cd.length cc,.int .i64 r.vd] 147)) (λb=>D b/\b<w.heap.size)) (.slice (some ⟨w3.heap.size,0,none⟩) 1 1) [r]):=Qhr (Qh _ _) (Hrd3.o.below HbA.o);have hlU:(U++[r]).length=U.length+1:=by simp
       by_cases hvd:r.vd=p.df
       .have hb0:(r.vd != p.df)=false:=by rw[hvd];simp
        have HT:Hid ((VQ p.df (U++[r])).length=(VQ p.df U).length):=by show _=_;rw[Htr.o,if_pos hvd]
        clear hvd;go_wp2_with(at_builtin;refine QK rfl _ _ 36 rfl (w1.heap.size+1) 147 i0 _ 2 32 underlying36 Hi.o hz0 hz1 hz2 rfl (by decide) _ _ rfl HownA.o _ _ rfl Hnew.o (λy _ cs h=>Nw y cs h) (by show _+1<=maxLen;unfold maxLen;omega) (by show(_+1)*32<=_;omega) (by simp;omega) ?_;intro v' w5 hown' hg' hat';have Hown5:=Zh hown';have Hg5:=Zh hg';have Hat5:=Zh hat';have HbG:=Zh (HownA.o.grown ((Hb.o.trans (Hb3.o.mono hszr)).trans (HbA.o.mono (by omega))) hg' (by simp;omega) (Nat.le_succ _));clear hown' hg' hat';have Hbox5:Hid (w5.heap[w1.heap.size]?=some (.cells #[.slice av U.length cv,.int .i64 p.df] 38)):=(Hg5.o.block _ (by simp;omega) (λe=>by have:=(Hne.o _ e.symm).1;omega)).trans (Qd hbox3.o HbA.o);have H135:Hid (w5.heap[wo.heap.size]?=some (.cells #[.slice ca r.cd.length cc,.int .i64 r.vd] 147)):=(Hg5.o.block _ (by simp;omega) (λe=>by have:=(Hne.o _ e.symm).2;omega)).trans (Qd H133.o HbA.o);have hc5:=Qb Hbox5.o;have hf5:=Qp Hbox5.o;obtain⟨a5,c5,rfl⟩:=Hown5.o.slice;rw[hlU]at Hown5 Hat5⊢;have hr6:=Qb ((Qm (a:=⟨w1.heap.size,0,none⟩) (v:=.slice a5 (U.length+1) c5) (show wo.heap.size≠w1.heap.size by omega)).trans H135.o);have Hbox6:=Zh (QJ (o:=0) (v:=.slice a5 (U.length+1) c5) Hbox5.o);have hc6:=Qb Hbox6.o;have Hb6:Hid (Below w1.heap.size w1 (w5.setCell ⟨w1.heap.size,0,none⟩ (.slice a5 (U.length+1) c5))):=Qw HbG.o Znl;have hp6:=(HB.o.below Hb6.o).cells0;have Hown6:Hid (Qg (w5.setCell ⟨w1.heap.size,0,none⟩ (.slice a5 (U.length+1) c5)) (w1.heap.size+1) 147 2 (VP (w5.setCell ⟨w1.heap.size,0,none⟩ (.slice a5 (U.length+1) c5)) (λb=>D b/\b<w.heap.size)) (.slice a5 (U.length+1) c5) (U++[r])):=((Hown5.o.set (a:=⟨w1.heap.size,0,none⟩) (x:=.slice a5 (U.length+1) c5) (λe=>by rcases Hat5.o with h|h;(have:=(Hne.o w1.heap.size (h.symm.trans e)).1;omega);(rw[h]at e;simp at e;omega))).monoR λ_ _ _ ⟨u,e1,e2⟩=>⟨u,e1,e2.keep (λ_ h _=>h) (λb hb _=>by have h1:b<w.heap.size:=hb.2;rw[Qm (by show b≠w1.heap.size;omega)];exact Hg5.o.block b (by simp;omega) (λe=>by have:=(Hne.o _ e.symm).1;omega)) (by rw[Qr];exact Hg5.o.size)⟩))
        go_roundw
        case rel=>first|exact⟨wi+1,_,by go_num,by rw[HU.o,HT.o];first|done|rfl,by omega,Hbox6.o,by rw[HU.o];exact Hown6.o,Hb6.o⟩|((repeat apply Exists.intro);exact⟨⟨wi+1,_,by go_num,by rw[HU.o,HT.o];first|done|rfl,by omega,Hbox6.o,by rw[HU.o];exact Hown6.o,Hb6.o⟩,rfl⟩)
        case measure=>simp[intOf];omega
       have hb0:(r.vd != p.df)=true:=bne_iff_ne.2 hvd;have HT:Hid ((VQ p.df (U++[r])).length=U.length+1):=by show _=_;rw[Htr.o,if_neg hvd]
       clear hvd;go_wp2_with(at_builtin;refine QK rfl _ _ 36 rfl (w1.heap.size+1) 147 i0 _ 2 32 underlying36 Hi.o hz0 hz1 hz2 rfl (by decide) _ _ rfl HownA.o _ _ rfl Hnew.o (λy _ cs h=>Nw y cs h) (by show _+1<=maxLen;unfold maxLen;omega) (by show(_+1)*32<=_;omega) (by simp;omega) ?_;intro v' w5 hown' hg' hat';have Hown5:=Zh hown';have Hg5:=Zh hg';have Hat5:=Zh hat';have HbG:=Zh (HownA.o.grown ((Hb.o.trans (Hb3.o.mono hszr)).trans (HbA.o.mono (by omega))) hg' (by simp;omega) (Nat.le_succ _));clear hown' hg' hat';have Hbox5:Hid (w5.heap[w1.heap.size]?=some (.cells #[.slice av U.length cv,.int .i64 p.df] 38)):=(Hg5.o.block _ (by simp;omega) (λe=>by have:=(Hne.o _ e.symm).1;omega)).trans (Qd hbox3.o HbA.o);have H135:Hid (w5.heap[wo.heap.size]?=some (.cells #[.slice ca r.cd.length cc,.int .i64 r.vd] 147)):=(Hg5.o.block _ (by simp;omega) (λe=>by have:=(Hne.o _ e.symm).2;omega)).trans (Qd H133.o HbA.o);have hc5:=Qb Hbox5.o;have hf5:=Qp Hbox5.o;obtain⟨a5,c5,rfl⟩:=Hown5.o.slice;rw[hlU]at Hown5 Hat5⊢;have hr6:=Qb ((Qm (a:=⟨w1.heap.size,0,none⟩) (v:=.slice a5 (U.length+1) c5) (show wo.heap.size≠w1.heap.size by omega)).trans H135.o);have Hbox6:=Zh (QJ (o:=0) (v:=.slice a5 (U.length+1) c5) Hbox5.o);have hc6:=Qb Hbox6.o;have Hb6:Hid (Below w1.heap.size w1 (w5.setCell ⟨w1.heap.size,0,none⟩ (.slice a5 (U.length+1) c5))):=Qw HbG.o Znl;have hp6:=(HB.o.below Hb6.o).cells0;have Hown6:Hid (Qg (w5.setCell ⟨w1.heap.size,0,none⟩ (.slice a5 (U.length+1) c5)) (w1.heap.size+1) 147 2 (VP (w5.setCell ⟨w1.heap.size,0,none⟩ (.slice a5 (U.length+1) c5)) (λb=>D b/\b<w.heap.size)) (.slice a5 (U.length+1) c5) (U++[r])):=((Hown5.o.set (a:=⟨w1.heap.size,0,none⟩) (x:=.slice a5 (U.length+1) c5) (λe=>by rcases Hat5.o with h|h;(have:=(Hne.o w1.heap.size (h.symm.trans e)).1;omega);(rw[h]at e;simp at e;omega))).monoR λ_ _ _ ⟨u,e1,e2⟩=>⟨u,e1,e2.keep (λ_ h _=>h) (λb hb _=>by have h1:b<w.heap.size:=hb.2;rw[Qm (by show b≠w1.heap.size;omega)];exact Hg5.o.block b (by simp;omega) (λe=>by have:=(Hne.o _ e.symm).1;omega)) (by rw[Qr];exact Hg5.o.size)⟩))
       go_roundw
       case rel=>first|exact⟨wi+1,_,by go_num,by rw[HU.o,HT.o];first|done|rfl,by omega,Hbox6.o,by rw[HU.o];exact Hown6.o,Hb6.o⟩|((repeat apply Exists.intro);exact⟨⟨wi+1,_,by go_num,by rw[HU.o,HT.o];first|done|rfl,by omega,Hbox6.o,by rw[HU.o];exact Hown6.o,Hb6.o⟩,rfl⟩)
       case measure=>simp[intOf];omega
      have hb0:((wi:Int)==(k:Int))=false:=beq_eq_false_iff_ne.2 (by omega);have hb1:(wi==k)=false:=beq_eq_false_iff_ne.2 hik
      have HN:Hid (∀y∈S.take (j+1),which y p.ru≠k):=λy hy=>by
       rcases Htk.o y hy with h|h
       .exact Hnone.o y h
       subst h;rw[Hwi.o];exact hik
      clear hik;go_wp2
      go_roundw
      case rel=>exact⟨j+1,by go_num,rfl,by omega,HN.o,Hbk3.o⟩
      case measure=>simp[intOf];omega
     obtain rfl:j=S.length:=by omega
     have HU:Hid (JJ p S (k+1)=U):=Hno.o (QhR (λx hx=>Hnone.o x (by rw[List.take_length];exact hx)));have Hboxj:=Zh (Qd Hbox.o HbO.o);have Hownj:=Zh (OU (B':=w1.heap.size+1) Hown.o (λb hb hl=>HbO.o.block b hl) HbO.o.size (λb _ hl=>HbO.o.block b hl) Znl);go_wp2
     go_roundw
     case rel=>exact⟨k+1,v,by go_num,by rw[HU.o],by omega,Hboxj.o,by rw[HU.o];exact Hownj.o,Hb.o.trans (HbO.o.mono hszr)⟩
     case measure=>simp[intOf];omega
   obtain rfl:k=p.ru.length:=by omega
   obtain⟨U,hU⟩:∃U,JJ p S p.ru.length=U:=⟨_,rfl⟩;rw[hU]at Hown HSP⊢;have hll:=Qcq p S p.ru.length;rw[hU]at hll;have htl:=QdS p.df U;have htp:=NE p.df U;obtain⟨av,cv,rfl⟩:=Hown.o.slice;have hR:Qc wo (λ_=>True) (.slice av U.length cv) U:=(Hown.o.monoR λ_ _ _ ⟨u,e1,e2⟩=>⟨u,e1,e2.keep (λ_ _ _=>trivial) (λ_ _ _=>rfl) Znl⟩).sl λ_ _=>trivial;obtain⟨a',c',hv,hlc,hcm,_⟩:=Sl.form hR;injection hv with h1 h2 h3;subst h1 h3
   have hR2:Qc wo (λ_=>True) (.slice av (VQ p.df U).length cv) (VQ p.df U):=by
    have:=Sl.take hR htl;rw[htp]at this;exact this
   have HL:Hid ((VQ p.df U).length<=U.length):=htl;obtain⟨T,hT⟩:∃T,VQ p.df U=T:=⟨_,rfl⟩;rw[hT]at hR2 HL HSP htl⊢;obtain⟨n,hn⟩:∃n,T.length=n:=⟨_,rfl⟩;rw[hn]at hR2 HL htl⊢;have hnc:n<=cv:=by omega
   have hcb:=Qb Hbox.o;have hfb:=Qp Hbox.o;have Hbox2:=Zh (QJ (o:=0) (v:=.slice av n cv) Hbox.o);have hcb2:=Qb Hbox2.o;have HB2:=Zh (HBr.o.lift (B:=w.heap.size+2) (Qw (a:=⟨w1.heap.size,0,none⟩) (v:=.slice av n cv) Zbr (by show w.heap.size+2<=w1.heap.size;omega)) (by simp));have hc1:=HB2.o.cells1;have hf1:=HB2.o.free1;have HB3:=Zh (HB2.o.set (i:=1) rfl 0 (.slice av n cv));have HB4:=Zh (HB3.o.set (i:=1) rfl 1 (.int .i64 p.df));have hc4:=HB4.o.cells1
   have HR5:Hid (Qc (((wo.setCell ⟨w1.heap.size,0,none⟩ (.slice av n cv)).setCell ⟨w.heap.size+1,0,none⟩ (.slice av n cv)).setCell ⟨w.heap.size+1,1,none⟩ (.int .i64 p.df)) (λb=>D b\/w.heap.size<=b) (.slice av n cv) T):=by
    have hD:Qc wo (λb=>(b≠w1.heap.size/\b≠w.heap.size+1)/\(D b\/w.heap.size<=b)) (.slice av U.length cv) U:=
     (Hown.o.monoR λ_ _ _ ⟨u,e1,e2⟩=>⟨u,e1,e2.keep (D':=λb=>(b≠w1.heap.size/\b≠w.heap.size+1)/\(D b\/w.heap.size<=b)) (λb hb _=>by have h1:b<w.heap.size:=hb.2;exact⟨⟨by omega,by omega⟩,.inl hb.1⟩) (λ_ _ _=>rfl) Znl⟩).sl λb hb=>⟨⟨by omega,by omega⟩,.inr (by omega)⟩
    have hD2:=Sl.take hD (show n<=U.length by omega);have e:U.take n=T:=by rw[<-hn,<-hT];exact htp
    rw[e]at hD2;exact Qc.keep hD2 (λ_ h _=>h.2) (λb hb _=>by rw[Qm (by exact hb.1.2),Qm (by exact hb.1.2),Qm (by exact hb.1.1)]) (by rw[Qr,Qr,Qr];exact Nat.le_refl _)
   clear hU htp hR hR2 hT hn;go_wp2;refine bodyPost_ret (v:=.tuple #[U8 (.slice av n cv) p.df,.int .i64 0]) ?_ rfl (by rw[HE.o,HSP.o];exact⟨_,rfl,HR5.o,HB4.o.bel⟩);rw[results_cell_tmp rfl];go_simp
 have HE:Hid (Xi p=(zeroPol,(Q8 [p]).2)):=by show _=_;unfold Xi;rw[if_pos h0]
 have hb0:((Q8 [p]).2 != 0)=true:=bne_iff_ne.2 h0;have hc1:=HB.o.cells1;have hf1:=HB.o.free1;have HB3:=Zh (HB.o.set (i:=1) rfl 0 (.slice none 0 0));have HB4:=Zh (HB3.o.set (i:=1) rfl 1 (.int .i64 0));have hc4:=HB4.o.cells1;generalize(Q8 [p]).2=E at *;clear h0;go_wp2;refine bodyPost_ret (v:=.tuple #[U8 (.slice none 0 0) 0,.int .i64 E]) ?_ rfl (by rw[HE.o];exact⟨_,rfl,VF _ _,HB4.o.bel⟩);rw[results_cell_tmp rfl];go_simp
end
section
open Go.RowKit
theorem Qfh(u v:Value)(p q:TPol)(w:World)(hp:Qc w (λ_=>True) u p.ru)(hq:Qc w (λ_=>True) v q.ru):
  Calls prog 133 #[U8 u p.df,U8 v q.df] w λe w'=>∃r,e=.returned (.tuple #[U8 r (Us p q).1.df,.int .i64 (Us p q).2])/\Qc w' (λb=>w.heap.size<=b) r (Us p q).1.ru/\Below w.heap.size w w':=by
 have Hp:=Zh hp;have Hq:=Zh hq;obtain⟨ap,cp,rfl,_⟩:=Sl.form hp;obtain⟨aq,cq,rfl,_⟩:=Sl.form hq;clear hp hq;obtain⟨⟨L1,L2,L3⟩,hL⟩:∃E,Uw q p=E:=⟨_,rfl⟩;have HL:=Zh hL;obtain⟨⟨X,xe⟩,hX⟩:∃E,VI exceptOf q p=E:=⟨_,rfl⟩;have HX:=Zh hX;obtain⟨⟨Y,ye⟩,hY⟩:∃E,Xi X=E:=⟨_,rfl⟩;have HY:=Zh hY
 have HD:Hid (Us p q=if L3≠0 then(zeroPol,L3)else if L1 then(zeroPol,7)else if xe≠0 then(zeroPol,xe)else(Y,ye)):=by
  show Us p q=_;unfold Us;rw[hL,hX];dsimp only;by_cases hx:xe=0
  .have hXe:X=VK exceptOf q p:=by
    have:=(Qby (of:=exceptOf) (p:=q) (q:=p) (by rw[hX];exact hx)).2.2.2;rw[hX]at this;exact(Prod.mk.inj this).1
   rw[<-hXe,hY]
  rw[if_pos hx,if_pos hx]
 clear hL hX hY;go_enter func133,ntmps133;go_wp2_with fail
 have HB:=Zh (Bx.three (w:=w) (o:=.cells #[.slice ap p.ru.length cp,.int .i64 p.df] 38) (o':=.cells #[.slice aq q.ru.length cq,.int .i64 q.df] 38) (o2:=.cells #[.slice none 0 0,.int .i64 0] 38));refine(QdL _ _ q p _ (Hq.o.below HB.o.bel) (Hp.o.below HB.o.bel)).mono ?_;rw[HL.o];rintro e w1⟨rfl,hb1⟩;have HB1:=Zh (HB.o.below hb1);have hD1:=Bx.one (w:=w1) (o:=.cells #[.int .i64 0,.int .i64 0,.int .i64 0,.int .i64 0,.int .i64 0] 46);have HD2:=Zh (Bx.one (w:=w1) (o:=.cells #[.int .i64 L2.a0,.int .i64 L2.a1,.int .i64 L2.a2,.int .i64 L2.a3,.int .i64 L2.a4] 46));have hcn:=hD1.cells0;have hfn:=hD1.free0;have HB2:=Zh (HB1.o.below HD2.o.bel);have hq0:=HB2.o.cells0;have hq1:=HB2.o.cells1;have hq2:=HB2.o.cells2;have hf2:=HB2.o.free2;clear hD1 hb1;by_cases h3:L3=0
 .subst h3
  cases L1 with
  |true=>
   have HE:Hid (Us p q=(zeroPol,7)):=by show Us p q=_;rw[HD.o,if_neg (by simp),if_pos rfl]
   have HB3:=Zh (HB2.o.set (i:=2) rfl 0 (.slice none 0 0));have HB4:=Zh (HB3.o.set (i:=2) rfl 1 (.int .i64 0));have hc4:=HB4.o.cells2;go_wp2;refine bodyPost_ret (v:=.tuple #[U8 (.slice none 0 0) 0,.int .i64 7]) ?_ rfl (by rw[HE.o];exact⟨_,rfl,VF _ _,HB4.o.bel⟩);rw[results_cell_tmp rfl];go_simp
  |false=>
   go_wp2_with fail
   clear hcn hfn hq0 hq1 hq2 hf2 HD2;revert HB2;generalize(w1.alloc (.cells #[.int .i64 L2.a0,.int .i64 L2.a1,.int .i64 L2.a2,.int .i64 L2.a3,.int .i64 L2.a4] 46))=w2;intro HB2;have htop2:w.heap.size+3<=w2.heap.size:=HB2.o.top;refine(Qgv true _ _ q p _ (Hq.o.below HB2.o.bel) (Hp.o.below HB2.o.bel)).mono ?_;rw[Qde,HX.o];rintro e w3⟨rX,rfl,hrX,hb3⟩;have HB3:=Zh (HB2.o.below hb3);have RX:=Zh hrX;obtain⟨aX,cX,rfl,_⟩:=Sl.form hrX;have HC:=Zh (Bx.one (w:=w3) (o:=.cells #[.slice aX X.ru.length cX,.int .i64 X.df] 38));have HB4:=Zh (HB3.o.below HC.o.bel);have RX4:=Zh (Qc.below RX.o HC.o.bel);have hq2:=HB4.o.cells2;have hf2:=HB4.o.free2;have hqc:=HC.o.cells0;clear hrX hb3;by_cases hx:xe=0
   .subst hx;have HE:Hid (Us p q=(Y,ye)):=by show Us p q=_;rw[HD.o,if_neg (by simp),if_neg (by simp),if_neg (by simp)]
    have htop:w.heap.size+3<=w3.heap.size:=HB3.o.top;go_wp2_with fail
    clear hq2 hf2 hqc;refine(Qfp _ X _ _ RX4.o).mono ?_;rw[HY.o];rintro e w5⟨rY,rfl,hrY,hb5⟩;have HB5:=Zh (HB4.o.below hb5);have RY:=Zh hrY;obtain⟨aY,cY,rfl,_⟩:=Sl.form hrY;have hq2:=HB5.o.cells2;have hf2:=HB5.o.free2;have HB6:=Zh (HB5.o.set (i:=2) rfl 0 (.slice aY Y.ru.length cY));have HB7:=Zh (HB6.o.set (i:=2) rfl 1 (.int .i64 Y.df));have hc4:=HB7.o.cells2;clear hrY hb5
    have HR8:Hid (Qc ((w5.setCell ⟨w.heap.size+2,0,none⟩ (.slice aY Y.ru.length cY)).setCell ⟨w.heap.size+2,1,none⟩ (.int .i64 Y.df)) (λb=>w.heap.size<=b) (.slice aY Y.ru.length cY) Y.ru):=by
     have hlow:∀b,(w2.heap.size<=b\/(w3.alloc (.cells #[.slice aX X.ru.length cX,.int .i64 X.df] 38)).heap.size<=b)->w.heap.size+3<=b:=λb hb=>by
      rcases hb with hb|hb
      .omega
      simp at hb;omega
     exact Qc.keep RY.o (λb h _=>by have:=hlow b h;show _<=b;omega) (λb hb _=>by have:=hlow b hb;rw[Qm (by show b≠w.heap.size+2;omega),Qm (by show b≠w.heap.size+2;omega)]) (by rw[Qr,Qr];exact Nat.le_refl _)
    go_wp2;refine bodyPost_ret (v:=.tuple #[U8 (.slice aY Y.ru.length cY) Y.df,.int .i64 ye]) ?_ rfl (by rw[HE.o];exact⟨_,rfl,HR8.o,HB7.o.bel⟩);rw[results_cell_tmp rfl];go_simp
   have hb0:(xe != 0)=true:=bne_iff_ne.2 hx;have HE:Hid (Us p q=(zeroPol,xe)):=by show Us p q=_;rw[HD.o,if_neg (by simp),if_neg (by simp),if_pos hx]
   have HB5:=Zh (HB4.o.set (i:=2) rfl 0 (.slice none 0 0));have HB6:=Zh (HB5.o.set (i:=2) rfl 1 (.int .i64 0));have hc4:=HB6.o.cells2;clear hx;go_wp2;refine bodyPost_ret (v:=.tuple #[U8 (.slice none 0 0) 0,.int .i64 xe]) ?_ rfl (by rw[HE.o];exact⟨_,rfl,VF _ _,HB6.o.bel⟩);rw[results_cell_tmp rfl];go_simp
 have hb0:(L3 != 0)=true:=bne_iff_ne.2 h3;have hb1:(L3==0)=false:=beq_eq_false_iff_ne.2 h3;have HE:Hid (Us p q=(zeroPol,L3)):=by show Us p q=_;rw[HD.o,if_pos h3]
 have HB3:=Zh (HB2.o.set (i:=2) rfl 0 (.slice none 0 0));have HB4:=Zh (HB3.o.set (i:=2) rfl 1 (.int .i64 0));have hc4:=HB4.o.cells2;clear h3;go_wp2;refine bodyPost_ret (v:=.tuple #[U8 (.slice none 0 0) 0,.int .i64 L3]) ?_ rfl (by rw[HE.o];exact⟨_,rfl,VF _ _,HB4.o.bel⟩);rw[results_cell_tmp rfl];go_simp
end
section
open Go.RowKit
theorem Jv{α:Type}(a b:List α):Vy [a,b] [a,b].length=a.length+b.length:=by simp[Vy]
theorem Qb7{l:List TCond}{v:Int}{j:Nat}(h:j<l.length):Uu (l.drop j) v=⟨1,l[j].f,0,0⟩::Ul l[j] (Uu (l.drop (j+1)) v).length::Uu (l.drop (j+1)) v:=by
 rw[List.drop_eq_getElem_cons h];simp only[Uu,XT];have:((2*(l.drop (j+1)).length+1:Nat):Int)=2*((l.drop (j+1)).length:Int)+1:=by omega
 rw[this]
theorem IY{W:World}{b3 b4 c':Nat}{a':Option Addr}{D:Nat->Prop}{i1 i2:TIns}{L:List TIns}{T T':TypeId}(h:QW W D (.slice a' L.length c') L)
  (h3:W.heap[b3]?=some (.cells #[.int .i64 i1.k,.int .i64 i1.a,.int .i64 i1.b,.int .i64 i1.c,.int .i64 i2.k,.int .i64 i2.a,.int .i64 i2.b,.int .i64 i2.c] T))
  (h4:W.heap[b4]?=some (.cells #[.slice (some ⟨b3,0,none⟩) 2 2,.slice a' L.length c'] T')) (d3:D b3) (d4:D b4):Sl W D 1 (Qer W D) (.slice (some ⟨b4,0,none⟩) 2 2) [[i1,i2],L]:=
 Ub (xs:=[[i1,i2],L]) (rows:=[[.slice (some ⟨b3,0,none⟩) 2 2],[.slice a' L.length c']])
  (Qq.cons (Qq.cons Qq.nil ⟨_,rfl,h⟩ rfl) ⟨_,rfl,Ub (xs:=[i1,i2]) (rows:=[[.int .i64 i1.k,.int .i64 i1.a,.int .i64 i1.b,.int .i64 i1.c],[.int .i64 i2.k,.int .i64 i2.a,.int .i64 i2.b,.int .i64 i2.c]])
   (Qq.cons (Qq.cons Qq.nil rfl rfl) rfl rfl) h3 rfl d3 (by simp[maxLen])⟩ rfl) h4 rfl d4 (by simp[maxLen])
theorem QhG(u:Value)(r:TRule)(D:Nat->Prop)(w:World)(h:QF w D u r.cd)(hl:r.cd.length<=10):
  Calls prog 192 #[.agg #[u,.int .i64 r.vd]] w λe w'=>∃v,e=.returned v/\QW w' (λb=>w.heap.size<=b) v (Uu r.cd r.vd)/\Below w.heap.size w w':=by
 obtain⟨a,c,rfl,hlc,hcm,hat⟩:=Sl.form h;have H:=Zh h;obtain⟨n,hn⟩:∃n:Nat,n=r.cd.length:=⟨_,rfl⟩;have Hn:=Zh hn;rw[<-hn]at hl hlc hat⊢;clear h hn;go_enter func192,ntmps192;go_wp2_with fail
 go_loopw[3,4](λov kv wr=>∃(k:Nat)(vs:Value),kv=.int .i64 k/\ov=vs/\k<=n/\QW wr (λb=>w.heap.size<=b) vs (Uu (r.cd.drop k) r.vd)/\Below (w.heap.size+1) (w.alloc (.cells #[.slice a n c,.int .i64 r.vd] 147)) wr) (λ_ kv _=>(intOf kv).toNat)
 case atStart=>
  refine⟨n,.slice (some ⟨w.heap.size+1,0,none⟩) 1 1,rfl,rfl,Nat.le_refl _,?_,Zbr.alloc (by simp) _⟩;have e:Uu (r.cd.drop n) r.vd=[⟨4,r.vd,0,0⟩]:=by rw[Hn.o,List.drop_length];rfl
  rw[e];exact Ub (R:=Gt) (sz:=4) (xs:=[(⟨4,r.vd,0,0⟩:TIns)]) (rows:=[[.int .i64 4,.int .i64 r.vd,.int .i64 0,.int .i64 0]]) (Qq.cons Qq.nil rfl rfl) (UM (by simp)) rfl (by simp) (by simp[maxLen])
 case round=>
  obtain⟨k,vs,rfl,rfl,hk,hrd,hb⟩:=hrel;have hbc:=UU hb;have hbw:=UL hb;have hsz:=U5 hb;obtain⟨a',c',rfl,hlc',hcm',_⟩:=Sl.form hrd;have Hrd:=Zh hrd;have Hb:=Zh hb;have Hbw:=Zh hbw;clear hrd hb hbw
  cases k with
  |zero=>
   go_wp2;go_ret;exact⟨_,rfl,Hrd.o,Hbw.o⟩
  |succ j=>
   have hjl:j<r.cd.length:=by have:=Hn.o;omega
   obtain⟨b,o,rfl,hDb,hblt⟩:=hat (by omega);have hcells:=QF.cells (H.o.below Hbw.o) hjl;have hcd:Hid (Uu (r.cd.drop j) r.vd=⟨1,r.cd[j].f,0,0⟩::Ul r.cd[j] (Uu (r.cd.drop (j+1)) r.vd).length::Uu (r.cd.drop (j+1)) r.vd):=Qb7 hjl;have hlen:Hid ((Uu (r.cd.drop (j+1)) r.vd).length<=21):=by show _<=_;rw[XT,List.length_drop];have:=Hn.o;omega
   obtain⟨⟨cf,cop,cv⟩,hcj⟩:∃y:TCond,r.cd[j]=y:=⟨_,rfl⟩;rw[hcj]at hcells hcd;generalize hL:Uu (r.cd.drop (j+1)) r.vd=L at *;clear hL hcj hcm' hlc';rcases(by omega:cop=2\/cop≠2/\cop=3\/cop≠2/\cop≠3/\cop=4\/cop≠2/\cop≠3/\cop≠4)with e2|⟨e2,e3⟩|⟨e2,e3,e4⟩|⟨e2,e3,e4⟩
   .have HJ:Hid (Ul ⟨cf,cop,cv⟩ L.length=⟨2,cv,L.length,0⟩):=by show Ul _ _=_;unfold Ul;dsimp only;rw[if_pos e2]
    have b2:(cop==2)=true:=beq_iff_eq.2 e2;clear e2;go_wp2_with fail
    refine(Yq _ [[⟨1,cf,0,0⟩,Ul ⟨cf,cop,cv⟩ L.length],L] (λb=>w.heap.size<=b) _ (IY (b3:=wr.heap.size+1+1) (Hrd.o.below (Qa (Qa (Qa (Qa Zbr _) _) _) _)) (by rw[HJ.o];exact QQ (UM (by simp))) (UM (by simp)) (by omega) (by omega)) (by rw[Jv];have:=hlen.o;simp;omega)).mono ?_;rintro e w1⟨v1,rfl,hown0,hb1⟩;have hown:=hown0;rw[show [[(⟨1,cf,0,0⟩:TIns),Ul ⟨cf,cop,cv⟩ L.length],L].flatten=⟨1,cf,0,0⟩::Ul ⟨cf,cop,cv⟩ L.length::L from by simp]at hown;clear hown0;have hb2:=Ql (Qa (Qa (Qa (Qa (Below.refl wr.heap.size wr) _) _) _) _) hb1;go_wp2_with fail
    go_roundw
    case rel=>exact⟨j,v1,by go_num,rfl,by omega,by rw[hcd.o];exact hown.sl (λb h=>Nat.le_trans (by omega:w.heap.size<=wr.heap.size) (Nat.le_trans (Qa (Qa (Qa (Qa (Below.refl _ wr) _) _) _) _).size h)),Hb.o.trans (hb2.mono hsz)⟩
    case measure=>simp[intOf]
   .have HJ:Hid (Ul ⟨cf,cop,cv⟩ L.length=⟨3,cv,0,L.length⟩):=by show Ul _ _=_;unfold Ul;dsimp only;rw[if_neg e2,if_pos e3]
    have b2:(cop==2)=false:=beq_eq_false_iff_ne.2 e2;have b3:(cop==3)=true:=beq_iff_eq.2 e3;clear e2 e3;go_wp2_with fail
    refine(Yq _ [[⟨1,cf,0,0⟩,Ul ⟨cf,cop,cv⟩ L.length],L] (λb=>w.heap.size<=b) _ (IY (b3:=wr.heap.size+1+1) (Hrd.o.below (Qa (Qa (Qa (Qa Zbr _) _) _) _)) (by rw[HJ.o];exact QQ (UM (by simp))) (UM (by simp)) (by omega) (by omega)) (by rw[Jv];have:=hlen.o;simp;omega)).mono ?_;rintro e w1⟨v1,rfl,hown0,hb1⟩;have hown:=hown0;rw[show [[(⟨1,cf,0,0⟩:TIns),Ul ⟨cf,cop,cv⟩ L.length],L].flatten=⟨1,cf,0,0⟩::Ul ⟨cf,cop,cv⟩ L.length::L from by simp]at hown;clear hown0;have hb2:=Ql (Qa (Qa (Qa (Qa (Below.refl wr.heap.size wr) _) _) _) _) hb1;go_wp2_with fail
    go_roundw
    case rel=>exact⟨j,v1,by go_num,rfl,by omega,by rw[hcd.o];exact hown.sl (λb h=>Nat.le_trans (by omega:w.heap.size<=wr.heap.size) (Nat.le_trans (Qa (Qa (Qa (Qa (Below.refl _ wr) _) _) _) _).size h)),Hb.o.trans (hb2.mono hsz)⟩
    case measure=>simp[intOf]
   .have HJ:Hid (Ul ⟨cf,cop,cv⟩ L.length=⟨3,cv,L.length,0⟩):=by show Ul _ _=_;unfold Ul;dsimp only;rw[if_neg e2,if_neg e3,if_pos e4]
    have b2:(cop==2)=false:=beq_eq_false_iff_ne.2 e2;have b3:(cop==3)=false:=beq_eq_false_iff_ne.2 e3;have b4:(cop==4)=true:=beq_iff_eq.2 e4;clear e2 e3 e4;go_wp2_with fail
    refine(Yq _ [[⟨1,cf,0,0⟩,Ul ⟨cf,cop,cv⟩ L.length],L] (λb=>w.heap.size<=b) _ (IY (b3:=wr.heap.size+1+1) (Hrd.o.below (Qa (Qa (Qa (Qa Zbr _) _) _) _)) (by rw[HJ.o];exact QQ (UM (by simp))) (UM (by simp)) (by omega) (by omega)) (by rw[Jv];have:=hlen.o;simp;omega)).mono ?_;rintro e w1⟨v1,rfl,hown0,hb1⟩;have hown:=hown0;rw[show [[(⟨1,cf,0,0⟩:TIns),Ul ⟨cf,cop,cv⟩ L.length],L].flatten=⟨1,cf,0,0⟩::Ul ⟨cf,cop,cv⟩ L.length::L from by simp]at hown;clear hown0;have hb2:=Ql (Qa (Qa (Qa (Qa (Below.refl wr.heap.size wr) _) _) _) _) hb1;go_wp2_with fail
    go_roundw
    case rel=>exact⟨j,v1,by go_num,rfl,by omega,by rw[hcd.o];exact hown.sl (λb h=>Nat.le_trans (by omega:w.heap.size<=wr.heap.size) (Nat.le_trans (Qa (Qa (Qa (Qa (Below.refl _ wr) _) _) _) _).size h)),Hb.o.trans (hb2.mono hsz)⟩
    case measure=>simp[intOf]
   have HJ:Hid (Ul ⟨cf,cop,cv⟩ L.length=⟨2,cv,0,L.length⟩):=by show Ul _ _=_;unfold Ul;dsimp only;rw[if_neg e2,if_neg e3,if_neg e4]
   have b2:(cop==2)=false:=beq_eq_false_iff_ne.2 e2;have b3:(cop==3)=false:=beq_eq_false_iff_ne.2 e3;have b4:(cop==4)=false:=beq_eq_false_iff_ne.2 e4;clear e2 e3 e4;go_wp2_with fail
   refine(Yq _ [[⟨1,cf,0,0⟩,Ul ⟨cf,cop,cv⟩ L.length],L] (λb=>w.heap.size<=b) _ (IY (b3:=wr.heap.size+1+1) (Hrd.o.below (Qa (Qa (Qa (Qa Zbr _) _) _) _)) (by rw[HJ.o];exact QQ (UM (by simp))) (UM (by simp)) (by omega) (by omega)) (by rw[Jv];have:=hlen.o;simp;omega)).mono ?_;rintro e w1⟨v1,rfl,hown0,hb1⟩;have hown:=hown0;rw[show [[(⟨1,cf,0,0⟩:TIns),Ul ⟨cf,cop,cv⟩ L.length],L].flatten=⟨1,cf,0,0⟩::Ul ⟨cf,cop,cv⟩ L.length::L from by simp]at hown;clear hown0;have hb2:=Ql (Qa (Qa (Qa (Qa (Below.refl wr.heap.size wr) _) _) _) _) hb1;go_wp2_with fail
   go_roundw
   case rel=>exact⟨j,v1,by go_num,rfl,by omega,by rw[hcd.o];exact hown.sl (λb h=>Nat.le_trans (by omega:w.heap.size<=wr.heap.size) (Nat.le_trans (Qa (Qa (Qa (Qa (Below.refl _ wr) _) _) _) _).size h)),Hb.o.trans (hb2.mono hsz)⟩
   case measure=>simp[intOf]
end
section
open Go.RowKit
theorem Jg(y:TIns)(cs:List Value)(h:Gt y cs):∀c∈cs,c.oneCell'=true:=by
 unfold Gt at h;subst h;simp[Value.oneCell']
theorem Oe{l:List TRule}{k:Nat}(h:k<l.length):Uk (l.take (k+1))=Uk (l.take k)++Uu l[k].cd l[k].vd:=by
 rw[List.take_succ_eq_append_getElem h,Oc]
theorem Zq{l:List TRule}(h:∀r∈l,r.cd.length<=10)(k:Nat)(hk:k<=l.length):(Uk (l.take k)).length<=21*l.length:=by
 have:=QcL (l:=l.take k) λr hr=>h r (List.mem_of_mem_take hr);rw[List.length_take]at this;omega
theorem Qhz(w:World)(D:Nat->Prop):QW w D (.slice none 0 0) []:=⟨none,0,rfl,Nat.le_refl _,by unfold maxLen;omega,λ_=>rfl,λh=>by cases h⟩
theorem Ei(v:Value)(p:TPol)(D:Nat->Prop)(w:World)(h:Qc w D v p.ru):
  Calls prog 162 #[U8 v p.df] w λe w'=>∃l,e=.returned (.tuple #[l,.int .i64 (Uy p).2])/\QW w' (λb=>w.heap.size<=b) l (Uy p).1/\Below w.heap.size w w':=by
 have H:=Zh h;obtain⟨a,c,rfl,hlc,hcm,hat⟩:=Sl.form h;clear h;by_cases hp:UZ p=0
 .have hok:=(UN p).1 hp
  have Hlen:Hid (∀k,k<=p.ru.length->(Uk (p.ru.take k)).length<=21*120):=λk hk=>by
   have h1:=Zq (λr hr=>(hok.ru r hr).len) k hk;have h2:=hok.len;omega
  have HC:Hid (Vj (Q7 p)=if 1500<(Q7 p).length then 2 else 0):=Et hok;have HF:Hid (Uy p=if 1500<(Q7 p).length then([],2)else(Q7 p,0)):=by show Uy p=_;unfold Uy;rw[if_neg (by omega)]
  have hn:=hok.len;have Hok:=Zh hok;have Hp:=Zh hp;obtain⟨i0,hi,hz0,hz1,hz2⟩:=info_parts EF;have Hi:=Zh hi;clear hok hp hi;go_enter func162,ntmps162;go_wp2_with fail
  refine(UO _ p D _ (Qc.below H.o (Qa Zbr _))).mono ?_;rw[Hp.o];rintro e w1⟨rfl,hb1⟩;have hb1':Below (w.heap.size+1) _ w1:=hb1.mono (by simp);have hc1:=UU hb1';have Hb1:=Zh hb1';clear hb1 hb1';go_wp2_with fail
  go_loopw[5,17](λov kv wr=>∃(k:Nat)(vs:Value),kv=.int .i64 k/\vs=ov/\k<=p.ru.length/\Qg wr (w.heap.size+1) 141 4 Gt vs (Uk (p.ru.take k))/\Below (w.heap.size+1) (w.alloc (.cells #[.slice a p.ru.length c,.int .i64 p.df] 38)) wr) (λ_ kv _=>p.ru.length-(intOf kv).toNat)
  case atStart=>exact⟨0,_,rfl,rfl,by omega,Qg.nil,Hb1.o⟩
  case round=>
   obtain⟨k,vs,rfl,rfl,hk,hown,hb⟩:=hrel;have hbc:=UU hb;have hbw:=UL hb;have hsz:=U5 hb;have Hown:=Zh hown;have Hb:=Zh hb;have Hbw:=Zh hbw;clear hc1 hown hb hbw;by_cases hlt:k<p.ru.length
   .obtain⟨b,o,rfl,hDb,hblt⟩:=hat (by omega);obtain⟨ca,cc,hc0,hc1,hrd,_⟩:=Qc.cells (H.o.below Hbw.o) hlt;have Hrd:=Zh hrd;have hl10:=(Hok.o.ru p.ru[k] (List.getElem_mem hlt)).len;have Hl:=Zh (Hlen.o (k+1) (by omega));have Hs:=Zh (Oe hlt);have Hll:Hid ((Uk (p.ru.take k)).length+(Uu p.ru[k].cd p.ru[k].vd).length<=21*120):=by have:=Hl.o;rw[Hs.o,List.length_append]at this;exact this
    clear hrd;go_wp2_with fail
    refine(QhG _ p.ru[k] D _ (Hrd.o.below (Qa Zbr _)) hl10).mono ?_;rintro e w2⟨v2,rfl,hr2,hb2⟩;have hb2':=UI (Below.refl _ wr) hb2;have hown2:=Hown.o.below hb2';have Hown2:=Zh hown2;have Hr2:=Zh hr2;have Hb2:=Zh (Hb.o.trans (hb2'.mono hsz));have hsz2:=hb2'.size;clear hown2 hr2 hb2 hb2' hc0 hc1 hbc;go_wp2_with(at_builtin;refine U6 rfl _ _ 98 rfl (w.heap.size+1) 141 i0 _ 4 32 underlying98 Hi.o hz0 hz1 hz2 rfl (by decide) _ _ rfl Hown2.o _ _ rfl Hr2.o (λy _ cs h=>Jg y cs h) (by have:=Hll.o;unfold maxLen;omega) (by have:=Hll.o;omega) (by omega) ?_;intro v' w3 hown' hg)
    go_roundw
    case rel=>exact⟨k+1,v',by go_num,rfl,by omega,by rw[Hs.o];exact hown',Hown2.o.grown Hb2.o hg (by omega) Znl⟩
    case measure=>simp[intOf];omega
   obtain rfl:k=p.ru.length:=by omega
   have Hl:=Zh (Hlen.o p.ru.length Znl)
   have Hnew:Hid (QW (wr.alloc (.cells #[.int .i64 4,.int .i64 p.df,.int .i64 0,.int .i64 0] 141)) (λ_=>True) (.slice (some ⟨wr.heap.size,0,none⟩) 1 1) [⟨4,p.df,0,0⟩]):=
    Ub (R:=Gt) (sz:=4) (xs:=[(⟨4,p.df,0,0⟩:TIns)]) (rows:=[[.int .i64 4,.int .i64 p.df,.int .i64 0,.int .i64 0]]) (Qq.cons Qq.nil rfl rfl) (Qh _ _) rfl trivial (by simp[maxLen])
   have Hown3:=Zh (Hown.o.below (Qa (Below.refl _ wr) (.cells #[.int .i64 4,.int .i64 p.df,.int .i64 0,.int .i64 0] 141)));go_wp2_with(at_builtin;refine U6 rfl _ _ 98 rfl (w.heap.size+1) 141 i0 _ 4 32 underlying98 Hi.o hz0 hz1 hz2 rfl (by decide) _ _ rfl Hown3.o _ _ rfl Hnew.o (λy _ cs h=>Jg y cs h) (by have:=Hl.o;show _+1<=maxLen;unfold maxLen;omega) (by have:=Hl.o;show(_+1)*32<=_;omega) (by simp;omega) ?_;intro v' w3 hown' hg;rw[List.take_length]at hown';have Hown':=Zh hown';have Hb3:=Zh (Hown3.o.grown (Hb.o.trans ((Qa (Below.refl _ wr) _).mono hsz)) hg (by simp;omega) Znl);clear hown' hg)
   have HcF:Hid (QW w3 (λb=>w.heap.size<=b) v' (Q7 p)):=Hown'.o.sl λb h=>by omega
   go_wp2_with fail
   refine(XJ v' (Q7 p) _ _ HcF.o).mono ?_;rw[HC.o];rintro e w4⟨rfl,hb4⟩;have Hr4:=Zh (HcF.o.below hb4);have Hb4:=Zh (Ql (UL Hb3.o) hb4);clear hb4;by_cases hbig:1500<(Q7 p).length
   .rw[if_pos hbig];have HF2:Hid (Uy p=([],2)):=by show Uy p=_;rw[HF.o,if_pos hbig]
    clear hbig;go_wp2;go_ret2;rw[HF2.o];exact⟨_,rfl,Qhz _ _,Hb4.o⟩
   rw[if_neg hbig];have HF2:Hid (Uy p=(Q7 p,0)):=by show Uy p=_;rw[HF.o,if_neg hbig]
   clear hbig;go_wp2;go_ret2;rw[HF2.o];exact⟨_,rfl,Hr4.o,Hb4.o⟩
 have HF:Hid (Uy p=([],UZ p)):=by show Uy p=_;unfold Uy;rw[if_pos hp]
 have b0:(UZ p != 0)=true:=bne_iff_ne.2 hp;clear hp;go_enter func162,ntmps162;go_wp2_with fail
 refine(UO _ p D _ (Qc.below H.o (Qa Zbr _))).mono ?_;rintro e w1⟨rfl,hb1⟩;have hb1':Below (w.heap.size+1) _ w1:=hb1.mono (by simp);have Hb1:=Zh hb1';clear hb1 hb1';go_wp2;go_ret2;rw[HF.o];exact⟨_,rfl,Qhz _ _,UL Hb1.o⟩
end
end Go.Proofs.YthkgjohhbdipcaaGreatDoor
