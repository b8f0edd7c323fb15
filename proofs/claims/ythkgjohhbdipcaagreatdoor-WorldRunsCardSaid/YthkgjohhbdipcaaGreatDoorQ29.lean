/- Texts laid one behind the other: KeepCopy, CellPut. No condition beyond theirs. -/
import Derived.Test.YthkgjohhbdipcaaGreatDoorQ28
import Derived.Test.YthkgjohhbdipcaaGreatDoorQ27
import Derived.Test.YthkgjohhbdipcaaGreatDoorQ8
set_option linter.all false
set_option maxHeartbeats 64000000
set_option maxRecDepth 100000
namespace Go.Proofs.YthkgjohhbdipcaaGreatDoor
open Tryz
section
open Go.RowKit
attribute [local go_sem] gives QG
def Oh(c:TCell):Prop:=(c.chain.length<=1000000/\∀f∈c.chain,f.length<=1000000)/\c.p.ru.length<=1000000/\∀r∈c.p.ru,r.cd.length<=1000000
def cellC(g B:Nat)(W:World)(y:TCell×(Bool×Bool))(cs:List Value):Prop:=∃u v,cs=[.bool y.1.open_,u,v,.int .i64 y.1.p.df]/\Qz W (λb=>b≠g/\(y.2.1=true->B<=b)) u y.1.chain/\Qc W (λb=>b≠g/\(y.2.2=true->B<=b)) v y.1.p.ru
theorem UE{g B:Nat}(W W':World)(y:TCell×(Bool×Bool))(cs:List Value)(hb:Below W.heap.size W W')(h:cellC g B W y cs):cellC g B W' y cs:=by
 obtain⟨u,v,h1,h2,h3⟩:=h;exact⟨u,v,h1,h2.below hb,h3.below hb⟩
theorem Ee{g B i:Nat}{x:Value}{W:World}(y:TCell×(Bool×Bool))(cs:List Value)(h:cellC g B W y cs):cellC g B (W.setCell ⟨g,i,none⟩ x) y cs:=by
 obtain⟨u,v,h1,h2,h3⟩:=h;exact⟨u,v,h1,h2.keep (λ_ h _=>h) (λb hb _=>Qm (by exact hb.1)) (by rw[Qr];exact Nat.le_refl _),h3.keep (λ_ h _=>h) (λb hb _=>Qm (by exact hb.1)) (by rw[Qr];exact Nat.le_refl _)⟩
theorem Qbg{g B:Nat}{l:List (List TIns)}:Gp g (λv W=>∃a c,v=.slice a l.length c/\Qz W (λb=>B<=b/\b≠g) v l):=λ_ _ _ hg ⟨a,c,h1,h2⟩=>
 ⟨a,c,h1,h2.keep (λ_ h _=>h) (λb hb hl=>hg.block b hl (λe=>hb.2 (by injection e))) hg.size⟩
theorem QdF{g B:Nat}{l:List TRule}{d:Int}:Gp g (λv W=>∃a c,v=U8 (.slice a l.length c) d/\Qc W (λb=>B<=b/\b≠g) (.slice a l.length c) l):=λ_ _ _ hg ⟨a,c,h1,h2⟩=>
 ⟨a,c,h1,h2.keep (λ_ h _=>h) (λb hb hl=>hg.block b hl (λe=>hb.2 (by injection e))) hg.size⟩
theorem Il(v:Value)(l:List TCell)(D:Nat->Prop)(w:World)(h:Qo w D v l)(hn:l.length<=1000000)(hc:∀c∈l,Oh c):
  Calls prog 87 #[v] w λe w'=>∃v',e=.returned v'/\Qg w' w.heap.size 52 4 (XD w' (λb=>w.heap.size<=b/\v'.ownBlock≠some b)) v' l/\Below w.heap.size w w':=by
 have H:=Zh h;have Hc:=Zh hc;obtain⟨a,c,rfl,hlc,hcm,hat⟩:=Sl.form h;clear h hc hat;go_enter func87,ntmps87;go_wp2_with fail
 have H0:Hid (Sl w D 4 (XD w (λb=>b<w.heap.size)) (.slice a l.length c) l):=Sl.mono H.o (λ_ h _=>h) (λ_ _ _=>rfl) Znl (λ_ _ _ hy=>XD.keep hy (λ_ _ hl=>hl) (λ_ _ _=>rfl) Znl);refine(Qbh (XD w (λb=>b<w.heap.size)) (λy cs h=>ZY y cs h) _ l D w H0.o (by omega)).mono ?_;rintro e w1⟨v1,rfl,ho1,hb1⟩;have Ho1:Hid (Qg w1 w.heap.size 52 4 (XD w1 (λb=>b<w.heap.size)) v1 l):=ho1.monoR λ_ _ _ hy=>XD.keep hy (λ_ h _=>h) (λb _ hl=>hb1.block b hl) hb1.size;have Hb1:=Zh hb1;obtain⟨a1,c1,rfl⟩:=ho1.slice;clear ho1 hb1 H0;rcases Nat.eq_zero_or_pos l.length with h0|hpos
 .have hl0:l=[]:=List.length_eq_zero_iff.1 h0;subst hl0;have hlen0:([]:List TCell).length=0:=rfl;go_wp2_with fail
  go_loopw[9](λkv wr=>kv=.int .i64 0/\wr=w1) (λ_ _=>0)
  case atStart=>exact⟨rfl,rfl⟩
  case round=>
   obtain⟨rfl,rfl⟩:=hrel;go_wp2;go_ret;exact⟨_,rfl,Ho1.o.monoR (λx hx=>by cases hx),Hb1.o⟩
 obtain⟨g,rfl,hgb,hgl,cur,hcur⟩:=Qg.addr Ho1.o hpos
 have HM:Hid (Qg w1 w.heap.size 52 4 (cellC g w.heap.size w1) (.slice (some ⟨g,0,none⟩) l.length c1) (marks l 0 (true,true) (false,false))):=by
  show Qg _ _ _ _ _ _ _;rw[QaJ];exact Ho1.o.mark' λx cs ⟨u,v,h1,h2,h3⟩=>⟨u,v,h1,h2.keep (λb hb _=>⟨by omega,λh=>by cases h⟩) (λ_ _ _=>rfl) Znl,h3.keep (λb hb _=>⟨by omega,λh=>by cases h⟩) (λ_ _ _=>rfl) Znl⟩
 have Hg:=Zh hgb;clear hcur;go_wp2_with fail
 go_loopw[9](λkv wr=>∃k:Nat,kv=.int .i64 k/\k<=l.length/\Qg wr w.heap.size 52 4 (cellC g w.heap.size wr) (.slice (some ⟨g,0,none⟩) l.length c1) (marks l k (true,true) (false,false))/\Below w.heap.size w wr) (λkv _=>l.length-(intOf kv).toNat)
 case atStart=>exact⟨0,rfl,by omega,HM.o,Hb1.o⟩
 case round=>
  obtain⟨k,rfl,hk,hown,hbx⟩:=hrel;have Hown:=Zh hown;have Hbx:=Zh hbx;clear hown hbx;by_cases hlt:k<l.length
  .obtain⟨c,hr⟩:∃c,l[k]?=some c:=⟨_,List.getElem?_eq_getElem hlt⟩;have Hrk:=Zh hr;have Hck:=Zh (Hc.o c (List.mem_of_getElem? hr))
   have hown0:XE wr w.heap.size 52 4 g l.length c1 (cellC g w.heap.size) (λdn=>markm l k c (true,true) (dn 12,dn 15) (false,false)) (λ_=>false) wr:=
    ⟨by show Qg _ _ _ _ _ _ _;rw[IR hr];exact Hown.o,below_grow Zbr _⟩
   obtain⟨cs,_,⟨u,v,hu,hrc,hrp⟩,hcell⟩:=hown0.cells (XL hlt);have Hrc:=Zh hrc;have Hrp:=Zh hrp;have Hg2:=Zh (hown0.blk (by rw[Jf hlt];omega)).2.1;obtain⟨ac,cc,rfl,_⟩:=Sl.form hrc;obtain⟨ap,cp,rfl,_⟩:=Sl.form hrp;subst hu;have hck0:=hcell 0 _ rfl;have hck1:=hcell 1 _ rfl;have hck2:=hcell 2 _ rfl;have hck3:=hcell 3 _ rfl;simp only[Nat.add_zero]at hck0;clear hcell hrc hrp hown0 hr;go_wp2_with fail
   have HC:=Zh (Bx.one (w:=wr) (o:=(.cells #[.bool c.open_,.slice ac c.chain.length cc,.slice ap c.p.ru.length cp,.int .i64 c.p.df] 52)));have HBq:=Zh (Ql Hbx.o HC.o.bel)
   have Hownq:Hid (Qg (wr.alloc (.cells #[.bool c.open_,.slice ac c.chain.length cc,.slice ap c.p.ru.length cp,.int .i64 c.p.df] 52)) w.heap.size 52 4 (cellC g w.heap.size (wr.alloc (.cells #[.bool c.open_,.slice ac c.chain.length cc,.slice ap c.p.ru.length cp,.int .i64 c.p.df] 52))) (.slice (some ⟨g,0,none⟩) l.length c1) (markm l k c (true,true) (false,false) (false,false))):=by
    show Qg _ _ _ _ _ _ _;rw[IR Hrk.o];exact(Hown.o.below HC.o.bel).monoR λ_ _ _ hy=>UE _ _ _ _ HC.o.bel hy
   have HrC:=Zh (Qz.below Hrc.o HC.o.bel);have HrP:=Zh (Qc.below Hrp.o HC.o.bel);have Hsq:Hid ((wr.alloc (.cells #[.bool c.open_,.slice ac c.chain.length cc,.slice ap c.p.ru.length cp,.int .i64 c.p.df] 52)).heap.size=wr.heap.size+1):=by show _=_;simp
   revert HC HBq Hownq HrC HrP Hsq;generalize(wr.alloc (.cells #[.bool c.open_,.slice ac c.chain.length cc,.slice ap c.p.ru.length cp,.int .i64 c.p.df] 52))=wq;intro HC HBq Hownq HrC HrP Hsq;clear hck0 hck1 hck2 hck3;have hk0:(0:Int)<=(k:Int):=by omega
   have hkl:(k:Int)<(l.length:Int):=by omega
   have hkw:IntKind.i64.wrap (k:Int)=(k:Int):=IntWalk.i64_in _ (by omega);have Hlt:=Zh hlt
   refine ZP g [ex (.slice (some ⟨g,0,none⟩) l.length c1),ex (.int .i64 k),ex (.slice (some ⟨g,0,none⟩) l.length c1),ex (.int .i64 k),ex (.pointer (some ⟨wr.heap.size,1,none⟩)),ex (.slice ac c.chain.length cc),pr (λv W=>∃a c',v=.slice a c.chain.length c'/\Qz W (λb=>w.heap.size<=b/\b≠g) v c.chain),ex (.pointer (some ⟨wr.heap.size,2,none⟩)),ex (U8 (.slice ap c.p.ru.length cp) c.p.df),
     pr (λv W=>∃a c',v=U8 (.slice a c.p.ru.length c') c.p.df/\Qc W (λb=>w.heap.size<=b/\b≠g) (.slice a c.p.ru.length c') c.p.ru),ex (.pointer (some ⟨g,k*4,none⟩)),ex (.pointer (some ⟨g,k*4+1,none⟩)),ex undef,ex (.pointer (some ⟨g,k*4,none⟩)),ex (.pointer (some ⟨g,k*4+2,none⟩)),ex undef]
    (XE wq w.heap.size 52 4 g l.length c1 (cellC g w.heap.size) (λdn=>markm l k c (true,true) (dn 12,dn 15) (false,false))) (by kernel_rfl) (by kernel_rfl) ⟨.inl ⟨_,rfl⟩,.inl ⟨_,rfl⟩,.inl ⟨_,rfl⟩,.inl ⟨_,rfl⟩,.inl ⟨_,rfl⟩,.inl ⟨_,rfl⟩,.inr ⟨_,rfl,Qbg⟩,.inl ⟨_,rfl⟩,.inl ⟨_,rfl⟩,.inr ⟨_,rfl,QdF⟩,.inl ⟨_,rfl⟩,.inl ⟨_,rfl⟩,.inl ⟨_,rfl⟩,.inl ⟨_,rfl⟩,.inl ⟨_,rfl⟩,.inl ⟨_,rfl⟩,trivial⟩ ⟨(Hownq.o.below Zbr.drew).monoR λ_ _ _ hy=>UE _ _ _ _ Zbr.drew hy,GU _ _⟩ _ rfl ?_
   iterate 6 (refine Qj λK hK=>⟨λdn W hI h0 hd hn hf R hR=>?_,?_⟩;(first|(clear h0 hd hn hf;go_simp;exact hR _ _ (hI.step UE Zbr rfl) (below_grow Zbr _) rfl)|(have hcl:∀j,W.cell? ⟨wr.heap.size,j,none⟩=_:=Qb ((hI.gr.block _ (by have:=Hsq.o;omega) (λe=>by injection e with e;have:=Hg2.o;omega)).trans (HC.o.at_ 0 _ rfl));clear h0 hd hn hf;go_simp;exact hR _ _ (hI.step UE Zbr rfl) (below_grow Zbr _) rfl));(go_simp;refine hK _ ?_;clear hK K))
   (refine QR (λK hK=>?_);refine⟨λdn W hI h0 hd hn hf R hR=>?_,λv6c=>?_⟩;(have Hrw:=Zh (HrC.o.keep (w':=W) (D':=λb=>b≠g) (λ_ h _=>h.1) (λb hb hl=>hI.gr.block b hl (λe=>hb.1 (by injection e))) hI.gr.size);have HgW:Hid (g<W.heap.size):=(by have:=hI.gr.size;have:=Hg2.o;have:=Hsq.o;show g<_;omega);have HwW:Hid (w.heap.size<=W.heap.size):=Nat.le_trans HBq.o.size hI.gr.size;clear h0 hd hn hf;go_simp;go_at_call 127;refine(QdZ _ c.chain _ W Hrw.o Hck.o.1.1 Hck.o.1.2).mono ?_;rintro e w5 ⟨v6,rfl,ho6,hb6⟩;exact⟨_,rfl,hR _ _ (hI.step UE hb6 rfl) (below_grow hb6 _) (by obtain⟨a6,c6,rfl⟩:=ho6.slice;exact⟨a6,c6,rfl,Sl.mono (ho6.sl (D:=λb=>W.heap.size<=b) (λ_ h=>h)) (λb hb _=>⟨Nat.le_trans HwW.o hb,by have h1:W.heap.size<=b:=hb;have:=HgW.o;omega⟩) (λ_ _ _=>rfl) Znl (λ_ _ _ ⟨u,h1,h2⟩=>⟨u,h1,h2.keep (λb hb _=>⟨Nat.le_trans HwW.o hb.1,by have h1:=hb.1;have:=HgW.o;omega⟩) (λ_ _ _=>rfl) Znl⟩)⟩)⟩);(go_simp;refine hK _ _ ?_;clear hK K))
   iterate 2 (refine Qj λK hK=>⟨λdn W hI h0 hd hn hf R hR=>?_,?_⟩;(first|(clear h0 hd hn hf;go_simp;exact hR _ _ (hI.step UE Zbr rfl) (below_grow Zbr _) rfl)|(have hcl:∀j,W.cell? ⟨wr.heap.size,j,none⟩=_:=Qb ((hI.gr.block _ (by have:=Hsq.o;omega) (λe=>by injection e with e;have:=Hg2.o;omega)).trans (HC.o.at_ 0 _ rfl));clear h0 hd hn hf;go_simp;exact hR _ _ (hI.step UE Zbr rfl) (below_grow Zbr _) rfl));(go_simp;refine hK _ ?_;clear hK K))
   (refine QR (λK hK=>?_);refine⟨λdn W hI h0 hd hn hf R hR=>?_,λv9p=>?_⟩;(have Hrw:=Zh (HrP.o.keep (w':=W) (D':=λb=>b≠g) (λ_ h _=>h.1) (λb hb hl=>hI.gr.block b hl (λe=>hb.1 (by injection e))) hI.gr.size);have HgW:Hid (g<W.heap.size):=(by have:=hI.gr.size;have:=Hg2.o;have:=Hsq.o;show g<_;omega);have HwW:Hid (w.heap.size<=W.heap.size):=Nat.le_trans HBq.o.size hI.gr.size;clear h0 hd hn hf;go_simp;go_at_call 128;refine(Gg _ c.p _ W Hrw.o Hck.o.2.1 Hck.o.2.2).mono ?_;rintro e w5 ⟨v6,rfl,ho6,hb6⟩;exact⟨_,rfl,hR _ _ (hI.step UE hb6 rfl) (below_grow hb6 _) (by obtain⟨a6,c6,rfl,_⟩:=Sl.form ho6;exact⟨a6,c6,rfl,ho6.keep (λb hb _=>⟨Nat.le_trans HwW.o hb,by have h1:W.heap.size<=b:=hb;have:=HgW.o;omega⟩) (λ_ _ _=>rfl) Znl⟩)⟩);(go_simp;refine hK _ _ ?_;clear hK K))
   iterate 6 (refine Qj λK hK=>⟨λdn W hI h0 hd hn hf R hR=>?_,?_⟩;(first|(clear h0 hd hn hf;go_simp;exact hR _ _ (hI.step UE Zbr rfl) (below_grow Zbr _) rfl)|(have h6:∃a c',v6c=.slice a c.chain.length c'/\Qz W (λb=>w.heap.size<=b/\b≠g) v6c c.chain:=hf 6 (by decide);obtain⟨a6,c6,rfl,hr6⟩:=h6;obtain⟨_,_,⟨u9,v9,rfl,hr9,hs9⟩,hcell⟩:=hI.cells (by exact XL Hlt.o);have hck:=hcell 1 _ rfl;have hfz:=hI.frz (by rw[Jf Hlt.o];have:=Hlt.o;omega) (k*4+1);have HN:=Zh (hI.put (done':=Qe dn 12) (i:=k) (j:=1) (u:=.slice a6 c.chain.length c6) (y':=(c,(true,dn 15))) (by decide) (by exact XL Hlt.o) (λcs0 hcs=>by obtain⟨v0,v1,rfl,_,h3⟩:=hcs;exact⟨_,_,rfl,hr6.keep (λb hb _=>⟨hb.2,λ_=>hb.1⟩) (λb hb _=>Qm (by exact hb.2)) (by rw[Qr];exact Nat.le_refl _),h3⟩) (λz cs0 hz=>Ee z cs0 hz) (by rw[GZ Hlt.o];rfl));have HT:=Zh (UX W g (k*4+1) (.slice a6 c.chain.length c6));clear h0 hd hn hf hcell hI hs9 hr9 hr6;go_simp;exact hR _ _ HN.o HT.o rfl)|(have h9:∃a c',v9p=U8 (.slice a c.p.ru.length c') c.p.df/\Qc W (λb=>w.heap.size<=b/\b≠g) (.slice a c.p.ru.length c') c.p.ru:=hf 9 (by decide);obtain⟨a6,c6,rfl,hr6⟩:=h9;obtain⟨_,_,⟨u9,v9,rfl,hr9,hs9⟩,hcell⟩:=hI.cells (by exact XL Hlt.o);have hck:=hcell 2 _ rfl;have hck3:=hcell 3 _ rfl;have hfz:=hI.frz (by rw[Jf Hlt.o];have:=Hlt.o;omega);have hN1:=(hI.put (done':=Qe dn 15) (i:=k) (j:=2) (u:=.slice a6 c.p.ru.length c6) (y':=(c,(dn 12,true))) (by decide) (by exact XL Hlt.o) (λcs0 hcs=>by obtain⟨v0,v1,rfl,h3,_⟩:=hcs;exact⟨_,_,rfl,h3,hr6.keep (λb hb _=>⟨hb.2,λ_=>hb.1⟩) (λb hb _=>Qm (by exact hb.2)) (by rw[Qr];exact Nat.le_refl _)⟩) (λz cs0 hz=>Ee z cs0 hz) (by rw[GZ Hlt.o];rfl));have HN:=Zh (hN1.put (done':=Qe dn 15) (i:=k) (j:=3) (u:=.int .i64 c.p.df) (y':=(c,(dn 12,true))) (by decide) (by exact XL Hlt.o) (λcs0 hcs=>by obtain⟨v0,v1,rfl,h3,h4⟩:=hcs;exact⟨_,_,rfl,h3,h4⟩) (λz cs0 hz=>Ee z cs0 hz) (by rw[GZ Hlt.o];rfl));have HT:=Zh (UW (UX W g (k*4+2) (.slice a6 c.p.ru.length c6)) (UX _ g (k*4+3) (.int .i64 c.p.df)));clear h0 hd hn hf hcell hI hN1 hs9 hr9 hr6;go_simp;exact hR _ _ HN.o HT.o rfl));(go_simp;refine hK _ ?_;clear hK K))
   intro dn W hdone hI _;have h12:dn 12=true:=hdone 12 (by decide);have h15:dn 15=true:=hdone 15 (by decide);have ho:=hI.own;rw[h12,h15,Qee Hrk.o]at ho;have HO:=Zh ho;have HBw:=Zh (QV HBq.o hI.gr HBq.o.size Hg.o);clear hI hdone h12 h15 ho;go_wp2
   go_roundw
   case rel=>exact⟨k+1,by go_num,by omega,HO.o,HBw.o⟩
   case measure=>simp[intOf];omega
  obtain rfl:k=l.length:=by omega
  have ho:=Hown.o;rw[Qcs]at ho
  have HR:Hid (Qg wr w.heap.size 52 4 (XD wr (λb=>w.heap.size<=b/\(Value.slice (some ⟨g,0,none⟩) l.length c1).ownBlock≠some b)) (.slice (some ⟨g,0,none⟩) l.length c1) l):=
   ho.unmark' λx cs ⟨u,v,h1,h2,h3⟩=>⟨u,v,h1,h2.keep (λb hb _=>⟨hb.2 rfl,λe=>hb.1 (by simpa[Value.ownBlock]using e.symm)⟩) (λ_ _ _=>rfl) Znl,h3.keep (λb hb _=>⟨hb.2 rfl,λe=>hb.1 (by simpa[Value.ownBlock]using e.symm)⟩) (λ_ _ _=>rfl) Znl⟩
  clear ho;go_wp2;go_ret;exact⟨_,rfl,HR.o,Hbx.o⟩
end
section
open Go.RowKit
def Dg(B g:Nat)(b:Nat):Prop:=B<=b/\b≠g
theorem Gx{W:World}{B g i:Nat}{x:Value}{y:TCell}{cs:List Value}(h:XD W (Dg B g) y cs):XD (W.setCell ⟨g,i,none⟩ x) (Dg B g) y cs:=
 h.keep (λ_ h _=>h) (λb hb _=>Qm (by exact hb.2)) (by rw[Qr];exact Nat.le_refl _)
theorem Qan{W:World}{B g i:Nat}{x v:Value}{l:List (List TIns)}(h:Qz W (Dg B g) v l):Qz (W.setCell ⟨g,i,none⟩ x) (Dg B g) v l:=
 h.keep (λ_ h _=>h) (λb hb _=>Qm (by exact hb.2)) (by rw[Qr];exact Nat.le_refl _)
theorem OQ{W:World}{B g i:Nat}{x v:Value}{l:List TRule}(h:Qc W (Dg B g) v l):Qc (W.setCell ⟨g,i,none⟩ x) (Dg B g) v l:=
 h.keep (λ_ h _=>h) (λb hb _=>Qm (by exact hb.2)) (by rw[Qr];exact Nat.le_refl _)
section
variable{W:World}{B B0 g n c k:Nat}{l:List TCell}{u v:Value}
def QT(W:World)(B0 B g n c:Nat)(l:List TCell):Prop:=Qg W B0 52 4 (XD W (Dg B g)) (.slice (some ⟨g,0,none⟩) n c) l
theorem QT.below{W':World}(h:QT W B0 B g n c l)(hb:Below W.heap.size W W'):QT W' B0 B g n c l:=
 (Qg.below h hb).monoR λ_ _ _ hy=>hy.keep (λ_ h _=>h) (λb _ hl=>hb.block b hl) hb.size
theorem QT.cells(h:QT W B0 B g n c l){x:TCell}(hk:l[k]?=some x):∃(a1 a2:Option Addr)(c1 c2:Nat),W.cell? ⟨g,k*4,none⟩=some (.bool x.open_)/\W.cell? ⟨g,k*4+1,none⟩=some (.slice a1 x.chain.length c1)/\W.cell? ⟨g,k*4+2,none⟩=some (.slice a2 x.p.ru.length c2)/\W.cell? ⟨g,k*4+3,none⟩=some (.int .i64 x.p.df) /\
      Qz W (Dg B g) (.slice a1 x.chain.length c1) x.chain/\Qc W (Dg B g) (.slice a2 x.p.ru.length c2) x.p.ru:=by
 obtain⟨hlt,rfl⟩:=List.getElem?_eq_some_iff.1 hk;have hs:=Qg.sl h (D:=λ_=>True) (λ_ _=>trivial);obtain⟨cs,hl,⟨u,v,rfl,hc,hp⟩,hcell⟩:=Sl.get hs hlt;obtain⟨a1,c1,hv,_⟩:=Sl.form hc;obtain⟨a2,c2,hv2,_⟩:=Sl.form hp;subst hv hv2;exact⟨a1,a2,c1,c2,by have:=hcell 0 _ rfl;simpa using this,by have:=hcell 1 _ rfl;simpa using this,by have:=hcell 2 _ rfl;simpa using this,by have:=hcell 3 _ rfl;simpa using this,hc,hp⟩
theorem QT.frz(h:QT W B0 B g n c l)(hl:0<l.length)(j:Nat):W.frozen? ⟨g,j,none⟩=false:=by
 obtain⟨b,e,_,_,cur,hc⟩:=Qg.addr h hl;injection e with e;injection e with e;subst e;exact Qp hc j
theorem QT.lt(h:QT W B0 B g n c l)(hl:0<l.length):B0<=g/\g<W.heap.size:=by
 obtain⟨b,e,h1,h2,_⟩:=Qg.addr h hl;injection e with e;injection e with e;subst e;exact⟨h1,h2⟩
theorem ZM{α:Type}(l:List α)(k:Nat)(a b:α):(l.set k a).set k b=l.set k b:=by simp
theorem QT.chain(h:QT W B0 B g n c l){x:TCell}(hk:l[k]?=some x){ch:List (List TIns)}(hu:Qz W (Dg B g) u ch):
  QT (W.setCell ⟨g,k*4+1,none⟩ u) B0 B g n c (l.set k ⟨x.open_,ch,x.p⟩):=by
 obtain⟨hlt,rfl⟩:=List.getElem?_eq_some_iff.1 hk;exact Qg.put (Qg.monoR h λz _ cs hz=>Gx hz) hlt (by decide) (λr ⟨u0,v0,hr,h1,h2⟩=>by subst hr;exact⟨_,_,rfl,Qan hu,h2⟩)
theorem QT.ru(h:QT W B0 B g n c l){x:TCell}(hk:l[k]?=some x){rs:List TRule}(hu:Qc W (Dg B g) u rs):
  QT (W.setCell ⟨g,k*4+2,none⟩ u) B0 B g n c (l.set k ⟨x.open_,x.chain,⟨rs,x.p.df⟩⟩):=by
 obtain⟨hlt,rfl⟩:=List.getElem?_eq_some_iff.1 hk;exact Qg.put (Qg.monoR h λz _ cs hz=>Gx hz) hlt (by decide) (λr ⟨u0,v0,hr,h1,h2⟩=>by subst hr;exact⟨_,_,rfl,h1,OQ hu⟩)
theorem QT.df(h:QT W B0 B g n c l){x:TCell}(hk:l[k]?=some x)(d:Int):
  QT (W.setCell ⟨g,k*4+3,none⟩ (.int .i64 d)) B0 B g n c (l.set k ⟨x.open_,x.chain,⟨x.p.ru,d⟩⟩):=by
 obtain⟨hlt,rfl⟩:=List.getElem?_eq_some_iff.1 hk;exact Qg.put (Qg.monoR h λz _ cs hz=>Gx hz) hlt (by decide) (λr ⟨u0,v0,hr,h1,h2⟩=>by subst hr;exact⟨_,_,rfl,h1,h2⟩)
theorem QT.open_(h:QT W B0 B g n c l){x:TCell}(hk:l[k]?=some x)(o:Bool):
  QT (W.setCell ⟨g,k*4,none⟩ (.bool o)) B0 B g n c (l.set k ⟨o,x.chain,x.p⟩):=by
 obtain⟨hlt,rfl⟩:=List.getElem?_eq_some_iff.1 hk;exact Qg.put (i:=k) (j:=0) (Qg.monoR h λz _ cs hz=>Gx hz) hlt (by decide) (λr ⟨u0,v0,hr,h1,h2⟩=>by subst hr;exact⟨_,_,rfl,h1,h2⟩)
theorem QT.pol(h:QT W B0 B g n c l){x:TCell}(hk:l[k]?=some x){p:TPol}(hu:Qc W (Dg B g) u p.ru):
  QT ((W.setCell ⟨g,k*4+2,none⟩ u).setCell ⟨g,k*4+3,none⟩ (.int .i64 p.df)) B0 B g n c (l.set k ⟨x.open_,x.chain,p⟩):=by
 have hlt:=(List.getElem?_eq_some_iff.1 hk).1;have:=(h.ru hk hu).df (x:=⟨x.open_,x.chain,⟨p.ru,x.p.df⟩⟩) (by rw[List.getElem?_set_self hlt]) p.df
 rwa [ZM]at this
theorem QT.put(h:QT W B0 B g n c l){x y:TCell}(hk:l[k]?=some x)(hu:Qz W (Dg B g) u y.chain)(hv:Qc W (Dg B g) v y.p.ru):
  QT ((((W.setCell ⟨g,k*4,none⟩ (.bool y.open_)).setCell ⟨g,k*4+1,none⟩ u).setCell ⟨g,k*4+2,none⟩ v).setCell ⟨g,k*4+3,none⟩ (.int .i64 y.p.df)) B0 B g n c (l.set k y):=by
 have hlt:=(List.getElem?_eq_some_iff.1 hk).1;have h1:=(h.open_ hk y.open_).chain (x:=⟨y.open_,x.chain,x.p⟩) (by rw[List.getElem?_set_self hlt]) (Qan hu);rw[ZM]at h1;have h2:=h1.pol (x:=⟨y.open_,y.chain,x.p⟩) (by rw[List.getElem?_set_self hlt]) (p:=y.p) (OQ (OQ hv))
 rwa [ZM]at h2
theorem QT.read{B':Nat}(h:QT W B0 B g n c l)(h1:B'<=B0)(h2:B'<=B):Qo W (λb=>B'<=b) (.slice (some ⟨g,0,none⟩) n c) l:=
 Sl.mono (Qg.sl h (D:=λb=>B'<=b) (λ_ hb=>Nat.le_trans h1 hb)) (λ_ h _=>h) (λ_ _ _=>rfl) Znl (λ_ _ _ hy=>hy.keep (λ_ hb _=>Nat.le_trans h2 hb.1) (λ_ _ _=>rfl) Znl)
end
theorem Qam{c:TCell}(h:VZ c=0):Oh c:=by
 obtain⟨o,ch,p⟩:=c;unfold VZ at h;unfold Oh;dsimp only at h⊢
 cases o with
 |false=>
  simp only[Bool.false_eq_true,if_false]at h;split at h
  .rename_i h1;obtain⟨h1,h2,h3⟩:=h1;rw[h1,h3];simp
  cases h
 |true=>
  simp only[if_true]at h;split at h
  .cases h
  split at h
  .rename_i h1;exact absurd h h1
  rename_i h1;have hc:=(V9 ch).1 (by simpa using h1);have hp:=(UN p).1 h;exact⟨⟨by have:=hc.1;omega,λf hf=>by have:=Qb3 (hc.2 f hf);omega⟩,by have:=hp.len;omega,λr hr=>by have:=(hp.ru r hr).len;omega⟩
end
end Go.Proofs.YthkgjohhbdipcaaGreatDoor
