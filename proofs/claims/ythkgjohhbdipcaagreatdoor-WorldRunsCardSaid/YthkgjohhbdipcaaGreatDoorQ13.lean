/- Texts laid one behind the other: TCond, ParseSpec, BoxRow, App2. No condition beyond theirs. -/
import Derived.Test.YthkgjohhbdipcaaGreatDoorQ12
import Derived.Test.YthkgjohhbdipcaaGreatDoorQ8
import Derived.Test.YthkgjohhbdipcaaGreatDoorQ7
import Derived.Test.YthkgjohhbdipcaaGreatDoorQ4
import Derived.Test.YthkgjohhbdipcaaGreatDoorQ3
import Derived.Maps.AppendAt
set_option linter.all false
set_option maxHeartbeats 64000000
set_option maxRecDepth 100000
namespace Go.Proofs.YthkgjohhbdipcaaGreatDoor
open Tryz
section
open Go.RowKit
attribute [local go_sem] gives QG
attribute [-go_sem] run_string_add_if run_slice_string_if run_slice_string run_slice_string_h run_slice_string_l
def rowAt(row:Array Value)(v:Value)(W:World):Prop:=∃b,v=.slice (some ⟨b,0,none⟩) 5 5/\W.heap[b]?=some (.cells row 9)
def Qdj(k:Nat)(_:Nat->Bool)(vf:Nat->Value)(W:World):Prop:=if k=0 then rowAt ZA (vf 0) W else if k=5 then rowAt Qcv (vf 5) W else True
theorem OM{row:Array Value}{v:Value}{w w':World}{ts:List TypeId}(hT:9∉ts)(hi:Yc ts w w')(h:rowAt row v w):rowAt row v w':=by
 obtain⟨b,h1,h2⟩:=h;exact⟨b,h1,Qbd h2 hi hT⟩
theorem QeQ{k i:Nat}{dn d':Nat->Bool}{vf:Nat->Value}{w w':World}(hi:Yc (if i=15 then[153]else[]) w w')(h:Qdj k dn vf w):Qdj k d' vf w':=by
 have hT:9∉(if i=15 then[153]else[]:List TypeId):=by split<;>simp
 unfold Qdj at h⊢;split
 .rename_i e;rw[if_pos e]at h;exact OM hT hi h
 rename_i e;rw[if_neg e]at h;split
 .rename_i e2;rw[if_pos e2]at h;exact OM hT hi h
 trivial
theorem Qb6{k:Nat}{dn:Nat->Bool}{f g:Nat->Value}{w:World}(hk:f k=g k)(h:Qdj k dn f w):Qdj k dn g w:=by
 unfold Qdj at h⊢;split
 .rename_i e;subst e;rw[if_pos rfl]at h;rw[<-hk];exact h
 rename_i e;rw[if_neg e]at h;split
 .rename_i e2;subst e2;rw[if_pos rfl]at h;rw[<-hk];exact h
 trivial
theorem QdQ{cs:Array Value}(h:cs.size=3):∃c0 c1 c2,cs = #[c0,c1,c2]:=by
 obtain⟨l⟩:=cs
 match l,h with
 |[a,b,c],_=>exact⟨a,b,c,rfl⟩
theorem Yc.of_sets3{T0:TypeId}{w:World}{b:Nat}{v0 v1 v2:Value}{cs:Array Value}(h:w.heap[b]?=some (.cells cs T0)):
  Yc [T0] w (((w.setCell ⟨b,0,none⟩ v0).setCell ⟨b,1,none⟩ v1).setCell ⟨b,2,none⟩ v2):=
 ((Yc.of_set (by simp) h).trans (Yc.of_set (by simp) (QJ h))).trans (Yc.of_set (by simp) (QJ (QJ h)))
structure Yz(w:World)(g:Nat)(x y z:Value)(dn:Nat->Bool)(W:World):Prop where
 bx:Bx w [.cells (if dn 17 then#[x,y,z]else#[.int .i64 0,.int .i64 0,.int .i64 0]) 153] W
 cd:W.heap[g]?=some (.cells #[x,y,z] 153)
theorem Yz.step{w:World}{bx:Nat}{x y z:Value}{dn:Nat->Bool}{W W':World}{k:Nat}(h:Yz w bx x y z dn W)(hk:17≠k)(hb:Below W.heap.size W W'):Yz w bx x y z (Qe dn k) W':=by
 refine⟨?_,Qd h.cd hb⟩;unfold Qe;rw[if_neg hk];exact h.bx.below hb
theorem Yz.store{w:World}{bx:Nat}{x y z:Value}{dn:Nat->Bool}{W:World}(h:Yz w bx x y z dn W)(hne:bx≠w.heap.size):Yz w bx x y z (Qe dn 17) (((W.setCell ⟨w.heap.size,0,none⟩ x).setCell ⟨w.heap.size,1,none⟩ y).setCell ⟨w.heap.size,2,none⟩ z):=by
 refine⟨?_,by rw[Qm hne,Qm hne,Qm hne];exact h.cd⟩;rw[show Qe dn 17 17=true from rfl];have hb:=h.bx;cases hd:dn 17
 .rw[hd]at hb;exact((hb.set (i:=0) rfl 0 x).set (i:=0) rfl 1 y).set (i:=0) rfl 2 z
 rw[hd]at hb;exact((hb.set (i:=0) rfl 0 x).set (i:=0) rfl 1 y).set (i:=0) rfl 2 z
theorem Qbk(L:List UInt8)(w:World)(hL:Laid w)(hu:L.length<=60000):
  Calls prog 110 #[.string (bsL L)] w λe w'=>(∃(f o n:Int)(b:Bool),e=.returned (.tuple #[.agg #[.int .i64 f,.int .i64 o,.int .i64 n],.bool b])/\(Xh L=if b then some ⟨f,o,n⟩else none))/\Below w.heap.size w w':=by
 have HL:=Zh hL;have Hu:=Zh hu;have hsz:(bsL L).size=L.length:=by simp[bsL,ByteArray.size]
 have HA:=Zh (QhU L);clear hL hu;go_enter func110,ntmps110;go_wp2_with fail
 have HB:=Zh (Bx.one (w:=w) (o:=.cells #[.int .i64 0,.int .i64 0,.int .i64 0] 153));refine(Qcm (bsL L) (by rw[hsz];have:=Hu.o;omega) _).mono ?_;rw[show(bsL L).data.toList=L from rfl,HA.o];rintro e w1⟨rfl,hb1⟩;have HB1:=Zh (HB.o.below hb1);clear hb1 HB;by_cases hk:opAt L=L.length
 .have HE:Hid (Xh L=none):=by show _=_;unfold Xh;rw[if_pos hk]
  rw[if_pos hk];have hc:=HB1.o.cells0;have hf:=HB1.o.free0;have HS:=Zh (((HB1.o.set (i:=0) rfl 0 (.int .i64 0)).set (i:=0) rfl 1 (.int .i64 0)).set (i:=0) rfl 2 (.int .i64 0));have hcs:=HS.o.cells0;have HBL:Hid (Below w.heap.size w (((w1.setCell ⟨w.heap.size,0,none⟩ (.int .i64 0)).setCell ⟨w.heap.size,1,none⟩ (.int .i64 0)).setCell ⟨w.heap.size,2,none⟩ (.int .i64 0))):=HS.o.bel;clear hk HS;go_wp2;refine bodyPost_ret (v:=.tuple #[.agg #[.int .i64 0,.int .i64 0,.int .i64 0],.bool false]) ?_ rfl ⟨⟨0,0,0,false,rfl,HE.o⟩,HBL.o⟩;rw[results_cell_tmp rfl];go_simp
 obtain⟨b,hb,hop⟩:=Qdz L hk;obtain⟨k,hkk⟩:∃k,opAt L=k:=⟨_,rfl⟩;rw[hkk]at hk hb;rw[hkk,if_neg hk];have hkl:k<L.length:=(List.getElem?_eq_some_iff.1 hb).1;have HK:=Zh hkk;have Hop:=Zh hop;have hw1:IntKind.i64.wrap ((k:Int)+1)=(k:Int)+1:=IntWalk.i64_in _ (by have:=Hu.o;omega);have hk0:¬(k:Int)<0:=by omega
 have hs1:∀W:World,(Instr.slice 9 (.string (bsL L)) (some (.int .i64 ((k:Int)+1))) none none).run prog W=.ok (.string (bsL (L.drop (k+1)))) W:=λW=>by
  rw[run_slice_string_l (P:=prog) (w:=W) (t:=9) (s:=bsL L) underlying9 .i64 ((k:Int)+1) (by omega) (by rw[hsz];omega),JY,hsz,show((k:Int)+1).toNat=k+1 by omega,List.take_of_length_le (by simp)]
 have hs2:∀W:World,(Instr.slice 9 (.string (bsL L)) none (some (.int .i64 (k:Int))) none).run prog W=.ok (.string (bsL (L.take k))) W:=λW=>by
  rw[run_slice_string_h (P:=prog) (w:=W) (t:=9) (s:=bsL L) underlying9 .i64 (k:Int) (by omega) (by rw[hsz];omega),JY,show((k:Int)).toNat=k by omega];simp
 have hs3:∀W:World,(Instr.slice 9 (.string (bsL L)) (some (.int .i64 (k:Int))) (some (.int .i64 ((k:Int)+1))) none).run prog W=.ok (.string (bsL [b])) W:=λW=>by
  rw[run_slice_string (P:=prog) (w:=W) 9 (bsL L) .i64 .i64 (k:Int) ((k:Int)+1) underlying9 (by omega) (by omega) (by rw[hsz];omega),JY,show((k:Int)).toNat=k by omega,show((k:Int)+1).toNat-k=1 by omega,List.drop_eq_getElem_cons hkl];have:L[k]=b:=(List.getElem?_eq_some_iff.1 hb).2;rw[this];rfl
 have Hb:=Zh hb;clear hb hop hkk hk;go_wp2_with fail
 have hsd:(bsL (L.drop (k+1))).size<=281474976710656:=by have:=Hu.o;simp[bsL,ByteArray.size];omega
 refine(QdX (bsL (L.drop (k+1))) _ (HL.o.below HB1.o.bel) hsd).mono ?_;rw[show(bsL (L.drop (k+1))).data.toList=L.drop (k+1)from rfl];obtain⟨⟨n,q⟩,hnq⟩:∃E,Ug (L.drop (k+1))=E:=⟨_,rfl⟩;rw[hnq];rintro e w2⟨err,rfl,hc,hb2⟩;have HB2:=Zh (HB1.o.below hb2);have HQ:=Zh hnq;have HC:=Zh hc;obtain⟨F,hF⟩:∃F,Lib.idxOfS (Qdn.take 5) (bsL (L.take k))=F:=⟨_,rfl⟩;have HF:Hid (Lib.idxOfS [bsL [110,114],bsL [107,105,110,100],bsL [97],bsL [98],bsL [99]] (bsL (L.take k))=F):=hF;have HO:Hid (Lib.idxOfS [bsL [],bsL [61],bsL [33],bsL [60],bsL [62]] (bsL [b])=Xc b):=QiV b Hop.o;clear hb2 hc hnq hF hsd HB1;dsimp only;go_wp2_with fail
 refine Y9 w2.heap.size Znl 153 3 (λ_=>[]) 14 15 (λ_=>#[.int .i64 F,.int .i64 (Xc b),.int .i64 n]) Qdj (by kernel_rfl) (by kernel_rfl) _ rfl (by decide) (λ_=>by simp) (λ_=>rfl) (λi k _ _ _ _ _ _ _ _ hi h=>QeQ hi h) (λk _ f g _ _ hk h=>Qb6 hk h) (λf g h=>rfl) ?_
 (refine VO λK hK=>⟨λdn vf W hI h0 hd hn hf R hR=>?_,?_⟩;(clear h0 hd hn hf;go_simp;go_at_call 104;refine(Qas _).mono ?_;(rintro e w4 ⟨rfl,rfl⟩;exact⟨_,rfl,hR _ _ (Cls.step hI (Qa Zbr _)) (Xk.plain (Qa Zbr _) (by decide)) trivial ⟨_,rfl,Qh _ _⟩⟩));(go_simp;refine hK _ ?_;clear hK K))
 iterate 4 (refine QU (λK hK=>?_);apply Exists.intro;refine⟨λdn vf W hI h0 hd hn hf R hR=>?_,?_,?_⟩;(first|(clear h0 hd hn hf;go_simp;exact hR _ _ (Cls.step hI Zbr) (Xk.plain Zbr (by decide)) rfl trivial);exact(λ_ _ _=>rfl)|(have h1:rowAt ZA (vf 0) W:=hf 0 (hd 0 (by decide));obtain⟨g,hv,hg⟩:=h1;have Hg:=Zh hg;clear h0 hd hn hf hg;go_simp;go_at_call 69;refine(Zp [110,114] [107,105,110,100] [97] [98] [99] (L.take k) g _ Hg.o).mono ?_;rw[HF.o];(rintro e w4 ⟨rfl,rfl⟩;exact⟨_,rfl,hR _ _ (Cls.step hI Zbr) (Xk.plain Zbr (by decide)) rfl trivial⟩));exact(λ_ _ _=>rfl));(go_simp;refine hK _ ?_;clear hK K))
 (refine VO λK hK=>⟨λdn vf W hI h0 hd hn hf R hR=>?_,?_⟩;(clear h0 hd hn hf;go_simp;go_at_call 105;refine(Qgq _).mono ?_;(rintro e w4 ⟨rfl,rfl⟩;exact⟨_,rfl,hR _ _ (Cls.step hI (Qa Zbr _)) (Xk.plain (Qa Zbr _) (by decide)) trivial ⟨_,rfl,Qh _ _⟩⟩));(go_simp;refine hK _ ?_;clear hK K))
 iterate 8 (refine QU (λK hK=>?_);apply Exists.intro;refine⟨λdn vf W hI h0 hd hn hf R hR=>?_,?_,?_⟩;(first|(clear h0 hd hn hf;go_simp;exact hR _ _ (Cls.step hI Zbr) (Xk.plain Zbr (by decide)) rfl trivial);exact(λ_ _ _=>rfl)|(have h1:rowAt Qcv (vf 5) W:=hf 5 (hd 5 (by decide));obtain⟨g,hv,hg⟩:=h1;have Hg:=Zh hg;clear h0 hd hn hf hg;go_simp;go_at_call 69;refine(Zp [] [61] [33] [60] [62] [b] g _ Hg.o).mono ?_;rw[HO.o];(rintro e w4 ⟨rfl,rfl⟩;exact⟨_,rfl,hR _ _ (Cls.step hI Zbr) (Xk.plain Zbr (by decide)) rfl trivial⟩));exact(λ_ _ _=>rfl));(go_simp;refine hK _ ?_;clear hK K))
 (refine VO λK hK=>⟨λdn vf W hI h0 hd hn hf R hR=>?_,?_⟩;(clear h0 hd hn hf;go_simp;exact hR _ _ (Cls.step hI (Qa Zbr _)) (Xk.plain (Qa Zbr _) (by decide)) trivial ⟨_,rfl,hI.1,_,rfl,Qh _ _⟩);(go_simp;refine hK _ ?_;clear hK K))
 (refine VO λK hK=>⟨λdn vf W hI h0 hd hn hf R hR=>?_,?_⟩;(have h11:Qc9 w2.heap.size 153 3 (vf 14) W:=hf 14 (hd 14 (by decide));obtain⟨bx,h11,hbx,cs,hcs,hc11⟩:=h11;obtain⟨d0,d1,d2,rfl⟩:=QdQ hcs;have hce:=Qb hc11;have hfe:=Qp hc11;have Hc11:=Zh hc11;have Hst:Hid ((((W.setCell ⟨bx,0,none⟩ (.int .i64 F)).setCell ⟨bx,1,none⟩ (.int .i64 (Xc b))).setCell ⟨bx,2,none⟩ (.int .i64 n)).heap[bx]?=some (.cells #[.int .i64 F,.int .i64 (Xc b),.int .i64 n] 153)):=QJ (QJ (QJ hc11));clear h0 hd hn hf hc11 hcs;go_simp;exact hR _ _ ⟨by simp only[Qr];exact hI.1,Qw (Qw (Qw hI.2 hbx) hbx) hbx⟩ ⟨Yc.of_sets3 Hc11.o,λ_=>⟨bx,h11,Hst.o⟩⟩ trivial ⟨bx,h11,Hst.o⟩);(go_simp;refine hK _ ?_;clear hK K))
 intro dn vf w3 hd hI hFF;have h15:QfK 153 (vf 14) #[.int .i64 F,.int .i64 (Xc b),.int .i64 n] w3:=hFF 15 (by decide);have h14:Qc9 w2.heap.size 153 3 (vf 14) w3:=hFF 14 (by decide);obtain⟨bx,hbv,hbx⟩:=h15;obtain⟨b2,hbv2,hb2,_⟩:=h14;have hbb:b2=bx:=by rw[hbv]at hbv2;injection hbv2 with e;injection e with e;injection e with e;exact e.symm
 subst hbb;have Hne:Hid (b2≠w.heap.size):=λe=>by have:=HB2.o.top;simp at this;omega
 have HB3:=Zh (HB2.o.below hI.2);have HI0:Hid (Yz w b2 (.int .i64 F) (.int .i64 (Xc b)) (.int .i64 n) (λ_=>false) w3.drew):=⟨HB3.o.drew,hbx⟩;have hqx:=Qb hbx
 have HE:Hid (Xh L=match VU (L.take k)with|none=>none|some f=>if q then some ⟨f,Xc b,n⟩else none):=by
  show Xh L=_;unfold Xh;rw[HK.o,if_neg (by omega),HQ.o,List.getD_eq_getElem?_getD,Hb.o];rfl
 have HF2:Hid (F=match VU (L.take k)with|some f=>f|none=>-1):=by have:=Qf2 (L.take k);rw[show Lib.idxOfS (Qdn.take 5) (bsL (L.take k))=F from HF.o]at this;exact this
 have Hpos:Hid (∀f,VU (L.take k)=some f->0<=f):=λf hf=>by
  unfold VU at hf
  repeat' split at hf
  all_goals first|(injection hf with hf;omega)|cases hf
 clear hbv2 hb2 hd hI hFF hbx;rcases HC.o with⟨⟨v,hp,he⟩,rfl⟩|⟨h2,t,p,rfl⟩
 .injection he with he1 he2;subst he1;obtain⟨hv0,hv1⟩:=Qbz hp;have hcmp:((bsL (Lib.itoa n)).toList==(bsL (L.drop (k+1))).toList)=q:=by rw[ByteArray.toList_eq,ByteArray.toList_eq,Vd,Vd];exact he2.symm
  clear hp he2 HC
  cases q with
  |true=>
   cases hf:VU (L.take k)with
   |some f=>
    have hF0:F=f:=by have:=HF2.o;rw[hf]at this;exact this
    have hpos:0<=F:=by rw[hF0];exact Hpos.o f hf
    have HR:Hid (Xh L=if true then some ⟨F,Xc b,n⟩else none):=by show _=_;rw[HE.o,hf,hF0];first|done|rfl
    clear hf hF0;go_wp2_with fail
    refine Vf (Yz w b2 (.int .i64 F) (.int .i64 (Xc b)) (.int .i64 n)) (by kernel_rfl) (by kernel_rfl) HI0.o _ rfl ?_
    iterate 19 (refine Qk (λK hK=>?_);apply Exists.intro;refine⟨λdn W hI h0 hd hn R hR=>?_,?_⟩;(first|(have hqc:=Qb hI.cd;clear h0 hd hn;go_simp;exact hR _ _ (hI.step (by decide) Zbr) rfl)|(have HLW:=Zh (HL.o.below hI.bx.bel);clear h0 hd hn;go_simp;go_at_call 65;refine(X8 n hv0 hv1 _ HLW.o).mono ?_;rintro e w9 ⟨rfl,hb9⟩;exact⟨_,rfl,hR _ _ (hI.step (by decide) hb9) rfl⟩)|(have hz:=hI.bx;rw[h0]at hz;have hqb:∀j,W.cell? ⟨w.heap.size,j,none⟩=(#[Value.int .i64 0,.int .i64 0,.int .i64 0]:Array Value)[j]?:=hz.cells0;have hfb:=hI.bx.free0;have HS:=Zh (hI.store Hne.o);clear h0 hd hn hI hz;go_simp;exact hR _ _ HS.o rfl));(go_simp;refine hK _ ?_;clear hK K))
    intro dn W hd hI;have hz:=hI.bx;rw[hd 17 (by decide)]at hz;have Hz:Hid (Bx w [.cells #[.int .i64 F,.int .i64 (Xc b),.int .i64 n] 153] W):=hz;have hcb:=Hz.o.cells0;clear hd hI hz;go_wp2;refine bodyPost_ret (v:=.tuple #[.agg #[.int .i64 F,.int .i64 (Xc b),.int .i64 n],.bool true]) ?_ rfl ⟨⟨F,Xc b,n,true,rfl,HR.o⟩,Hz.o.bel⟩;rw[results_cell_tmp rfl];go_simp
   |none=>
    have hF0:F = -1:=by have:=HF2.o;rw[hf]at this;exact this
    have hneg:¬(0:Int)<=F:=by omega
    have HR:Hid (Xh L=if false then some ⟨F,Xc b,n⟩else none):=by show _=_;rw[HE.o,hf];rfl
    clear hf hF0;go_wp2_with fail
    refine Vf (Yz w b2 (.int .i64 F) (.int .i64 (Xc b)) (.int .i64 n)) (by kernel_rfl) (by kernel_rfl) HI0.o _ rfl ?_
    iterate 19 (refine Qk (λK hK=>?_);apply Exists.intro;refine⟨λdn W hI h0 hd hn R hR=>?_,?_⟩;(first|(have hqc:=Qb hI.cd;clear h0 hd hn;go_simp;exact hR _ _ (hI.step (by decide) Zbr) rfl)|(have HLW:=Zh (HL.o.below hI.bx.bel);clear h0 hd hn;go_simp;go_at_call 65;refine(X8 n hv0 hv1 _ HLW.o).mono ?_;rintro e w9 ⟨rfl,hb9⟩;exact⟨_,rfl,hR _ _ (hI.step (by decide) hb9) rfl⟩)|(have hz:=hI.bx;rw[h0]at hz;have hqb:∀j,W.cell? ⟨w.heap.size,j,none⟩=(#[Value.int .i64 0,.int .i64 0,.int .i64 0]:Array Value)[j]?:=hz.cells0;have hfb:=hI.bx.free0;have HS:=Zh (hI.store Hne.o);clear h0 hd hn hI hz;go_simp;exact hR _ _ HS.o rfl));(go_simp;refine hK _ ?_;clear hK K))
    intro dn W hd hI;have hz:=hI.bx;rw[hd 17 (by decide)]at hz;have Hz:Hid (Bx w [.cells #[.int .i64 F,.int .i64 (Xc b),.int .i64 n] 153] W):=hz;have hcb:=Hz.o.cells0;clear hd hI hz;go_wp2;refine bodyPost_ret (v:=.tuple #[.agg #[.int .i64 F,.int .i64 (Xc b),.int .i64 n],.bool false]) ?_ rfl ⟨⟨F,Xc b,n,false,rfl,HR.o⟩,Hz.o.bel⟩;rw[results_cell_tmp rfl];go_simp
  |false=>
   have HR:Hid (Xh L=if false then some ⟨F,Xc b,n⟩else none):=by show _=_;rw[HE.o];cases VU (L.take k)<;>rfl
   go_wp2_with fail
   refine Vf (Yz w b2 (.int .i64 F) (.int .i64 (Xc b)) (.int .i64 n)) (by kernel_rfl) (by kernel_rfl) HI0.o _ rfl ?_
   iterate 19 (refine Qk (λK hK=>?_);apply Exists.intro;refine⟨λdn W hI h0 hd hn R hR=>?_,?_⟩;(first|(have hqc:=Qb hI.cd;clear h0 hd hn;go_simp;exact hR _ _ (hI.step (by decide) Zbr) rfl)|(have HLW:=Zh (HL.o.below hI.bx.bel);clear h0 hd hn;go_simp;go_at_call 65;refine(X8 n hv0 hv1 _ HLW.o).mono ?_;rintro e w9 ⟨rfl,hb9⟩;exact⟨_,rfl,hR _ _ (hI.step (by decide) hb9) rfl⟩)|(have hz:=hI.bx;rw[h0]at hz;have hqb:∀j,W.cell? ⟨w.heap.size,j,none⟩=(#[Value.int .i64 0,.int .i64 0,.int .i64 0]:Array Value)[j]?:=hz.cells0;have hfb:=hI.bx.free0;have HS:=Zh (hI.store Hne.o);clear h0 hd hn hI hz;go_simp;exact hR _ _ HS.o rfl));(go_simp;refine hK _ ?_;clear hK K))
   intro dn W hd hI;have hz:=hI.bx;rw[hd 17 (by decide)]at hz;have Hz:Hid (Bx w [.cells #[.int .i64 F,.int .i64 (Xc b),.int .i64 n] 153] W):=hz;have hcb:=Hz.o.cells0;clear hd hI hz;go_wp2;refine bodyPost_ret (v:=.tuple #[.agg #[.int .i64 F,.int .i64 (Xc b),.int .i64 n],.bool false]) ?_ rfl ⟨⟨F,Xc b,n,false,rfl,HR.o⟩,Hz.o.bel⟩;rw[results_cell_tmp rfl];go_simp
 subst h2;have HR:Hid (Xh L=if false then some ⟨F,Xc b,n⟩else none):=by show _=_;rw[HE.o];cases VU (L.take k)<;>rfl
 clear HC;go_wp2_with fail
 refine Vf (Yz w b2 (.int .i64 F) (.int .i64 (Xc b)) (.int .i64 n)) (by kernel_rfl) (by kernel_rfl) HI0.o _ rfl ?_
 iterate 19 (refine Qk (λK hK=>?_);apply Exists.intro;refine⟨λdn W hI h0 hd hn R hR=>?_,?_⟩;(first|(have hqc:=Qb hI.cd;clear h0 hd hn;go_simp;exact hR _ _ (hI.step (by decide) Zbr) rfl)|(have hz:=hI.bx;rw[h0]at hz;have hqb:∀j,W.cell? ⟨w.heap.size,j,none⟩=(#[Value.int .i64 0,.int .i64 0,.int .i64 0]:Array Value)[j]?:=hz.cells0;have hfb:=hI.bx.free0;have HS:=Zh (hI.store Hne.o);clear h0 hd hn hI hz;go_simp;exact hR _ _ HS.o rfl));(go_simp;refine hK _ ?_;clear hK K))
 intro dn W hd hI;have hz:=hI.bx;rw[hd 17 (by decide)]at hz;have Hz:Hid (Bx w [.cells #[.int .i64 F,.int .i64 (Xc b),.int .i64 n] 153] W):=hz;have hcb:=Hz.o.cells0;clear hd hI hz;go_wp2;refine bodyPost_ret (v:=.tuple #[.agg #[.int .i64 F,.int .i64 (Xc b),.int .i64 n],.bool false]) ?_ rfl ⟨⟨F,Xc b,n,false,rfl,HR.o⟩,Hz.o.bel⟩;rw[results_cell_tmp rfl];go_simp
end
def Nv(t:List UInt8):Option TRule:=match Q4 ((words t).headD [])with
 |none=>none
 |some v=>(Ue (words t).tail).map λcs=>⟨cs,v⟩
def Yh:List (List UInt8)->Option (List TRule)
 |[]=>some []
 |t::r=>match Nv t with
  |none=>none
  |some x=>(Yh r).map (x:: ·)
def Zm(ps:List (List UInt8)):Option TPol:=match Q4 (ps.getLastD [])with
 |none=>none
 |some d=>(Yh ps.dropLast).map λrs=>⟨rs,d⟩
theorem Qev(s:List UInt8):Lib.split s [59]≠[]:=by
 by_cases hm:(59:UInt8)∈s
 .obtain⟨a,r,rfl,ha⟩:=List.eq_append_cons_of_mem hm;rw[Oi ha];simp
 rw[Zt hm];simp
theorem Qfc(a:List UInt8)(ps:List (List UInt8))(h:ps≠[]):Zm (a::ps)=match Nv a with
  |none=>none
  |some x=>(Zm ps).map λp=>⟨x::p.ru,p.df⟩:=by
 obtain⟨b,r,rfl⟩:=List.exists_cons_of_ne_nil h;unfold Zm;rw[show(a::b::r).getLastD []=(b::r).getLastD []from rfl,show(a::b::r).dropLast=a::(b::r).dropLast from rfl]
 cases hv:Q4 ((b::r).getLastD [])with
 |none=>cases Nv a<;>rfl
 |some d=>
  dsimp only
  conv=>lhs;unfold Yh
  cases hr:Nv a with
  |none=>rfl
  |some x=>cases Yh (b::r).dropLast<;>rfl
theorem EX:∀(n:Nat)(s:List UInt8),s.length<n->pread n s=Zm (Lib.split s [59])
 |0,_,h=>absurd h (Nat.not_lt_zero _)
 |n+1,s,h=>by
  obtain⟨w0,ws,h1,h2⟩:=JF _ (Lib.cut s [59]).1 Znl;rw[Zo h1];by_cases hm:(59:UInt8)∈s
  .obtain⟨a,r,rfl,ha⟩:=List.eq_append_cons_of_mem hm;rw[Z4 ha]at h1 h2⊢;dsimp only at h1 h2⊢;rw[Oi ha,Qfc _ _ (Qev r),<-EX n r (by simp at h;omega)];unfold Nv;rw[h1];simp only[List.headD_cons,List.tail_cons]
   cases Q4 w0 with
   |none=>rfl
   |some v=>cases Ue ws<;>rfl
  rw[Jr hm]at h1 h2⊢;dsimp only at h1 h2⊢;rw[Zt hm];unfold Zm;simp only[List.getLastD_cons,List.getLastD_nil,List.dropLast_singleton];by_cases hw:ws=[]
  .subst hw;simp only[List.flatMap_nil,List.append_nil]at h2;subst h2;cases Q4 s<;>simp[Yh]
  have hmem:(32:UInt8)∈s:=by
   obtain⟨u,r,rfl⟩:=List.exists_cons_of_ne_nil hw;rw[h2];simp
  have hnone:Q4 s=none:=by
   cases hv:Q4 s with
   |none=>rfl
   |some v=>
    rw[JV hv]at hmem;exact absurd hmem (X9 (VC v) (by decide))
  rw[hnone];have hl:1<ws.length+1:=by have:=List.length_pos_iff.2 hw;omega
  cases Q4 w0 with
  |none=>rfl
  |some v=>simp[hl]
def textE(s:List UInt8):TPol×Int:=if 60000<s.length then(⟨[],0⟩,2)else match Zm (Lib.split s [59])with
 |none=>(⟨[],0⟩,1)
 |some p=>if UZ p=0 then(p,0)else(⟨[],0⟩,UZ p)
theorem ND{s:List UInt8}(h:s.length<=60000):textE s=VE s:=by
 unfold textE VE;rw[if_neg (by omega),EX (s.length+1) s (by omega)];cases Zm (Lib.split s [59])<;>rfl
section
open Go.RowKit
structure Xf{α:Type}(w0 W:World)(b:Nat)(T E:TypeId)(sz:Nat)(R:α->List Value->Prop)(c v:Value)(xs:List α):Prop where
 gr:w0.grownBy W (some b)
 rc:W.heap[b]?=some (.cells #[v,c] T)
 own:Qg W w0.heap.size E sz R v xs
section
variable{α:Type}{w0 W W':World}{b:Nat}{T E:TypeId}{sz:Nat}{R R':α->List Value->Prop}{c v v':Value}{xs ys:List α}
theorem Xf.start(hb:w0.heap[b]?=some (.cells #[.slice none 0 0,c] T)):Xf (α:=α) w0 w0 b T E sz R c (.slice none 0 0) []:=
 ⟨⟨rfl,rfl,rfl,Nat.le_refl _,λ_ _ _=>rfl⟩,hb,Qg.nil⟩
theorem Xf.below(h:Xf w0 W b T E sz R c v xs)(hb:Below W.heap.size W W'):Xf w0 W' b T E sz R c v xs:=
 ⟨⟨hb.os.trans h.gr.os,hb.tape.trans h.gr.tape,hb.output.trans h.gr.output,Nat.le_trans h.gr.size hb.size,λk hk hn=>(hb.block k (Nat.lt_of_lt_of_le hk h.gr.size)).trans (h.gr.block k hk hn)⟩,Qd h.rc hb,h.own.below hb⟩
theorem Xf.monoR(h:Xf w0 W b T E sz R c v xs)(hR:∀x∈xs,∀cs,R x cs->R' x cs):Xf w0 W b T E sz R' c v xs:=⟨h.gr,h.rc,h.own.monoR hR⟩
theorem Xf.rcg(h:Xf w0 W b T E sz R c v xs)(hb:b<w0.heap.size)(hg:W.grownBy W' v.ownBlock):W'.heap[b]?=some (.cells #[v,c] T):=
 (hg.block b (Nat.lt_of_lt_of_le hb h.gr.size) (λe=>by have:=h.own.block b e.symm;omega)).trans h.rc
theorem Xf.app(h:Xf w0 W b T E sz R c v xs)(hb:b<w0.heap.size)(hown:Qg W' w0.heap.size E sz R' v' ys)(hg:W.grownBy W' v.ownBlock):Xf w0 (W'.setCell ⟨b,0,none⟩ v') b T E sz R' c v' ys:=by
 have hne:∀k,k<w0.heap.size->some k≠v.ownBlock:=λk hk e=>by have:=h.own.block k e.symm;omega
 have hW:∀k,k<w0.heap.size->W'.heap[k]?=W.heap[k]?:=λk hk=>hg.block k (Nat.lt_of_lt_of_le hk h.gr.size) (hne k hk);refine⟨⟨hg.os.trans h.gr.os,hg.tape.trans h.gr.tape,hg.output.trans h.gr.output,by rw[Qr];exact Nat.le_trans h.gr.size hg.size,λk hk hn=>?_⟩,?_,?_⟩
 .rw[Qm (λe=>hn (by rw[e])),hW k hk,h.gr.block k hk hn]
 .exact QJ ((hW b hb).trans h.rc)
 exact Qg.set hown (a:=⟨b,0,none⟩) (λe=>by have h1:w0.heap.size<=b:=hown.block _ e;omega)
end
theorem Xf.ru{w0 W W':World}{b B sz:Nat}{T E:TypeId}{c v:Value}{xs:List TRule}(h:Xf w0 W b T E sz (VP W (λx=>B<=x/\v.ownBlock≠some x)) c v xs)(hb:Below W.heap.size W W'):
  Xf w0 W' b T E sz (VP W' (λx=>B<=x/\v.ownBlock≠some x)) c v xs:=
 (h.below hb).monoR λ_ _ _ ⟨u,h1,h2⟩=>⟨u,h1,h2.keep (λ_ hx _=>hx) (λx _ hl=>hb.block x hl) hb.size⟩
theorem Bx.grownB{w w3 wr:World}{bs:List Obj}{b:Nat}(h:Bx w bs w3)(hg:w3.grownBy wr (some b))(hb:w.heap.size+bs.length<=b):Bx w bs wr:=
 ⟨h.bel.grown hg h.bel.size (λg e=>by injection e with e;omega),λi o ho=>by
  have hi:=(List.getElem?_eq_some_iff.1 ho).1;have hlt:=(Array.getElem?_eq_some_iff.1 (h.at_ i o ho)).1;rw[hg.block _ hlt (λe=>by injection e with e;omega)];exact h.at_ i o ho⟩
end
section
open Go.RowKit
theorem QK{α:Type}{P:Program}{w:World}{ops:Array Oper}{rest:List Oper}{o:Oper}{a:Act}{Q:Exit->Act->World->Prop}{R:α->List Value->Prop}{D:Nat->Prop}(hgd:o.guard=none)(s x:Operand)(t:TypeId)
  (ho:o.op=.call { callee:=.builtin .append,args:=#[s,x],argTypes:=#[t,t] })
  (base:Nat) (e:TypeId) (i:TypeInfo) (z:Value) (size bytes:Nat) (ht:P.underlying t=some (.slice e)) (hi:P.info? e=some i) (hz:i.zero=some z)
  (hsize:i.size=size) (hby:i.bytes=bytes) (hzs:z.cells.size=size) (hsz:0<size)
  (v:Value) (xs:List α) (hs:a.eval s=v) (hown:Qg w base e size R v xs)
  (u:Value) (ys:List α) (hx:a.eval x=u) (hu:Sl w D size R u ys) (h1:∀y∈ys,∀cs,R y cs->∀c∈cs,c.oneCell'=true)
  (h63:xs.length+ys.length<=maxLen) (hbytes:(xs.length+ys.length)*bytes<=140737488355328) (hbase:base<=w.heap.size)
  (h:∀v' w',Qg w' base e size R v' (xs++ys)->w.grownBy w' v.ownBlock->(v'.ownBlock=v.ownBlock\/v'.ownBlock=some w.heap.size)->wpList P ops Q rest (a.put o.dst v') w'):wpList P ops Q (o::rest) a w:=by
 obtain⟨au,cu,rows,hv,hr,hcm,hnone,hcell⟩:=hu.rows;obtain⟨rows0,hr0,ho0⟩:=hown
 cases au with
 |none=>
  obtain⟨hc0,hy⟩:=hnone rfl;subst hc0 hy;refine wpList_append_own_none hgd s x t ho base e i size ht hi v xs.length rows0.flatten hs ho0 (by rw[hx,hv];rfl) (h v w ⟨rows0,by simpa using hr0,by simpa using ho0⟩ ⟨rfl,rfl,rfl,Nat.le_refl _,λ_ _ _=>rfl⟩ (.inl rfl))
 |some ad=>
  refine wpList_append_own_at w hgd s x t ho base e i z size bytes ht hi hz hsize hby hzs hsz v xs.length rows0.flatten hs ho0 ad ys.length cu rows.flatten (by rw[hx,hv]) (by rw[YP rows hr.size,hr.len]) (hcell ad rfl) ?_ h63 hbytes hbase
   λv' w' hown' hg _ hat=>h v' w' ⟨rows0++rows,hr0.app hr,by simpa using hown'⟩ hg hat
  intro c hc;obtain⟨r,hrm,hcr⟩:=List.mem_flatten.1 hc;obtain⟨k,hk⟩:=List.getElem?_of_mem hrm;have hkl:k<ys.length:=by rw[<-hr.len];exact(List.getElem?_eq_some_iff.1 hk).1
  exact h1 ys[k] (List.getElem_mem hkl) r (hr.rel k _ r (List.getElem?_eq_getElem hkl) hk) c hcr
end
end Go.Proofs.YthkgjohhbdipcaaGreatDoor
