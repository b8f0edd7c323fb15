/- Texts laid one behind the other: TParse, Mark, Puts. No condition beyond theirs. -/
import Derived.Test.YthkgjohhbdipcaaGreatDoorQ13
import Derived.Test.YthkgjohhbdipcaaGreatDoorQ8
import Derived.Test.YthkgjohhbdipcaaGreatDoorQ3
import Derived.Test.YthkgjohhbdipcaaGreatDoorQ5
import Derived.Test.YthkgjohhbdipcaaGreatDoorQ4
set_option linter.all false
set_option maxHeartbeats 64000000
set_option maxRecDepth 100000
namespace Go.Proofs.YthkgjohhbdipcaaGreatDoor
open Tryz
section
open Go.RowKit
attribute [local go_sem] gives QG
theorem QE(w:World)(D:Nat->Prop):Qc w D (.slice none 0 0) []:=⟨none,0,rfl,Nat.le_refl _,by unfold maxLen;simp,λ_=>rfl,λh=>by cases h⟩
theorem Qf8:(prog.info? 153).map (λi=>(i.zero,i.size,i.bytes))=some (some (.agg #[.int .i64 0,.int .i64 0,.int .i64 0]),3,24):=by kernel_rfl
theorem Qcn:(prog.info? 147).map (λi=>(i.zero,i.size,i.bytes))=some (some (.agg #[.slice none 0 0,.int .i64 0]),2,32):=by kernel_rfl
theorem QeR(y:TCond)(cs:List Value)(h:Ve y cs):∀c∈cs,c.oneCell'=true:=by
 unfold Ve at h;subst h;intro c hc;simp at hc;rcases hc with rfl|rfl|rfl<;>rfl
theorem OO{w:World}{D:Nat->Prop}(y:TRule)(cs:List Value)(h:VP w D y cs):∀c∈cs,c.oneCell'=true:=by
 obtain⟨v,rfl,h1⟩:=h;obtain⟨a,c,rfl,_⟩:=Sl.form h1;simp[Value.oneCell']
def Qh3(k:Nat)(_:Nat->Bool)(vf:Nat->Value)(W:World):Prop:=if k=0 then rowAt Vt (vf 0) W else True
theorem Qc1{T0:TypeId}{k i is:Nat}{dn d':Nat->Bool}{vf:Nat->Value}{w w':World}(hne:T0≠9)(hi:Yc (if i=is then[T0]else[]) w w')(h:Qh3 k dn vf w):Qh3 k d' vf w':=by
 have hT:9∉(if i=is then[T0]else[]:List TypeId):=by split<;>simp[Ne.symm hne]
 unfold Qh3 at h⊢;split
 .rename_i e;rw[if_pos e]at h;exact OM hT hi h
 trivial
theorem NI{k:Nat}{dn:Nat->Bool}{f g:Nat->Value}{w:World}(hk:f k=g k)(h:Qh3 k dn f w):Qh3 k dn g w:=by
 unfold Qh3 at h⊢;split
 .rename_i e;subst e;rw[if_pos rfl]at h;rw[<-hk];exact h
 trivial
theorem Yc.of_sets2{T0:TypeId}{w:World}{b:Nat}{v0 v1:Value}{cs:Array Value}(h:w.heap[b]?=some (.cells cs T0)):
  Yc [T0] w ((w.setCell ⟨b,0,none⟩ v0).setCell ⟨b,1,none⟩ v1):=(Yc.of_set (by simp) h).trans (Yc.of_set (by simp) (QJ h))
@[reducible] def strRow(ps:List (List UInt8)):Array Value:=(ps.map λu=>Value.string (bsL u)).toArray
theorem OZ(ps:List (List UInt8))(i:Nat)(h:i<ps.length):(strRow ps)[i]?=some (.string (bsL ps[i])):=by simp[h]
theorem Qa7(c:UInt8)(t:List UInt8)(w:World)(hL:Laid w)(hs:t.length<4294967281):Calls prog 109 #[.string (bsL t),.string ⟨#[c]⟩] w λe w'=>
  e=.returned (.slice (some ⟨w.heap.size,0,none⟩) (Lib.split t [c]).length (Lib.split t [c]).length)/\w'=w.alloc (.cells (strRow (Lib.split t [c])) 9):=by
 obtain⟨m,hm⟩:=hL.ml;refine(Tryz.strings_Split (bsL t) ⟨#[c]⟩ m w (by simpa[bsL,ByteArray.size]using hs) hm (show 1<=1 from Nat.le_refl 1)).mono ?_;rintro e w1⟨rfl,rfl⟩;have hl:=Lib.splitB_all ⟨#[c]⟩ (by show 1<=1;decide) 0 _ (bsL t) rfl;have hd:(Lib.splitB ⟨#[c]⟩ 0 (Lib.countB (bsL t) ⟨#[c]⟩) (bsL t)).map (·.data.toList)=Lib.split t [c]:=by rw[Lib.splitB_data];rfl
 obtain⟨ws,hws⟩:∃ws,Lib.splitB ⟨#[c]⟩ 0 (Lib.countB (bsL t) ⟨#[c]⟩) (bsL t)=ws:=⟨_,rfl⟩;rw[hws]at hl hd
 have hmap:ws=(Lib.split t [c]).map bsL:=by
  rw[<-hd,List.map_map]
  conv=>lhs;rw[<-List.map_id ws]
  apply List.map_congr_left;intro u _;exact(IK rfl)
 have hlen:ws.length=(Lib.split t [c]).length:=by rw[hmap,List.length_map]
 refine⟨?_,?_⟩
 .rw[<-hlen,hl]
 rw[hws,hmap,List.map_map];rfl
theorem X5(c:UInt8)(t:List UInt8):(Lib.split t [c]).length<=t.length+1/\∀u∈Lib.split t [c],u.length<=t.length:=by
 have hd:(Lib.splitB ⟨#[c]⟩ 0 (Lib.countB (bsL t) ⟨#[c]⟩) (bsL t)).map (·.data.toList)=Lib.split t [c]:=by rw[Lib.splitB_data];rfl
 have hl:=Lib.splitB_all ⟨#[c]⟩ (by show 1<=1;decide) 0 _ (bsL t) rfl;have hc:=Lib.countB_le ⟨#[c]⟩ (by show 1<=1;decide) _ (bsL t) Znl;have hsz:(bsL t).size=t.length:=by simp[bsL,ByteArray.size]
 rw[<-hd];refine⟨by rw[List.length_map];omega,λu hu=>?_⟩;obtain⟨x,hx,rfl⟩:=List.mem_map.1 hu;have:=Jk _ _ _ x hx;rw[hsz,Lib.size_eq]at this;exact this
theorem parse_any(L:List UInt8)(w:World)(hL:Laid w):
  Calls prog 70 #[.string (bsL L)] w λe w'=>∃v,e=.returned (.tuple #[U8 v (textE L).1.df,.int .i64 (textE L).2])/\Qc w' (λb=>w.heap.size<=b) v (textE L).1.ru/\Below w.heap.size w w':=by
 have HL:=Zh hL;have hsz:(bsL L).size=L.length:=by simp[bsL,ByteArray.size]
 clear hL;have HB:=Zh (Bx.one (w:=w) (o:=.cells #[.slice none 0 0,.int .i64 0] 38));by_cases hlen:60000<L.length
 .have HE:Hid (textE L=(⟨[],0⟩,2)):=by show _=_;unfold textE;rw[if_pos hlen]
  have hlz:(60000:Int)<(L.length:Int):=by omega
  clear hlen;go_enter func70,ntmps70;go_wp2;refine bodyPost_ret (v:=.tuple #[U8 (.slice none 0 0) 0,.int .i64 2]) ?_ rfl (by rw[HE.o];exact⟨_,rfl,QE _ _,HB.o.bel⟩);rw[results_cell_tmp rfl];go_simp
 have HE:Hid (textE L=match Zm (Lib.split L [59])with
     |none=>(⟨[],0⟩,1)
     |some p=>if UZ p=0 then(p,0)else(⟨[],0⟩,UZ p)):=by show _=_;unfold textE;rw[if_neg hlen];cases Zm (Lib.split L [59])<;>rfl
 have hlz:¬(60000:Int)<(L.length:Int):=by omega
 have Hlen:=Zh hlen;obtain⟨hsl,hsu⟩:=X5 59 L;have hpos:0<(Lib.split L [59]).length:=List.length_pos_iff.2 (Qev L);obtain⟨ps,hps⟩:∃ps,Lib.split L [59]=ps:=⟨_,rfl⟩;have HPS:=Zh hps;rw[hps]at HE hsl hsu hpos;have Hsu:=Zh hsu;clear hlen hsu;go_enter func70,ntmps70;go_wp2_with fail
 refine(Qa7 59 L _ (HL.o.below HB.o.bel) (by have:=Hlen.o;omega)).mono ?_;rw[hps];rintro e w1⟨rfl,rfl⟩;clear hps;obtain⟨n,hn⟩:∃n,ps.length=n+1:=⟨ps.length-1,by omega⟩;have Hn:=Zh hn;have HBs:=Zh (Bx.two (w:=w) (o:=.cells #[.slice none 0 0,.int .i64 0] 38) (o':=.cells (strRow ps) 9));rw[hn];have hw1:IntKind.i64.wrap (((n+1:Nat):Int)-1)=(n:Int):=by rw[show((n+1:Nat):Int)-1=(n:Int) by omega];exact IntWalk.i64_in _ (by have:=Hlen.o;omega)
 obtain⟨N,hN⟩:∃N:Nat,n+1=N:=⟨_,rfl⟩;rw[hN]at hw1 hn⊢;have hnN:(n:Int)<(N:Int):=by omega
 have hn0:(0:Int)<=(n:Int):=by omega
 have hnw:IntKind.i64.wrap (n:Int)=(n:Int):=IntWalk.i64_in _ (by have:=Hlen.o;omega);have HN:=Zh hN;clear hN hn hsl hpos;go_wp2_with fail
 revert HBs;generalize((w.alloc (.cells #[.slice none 0 0,.int .i64 0] 38)).alloc (.cells (strRow ps) 9))=wS;intro HBs;have hnl:n<ps.length:=by have:=Hn.o;omega
 obtain⟨u,hu⟩:∃u,ps[n]=u:=⟨_,rfl⟩;have HCW:Hid (∀W,Cls wS.heap.size wS W->W.cell? ⟨w.heap.size+1,n,none⟩=some (.string (bsL u))):=λW hW=>by rw[(HBs.o.below hW.2).cells1,OZ ps n hnl,hu]
 have Hlast:Hid (ps.getLastD []=u):=by
  show _=_;rw[<-hu,List.getLastD_eq_getLast?,List.getLast?_eq_getElem?,show ps.length-1=n by have:=Hn.o;omega,List.getElem?_eq_getElem hnl];rfl
 obtain⟨D,hD⟩:∃D,Lib.idxOfS (NK.take 5) (bsL u)=D:=⟨_,rfl⟩;have HV:Hid (Lib.idxOfS [bsL [107,105,108,108],bsL [116,114,97,112],bsL [102,97,105,108],bsL [108,111,103],bsL [97,108,108,111,119]] (bsL u)=D):=hD;have HD:Hid (D=match Q4 u with|some f=>f|none=>-1):=by show _=_;rw[<-hD,NM];cases Q4 u<;>rfl
 clear hD hu HB;refine Y9 (wS.heap.size) Znl 38 2 (λ_=>[]) 7 8 (λ_=>#[.slice none 0 0,.int .i64 D]) Qh3 (by kernel_rfl) (by kernel_rfl) _ rfl (by decide) (λ_=>by simp) (λ_=>rfl) (λi k _ _ _ _ _ _ _ _ hi h=>Qc1 (by decide) hi h) (λk _ f g _ _ hk h=>NI hk h) (λf g h=>rfl) ?_
 (refine VO λK hK=>⟨λdn vf W hI h0 hd hn hf R hR=>?_,?_⟩;(clear h0 hd hn hf;go_simp;go_at_call 103;refine(Y0 _).mono ?_;(rintro e w4 ⟨rfl,rfl⟩;exact⟨_,rfl,hR _ _ (Cls.step hI (Qa Zbr _)) (Xk.plain (Qa Zbr _) (by decide)) trivial ⟨_,rfl,Qh _ _⟩⟩));(go_simp;refine hK _ ?_;clear hK K))
 iterate 6 (refine QU (λK hK=>?_);apply Exists.intro;refine⟨λdn vf W hI h0 hd hn hf R hR=>?_,?_,?_⟩;(first|(have hcw:=HCW.o W hI;clear h0 hd hn hf;go_simp;exact hR _ _ (Cls.step hI Zbr) (Xk.plain Zbr (by decide)) rfl trivial);exact(λ_ _ _=>rfl)|(have h1:rowAt Vt (vf 0) W:=hf 0 (hd 0 (by decide));obtain⟨g,hv,hg⟩:=h1;have Hg:=Zh hg;clear h0 hd hn hf hg;go_simp;go_at_call 69;refine(Zp [107,105,108,108] [116,114,97,112] [102,97,105,108] [108,111,103] [97,108,108,111,119] (u) g _ Hg.o).mono ?_;rw[HV.o];(rintro e w4 ⟨rfl,rfl⟩;exact⟨_,rfl,hR _ _ (Cls.step hI Zbr) (Xk.plain Zbr (by decide)) rfl trivial⟩));exact(λ_ _ _=>rfl));(go_simp;refine hK _ ?_;clear hK K))
 (refine VO λK hK=>⟨λdn vf W hI h0 hd hn hf R hR=>?_,?_⟩;(clear h0 hd hn hf;go_simp;exact hR _ _ (Cls.step hI (Qa Zbr _)) (Xk.plain (Qa Zbr _) (by decide)) trivial ⟨_,rfl,hI.1,_,rfl,Qh _ _⟩);(go_simp;refine hK _ ?_;clear hK K))
 (refine VO λK hK=>⟨λdn vf W hI h0 hd hn hf R hR=>?_,?_⟩;(have h11:Qc9 (wS.heap.size) 38 2 (vf 7) W:=hf 7 (hd 7 (by decide));obtain⟨bx,h11,hbx,cs,hcs,hc11⟩:=h11;obtain⟨d0,d1,rfl⟩:=QcZ hcs;have hce:=Qb hc11;have hfe:=Qp hc11;have Hc11:=Zh hc11;have Hst:Hid (((W.setCell ⟨bx,0,none⟩ (.slice none 0 0)).setCell ⟨bx,1,none⟩ (.int .i64 D)).heap[bx]?=some (.cells #[.slice none 0 0,.int .i64 D] 38)):=QJ (QJ hc11);clear h0 hd hn hf hc11 hcs;go_simp;exact hR _ _ ⟨by simp only[Qr];exact hI.1,Qw (Qw hI.2 hbx) hbx⟩ ⟨Yc.of_sets2 Hc11.o,λ_=>⟨bx,h11,Hst.o⟩⟩ trivial ⟨bx,h11,Hst.o⟩);(go_simp;refine hK _ ?_;clear hK K))
 intro dn vf w3 hd hI hFF;have h15:QfK 38 (vf 7) #[.slice none 0 0,.int .i64 D] w3:=hFF 8 (by decide);have h14:Qc9 wS.heap.size 38 2 (vf 7) w3:=hFF 7 (by decide);obtain⟨bx,hbv,hbx⟩:=h15;obtain⟨bp,hbv2,hbp,_⟩:=h14;have hbb:bp=bx:=by rw[hbv]at hbv2;injection hbv2 with e;injection e with e;injection e with e;exact e.symm
 subst hbb;have HB3:=Zh (HBs.o.below hI.2);have Hbx:=Zh hbx;have Hbp:=Zh hbp;have hqx:=Qb hbx;clear hbv2 hbp hd hI hFF hbx HCW
 cases hv:Q4 u with
 |none=>
  have hD1:D = -1:=by have:=HD.o;rw[hv]at this;exact this
  subst hD1;have HP:Hid (textE L=(⟨[],0⟩,1)):=by show _=_;rw[HE.o];unfold Zm;rw[Hlast.o,hv]
  have hq0:=HB3.o.cells0;have hf0:=HB3.o.free0;have HS:=Zh ((HB3.o.set (i:=0) rfl 0 (.slice none 0 0)).set (i:=0) rfl 1 (.int .i64 0));have hqs:=HS.o.cells0;have HBL:Hid (Below w.heap.size w ((w3.setCell ⟨w.heap.size,0,none⟩ (.slice none 0 0)).setCell ⟨w.heap.size,1,none⟩ (.int .i64 0))):=HS.o.bel;clear hv HS;go_wp2;refine bodyPost_ret (v:=.tuple #[U8 (.slice none 0 0) 0,.int .i64 1]) ?_ rfl (by rw[HP.o];exact⟨_,rfl,QE _ _,HBL.o⟩);rw[results_cell_tmp rfl];go_simp
 |some d=>
  have hD1:D=d:=by have:=HD.o;rw[hv]at this;exact this
  subst hD1
  have hd0:¬D<0:=by
   unfold Q4 at hv
   repeat' split at hv
   all_goals first|(injection hv with hv;omega)|cases hv
  have HPL:Hid (Zm ps=(Yh ps.dropLast).map λrs=>⟨rs,D⟩):=by show _=_;unfold Zm;rw[Hlast.o,hv]
  clear hv;go_wp2_with fail
  have Hns:Hid (n<=60001):=by have:=(X5 59 L).1;rw[HPS.o]at this;show n<=_;have:=Hn.o;have:=Hlen.o;omega
  go_loopw[40](λkv wr=>∃(k:Nat)(rs:List TRule)(pv:Value),kv=.int .i64 k/\k<=n/\rs.length=k/\Yh ps.dropLast=(Yh (ps.dropLast.drop k)).map (rs++ ·)/\Xf w3 wr bp 38 147 2 (VP wr (λb=>w3.heap.size<=b/\pv.ownBlock≠some b)) (.int .i64 D) pv rs) (λkv _=>n-(intOf kv).toNat)
  case atStart=>exact⟨0,[],_,rfl,Nat.zero_le _,rfl,by simp,Xf.start Hbx.o⟩
  case round=>
   obtain⟨k,rs,pv,rfl,hk,hrl,hrul,hbr⟩:=hrel;have Hrl:=Zh hrl;have hnsz:n<=60001:=Hns.o;clear hrl;obtain⟨wo,rfl⟩:∃wo,wo=wr:=⟨_,rfl⟩;have Hrul:=Zh hrul;have HR:=Zh hbr;have HBr:=Zh (Bx.grownB HB3.o hbr.gr (by have h1:wS.heap.size<=bp:=Hbp.o;have h2:=HBs.o.top;simp at h2⊢;omega));clear hrul hbr hqx;by_cases hkn:k<n
   .have hkl:k<ps.length:=by have:=Hn.o;omega
    obtain⟨t,ht⟩:∃t,ps[k]=t:=⟨_,rfl⟩;have htl:t.length<=L.length:=by rw[<-ht];exact Hsu.o _ (List.getElem_mem hkl)
    have htd:Hid (Yh (ps.dropLast.drop k)=match Nv t with|none=>none|some x=>(Yh (ps.dropLast.drop (k+1))).map (x:: ·)):=by
     show _=_;have h1:k<ps.dropLast.length:=by rw[List.length_dropLast];have:=Hn.o;omega
     rw[List.drop_eq_getElem_cons h1];have h2:ps.dropLast[k]=t:=by rw[List.getElem_dropLast];exact ht
     rw[h2];rfl
    have hct:wo.cell? ⟨w.heap.size+1,k,none⟩=some (.string (bsL t)):=by rw[HBr.o.cells1,OZ ps k hkl,ht]
    have Htl:=Zh htl;clear ht htl hkl;go_wp2_with fail
    refine(Qa7 32 t _ (HL.o.below HBr.o.bel) (by have:=Htl.o;have:=Hlen.o;omega)).mono ?_;obtain⟨u0,us,hus,_⟩:=JF _ t Znl;rw[show Lib.split t [32]=u0::us from hus];rintro e w4⟨rfl,rfl⟩;have HZ:=Zh (Bx.one (w:=wo) (o:=.cells (strRow (u0::us)) 9));have HR4:=Zh (HR.o.ru HZ.o.bel);have HB4:=Zh (HBr.o.below HZ.o.bel);revert HZ HR4 HB4;generalize(wo.alloc (.cells (strRow (u0::us)) 9))=w4;intro HZ HR4 HB4;obtain⟨N2,hN2⟩:∃N2:Nat,(u0::us).length=N2:=⟨_,rfl⟩;have HN2:=Zh hN2;rw[hN2];have hpos3:0<N2:=by rw[<-hN2];simp
    have HCW:Hid (∀W,Cls w4.heap.size w4 W->W.cell? ⟨wo.heap.size,0,none⟩=some (.string (bsL u0))):=λW hW=>by rw[(HZ.o.below hW.2).cells0];rfl
    obtain⟨V,hV⟩:∃V,Lib.idxOfS (NK.take 5) (bsL u0)=V:=⟨_,rfl⟩;have HV:Hid (Lib.idxOfS [bsL [107,105,108,108],bsL [116,114,97,112],bsL [102,97,105,108],bsL [108,111,103],bsL [97,108,108,111,119]] (bsL u0)=V):=hV;have HVD:Hid (V=match Q4 u0 with|some f=>f|none=>-1):=by show _=_;rw[<-hV,NM];cases Q4 u0<;>rfl
    have Hrp:Hid (Nv t=match Q4 u0 with|none=>none|some v=>(Ue us).map λcs=>⟨cs,v⟩):=by show _=_;unfold Nv;rw[hus];cases hvv:Q4 u0<;>simp[hvv]
    have Hus:=Zh hus;have Hw4:=Zh HB4.o.top;have Hz4:=Zh HZ.o.top;clear hV hN2 hct hus;go_wp2_with fail
    refine Y9 (w4.heap.size) Znl 147 2 (λ_=>[]) 6 7 (λ_=>#[.slice none 0 0,.int .i64 V]) Qh3 (by kernel_rfl) (by kernel_rfl) _ rfl (by decide) (λ_=>by simp) (λ_=>rfl) (λi k _ _ _ _ _ _ _ _ hi h=>Qc1 (by decide) hi h) (λk _ f g _ _ hk h=>NI hk h) (λf g h=>rfl) ?_
    (refine VO λK hK=>⟨λdn vf W hI h0 hd hn hf R hR=>?_,?_⟩;(clear h0 hd hn hf;go_simp;go_at_call 103;refine(Y0 _).mono ?_;(rintro e w4 ⟨rfl,rfl⟩;exact⟨_,rfl,hR _ _ (Cls.step hI (Qa Zbr _)) (Xk.plain (Qa Zbr _) (by decide)) trivial ⟨_,rfl,Qh _ _⟩⟩));(go_simp;refine hK _ ?_;clear hK K))
    iterate 5 (refine QU (λK hK=>?_);apply Exists.intro;refine⟨λdn vf W hI h0 hd hn hf R hR=>?_,?_,?_⟩;(first|(have hcw:=HCW.o W hI;clear h0 hd hn hf;go_simp;exact hR _ _ (Cls.step hI Zbr) (Xk.plain Zbr (by decide)) rfl trivial);exact(λ_ _ _=>rfl)|(have h1:rowAt Vt (vf 0) W:=hf 0 (hd 0 (by decide));obtain⟨g,hv,hg⟩:=h1;have Hg:=Zh hg;clear h0 hd hn hf hg;go_simp;go_at_call 69;refine(Zp [107,105,108,108] [116,114,97,112] [102,97,105,108] [108,111,103] [97,108,108,111,119] (u0) g _ Hg.o).mono ?_;rw[HV.o];(rintro e w4 ⟨rfl,rfl⟩;exact⟨_,rfl,hR _ _ (Cls.step hI Zbr) (Xk.plain Zbr (by decide)) rfl trivial⟩));exact(λ_ _ _=>rfl));(go_simp;refine hK _ ?_;clear hK K))
    (refine VO λK hK=>⟨λdn vf W hI h0 hd hn hf R hR=>?_,?_⟩;(clear h0 hd hn hf;go_simp;exact hR _ _ (Cls.step hI (Qa Zbr _)) (Xk.plain (Qa Zbr _) (by decide)) trivial ⟨_,rfl,hI.1,_,rfl,Qh _ _⟩);(go_simp;refine hK _ ?_;clear hK K))
    (refine VO λK hK=>⟨λdn vf W hI h0 hd hn hf R hR=>?_,?_⟩;(have h11:Qc9 (w4.heap.size) 147 2 (vf 6) W:=hf 6 (hd 6 (by decide));obtain⟨bx,h11,hbx,cs,hcs,hc11⟩:=h11;obtain⟨d0,d1,rfl⟩:=QcZ hcs;have hce:=Qb hc11;have hfe:=Qp hc11;have Hc11:=Zh hc11;have Hst:Hid (((W.setCell ⟨bx,0,none⟩ (.slice none 0 0)).setCell ⟨bx,1,none⟩ (.int .i64 V)).heap[bx]?=some (.cells #[.slice none 0 0,.int .i64 V] 147)):=QJ (QJ hc11);clear h0 hd hn hf hc11 hcs;go_simp;exact hR _ _ ⟨by simp only[Qr];exact hI.1,Qw (Qw hI.2 hbx) hbx⟩ ⟨Yc.of_sets2 Hc11.o,λ_=>⟨bx,h11,Hst.o⟩⟩ trivial ⟨bx,h11,Hst.o⟩);(go_simp;refine hK _ ?_;clear hK K))
    intro done2 vf2 w5 hd hI hFF;have h15:QfK 147 (vf2 6) #[.slice none 0 0,.int .i64 V] w5:=hFF 7 (by decide);have h14:Qc9 w4.heap.size 147 2 (vf2 6) w5:=hFF 6 (by decide);obtain⟨b5,hbv5,hbx5⟩:=h15;obtain⟨br,hbv6,hbr5,_⟩:=h14;have hbb:br=b5:=by rw[hbv5]at hbv6;injection hbv6 with e;injection e with e;injection e with e;exact e.symm
    subst hbb;have HB5:=Zh (HB4.o.below hI.2);have HR5:=Zh (HR4.o.ru hI.2);have HZ5:=Zh (HZ.o.below hI.2);have Hb5:=Zh hbx5;have Hbr:=Zh hbr5;have hqx5:=Qb hbx5;have Hb45:=Zh hI.2;clear hbv6 hbr5 hd hI hFF hbx5 HCW HB4 HZ
    cases hv:Q4 u0 with
    |none=>
     have hD1:V = -1:=by have:=HVD.o;rw[hv]at this;exact this
     subst hD1;have HPE:Hid (textE L=(⟨[],0⟩,1)):=by show _=_;rw[HE.o,HPL.o,Hrul.o,htd.o,Hrp.o,hv];rfl
     have hq0:=HB5.o.cells0;have hf0:=HB5.o.free0;have HS:=Zh ((HB5.o.set (i:=0) rfl 0 (.slice none 0 0)).set (i:=0) rfl 1 (.int .i64 0));have hqs:=HS.o.cells0;have HBL:Hid (Below w.heap.size w ((w5.setCell ⟨w.heap.size,0,none⟩ (.slice none 0 0)).setCell ⟨w.heap.size,1,none⟩ (.int .i64 0))):=HS.o.bel;clear hv HS;go_wp2;refine bodyPost_ret (v:=.tuple #[U8 (.slice none 0 0) 0,.int .i64 1]) ?_ rfl (by rw[HPE.o];exact⟨_,rfl,QE _ _,HBL.o⟩);rw[results_cell_tmp rfl];go_simp
    |some v=>
     have hD1:V=v:=by have:=HVD.o;rw[hv]at this;exact this
     subst hD1
     have hV0:¬V<0:=by
      unfold Q4 at hv
      repeat' split at hv
      all_goals first|(injection hv with hv;omega)|cases hv
     have Hru:Hid (Nv t=(Ue us).map λcs=>⟨cs,V⟩):=by show _=_;rw[Hrp.o,hv]
     clear hv;have Hul:Hid (∀u∈us,u.length<=t.length):=λu hu=>(X5 32 t).2 u (by rw[show Lib.split t [32]=u0::us from Hus.o];exact List.mem_cons_of_mem _ hu);rcases Nat.eq_zero_or_pos us.length with hm0|hm0
     .obtain rfl:N2=1:=by have h1:(u0::us).length=N2:=HN2.o;simp only[List.length_cons]at h1;omega
      have Hm0:=Zh hm0;clear hm0;go_wp2_with fail
      go_loopw[59](λjv wx=>∃(j:Nat)(cs:List TCond)(cv:Value),jv=.int .i64 j/\j<=us.length/\cs.length=j/\Ue us=(Ue (us.drop j)).map (cs++ ·)/\Xf w5 wx br 147 153 3 Ve (.int .i64 V) cv cs) (λjv _=>us.length-(intOf jv).toNat)
      case atStart=>exact⟨0,[],_,rfl,Nat.zero_le _,rfl,by simp,Xf.start Hb5.o⟩
      case round=>
       obtain⟨j,cs,cv,rfl,hj,hcl,hcs,hbc⟩:=hrel;obtain⟨wx,rfl⟩:∃wx,wx=wr:=⟨_,rfl⟩;have Hcs:=Zh hcs;have HC:=Zh hbc;have Hcl:=Zh hcl;have HBx:=Zh (Bx.grownB HB5.o hbc.gr (by have h1:w4.heap.size<=br:=Hbr.o;have h2:=Hw4.o;simp at h2⊢;omega));have HZx:=Zh (Bx.grownB HZ5.o hbc.gr (by have h1:w4.heap.size<=br:=Hbr.o;have h2:=Hz4.o;simp at h2⊢;omega));clear hcs hbc hcl;have husl:us.length<=60001:=by have h1:=(X5 32 t).1;rw[show Lib.split t [32]=u0::us from Hus.o]at h1;simp only[List.length_cons]at h1;have:=Htl.o;have:=Hlen.o;omega
       by_cases hjl:j<us.length
       .exact absurd hjl (by have:=Hm0.o;omega)
       obtain rfl:j=us.length:=by omega
       have hcs0:us.drop us.length=[]:=List.drop_length;have Hcs3:Hid (Ue us=some cs):=by show _=_;rw[Hcs.o,hcs0];simp[Ue]
       have Hrt:Hid (Nv t=some ⟨cs,V⟩):=by show _=_;rw[Hru.o,Hcs3.o];rfl
       have Hrul2:Hid (Yh ps.dropLast=(Yh (ps.dropLast.drop (k+1))).map ((rs++[⟨cs,V⟩])++ ·)):=by show _=_;rw[Hrul.o,htd.o,Hrt.o];cases Yh (ps.dropLast.drop (k+1))<;>simp
       obtain⟨ac,cc,rfl⟩:=HC.o.own.slice;have Hb4x:Hid (Below w4.heap.size w4 wx):=Below.grown Hb45.o HC.o.gr Hb45.o.size (λg e=>by injection e with e;have h1:w4.heap.size<=br:=Hbr.o;omega);have HRx:=Zh (HR4.o.ru Hb4x.o);have Hplt:Hid (∀g,pv.ownBlock=some g->g<w4.heap.size):=λg hg=>by obtain⟨o,h1,_⟩:=Qg.typed HR4.o.own g hg;exact(Array.getElem?_eq_some_iff.1 h1).1
       have H35:Hid (w3.heap.size<=w4.heap.size/\w4.heap.size<=w5.heap.size/\w5.heap.size<=wx.heap.size):=⟨HR4.o.gr.size,Hb45.o.size,HC.o.gr.size⟩;have Hbpl:Hid (bp<w3.heap.size):=(Array.getElem?_eq_some_iff.1 Hbx.o).1;have HCd:Hid (QF wx (λb=>w5.heap.size<=b) (.slice ac cs.length cc) cs):=Qg.sl HC.o.own (λ_ hb=>hb);obtain⟨ap,cp,rfl⟩:=HRx.o.own.slice;have hrc:=Qb HC.o.rc;have hpc:=Qb HRx.o.rc;have HA:=Zh (Qa (Below.refl wx.heap.size wx) (.cells #[.slice ac cs.length cc,.int .i64 V] 147));have HRy:=Zh (HRx.o.ru HA.o)
       have HR1:Hid (Sl (wx.alloc (.cells #[.slice ac cs.length cc,.int .i64 V] 147)) (λ_=>True) 2 (VP (wx.alloc (.cells #[.slice ac cs.length cc,.int .i64 V] 147)) (λx=>w3.heap.size<=x/\(Value.slice ap rs.length cp).ownBlock≠some x)) (.slice (some ⟨wx.heap.size,0,none⟩) 1 1) [(⟨cs,V⟩:TRule)]):=
        Ub (sz:=2) (xs:=[(⟨cs,V⟩:TRule)]) (rows:=[[.slice ac cs.length cc,.int .i64 V]]) (Qq.cons Qq.nil ⟨_,rfl,HCd.o.keep (λb hb _=>by
         have h1:w5.heap.size<=b:=hb;obtain⟨h2,h3,_⟩:=H35.o;exact⟨by omega,λe=>by have:=Hplt.o b e;omega⟩) (λb _ hl=>HA.o.block b hl) HA.o.size⟩ rfl) (Qh _ _) rfl trivial (by simp[maxLen])
       have hpc7:=Qb HRy.o.rc;obtain⟨i0,hi,hz0,hz1,hz2⟩:=info_parts Qcn;have Hi:=Zh hi;have Hks:Hid (rs.length<=60001):=by show _<=_;rw[Hrl.o];have:=Hns.o;omega
       clear hi
       go_wp2_with(at_builtin;(
        refine QK rfl _ _ 36 rfl w3.heap.size 147 i0 _ 2 32 underlying36 Hi.o hz0 hz1 hz2 rfl (by decide) _ _ rfl HRy.o.own _ _ rfl HR1.o (λy _ cs h=>OO y cs h) (by have:=Hks.o;show _+1<=maxLen;unfold maxLen;omega) (by have:=Hks.o;show(_+1)*32<=_;omega) HRy.o.gr.size ?_;intro v8 w8 hown8 hg8 hat8;obtain⟨a8,c8,rfl⟩:=hown8.slice
        have HC8:=Zh (HRy.o.app (R':=VP (w8.setCell ⟨bp,0,none⟩ (.slice a8 (rs++[(⟨cs,V⟩:TRule)]).length c8)) (λx=>w3.heap.size<=x/\(Value.slice a8 (rs++[(⟨cs,V⟩:TRule)]).length c8).ownBlock≠some x)) Hbpl.o (hown8.monoR λ_ _ _ ⟨u,h1,h2⟩=>⟨u,h1,h2.keep (λx hx hl=>⟨hx.1,λe=>by
         rcases hat8 with h9|h9
         .exact hx.2 (h9.symm.trans e)
         rw[h9]at e;injection e with e;omega⟩) (λx hx hl=>by
         rw[Qm (by have h1:w3.heap.size<=x:=hx.1;have:=Hbpl.o;show x≠bp;omega)];exact hg8.block x hl (λe=>hx.2 e.symm)) (by rw[Qr];exact hg8.size)⟩) hg8)
        have hrc8:=Qb (HRy.o.rcg Hbpl.o hg8);have hfr8:=Qp (HRy.o.rcg Hbpl.o hg8);clear hown8 hg8 hat8))
       go_roundw
       case rel=>exact⟨k+1,rs++[⟨cs,V⟩],_,by go_num,by omega,by rw[List.length_append,Hrl.o];rfl,Hrul2.o,by first|exact HC8.o|simpa using HC8.o⟩
       case measure=>simp[intOf];omega
     have hN1:¬N2=1:=by have h1:(u0::us).length=N2:=HN2.o;simp only[List.length_cons]at h1;omega
     have hNm:(N2:Int)-1=(us.length:Int):=by have h1:(u0::us).length=N2:=HN2.o;simp only[List.length_cons]at h1;omega
     have hNn:N2-1=us.length:=by have h1:(u0::us).length=N2:=HN2.o;simp only[List.length_cons]at h1;omega
     clear hm0;go_wp2_with fail
     go_loopw[59](λjv wx=>∃(j:Nat)(cs:List TCond)(cv:Value),jv=.int .i64 j/\j<=us.length/\cs.length=j/\Ue us=(Ue (us.drop j)).map (cs++ ·)/\Xf w5 wx br 147 153 3 Ve (.int .i64 V) cv cs) (λjv _=>us.length-(intOf jv).toNat)
     case atStart=>exact⟨0,[],_,rfl,Nat.zero_le _,rfl,by simp,Xf.start Hb5.o⟩
     case round=>
      obtain⟨j,cs,cv,rfl,hj,hcl,hcs,hbc⟩:=hrel;obtain⟨wx,rfl⟩:∃wx,wx=wr:=⟨_,rfl⟩;have Hcs:=Zh hcs;have HC:=Zh hbc;have Hcl:=Zh hcl;have HBx:=Zh (Bx.grownB HB5.o hbc.gr (by have h1:w4.heap.size<=br:=Hbr.o;have h2:=Hw4.o;simp at h2⊢;omega));have HZx:=Zh (Bx.grownB HZ5.o hbc.gr (by have h1:w4.heap.size<=br:=Hbr.o;have h2:=Hz4.o;simp at h2⊢;omega));clear hcs hbc hcl;have husl:us.length<=60001:=by have h1:=(X5 32 t).1;rw[show Lib.split t [32]=u0::us from Hus.o]at h1;simp only[List.length_cons]at h1;have:=Htl.o;have:=Hlen.o;omega
      by_cases hjl:j<us.length
      .obtain⟨x,hx⟩:∃x,us[j]=x:=⟨_,rfl⟩;have hcw:wx.cell? ⟨wo.heap.size,1+j,none⟩=some (.string (bsL x)):=by rw[HZx.o.cells0,OZ (u0::us) (1+j) (by simp;omega)];simp only[Nat.add_comm 1 j,List.getElem_cons_succ];rw[hx]
       have hxl:x.length<=60000:=by have:=Hul.o x (by rw[<-hx];exact List.getElem_mem hjl);have:=Htl.o;have:=Hlen.o;omega
       have Hcd0:Hid (Ue (us.drop j)=match Xh x with|none=>none|some c=>(Ue (us.drop (j+1))).map (c:: ·)):=by show _=_;rw[List.drop_eq_getElem_cons hjl,hx];rfl
       clear hx;go_wp2_with fail
       refine(Qbk x _ (HL.o.below HBx.o.bel) hxl).mono ?_;rintro e w6⟨⟨f,o,nn,b,rfl,hco⟩,hb6⟩;have HC6:=Zh (HC.o.below hb6);have HBy:=Zh (HBx.o.below hb6);have HK0:=Zh (Bx.one (w:=w6) (o:=.cells #[.int .i64 0,.int .i64 0,.int .i64 0] 153));have HK:=Zh (Bx.one (w:=w6) (o:=.cells #[.int .i64 f,.int .i64 o,.int .i64 nn] 153));have Hco:=Zh hco;clear hb6 hco hcw hxl
       cases b with
       |false=>
        have Hcd:Hid (Ue (us.drop j)=none):=by show _=_;rw[Hcd0.o,Hco.o];rfl
        have HBx6:=Zh (HBy.o.below HK.o.bel);have hk0:=HK0.o.cells0;have hk1:=HK0.o.free0;revert HBx6;generalize hwk:(w6.alloc (.cells #[.int .i64 f,.int .i64 o,.int .i64 nn] 153))=wk;intro HBx6;have HPE:Hid (textE L=(⟨[],0⟩,1)):=by show _=_;rw[HE.o,HPL.o,Hrul.o,htd.o,Hru.o,Hcs.o,Hcd.o];rfl
        have hq0:=HBx6.o.cells0;have hf0:=HBx6.o.free0;have HS:=Zh ((HBx6.o.set (i:=0) rfl 0 (.slice none 0 0)).set (i:=0) rfl 1 (.int .i64 0));have hqs:=HS.o.cells0;have HBL:Hid (Below w.heap.size w ((wk.setCell ⟨w.heap.size,0,none⟩ (.slice none 0 0)).setCell ⟨w.heap.size,1,none⟩ (.int .i64 0))):=HS.o.bel;clear HS;go_wp2;refine bodyPost_ret (v:=.tuple #[U8 (.slice none 0 0) 0,.int .i64 1]) ?_ rfl (by rw[HPE.o];exact⟨_,rfl,QE _ _,HBL.o⟩);rw[results_cell_tmp rfl];go_simp
       |true=>
        have Hcd:Hid (Ue (us.drop j)=(Ue (us.drop (j+1))).map (⟨f,o,nn⟩:: ·)):=by show _=_;rw[Hcd0.o,Hco.o];rfl
        have Hcs2:Hid (Ue us=(Ue (us.drop (j+1))).map ((cs++[⟨f,o,nn⟩])++ ·)):=by show _=_;rw[Hcs.o,Hcd.o];cases Ue (us.drop (j+1))<;>simp
        obtain⟨ac,cc,rfl⟩:=HC6.o.own.slice;have HCk:=Zh (HC6.o.below HK.o.bel);have hk0:=HK0.o.cells0;have hk1:=HK0.o.free0;have hkc:=HK.o.cells0;have Hk6:=Zh HK.o.bel.size;revert HCk hkc Hk6;generalize hwk:(w6.alloc (.cells #[.int .i64 f,.int .i64 o,.int .i64 nn] 153))=wk;intro HCk hkc Hk6;have hrc:=Qb HCk.o.rc;have HR1:Hid (QF (wk.alloc (.cells #[.int .i64 f,.int .i64 o,.int .i64 nn] 153)) (λ_=>True) (.slice (some ⟨wk.heap.size,0,none⟩) 1 1) [⟨f,o,nn⟩]):=Ub (R:=Ve) (sz:=3) (xs:=[(⟨f,o,nn⟩:TCond)]) (rows:=[[.int .i64 f,.int .i64 o,.int .i64 nn]]) (Qq.cons Qq.nil rfl rfl) (Qh _ _) rfl trivial (by simp[maxLen]);have HC7:=Zh (HCk.o.below (Qa (Below.refl wk.heap.size wk) (.cells #[.int .i64 f,.int .i64 o,.int .i64 nn] 153)));have hrc7:=Qb HC7.o.rc;obtain⟨i0,hi,hz0,hz1,hz2⟩:=info_parts Qf8;have Hi:=Zh hi;have Hjs:Hid (cs.length<=60001):=by show _<=_;rw[Hcl.o];have h1:=(X5 32 t).1;rw[show Lib.split t [32]=u0::us from Hus.o]at h1;simp only[List.length_cons]at h1;have:=Htl.o;have:=Hlen.o;omega
        have Hbrl:Hid (br<w5.heap.size):=(Array.getElem?_eq_some_iff.1 Hb5.o).1;clear hi
        go_wp2_with(at_builtin;(
         refine QK rfl _ _ 145 rfl w5.heap.size 153 i0 _ 3 24 underlying145 Hi.o hz0 hz1 hz2 rfl (by decide) _ _ rfl HC7.o.own _ _ rfl HR1.o (λy _ cs h=>QeR y cs h) (by have:=Hjs.o;show _+1<=maxLen;unfold maxLen;omega) (by have:=Hjs.o;show(_+1)*24<=_;omega) HC7.o.gr.size ?_;intro v8 w8 hown8 hg8 hat8;obtain⟨a8,c8,rfl⟩:=hown8.slice;have HC8:=Zh (HC7.o.app Hbrl.o hown8 hg8);have hrc8:=Qb (HC7.o.rcg Hbrl.o hg8);have hfr8:=Qp (HC7.o.rcg Hbrl.o hg8);clear hown8 hg8 hat8))
        go_roundw
        case rel=>exact⟨j+1,cs++[⟨f,o,nn⟩],_,by go_num,by omega,by rw[List.length_append,Hcl.o];rfl,Hcs2.o,by first|exact HC8.o|simpa using HC8.o⟩
        case measure=>simp[intOf];omega
      obtain rfl:j=us.length:=by omega
      have hcs0:us.drop us.length=[]:=List.drop_length;have Hcs3:Hid (Ue us=some cs):=by show _=_;rw[Hcs.o,hcs0];simp[Ue]
      have Hrt:Hid (Nv t=some ⟨cs,V⟩):=by show _=_;rw[Hru.o,Hcs3.o];rfl
      have Hrul2:Hid (Yh ps.dropLast=(Yh (ps.dropLast.drop (k+1))).map ((rs++[⟨cs,V⟩])++ ·)):=by show _=_;rw[Hrul.o,htd.o,Hrt.o];cases Yh (ps.dropLast.drop (k+1))<;>simp
      obtain⟨ac,cc,rfl⟩:=HC.o.own.slice;have Hb4x:Hid (Below w4.heap.size w4 wx):=Below.grown Hb45.o HC.o.gr Hb45.o.size (λg e=>by injection e with e;have h1:w4.heap.size<=br:=Hbr.o;omega);have HRx:=Zh (HR4.o.ru Hb4x.o);have Hplt:Hid (∀g,pv.ownBlock=some g->g<w4.heap.size):=λg hg=>by obtain⟨o,h1,_⟩:=Qg.typed HR4.o.own g hg;exact(Array.getElem?_eq_some_iff.1 h1).1
      have H35:Hid (w3.heap.size<=w4.heap.size/\w4.heap.size<=w5.heap.size/\w5.heap.size<=wx.heap.size):=⟨HR4.o.gr.size,Hb45.o.size,HC.o.gr.size⟩;have Hbpl:Hid (bp<w3.heap.size):=(Array.getElem?_eq_some_iff.1 Hbx.o).1;have HCd:Hid (QF wx (λb=>w5.heap.size<=b) (.slice ac cs.length cc) cs):=Qg.sl HC.o.own (λ_ hb=>hb);obtain⟨ap,cp,rfl⟩:=HRx.o.own.slice;have hrc:=Qb HC.o.rc;have hpc:=Qb HRx.o.rc;have HA:=Zh (Qa (Below.refl wx.heap.size wx) (.cells #[.slice ac cs.length cc,.int .i64 V] 147));have HRy:=Zh (HRx.o.ru HA.o)
      have HR1:Hid (Sl (wx.alloc (.cells #[.slice ac cs.length cc,.int .i64 V] 147)) (λ_=>True) 2 (VP (wx.alloc (.cells #[.slice ac cs.length cc,.int .i64 V] 147)) (λx=>w3.heap.size<=x/\(Value.slice ap rs.length cp).ownBlock≠some x)) (.slice (some ⟨wx.heap.size,0,none⟩) 1 1) [(⟨cs,V⟩:TRule)]):=
       Ub (sz:=2) (xs:=[(⟨cs,V⟩:TRule)]) (rows:=[[.slice ac cs.length cc,.int .i64 V]]) (Qq.cons Qq.nil ⟨_,rfl,HCd.o.keep (λb hb _=>by
        have h1:w5.heap.size<=b:=hb;obtain⟨h2,h3,_⟩:=H35.o;exact⟨by omega,λe=>by have:=Hplt.o b e;omega⟩) (λb _ hl=>HA.o.block b hl) HA.o.size⟩ rfl) (Qh _ _) rfl trivial (by simp[maxLen])
      have hpc7:=Qb HRy.o.rc;obtain⟨i0,hi,hz0,hz1,hz2⟩:=info_parts Qcn;have Hi:=Zh hi;have Hks:Hid (rs.length<=60001):=by show _<=_;rw[Hrl.o];have:=Hns.o;omega
      clear hi
      go_wp2_with(at_builtin;(
       refine QK rfl _ _ 36 rfl w3.heap.size 147 i0 _ 2 32 underlying36 Hi.o hz0 hz1 hz2 rfl (by decide) _ _ rfl HRy.o.own _ _ rfl HR1.o (λy _ cs h=>OO y cs h) (by have:=Hks.o;show _+1<=maxLen;unfold maxLen;omega) (by have:=Hks.o;show(_+1)*32<=_;omega) HRy.o.gr.size ?_;intro v8 w8 hown8 hg8 hat8;obtain⟨a8,c8,rfl⟩:=hown8.slice
       have HC8:=Zh (HRy.o.app (R':=VP (w8.setCell ⟨bp,0,none⟩ (.slice a8 (rs++[(⟨cs,V⟩:TRule)]).length c8)) (λx=>w3.heap.size<=x/\(Value.slice a8 (rs++[(⟨cs,V⟩:TRule)]).length c8).ownBlock≠some x)) Hbpl.o (hown8.monoR λ_ _ _ ⟨u,h1,h2⟩=>⟨u,h1,h2.keep (λx hx hl=>⟨hx.1,λe=>by
        rcases hat8 with h9|h9
        .exact hx.2 (h9.symm.trans e)
        rw[h9]at e;injection e with e;omega⟩) (λx hx hl=>by
        rw[Qm (by have h1:w3.heap.size<=x:=hx.1;have:=Hbpl.o;show x≠bp;omega)];exact hg8.block x hl (λe=>hx.2 e.symm)) (by rw[Qr];exact hg8.size)⟩) hg8)
       have hrc8:=Qb (HRy.o.rcg Hbpl.o hg8);have hfr8:=Qp (HRy.o.rcg Hbpl.o hg8);clear hown8 hg8 hat8))
      go_roundw
      case rel=>exact⟨k+1,rs++[⟨cs,V⟩],_,by go_num,by omega,by rw[List.length_append,Hrl.o];rfl,Hrul2.o,by first|exact HC8.o|simpa using HC8.o⟩
      case measure=>simp[intOf];omega
   obtain rfl:k=n:=by omega
   have hdl:ps.dropLast.drop k=[]:=List.drop_eq_nil_of_le (by rw[List.length_dropLast];have:=Hn.o;omega);have hpf:Zm ps=some ⟨rs,D⟩:=by rw[HPL.o,Hrul.o,hdl];simp[Yh]
   have HPF:=Zh hpf;obtain⟨ap,cp,rfl⟩:=HR.o.own.slice;have hrd:Qc wo (λb=>w3.heap.size<=b) (.slice ap rs.length cp) rs:=Qg.sl (HR.o.own.monoR (R':=VP wo (λb=>w3.heap.size<=b)) λ_ _ _ ⟨u,h1,h2⟩=>⟨u,h1,h2.keep (λ_ hb _=>hb.1) (λ_ _ _=>rfl) Znl⟩) (λ_ hb=>hb);have HRd:=Zh hrd;have hqp:=Qb HR.o.rc;have Hw3:Hid (w.heap.size+2<=w3.heap.size):=by show _<=_;have:=HB3.o.top;simpa using this
   clear hdl hpf hrd;go_wp2_with fail
   refine(UO _ ⟨rs,D⟩ _ _ HRd.o).mono ?_;rintro e w4⟨rfl,hb4⟩;have HB4:=Zh (HBr.o.below hb4);have HR4:=Zh (HRd.o.below hb4);have hqp4:=Qb (Qd HR.o.rc hb4);have hq0:=HB4.o.cells0;have hf0:=HB4.o.free0;clear hb4 hqp;by_cases hp:UZ ⟨rs,D⟩=0
   .have HPE:Hid (textE L=(⟨rs,D⟩,0)):=by show _=_;rw[HE.o,HPF.o];show(if _ then _ else _)=_;rw[if_pos hp]
    have HS:=Zh ((HB4.o.set (i:=0) rfl 0 (.slice ap rs.length cp)).set (i:=0) rfl 1 (.int .i64 D));have hqs:=HS.o.cells0;have HBL:Hid (Below w.heap.size w ((w4.setCell ⟨w.heap.size,0,none⟩ (.slice ap rs.length cp)).setCell ⟨w.heap.size,1,none⟩ (.int .i64 D))):=HS.o.bel
    have HRF:Hid (Qc ((w4.setCell ⟨w.heap.size,0,none⟩ (.slice ap rs.length cp)).setCell ⟨w.heap.size,1,none⟩ (.int .i64 D)) (λb=>w.heap.size<=b) (.slice ap rs.length cp) rs):=HR4.o.keep (λb hb _=>by have h1:w3.heap.size<=b:=hb;have:=Hw3.o;show w.heap.size<=b;omega) (λb hb _=>by
     have h1:w3.heap.size<=b:=hb;have:=Hw3.o;rw[Qm (by show b≠w.heap.size;omega),Qm (by show b≠w.heap.size;omega)]) (by rw[Qr,Qr];exact Nat.le_refl _)
    rw[hp];clear hp HS;go_wp2;refine bodyPost_ret (v:=.tuple #[U8 (.slice ap rs.length cp) D,.int .i64 0]) ?_ rfl (by rw[HPE.o];exact⟨_,rfl,HRF.o,HBL.o⟩);rw[results_cell_tmp rfl];go_simp
   have HPE:Hid (textE L=(⟨[],0⟩,UZ ⟨rs,D⟩)):=by show _=_;rw[HE.o,HPF.o];show(if _ then _ else _)=_;rw[if_neg hp]
   have hne:(UZ ⟨rs,D⟩ != 0)=true:=bne_iff_ne.2 hp;have HS:=Zh ((HB4.o.set (i:=0) rfl 0 (.slice none 0 0)).set (i:=0) rfl 1 (.int .i64 0));have hqs:=HS.o.cells0;have HBL:Hid (Below w.heap.size w ((w4.setCell ⟨w.heap.size,0,none⟩ (.slice none 0 0)).setCell ⟨w.heap.size,1,none⟩ (.int .i64 0))):=HS.o.bel;generalize UZ ⟨rs,D⟩=pe at *;clear hp HS;go_wp2;refine bodyPost_ret (v:=.tuple #[U8 (.slice none 0 0) 0,.int .i64 pe]) ?_ rfl (by rw[HPE.o];exact⟨_,rfl,QE _ _,HBL.o⟩);rw[results_cell_tmp rfl];go_simp
end
section
open Go.RowKit
section
variable{α β:Type}
def marks(l:List α)(k:Nat)(t f:β):List (α×β):=(l.take k).map (λa=>(a,t))++(l.drop k).map (λa=>(a,f))
def markm(l:List α)(k:Nat)(x:α)(t m f:β):List (α×β):=(l.take k).map (λa=>(a,t))++(x,m)::(l.drop (k+1)).map (λa=>(a,f))
variable{l:List α}{k:Nat}{x:α}{t m m' f:β}
theorem Jf(h:k<l.length):(markm l k x t m f).length=l.length:=by simp[markm];omega
theorem XL(h:k<l.length):(markm l k x t m f)[k]?=some (x,m):=by
 unfold markm;rw[List.getElem?_append_right (by simp;omega)];have:k-((l.take k).map λa=>(a,t)).length=0:=by simp;omega
 rw[this];rfl
theorem GZ(h:k<l.length):(markm l k x t m f).set k (x,m')=markm l k x t m' f:=by
 unfold markm;have e:((l.take k).map λa=>(a,t)).length=k:=by simp;omega
 rw[List.set_append_right _ _ (by rw[e];exact Nat.le_refl _),e,Nat.sub_self,List.set_cons_zero]
theorem IR(hx:l[k]?=some x):markm l k x t f f=marks l k t f:=by
 obtain⟨h,rfl⟩:=List.getElem?_eq_some_iff.1 hx;unfold markm marks;rw[List.drop_eq_getElem_cons h,List.map_cons]
theorem Qee(hx:l[k]?=some x):markm l k x t t f=marks l (k+1) t f:=by
 obtain⟨h,rfl⟩:=List.getElem?_eq_some_iff.1 hx;unfold markm marks;rw[List.take_succ_eq_append_getElem h,List.map_append];simp
theorem QaJ:marks l 0 t f=l.map λa=>(a,f):=by simp[marks]
theorem Qcs:marks l l.length t f=l.map λa=>(a,t):=by simp[marks]
theorem Qg.unmark'{w:World}{base sz:Nat}{e:TypeId}{v:Value}{R':α×β->List Value->Prop}{R:α->List Value->Prop}(h:Qg w base e sz R' v (l.map λa=>(a,t)))(hR:∀x cs,R' (x,t) cs->R x cs):Qg w base e sz R v l:=by
 obtain⟨rows,hr,ho⟩:=h;refine⟨rows,⟨by simpa using hr.len,hr.size,λi x r hx hk=>?_⟩,by simpa using ho⟩;exact hR _ _ (hr.rel i (x,t) r (by rw[List.getElem?_map,hx];rfl) hk)
theorem Qg.mark'{w:World}{base sz:Nat}{e:TypeId}{v:Value}{R':α×β->List Value->Prop}{R:α->List Value->Prop}(h:Qg w base e sz R v l)(hR:∀x cs,R x cs->R' (x,f) cs):Qg w base e sz R' v (l.map λa=>(a,f)):=by
 obtain⟨rows,hr,ho⟩:=h;refine⟨rows,⟨by simpa using hr.len,hr.size,λi x r hx hk=>?_⟩,by simpa using ho⟩;rw[List.getElem?_map]at hx
 cases hy:l[i]? with
 |none=>rw[hy]at hx;cases hx
 |some y=>
  rw[hy]at hx;injection hx with hx;subst hx;exact hR _ _ (hr.rel i y r hy hk)
end
theorem Qg.kept{α:Type}{w w':World}{base sz:Nat}{e:TypeId}{R:α->List Value->Prop}{v:Value}{xs:List α}(h:Qg w base e sz R v xs)(hb:∀b,base<=b->b<w.heap.size->w'.heap[b]?=w.heap[b]?):Qg w' base e sz R v xs:=by
 obtain⟨rows,hr,ho⟩:=h;exact⟨rows,hr,Jh ho hb⟩
theorem QeU{w0 w w':World}{g:Option Nat}(h:w0.grownBy w g)(hb:Below w.heap.size w w'):w0.grownBy w' g:=
 ⟨hb.os.trans h.os,hb.tape.trans h.tape,hb.output.trans h.output,Nat.le_trans h.size hb.size,λk hk hn=>(hb.block k (Nat.lt_of_lt_of_le hk h.size)).trans (h.block k hk hn)⟩
theorem below_grow{w w':World}(hb:Below w.heap.size w w')(g:Option Nat):w.grownBy w' g:=⟨hb.os,hb.tape,hb.output,hb.size,λk hk _=>hb.block k hk⟩
theorem UX(W:World)(g i:Nat)(v:Value):W.grownBy (W.setCell ⟨g,i,none⟩ v) (some g):=
 ⟨rfl,rfl,rfl,by rw[Qr];exact Nat.le_refl _,λk _ hn=>Qm (λe=>hn (by rw[e]))⟩
theorem UW{w0 w w':World}{g:Option Nat}(h:w0.grownBy w g)(h':w.grownBy w' g):w0.grownBy w' g:=
 ⟨h'.os.trans h.os,h'.tape.trans h.tape,h'.output.trans h.output,Nat.le_trans h.size h'.size,λk hk hn=>(h'.block k (Nat.lt_of_lt_of_le hk h.size) hn).trans (h.block k hk hn)⟩
theorem GU(W:World)(g:Option Nat):W.grownBy W.drew g:=⟨rfl,rfl,rfl,Nat.le_refl _,λ_ _ _=>rfl⟩
theorem QV{B g:Nat}{w0 w w':World}(hb:Below B w0 w)(h:w.grownBy w' (some g))(hB:B<=w.heap.size)(hg:B<=g):Below B w0 w':=
 hb.grown h hB λk hk=>by injection hk with hk;omega
structure XE{α:Type}(w0:World)(base:Nat)(T:TypeId)(sz g n c:Nat)(R:World->α->List Value->Prop)(A:(Nat->Bool)->List α)(dn:Nat->Bool)(W:World):Prop where
 own:Qg W base T sz (R W) (.slice (some ⟨g,0,none⟩) n c) (A dn)
 gr:w0.grownBy W (some g)
section
variable{α:Type}{w0 W W':World}{base sz g n c k:Nat}{T:TypeId}{R:World->α->List Value->Prop}{A:(Nat->Bool)->List α}{dn:Nat->Bool}
theorem XE.step(hR:∀W W' y cs,Below W.heap.size W W'->R W y cs->R W' y cs)(h:XE w0 base T sz g n c R A dn W)(hb:Below W.heap.size W W')(hA:A (Qe dn k)=A dn):XE w0 base T sz g n c R A (Qe dn k) W':=
 ⟨by rw[hA];exact(h.own.below hb).monoR λy _ cs hy=>hR W W' y cs hb hy,QeU h.gr hb⟩
theorem XE.blk(h:XE w0 base T sz g n c R A dn W)(hl:0<(A dn).length):base<=g/\g<W.heap.size/\∃cur,W.heap[g]?=some (.cells cur T):=by
 obtain⟨b,e,hb,hlt,cur,hc⟩:=Qg.addr h.own hl;injection e with e;injection e with e;subst e;exact⟨hb,hlt,cur,hc⟩
theorem XE.frz(h:XE w0 base T sz g n c R A dn W)(hl:0<(A dn).length)(j:Nat):W.frozen? ⟨g,j,none⟩=false:=by
 obtain⟨_,_,cur,hc⟩:=h.blk hl;exact Qp hc j
theorem XE.cells(h:XE w0 base T sz g n c R A dn W){i:Nat}{y:α}(hi:(A dn)[i]?=some y):∃cs,cs.length=sz/\R W y cs/\∀j u,cs[j]?=some u->W.cell? ⟨g,i*sz+j,none⟩=some u:=by
 obtain⟨hlt,rfl⟩:=List.getElem?_eq_some_iff.1 hi;have hs:=Qg.sl h.own (D:=λ_=>True) (λ_ _=>trivial);obtain⟨a',c'',hv,hf⟩:=Sl.form hs;injection hv with h1 h2 h3;subst h1 h2 h3;obtain⟨cs,hl,hr,hc⟩:=Sl.get hs hlt;exact⟨cs,hl,hr,λj u hu=>by have:=hc j u hu;simpa using this⟩
theorem XE.put(h:XE w0 base T sz g n c R A dn W){i j:Nat}(hj:j<sz){y y':α}{u:Value}(hi:(A dn)[i]?=some y)(hR:∀r,R (W.setCell ⟨g,i*sz+j,none⟩ u) y r->R (W.setCell ⟨g,i*sz+j,none⟩ u) y' (r.set j u))
  (hk:∀z cs,R W z cs->R (W.setCell ⟨g,i*sz+j,none⟩ u) z cs) {done':Nat->Bool} (hA:(A dn).set i y'=A done'):XE w0 base T sz g n c R A done' (W.setCell ⟨g,i*sz+j,none⟩ u):=by
 obtain⟨hlt,rfl⟩:=List.getElem?_eq_some_iff.1 hi;have hp:=Qg.put (y:=y') (u:=u) (i:=i) (j:=j) (h.own.monoR (R':=R (W.setCell ⟨g,i*sz+j,none⟩ u)) λz _ cs hz=>hk z cs hz) hlt hj hR;rw[hA]at hp;exact⟨hp,UW h.gr (UX W g _ u)⟩
end
def Gp(g:Nat)(p:Value->World->Prop):Prop:=∀v w w',w.grownBy w' (some g)->p v w->p v w'
def QbG(g:Nat):List Spec->Prop
 |[]=>True
 |s::r=>((∃x,s=ex x)\/∃p,s=pr p/\Gp g p)/\QbG g r
theorem Iw{g:Nat}:∀(ss:List Spec),QbG g ss->∀s∈ss,∀v w w',w.grownBy w' (some g)->s.fact v w->s.fact v w'
 |[],_,s,h=>by cases h
 |s0::r,h,s,hm=>by
  rcases List.mem_cons.1 hm with rfl|hm
  .rcases h.1 with⟨x,rfl⟩|⟨p,rfl,hp⟩
   .exact λ_ _ _ _ _=>trivial
   exact λv w w' hg hf=>hp v w w' hg hf
  exact Iw r h.2 s hm
theorem ZP{P:Program}{l:List Oper}{Q:Exit->Act->World->Prop}{a:Act}{id:Nat}{w:World}(g:Nat)(ss:List Spec)(Inv:(Nat->Bool)->World->Prop)(hm:P.follows .mixedOrders=true)(hB:YD (l.map prune) a.tmps.size=true)
  (hst:QbG g ss) (hC:Inv (λ_=>false) w.drew) (bs:List (List Nat)) (hbs:befores (l.map prune) []=bs) (h:IE P l.toArray Inv (λ_ W W'=>W.grownBy W' (some g)) bs (Q .normal) l.length l ss 0 a [] (λ_=>True)):(Code.region id l.toArray true).wp P Q a w:=
 XN ss Inv (λ_ W W'=>W.grownBy W' (some g)) hm hB (λ_ _ s _ hk v _ w1 w2 _ hT hf=>Iw ss hst s (List.mem_of_getElem? hk) v w1 w2 hT hf) hC bs hbs h
end
section
open Go.RowKit
section
variable{w W:World}{b:Nat}{T:TypeId}{fr:Nat×Nat}{c0 c1 c2 c3 c4:Value}{r:List Obj}
theorem ZG(v0 v1:Value)(h:W.heap[b]?=some (.cells #[c0,c1] T fr)):((W.setCell ⟨b,0,none⟩ v0).setCell ⟨b,1,none⟩ v1).heap[b]?=some (.cells #[v0,v1] T fr):=QJ (QJ h)
theorem Yr(v0 v1 v2 v3:Value)(h:W.heap[b]?=some (.cells #[c0,c1,c2,c3] T fr)):((((W.setCell ⟨b,0,none⟩ v0).setCell ⟨b,1,none⟩ v1).setCell ⟨b,2,none⟩ v2).setCell ⟨b,3,none⟩ v3).heap[b]?=some (.cells #[v0,v1,v2,v3] T fr):=
 QJ (QJ (QJ (QJ h)))
theorem UH(v0 v1:Value):W.grownBy ((W.setCell ⟨b,0,none⟩ v0).setCell ⟨b,1,none⟩ v1) (some b):=UW (UX _ _ _ _) (UX _ _ _ _)
theorem Uf(v0 v1 v2 v3:Value):W.grownBy ((((W.setCell ⟨b,0,none⟩ v0).setCell ⟨b,1,none⟩ v1).setCell ⟨b,2,none⟩ v2).setCell ⟨b,3,none⟩ v3) (some b):=
 UW (UH _ _) (UW (UX _ _ _ _) (UX _ _ _ _))
theorem XB(v0 v1 v2 v3 v4:Value):W.grownBy (((((W.setCell ⟨b,0,none⟩ v0).setCell ⟨b,1,none⟩ v1).setCell ⟨b,2,none⟩ v2).setCell ⟨b,3,none⟩ v3).setCell ⟨b,4,none⟩ v4) (some b):=
 UW (Uf _ _ _ _) (UX _ _ _ _)
end
theorem QC{W W':World}{b k:Nat}(h:W.grownBy W' (some b))(hk:k<W.heap.size)(hb:k≠b):W'.heap[k]?=W.heap[k]?:=h.block k hk (λe=>hb (by injection e))
theorem Bx.put4{w W W':World}{T:TypeId}{c0 c1 c2 c3:Value}{r:List Obj}(v0 v1 v2 v3:Value)(h:Bx w (.cells #[c0,c1,c2,c3] T::r) W)(hW:W'=((((W.setCell ⟨w.heap.size,0,none⟩ v0).setCell ⟨w.heap.size,1,none⟩ v1).setCell ⟨w.heap.size,2,none⟩ v2).setCell ⟨w.heap.size,3,none⟩ v3)):Bx w (.cells #[v0,v1,v2,v3] T::r) W':=by
 subst hW;exact(((h.set (i:=0) rfl 0 v0).set (i:=0) rfl 1 v1).set (i:=0) rfl 2 v2).set (i:=0) rfl 3 v3
theorem Bx.put5{w W W':World}{T:TypeId}{c0 c1 c2 c3 c4:Value}{r:List Obj}(v0 v1 v2 v3 v4:Value)(h:Bx w (.cells #[c0,c1,c2,c3,c4] T::r) W)(hW:W'=(((((W.setCell ⟨w.heap.size,0,none⟩ v0).setCell ⟨w.heap.size,1,none⟩ v1).setCell ⟨w.heap.size,2,none⟩ v2).setCell ⟨w.heap.size,3,none⟩ v3).setCell ⟨w.heap.size,4,none⟩ v4)):Bx w (.cells #[v0,v1,v2,v3,v4] T::r) W':=by
 subst hW;exact((((h.set (i:=0) rfl 0 v0).set (i:=0) rfl 1 v1).set (i:=0) rfl 2 v2).set (i:=0) rfl 3 v3).set (i:=0) rfl 4 v4
end
end Go.Proofs.YthkgjohhbdipcaaGreatDoor
