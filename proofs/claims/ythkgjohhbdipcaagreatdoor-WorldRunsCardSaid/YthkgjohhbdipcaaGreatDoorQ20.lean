/- Texts laid one behind the other: RDisk, ShortSpec, RMeetSpec, Cuts0, RAll, ConcatRule, CloneRule, RulesOf, Gather. No condition beyond theirs. -/
import Derived.Test.YthkgjohhbdipcaaGreatDoorQ17
import Derived.Test.YthkgjohhbdipcaaGreatDoorQ19
import Derived.Test.YthkgjohhbdipcaaGreatDoorQ6
import Derived.Test.YthkgjohhbdipcaaGreatDoorProg
import Derived.Test.YthkgjohhbdipcaaGreatDoorQ13
import Derived.Test.YthkgjohhbdipcaaGreatDoorQ8
import Derived.Test.YthkgjohhbdipcaaGreatDoorQ4
import Derived.KernelRfl
import Derived.Test.YthkgjohhbdipcaaGreatDoorQ3
import Derived.Deep.LoopGhost
set_option linter.all false
set_option maxHeartbeats 64000000
set_option maxRecDepth 100000
namespace Go.Proofs.YthkgjohhbdipcaaGreatDoor
open Tryz
section
open Go.RowKit
attribute [local go_sem] gives QG
theorem Bx.set2{w W:World}{o o':Obj}{cs:Array Value}{T:TypeId}{r:List Obj}(h:Bx w (o::o' :: .cells cs T::r) W)(j:Nat)(v:Value):Bx w (o::o' :: .cells (cs.setIfInBounds j v) T::r) (W.setCell ⟨w.heap.size+1+1,j,none⟩ v):=h.set (i:=2) rfl j v
def Ob(d:TDisk):TDisk×Int:=if UA ⟨d.sa++d.wt,[]⟩=0 then(⟨d.sa++d.wt,[]⟩,0)else(zeroDisk,UA ⟨d.sa++d.wt,[]⟩)
theorem QhD{d:TDisk}(h:UA d=0):Ob d=Y7 d:=by
 have e:Y7 d=(if UA ⟨d.sa++d.wt,[]⟩≠0 then(zeroDisk,UA ⟨d.sa++d.wt,[]⟩)else(⟨d.sa++d.wt,[]⟩,0)):=by unfold Y7;exact if_neg (by rw[h];simp)
 rw[e];unfold Ob;by_cases h1:UA ⟨d.sa++d.wt,[]⟩=0
 .rw[if_pos h1,if_neg (by rw[h1];simp)]
 rw[if_neg h1,if_pos h1]
theorem QdM(u v:Value)(d:TDisk)(D:Nat->Prop)(w:World)(h:QB w D u v d)(hL:Laid w)(hs:d.sa.length+d.wt.length<=60000):
  Calls prog 43 #[VH u v] w λe w'=>∃u' v',e=.returned (.tuple #[VH u' v',.int .i64 (Ob d).2])/\QB w' (λb=>w.heap.size<=b) u' v' (Ob d).1/\Below w.heap.size w w':=by
 have HL:=Zh hL;have Hsum:=Zh hs;have Hd:=Zh (QB.true h);obtain⟨a1,c1,rfl,hc1⟩:=Sl.form h.1;obtain⟨a2,c2,rfl,hc2⟩:=Sl.form h.2;clear h hL hc1 hc2 hs;go_enter func43,ntmps43;go_wp2_with fail
 have HB:=Zh (Bx.two (w:=w) (o:=.cells #[.slice a1 d.sa.length c1,.slice a2 d.wt.length c2] 25) (o':=.cells #[.slice none 0 0,.slice none 0 0] 25));have hA:=Qa (Below.refl ((w.alloc (.cells #[.slice a1 d.sa.length c1,.slice a2 d.wt.length c2] 25)).alloc (.cells #[.slice none 0 0,.slice none 0 0] 25)).heap.size ((w.alloc (.cells #[.slice a1 d.sa.length c1,.slice a2 d.wt.length c2] 25)).alloc (.cells #[.slice none 0 0,.slice none 0 0] 25))) (.cells #[.slice a1 d.sa.length c1,.slice a2 d.wt.length c2] 23);have HB2:=Zh (HB.o.below hA);have Hd2:=Zh (QB.below Hd.o HB2.o.bel);have HSL:=Zh (Oo Hd2.o.1 Hd2.o.2 (Qh ((w.alloc (.cells #[.slice a1 d.sa.length c1,.slice a2 d.wt.length c2] 25)).alloc (.cells #[.slice none 0 0,.slice none 0 0] 25)) (.cells #[.slice a1 d.sa.length c1,.slice a2 d.wt.length c2] 23)));have he8:((w.alloc (.cells #[.slice a1 d.sa.length c1,.slice a2 d.wt.length c2] 25)).alloc (.cells #[.slice none 0 0,.slice none 0 0] 25)).heap.size=w.heap.size+1+1:=by simp
 rw[he8]at HSL;clear hA HB he8;refine(Xm _ [d.sa,d.wt] _ _ HSL.o (by have:=Hsum.o;simp[Vy];omega)).mono ?_;rintro e w3⟨v3,rfl,ho3,hb3⟩;rw[show [d.sa,d.wt].flatten=d.sa++d.wt by simp]at ho3;obtain⟨J,hJ⟩:∃J,d.sa++d.wt=J:=⟨_,rfl⟩;have HJ:=Zh hJ;rw[hJ]at ho3;have HB3:=Zh (HB2.o.below hb3);have Hsz:=Zh HB2.o.top;obtain⟨a3,c3,rfl⟩:=Qg.slice ho3;have HR3:Hid (Qu w3 (λb=>w.heap.size+2<=b) (.slice a3 J.length c3) J):=(OwnB.read ho3).keep (λb hb _=>by have h1:_<=b:=hb;have:=Hsz.o;simp at this h1;show _<=_;omega) (λ_ _ _=>rfl) Znl;clear ho3 hb3 hJ HSL HB2 Hd2;have hq0:=HB3.o.cells0;have hf0:=HB3.o.free0;have HS:=Zh ((HB3.o.set (i:=0) rfl 0 (.slice a3 J.length c3)).set (i:=0) rfl 1 (.slice none 0 0));have hqs:=HS.o.cells0
 have HR4:=Zh (Qu.keep (w':=(w3.setCell ⟨w.heap.size,0,none⟩ (.slice a3 J.length c3)).setCell ⟨w.heap.size,1,none⟩ (.slice none 0 0)) (D':=λb=>w.heap.size+2<=b) HR3.o (λ_ h _=>h) (λb hb _=>by
  have h1:w.heap.size+2<=b:=hb;rw[Qm (by show b≠w.heap.size;omega),Qm (by show b≠w.heap.size;omega)]) (by rw[Qr,Qr];exact Nat.le_refl _))
 go_wp2_with fail
 clear hq0 hf0 hqs;refine(EZ _ _ ⟨J,[]⟩ _ _ ⟨HR4.o,Ye _ _⟩ (HL.o.below HS.o.bel)).mono ?_;rintro e w5⟨rfl,hb5⟩;have HB5:=Zh (HS.o.below hb5);have HR5:=Zh (Qu.below HR4.o hb5);clear hb5 HR4 HS;have hq0:=HB5.o.cells0;have hq1:=HB5.o.cells1;have hf1:=HB5.o.free1;by_cases h1:UA ⟨J,[]⟩=0
 .have HE:Hid (Ob d=(⟨J,[]⟩,0)):=by show _=_;unfold Ob;rw[HJ.o,if_pos h1]
  rw[h1];clear h1;have HS:=Zh ((HB5.o.set (i:=1) rfl 0 (.slice a3 J.length c3)).set (i:=1) rfl 1 (.slice none 0 0));have hqs:=HS.o.cells1;have HBL:=Zh HS.o.bel;have HRD:=Zh (Qd1 (b:=w.heap.size+1) (B:=w.heap.size) (d:=⟨J,[]⟩) ⟨HR5.o,Ye _ _⟩ (UH (.slice a3 J.length c3) (.slice none 0 0)) (by omega));clear HS;go_wp2;refine bodyPost_ret (v:=.tuple #[VH (.slice a3 J.length c3) (.slice none 0 0),.int .i64 0]) ?_ rfl (by rw[HE.o];exact⟨_,_,rfl,HRD.o,HBL.o⟩);rw[results_cell_tmp rfl];go_simp
 have HE:Hid (Ob d=(zeroDisk,UA ⟨J,[]⟩)):=by show _=_;unfold Ob;rw[HJ.o,if_neg h1]
 have hne:(UA ⟨J,[]⟩ != 0)=true:=bne_iff_ne.2 h1;generalize UA ⟨J,[]⟩=E at *;clear h1;have HS:=Zh ((HB5.o.set (i:=1) rfl 0 (.slice none 0 0)).set (i:=1) rfl 1 (.slice none 0 0));have hqs:=HS.o.cells1;have HBL:=Zh HS.o.bel;clear HS;go_wp2;refine bodyPost_ret (v:=.tuple #[VH (.slice none 0 0) (.slice none 0 0),.int .i64 E]) ?_ rfl (by rw[HE.o];exact⟨_,_,rfl,U7 _ _,HBL.o⟩);rw[results_cell_tmp rfl];go_simp
theorem Qb0{W:World}{D:Nat->Prop}{l:List UInt8}{b cap:Nat}{T:TypeId}{fr:Nat×Nat}(hb:W.heap[b]?=some (.cells (bytesRow (bsL l) cap) T fr))(hD:D b)(_hl0:0<=l.length)(_hm:l.length<=maxLen)(hc:l.length<=cap)(hm:cap<=maxLen):Qu W D (.slice (some ⟨b,0,none⟩) l.length cap) l:=by
 refine⟨some ⟨b,0,none⟩,cap,rfl,hc,hm,(λh=>by cases h),λ_=>⟨b,0,rfl,hD,(Array.getElem?_eq_some_iff.1 hb).1,λi x hx=>⟨[.int .u8 x.toNat],rfl,rfl,λj u hu=>?_⟩⟩⟩;obtain⟨hi,hx⟩:=List.getElem?_eq_some_iff.1 hx
 cases j with
 |succ j=>simp at hu
 |zero=>
  simp at hu;subst hu;have h1:=bytesRow_at (bsL l) cap i (by simpa[bsL]using hi);have e:((bsL l).data[i]'(by simpa[bsL]using hi))=x:=by rw[<-hx];simp[bsL]
  rw[e]at h1;have h2:=(Qb hb i).trans h1;simpa using h2
def Qi0(B:Nat)(x:Value)(l:List UInt8)(v:Value)(W:World):Prop:=∃b y,v=.slice (some ⟨b,0,none⟩) 2 2/\B<=b/\W.heap[b]?=some (.cells #[x,y] 23)/\PBy B l y W
theorem Qc8{B:Nat}{x:Value}{l:List UInt8}:YF B (Qi0 B x l):=λ_ _ _ hk ⟨b,y,h1,h2,h3,h4⟩=>⟨b,y,h1,h2,(hk.2 b h2 (Array.getElem?_eq_some_iff.1 h3).1).trans h3,UG _ _ _ hk h4⟩
def PDs(B:Nat)(x:Value)(l:List UInt8)(v:Value)(W:World):Prop:=∃y,v=.agg #[x,y]/\PBy B l y W
theorem QeH{B:Nat}{x:Value}{l:List UInt8}:YF B (PDs B x l):=λ_ _ _ hk ⟨y,h1,h2⟩=>⟨y,h1,UG _ _ _ hk h2⟩
def QiB(w0:World)(β:Nat)(x:Value)(l:List UInt8)(W:World):Prop:=∃y,W.heap[β]?=some (.cells #[x,y] 25)/\Qu W (λb=>w0.heap.size<=b) y l/\w0.grownBy W (some β)
theorem Qhx{w0 W:World}{β:Nat}{l:List UInt8}{x y c0 c1:Value}(hb:Below w0.heap.size w0 W)(hβ:W.heap[β]?=some (.cells #[c0,c1] 25))(hlt:β<w0.heap.size)(hy:PBy w0.heap.size l y W):
  QiB w0 β x l ((W.setCell ⟨β,0,none⟩ x).setCell ⟨β,1,none⟩ y):=
 ⟨y,ZG x y hβ,UG _ _ _ (XX hlt) hy,QM hb (UH x y)⟩
def Nq(d:TDisk)(r:TRec):TDisk×Int:=if UJ r≠0 then(zeroDisk,UJ r)else if 60000<d.sa.length+d.wt.length+(Zc r).length+1 then(zeroDisk,2)else(⟨d.sa,d.wt++U3 r⟩,0)
theorem Qir{d:TDisk}(h:UA d=0)(r:TRec):Nq d r=Gi d r:=by
 have e:Gi d r=Nq d r:=by unfold Gi;exact if_neg (by rw[h];simp)
 exact e.symm
theorem Qfo(u v ur:Value)(d:TDisk)(r:TRec)(D D':Nat->Prop)(w:World)(h:QB w D u v d)(hr:Qc w D' ur r.p.ru)(hL:Ov w)(hs:d.sa.length+d.wt.length<=60000):
  Calls prog 42 #[VH u v,Yg r ur] w λe w'=>∃u' v',e=.returned (.tuple #[VH u' v',.int .i64 (Nq d r).2])/\QB w' (λb=>D b\/w.heap.size<=b) u' v' (Nq d r).1/\Below w.heap.size w w':=by
 have HL:=Zh hL;have Hsum:=Zh hs;have Hd:Hid (QB w (λb=>D b/\b<w.heap.size) u v d):=h.keep (λ_ hd hl=>⟨hd,hl⟩) (λ_ _ _=>rfl) Znl;have Hr:=Zh hr;obtain⟨a1,c1,rfl,hc1⟩:=Sl.form h.1;obtain⟨a2,c2,rfl,hc2⟩:=Sl.form h.2;obtain⟨a3,c3,rfl,_⟩:=Sl.form hr;clear h hL hc1 hc2 hs hr;go_enter func42,ntmps42;go_wp2_with fail
 have HB0:=Zh (Bx.three (w:=w) (o:=.cells #[.slice a1 d.sa.length c1,.slice a2 d.wt.length c2] 25) (o':=.cells #[.int .i64 r.kind,.int .i64 r.cell,.int .i64 r.fm,.slice a3 r.p.ru.length c3,.int .i64 r.p.df] 56) (o2:=.cells #[.slice none 0 0,.slice none 0 0] 25));refine(QcI _ r _ _ (Qc.below Hr.o HB0.o.bel) (HL.o.below HB0.o.bel)).mono ?_;rintro e w1⟨rfl,hb1⟩;have HB:=Zh (HB0.o.below hb1);clear hb1 HB0;have hq0:=HB.o.cells0;have hq2:=HB.o.cells2;have hf2:=HB.o.free2;by_cases h0:UJ r=0
 .have HP:Hid (Yl r=(Zc r,0)):=if_pos h0;have hwl:=Qeo h0;obtain⟨T,hT⟩:∃T,Zc r=T:=⟨_,rfl⟩;have HT:=Zh hT;rw[HP.o];rw[hT]at hwl⊢;have Hwl:=Zh hwl;have hsz:(bsL T).size=T.length:=by simp[bsL,ByteArray.size]
  have hw1:IntKind.i64.wrap ((d.sa.length:Int)+(d.wt.length:Int))=(d.sa.length:Int)+(d.wt.length:Int):=IntWalk.i64_in _ (by have:=Hsum.o;omega);have hw2:IntKind.i64.wrap ((d.sa.length:Int)+(d.wt.length:Int)+(T.length:Int))=(d.sa.length:Int)+(d.wt.length:Int)+(T.length:Int):=IntWalk.i64_in _ (by have:=Hsum.o;omega);have hw3:IntKind.i64.wrap ((d.sa.length:Int)+(d.wt.length:Int)+(T.length:Int)+1)=(d.sa.length:Int)+(d.wt.length:Int)+(T.length:Int)+1:=IntWalk.i64_in _ (by have:=Hsum.o;omega);obtain⟨tot,htot⟩:∃tot:Int,(d.sa.length:Int)+(d.wt.length:Int)+(T.length:Int)+1=tot:=⟨_,rfl⟩;have Htot:=Zh htot;replace hw3:=hw3.trans htot;clear hT htot;by_cases h1:60000<d.sa.length+d.wt.length+T.length+1
  .have HE:Hid (Nq d r=(zeroDisk,2)):=by show _=_;unfold Nq;rw[if_neg (by rw[h0];simp),HT.o,if_pos h1]
   have h1':(60000:Int)<tot:=by have:=Htot.o;omega
   clear h0 h1 hwl;have HS:=Zh ((HB.o.set2 0 (.slice none 0 0)).set2 1 (.slice none 0 0));have hqs:=HS.o.cells2;have HBL:=Zh HS.o.bel;clear HS;go_wp2;refine bodyPost_ret (v:=.tuple #[VH (.slice none 0 0) (.slice none 0 0),.int .i64 2]) ?_ rfl (by rw[HE.o];exact⟨_,_,rfl,U7 _ _,HBL.o⟩);rw[results_cell_tmp rfl];go_simp
  have HE:Hid (Nq d r=(⟨d.sa,d.wt++(T++[10])⟩,0)):=by show _=_;unfold Nq U3;rw[if_neg (by rw[h0];simp),HT.o,if_neg h1]
  have h1':¬(60000:Int)<tot:=by have:=Htot.o;omega
  have Hadd:Hid (∀W:World,(Op.stringOp .add (bsL T) ⟨#[10]⟩).run prog W=.ok (.string (bsL (T++[10]))) W):=λW=>Xg T [10] (by simp;omega) W;clear h0 h1 hwl;obtain⟨TL,hTL⟩:∃TL,T++[10]=TL:=⟨_,rfl⟩;have HTl:Hid (0<=TL.length/\TL.length<=maxLen):=by show _/\_;rw[<-hTL];have:=Hwl.o;simp[maxLen];omega
  have HTz:Hid ((bsL TL).size=TL.length):=by show _=_;simp[bsL,ByteArray.size]
  have HTs:Hid (d.wt.length+TL.length<=60000+60000):=by show _<=_;rw[<-hTL];have:=Hwl.o;have:=Hsum.o;simp;omega
  rw[hTL]at HE Hadd;obtain⟨JW,hJW⟩:∃J,d.wt++TL=J:=⟨_,rfl⟩;have HJW:=Zh hJW;rw[hJW]at HE;clear hTL hJW;have Hd1:=Zh (QB.below Hd.o HB.o.bel);have HX1:Hid (w1.heap[w.heap.size+1+1]?=some (.cells #[.slice none 0 0,.slice none 0 0] 25)):=HB.o.at_ 2 _ rfl;have HXl:Hid (w.heap.size+1+1<w1.heap.size):=(Array.getElem?_eq_some_iff.1 HX1.o).1;go_wp2_with fail
  clear hq0 hq2 hf2 hw1 hw2 hw3 hsz h1';refine Un 10 w1.heap.size [ex (.pointer (some ⟨w.heap.size,0,none⟩)),ex (.slice a1 d.sa.length c1),ex (.pointer (some ⟨w.heap.size,1,none⟩)),ex (.slice a2 d.wt.length c2),ex (.string (bsL T)),ex (.string (bsL TL)),pr (PBy w1.heap.size TL),pr (Qi0 w1.heap.size (.slice a2 d.wt.length c2) TL),pr (PBy w1.heap.size JW),pr (PDs w1.heap.size (.slice a1 d.sa.length c1) JW),ex (undef),ex (.int .i64 0)] (QiB w1 (w.heap.size+1+1) (.slice a1 d.sa.length c1) JW) (by kernel_rfl) (by kernel_rfl) ⟨.inl ⟨_,rfl⟩,.inl ⟨_,rfl⟩,.inl ⟨_,rfl⟩,.inl ⟨_,rfl⟩,.inl ⟨_,rfl⟩,.inl ⟨_,rfl⟩,.inr ⟨_,rfl,UG⟩,.inr ⟨_,rfl,Qc8⟩,.inr ⟨_,rfl,UG⟩,.inr ⟨_,rfl,QeH⟩,.inl ⟨_,rfl⟩,.inl ⟨_,rfl⟩,trivial⟩ _ rfl ?_
  iterate 6 (refine Qj λK hK=>⟨λdn W hI h0 hd hn hf R hR=>?_,?_⟩;(first|(have hno:dn 10=false:=hn 10 (by decide);have hC:=hI.before hno;clear h0 hd hn hf;go_simp;exact hR _ _ (hI.step hno (by decide) Zbr) (Qn.of_below Zbr) rfl)|(have hno:dn 10=false:=hn 10 (by decide);have hC:=hI.before hno;have hadd:=Hadd.o W;clear h0 hd hn hf;go_simp;exact hR _ _ (hI.step hno (by decide) Zbr) (Qn.of_below Zbr) rfl)|(have hno:dn 10=false:=hn 10 (by decide);have hC:=hI.before hno;have hqd:=(HB.o.below hC.2).cells0;clear h0 hd hn hf;go_simp;exact hR _ _ (hI.step hno (by decide) Zbr) (Qn.of_below Zbr) rfl));(go_simp;refine hK _ ?_;clear hK K))
  (refine QR λK hK=>⟨λdn W hI h0 hd hn hf R hR=>?_,λv6=>?_⟩;(have hno:dn 10=false:=hn 10 (by decide);have hC:=hI.before hno;have hcv:=run_bytes_of_string (P:=prog) W 9 23 5 (bsL TL) underlying9 underlying23 underlying5;have hszT:=HTz.o;rw[hszT]at hcv;have hsz0:w1.heap.size<=W.heap.size:=hC.1;clear h0 hd hn hf;go_simp;exact hR _ _ (hI.step hno (by decide) (Qa Zbr.drew _)) (Qn.of_below (Qa Zbr.drew _)) (Qb0 (Qh _ _) hsz0 HTl.o.1 HTl.o.2 (grownCap_ge _ _ _ _) (grownCap_le_maxLen _ _ _ _ HTl.o.2)));(go_simp;refine hK _ _ ?_;clear hK K))
  (refine QR λK hK=>⟨λdn W hI h0 hd hn hf R hR=>?_,λv7=>?_⟩;(have hno:dn 10=false:=hn 10 (by decide);have hC:=hI.before hno;have h6:PBy w1.heap.size TL v6 W:=hf 6 (by decide);have H6:=Zh h6;obtain⟨f1,f2,rfl,_⟩:=Sl.form h6;have hsz0:w1.heap.size<=W.heap.size:=hC.1;have HSZ:=Zh hsz0;clear h6 hC hsz0;clear h0 hd hn hf;go_simp;exact hR _ _ (hI.step hno (by decide) (Qa Zbr _)) (Qn.of_below (Qa Zbr _)) ⟨_,_,rfl,HSZ.o,Qh _ _,Qu.below H6.o (Qa Zbr _)⟩);(go_simp;refine hK _ _ ?_;clear hK K))
  (refine QR λK hK=>⟨λdn W hI h0 hd hn hf R hR=>?_,λv8=>?_⟩;(have hno:dn 10=false:=hn 10 (by decide);have hC:=hI.before hno;have h7:Qi0 w1.heap.size (.slice a2 d.wt.length c2) TL v7 W:=hf 7 (by decide);obtain⟨b7,y7,rfl,hb7,hc7,hy7⟩:=h7;have HSL:=Zh (Oo (Qu.true (Qu.below Hd1.o.2 hC.2)) (Qu.true hy7) hc7);have HSZ:Hid (w1.heap.size<=W.heap.size):=hC.1;clear hb7 hc7 hy7 hC;clear h0 hd hn hf;go_simp;go_at_call 81;refine(Xm _ [d.wt,TL] _ _ HSL.o (by have:=HTs.o;simp[Vy];omega)).mono ?_;rintro e w9 ⟨v9,rfl,ho9,hb9⟩;rw[show [d.wt,TL].flatten=JW by rw[<-HJW.o];simp]at ho9;exact⟨_,rfl,hR _ _ (hI.step hno (by decide) hb9) (Qn.of_below hb9) (show PBy _ _ _ _ from(OwnB.read ho9).keep (λb hb _=>by have h1:_<=b:=hb;have:=HSZ.o;show _<=_;omega) (λ_ _ _=>rfl) Znl)⟩);(go_simp;refine hK _ _ ?_;clear hK K))
  (refine QR λK hK=>⟨λdn W hI h0 hd hn hf R hR=>?_,λv9=>?_⟩;(have hno:dn 10=false:=hn 10 (by decide);have hC:=hI.before hno;have h8:PBy w1.heap.size JW v8 W:=hf 8 (by decide);have H8:=Zh h8;obtain⟨f1,f2,rfl,_⟩:=Sl.form h8;clear h8 hC;clear h0 hd hn hf;go_simp;exact hR _ _ (hI.step hno (by decide) Zbr) (Qn.of_below Zbr) ⟨_,rfl,H8.o⟩);(go_simp;refine hK _ _ ?_;clear hK K))
  iterate 2 (refine Qj λK hK=>⟨λdn W hI h0 hd hn hf R hR=>?_,?_⟩;(first|(have hyes:dn 10=true:=hd 10 (by decide);clear h0 hd hn hf;go_simp;exact hR _ _ (hI.past hyes (by decide)) (Qn.of_below Zbr) rfl)|(have hno:dn 10=false:=h0;have hC:=hI.before hno;have h9:PDs w1.heap.size (.slice a1 d.sa.length c1) JW v9 W:=hf 9 (by decide);obtain⟨y,rfl,hy⟩:=h9;have HY:=Zh hy;obtain⟨f3,f4,rfl,_⟩:=Sl.form hy;have hbW:=Qd HX1.o hC.2;have hq1:=Qb hbW;have hf1:=Qp hbW;have HFn:=Zh (Qhx (x:=.slice a1 d.sa.length c1) hC.2 hbW HXl.o HY.o);have HKF:Hid (Qn w1.heap.size W _):=XX (W:=W) (β:=w.heap.size+1+1) (x:=.slice a1 d.sa.length c1) (y:=.slice f3 JW.length f4) HXl.o;clear hy hbW hC;clear h0 hd hn hf;go_simp;exact hR _ _ (V8.at_ HFn.o) HKF.o rfl));(go_simp;refine hK _ ?_;clear hK K))
  intro dn w6 hdone hI _;obtain⟨y6,hbx6,hr6,hg6⟩:=hI.after (hdone 10 (by decide));clear hdone hI;obtain⟨f1,f2,rfl,_⟩:=Sl.form hr6
  have Hr6:Hid (QB w6 (λb=>D b\/w.heap.size<=b) (.slice a1 d.sa.length c1) (.slice f1 JW.length f2) ⟨d.sa,JW⟩):=
   ⟨Qu.keep Hd1.o.1 (λ_ hb _=>.inl hb.1) (λb hb hl=>QC hg6 hl (by have:=hb.2;omega)) hg6.size,Qu.keep hr6 (λb hb _=>.inr (by have h1:w1.heap.size<=b:=hb;have:=HB.o.top;omega)) (λ_ _ _=>rfl) Znl⟩
  have HBL:Hid (Below w.heap.size w w6):=QV HB.o.bel hg6 HB.o.bel.size (by omega);have hqs:=Qb hbx6;clear hr6 hg6;go_wp2;refine bodyPost_ret (v:=.tuple #[VH (.slice a1 d.sa.length c1) (.slice f1 JW.length f2),.int .i64 0]) ?_ rfl (by rw[HE.o];exact⟨_,_,rfl,Hr6.o,HBL.o⟩);rw[results_cell_tmp rfl];go_simp
 have HP:Hid (Yl r=([],UJ r)):=if_neg h0;have HE:Hid (Nq d r=(zeroDisk,UJ r)):=by show _=_;unfold Nq;rw[if_pos h0]
 have hne:(UJ r != 0)=true:=bne_iff_ne.2 h0;rw[HP.o];generalize UJ r=E at *;clear h0;have HS:=Zh ((HB.o.set2 0 (.slice none 0 0)).set2 1 (.slice none 0 0));have hqs:=HS.o.cells2;have HBL:=Zh HS.o.bel;clear HS;go_wp2;refine bodyPost_ret (v:=.tuple #[VH (.slice none 0 0) (.slice none 0 0),.int .i64 E]) ?_ rfl (by rw[HE.o];exact⟨_,_,rfl,U7 _ _,HBL.o⟩);rw[results_cell_tmp rfl];go_simp
def PDn(B:Nat)(l:List UInt8)(v:Value)(W:World):Prop:=∃y,v=.agg #[y,.slice none 0 0]/\PBy B l y W
theorem QeG{B:Nat}{l:List UInt8}:YF B (PDn B l):=λ_ _ _ hk ⟨y,h1,h2⟩=>⟨y,h1,UG _ _ _ hk h2⟩
def PRw(w0:World)(B':Nat)(l:List TRec)(v:Value)(W:World):Prop:=Qg W w0.heap.size 56 5 (QbR w0 (λb=>B'<=b)) v l
theorem Qag{w0:World}{B':Nat}{l:List TRec}:YF w0.heap.size (PRw w0 B' l):=λ_ _ _ hk h=>Qg.keepFrom h hk.2
theorem Qg.baseR{α:Type}{W:World}{B B' sz:Nat}{T:TypeId}{R:α->List Value->Prop}{v:Value}{l:List α}(h:Qg W B T sz R v l)(hB:B'<=B):Qg W B' T sz R v l:=by
 obtain⟨rows,hr,h1,h2⟩:=h;refine⟨rows,hr,h1,?_⟩;rcases h2 with h2|⟨g,cap,cur,hv,hg,r⟩
 .exact .inl h2
 exact .inr ⟨g,cap,cur,hv,Nat.le_trans hB hg,r⟩
def QiA(w0:World)(β:Nat)(l:List UInt8)(W:World):Prop:=∃x,W.heap[β]?=some (.cells #[x,.slice none 0 0] 25)/\Qu W (λb=>w0.heap.size<=b) x l/\w0.grownBy W (some β)
theorem Qhw{w0 W:World}{β:Nat}{l:List UInt8}{x c0 c1:Value}(hb:Below w0.heap.size w0 W)(hβ:W.heap[β]?=some (.cells #[c0,c1] 25))(hlt:β<w0.heap.size)(hx:PBy w0.heap.size l x W):
  QiA w0 β l ((W.setCell ⟨β,0,none⟩ x).setCell ⟨β,1,none⟩ (.slice none 0 0)):=
 ⟨x,ZG x _ hβ,UG _ _ _ (XX hlt) hx,QM hb (UH x _)⟩
theorem Qep{w0 W:World}{D:Nat->Prop}{v:Value}{l:List TRec}(h:Vg w0 D v l)(hb:Below w0.heap.size w0 W):Sl W D 5 (QbR w0 D) v l:=Sl.mono h (λ_ h _=>h) (λb _ hl=>hb.block b hl) hb.size (λ_ _ _ h=>h)
theorem QhO{W w0:World}{D D':Nat->Prop}{u v:Value}{l m:List TRec}{b:Nat}{T:TypeId}{fr:Nat×Nat}(h1:Sl W D 5 (QbR w0 D') u l)(h2:Sl W D 5 (QbR w0 D') v m)(hb:W.heap[b]?=some (.cells #[u,v] T fr)):Sl W (λ_=>True) 1 (Qes (QbR w0 D') W (λ_=>True)) (.slice (some ⟨b,0,none⟩) 2 2) [l,m]:=
 Ub (sz:=1) (xs:=[l,m]) (rows:=[[u],[v]]) (Qq.cons (Qq.cons Qq.nil ⟨_,rfl,h2.monoD λ_ _=>trivial⟩ rfl) ⟨_,rfl,h1.monoD λ_ _=>trivial⟩ rfl) hb rfl trivial (by simp[maxLen])
theorem JR(u v:Value)(d:TDisk)(D:Nat->Prop)(w:World)(h:QB w D u v d)(hL:Laid w)(h0:UA d=0):
  Calls prog 44 #[VH u v] w λe w'=>∃u' v' vl,e=.returned (.tuple #[VH u' v',vl])/\QB w' (λb=>w.heap.size<=b) u' v' (QD d).1/\Vg w' (λb=>w.heap.size<=b) vl (QD d).2.1/\Below w.heap.size w w':=by
 have HL:=Zh hL;have Hd:=Zh (QB.true h);have H0:=Zh h0;have Hsum:Hid (d.sa.length+d.wt.length<=60000):=(Zx h0).1;obtain⟨a1,c1,rfl,hc1⟩:=Sl.form h.1;obtain⟨a2,c2,rfl,hc2,hc3,hc4⟩:=Sl.form h.2;clear h hL hc1 hc4 h0;have HB0:=Zh (Bx.two (w:=w) (o:=.cells #[.slice a1 d.sa.length c1,.slice a2 d.wt.length c2] 25) (o':=.cells #[.slice none 0 0,.slice none 0 0] 25));have hcv:=Xz (Qu.below Hd.o.1 HB0.o.bel);go_enter func44,ntmps44;go_wp2_with fail
 clear hcv;refine(OL d.sa 40 _ (HL.o.below HB0.o.bel) (by have:=Hsum.o;omega) (by decide)).mono ?_;obtain⟨⟨l,nl,el⟩,hl⟩:∃E,Qv d.sa 40=E:=⟨_,rfl⟩;have Hl:=Zh hl;have hl40:l.length<=40:=by have:=(Vb d.sa 40).2.1;rw[hl]at this;exact this
 rw[hl];rintro e w2⟨vl,rfl,hol,hb2⟩;dsimp only at hol;have HB2:=Zh (HB0.o.below hb2);have Hol:Hid (Vg w2 (λb=>w.heap.size+2<=b) vl l):=hol.keep (λb hb _=>by have h1:_<=b:=hb;have:=HB0.o.top;simp at this h1;show _<=_;omega) (λ_ _ _=>rfl) Znl;obtain⟨al,cl,rfl,_⟩:=Sl.form hol;have hsub:IntKind.i64.wrap (40-(l.length:Int))=((40-l.length:Nat):Int):=by rw[show((40-l.length:Nat):Int)=40-(l.length:Int) by omega];exact IntWalk.i64_in _ (by omega)
 have Hl40:=Zh hl40;have hq0:=HB2.o.cells0;have hcv:=Xz (Qu.below Hd.o.2 HB2.o.bel);clear hl hol hb2 HB0;dsimp only;go_wp2_with fail
 clear hq0 hcv;refine(OL d.wt (40-l.length) _ (HL.o.below HB2.o.bel) (by have:=Hsum.o;omega) (by omega)).mono ?_;obtain⟨⟨m,nw,em⟩,hm⟩:∃E,Qv d.wt (40-l.length)=E:=⟨_,rfl⟩;have Hm:=Zh hm
 have hnw:nw<=d.wt.length:=by
  obtain⟨_,_,t,h3,h4,_⟩:=Vb d.wt (40-l.length);rw[hm]at h3 h4;dsimp only at h3 h4;have:=congrArg List.length h3;rw[List.length_append]at this;omega
 have hm40:m.length<=40-l.length:=by have:=(Vb d.wt (40-l.length)).2.1;rw[hm]at this;exact this
 rw[hm];rintro e w3⟨vm,rfl,hom,hb3⟩;dsimp only at hom;have HB:=Zh (HB2.o.below hb3);have Hrl:=Zh (Vg.below Hol.o hb3);have Hrm:Hid (Vg w3 (λb=>w.heap.size+2<=b) vm m):=hom.keep (λb hb _=>by have h1:_<=b:=hb;have:=HB2.o.top;simp at this;show _<=_;omega) (λ_ _ _=>rfl) Znl;obtain⟨am,cm,rfl,_⟩:=Sl.form hom
 have HE0:Hid (QD d=(⟨d.sa++d.wt.take nw,[]⟩,l++m,0)):=by
  show _=_;unfold QD Qa3;rw[if_neg (by rw[H0.o];simp),Hl.o];dsimp only;rw[Hm.o]
 obtain⟨JS,hJS⟩:∃J,d.sa++d.wt.take nw=J:=⟨_,rfl⟩;have HJS:=Zh hJS;obtain⟨LM,hLM⟩:∃J,l++m=J:=⟨_,rfl⟩;have HLM:=Zh hLM;have HE:Hid (QD d=(⟨JS,[]⟩,LM,0)):=by show _=_;rw[HE0.o,hJS,hLM]
 clear hJS hLM HE0;have Hd3:=Zh (QB.below Hd.o HB.o.bel)
 have HW3:Hid (Qu w3 (λ_=>True) (.slice a2 nw c2) (d.wt.take nw)):=by
  have h1:=Sl.take Hd3.o.2 hnw;exact h1
 have Hnw:Hid ((nw:Int)<=(c2:Int)/\(0:Int)<=(nw:Int)/\(c2:Int)<=9223372036854775807):=by have h9:c2<=9223372036854775807:=hc3;show _/\_/\_;omega
 have Hlm:Hid (l.length+m.length<=40):=by show _<=_;have:=Hl40.o;omega
 have HX3:Hid (w3.heap[w.heap.size+1]?=some (.cells #[.slice none 0 0,.slice none 0 0] 25)):=HB.o.at_ 1 _ rfl;have HXl:Hid (w.heap.size+1<w3.heap.size):=(Array.getElem?_eq_some_iff.1 HX3.o).1;clear hm hom hb3 hsub hnw hm40 hl40 hc2 hc3 Hol HB2;dsimp only;go_wp2_with fail
 refine Un 13 w3.heap.size [ex (.pointer (some ⟨w.heap.size,0,none⟩)),ex (.slice a1 d.sa.length c1),ex (.pointer (some ⟨w.heap.size,1,none⟩)),ex (.slice a2 d.wt.length c2),ex (.int .i64 (nw:Int)),ex (.slice a2 nw c2),pr (Qah w3.heap.size 23 #[.slice a1 d.sa.length c1,.slice a2 nw c2] 2),pr (PBy w3.heap.size JS),pr (PDn w3.heap.size JS),ex (.slice al l.length cl),ex (.slice am m.length cm),pr (Qah w3.heap.size 68 #[.slice al l.length cl,.slice am m.length cm] 2),pr (PRw w3 (w.heap.size+2) LM),ex (undef),pr (PRw w3 (w.heap.size+2) LM)] (QiA w3 (w.heap.size+1) JS) (by kernel_rfl) (by kernel_rfl) ⟨.inl ⟨_,rfl⟩,.inl ⟨_,rfl⟩,.inl ⟨_,rfl⟩,.inl ⟨_,rfl⟩,.inl ⟨_,rfl⟩,.inl ⟨_,rfl⟩,.inr ⟨_,rfl,Qah.stable⟩,.inr ⟨_,rfl,UG⟩,.inr ⟨_,rfl,QeG⟩,.inl ⟨_,rfl⟩,.inl ⟨_,rfl⟩,.inr ⟨_,rfl,Qah.stable⟩,.inr ⟨_,rfl,Qag⟩,.inl ⟨_,rfl⟩,.inr ⟨_,rfl,Qag⟩,trivial⟩ _ rfl ?_
 iterate 6 (refine Qj λK hK=>⟨λdn W hI h0 hd hn hf R hR=>?_,?_⟩;(first|(have hno:dn 13=false:=hn 13 (by decide);have hC:=hI.before hno;clear h0 hd hn hf;go_simp;exact hR _ _ (hI.step hno (by decide) Zbr) (Qn.of_below Zbr) rfl)|(have hno:dn 13=false:=hn 13 (by decide);have hC:=hI.before hno;have hqd:=(HB.o.below hC.2).cells0;clear h0 hd hn hf;go_simp;exact hR _ _ (hI.step hno (by decide) Zbr) (Qn.of_below Zbr) rfl)|(have hno:dn 13=false:=hn 13 (by decide);have hC:=hI.before hno;have hk1:=Hnw.o.1;have hk2:=Hnw.o.2.1;have hk3:=Hnw.o.2.2;clear h0 hd hn hf;go_simp;exact hR _ _ (hI.step hno (by decide) Zbr) (Qn.of_below Zbr) rfl));(go_simp;refine hK _ ?_;clear hK K))
 (refine QR λK hK=>⟨λdn W hI h0 hd hn hf R hR=>?_,λv6=>?_⟩;(have hno:dn 13=false:=hn 13 (by decide);have hC:=hI.before hno;have hsz0:w3.heap.size<=W.heap.size:=hC.1;have HSZ:=Zh hsz0;clear hC hsz0;clear h0 hd hn hf;go_simp;exact hR _ _ (hI.step hno (by decide) (Qa Zbr _)) (Qn.of_below (Qa Zbr _)) ⟨_,rfl,HSZ.o,Qh _ _⟩);(go_simp;refine hK _ _ ?_;clear hK K))
 (refine QR λK hK=>⟨λdn W hI h0 hd hn hf R hR=>?_,λv7=>?_⟩;(have hno:dn 13=false:=hn 13 (by decide);have hC:=hI.before hno;have h6:Qah w3.heap.size 23 #[.slice a1 d.sa.length c1,.slice a2 nw c2] 2 v6 W:=hf 6 (by decide);obtain⟨b6,rfl,hb6,hc6⟩:=h6;have HSL:=Zh (Oo (Qu.true (Qu.below Hd3.o.1 hC.2)) (Qu.true (Qu.below HW3.o hC.2)) hc6);have HSZ:Hid (w3.heap.size<=W.heap.size):=hC.1;clear hb6 hc6 hC;clear h0 hd hn hf;go_simp;go_at_call 81;refine(Xm _ [d.sa,d.wt.take nw] _ _ HSL.o (by have:=Hsum.o;simp[Vy];omega)).mono ?_;rintro e w9 ⟨v9,rfl,ho9,hb9⟩;rw[show [d.sa,d.wt.take nw].flatten=JS by rw[<-HJS.o];simp]at ho9;exact⟨_,rfl,hR _ _ (hI.step hno (by decide) hb9) (Qn.of_below hb9) (show PBy _ _ _ _ from(OwnB.read ho9).keep (λb hb _=>by have h1:_<=b:=hb;have:=HSZ.o;show _<=_;omega) (λ_ _ _=>rfl) Znl)⟩);(go_simp;refine hK _ _ ?_;clear hK K))
 (refine QR λK hK=>⟨λdn W hI h0 hd hn hf R hR=>?_,λv8=>?_⟩;(have hno:dn 13=false:=hn 13 (by decide);have hC:=hI.before hno;have h7:PBy w3.heap.size JS v7 W:=hf 7 (by decide);have H7:=Zh h7;obtain⟨f1,f2,rfl,_⟩:=Sl.form h7;clear h7 hC;clear h0 hd hn hf;go_simp;exact hR _ _ (hI.step hno (by decide) Zbr) (Qn.of_below Zbr) ⟨_,rfl,H7.o⟩);(go_simp;refine hK _ _ ?_;clear hK K))
 iterate 2 (refine Qj λK hK=>⟨λdn W hI h0 hd hn hf R hR=>?_,?_⟩;(have hno:dn 13=false:=hn 13 (by decide);have hC:=hI.before hno;clear h0 hd hn hf;go_simp;exact hR _ _ (hI.step hno (by decide) Zbr) (Qn.of_below Zbr) rfl);(go_simp;refine hK _ ?_;clear hK K))
 (refine QR λK hK=>⟨λdn W hI h0 hd hn hf R hR=>?_,λv11=>?_⟩;(have hno:dn 13=false:=hn 13 (by decide);have hC:=hI.before hno;have hsz0:w3.heap.size<=W.heap.size:=hC.1;have HSZ:=Zh hsz0;clear hC hsz0;clear h0 hd hn hf;go_simp;exact hR _ _ (hI.step hno (by decide) (Qa Zbr _)) (Qn.of_below (Qa Zbr _)) ⟨_,rfl,HSZ.o,Qh _ _⟩);(go_simp;refine hK _ _ ?_;clear hK K))
 (refine QR λK hK=>⟨λdn W hI h0 hd hn hf R hR=>?_,λv12=>?_⟩;(have hno:dn 13=false:=hn 13 (by decide);have hC:=hI.before hno;have h11:Qah w3.heap.size 68 #[.slice al l.length cl,.slice am m.length cm] 2 v11 W:=hf 11 (by decide);obtain⟨b11,rfl,hb11,hc11⟩:=h11;have HSL:=Zh (QhO (Qep Hrl.o hC.2) (Qep Hrm.o hC.2) hc11);have HSZ:Hid (w3.heap.size<=W.heap.size):=hC.1;clear hb11 hc11 hC;clear h0 hd hn hf;go_simp;go_at_call 85;refine(Qbi (QbR w3 (λb=>w.heap.size+2<=b)) (λy cs h=>IX y cs h) _ [l,m] _ _ HSL.o (by have:=Hlm.o;simp[Vy];omega)).mono ?_;rintro e w9 ⟨v9,rfl,ho9,hb9⟩;rw[show [l,m].flatten=LM by rw[<-HLM.o];simp]at ho9;exact⟨_,rfl,hR _ _ (hI.step hno (by decide) hb9) (Qn.of_below hb9) (show PRw _ _ _ _ _ from Qg.baseR ho9 HSZ.o)⟩);(go_simp;refine hK _ _ ?_;clear hK K))
 (refine Qj λK hK=>⟨λdn W hI h0 hd hn hf R hR=>?_,?_⟩;(have hno:dn 13=false:=h0;have hC:=hI.before hno;have h8:PDn w3.heap.size JS v8 W:=hf 8 (by decide);obtain⟨y,rfl,hy⟩:=h8;have HY:=Zh hy;obtain⟨f3,f4,rfl,_⟩:=Sl.form hy;have hbW:=Qd HX3.o hC.2;have hq1:=Qb hbW;have hf1:=Qp hbW;have HFn:=Zh (Qhw hC.2 hbW HXl.o HY.o);have HKF:Hid (Qn w3.heap.size W _):=XX (W:=W) (β:=w.heap.size+1) (x:=.slice f3 JS.length f4) (y:=.slice none 0 0) HXl.o;clear hy hbW hC;clear h0 hd hn hf;go_simp;exact hR _ _ (V8.at_ HFn.o) HKF.o rfl);(go_simp;refine hK _ ?_;clear hK K))
 (refine QR λK hK=>⟨λdn W hI h0 hd hn hf R hR=>?_,λv14=>?_⟩;(have hyes:dn 13=true:=hd 13 (by decide);have h12:PRw w3 (w.heap.size+2) LM v12 W:=hf 12 (by decide);clear h0 hd hn hf;go_simp;exact hR _ _ (hI.past hyes (by decide)) (Qn.of_below Zbr) h12);(go_simp;refine hK _ _ ?_;clear hK K))
 intro dn w6 hdone hI hF;obtain⟨x6,hbx6,hr6,hg6⟩:=hI.after (hdone 13 (by decide));have h14:PRw w3 (w.heap.size+2) LM v14 w6:=hF.2;clear hdone hI hF;obtain⟨f1,f2,rfl,_⟩:=Sl.form hr6;obtain⟨g1,g2,rfl⟩:=Qg.slice h14
 have HR6:Hid (Vg w6 (λb=>w.heap.size<=b) (.slice g1 LM.length g2) LM):=
  Qg.sl (Qg.monoR h14 λ_ _ _ hr=>hr.keep (λb hb _=>by have h1:w.heap.size+2<=b:=hb;show _<=_;omega) (λb hb hl=>QC hg6 hl (by have h1:w.heap.size+2<=b:=hb;omega)) hg6.size) (λb hb=>by have:=HB.o.top;show _<=_;omega)
 have Hr6:Hid (QB w6 (λb=>w.heap.size<=b) (.slice f1 JS.length f2) (.slice none 0 0) ⟨JS,[]⟩):=
  ⟨Qu.keep hr6 (λb hb _=>by have h1:w3.heap.size<=b:=hb;have:=HB.o.top;show _<=_;omega) (λ_ _ _=>rfl) Znl,Ye _ _⟩
 have HBL:Hid (Below w.heap.size w w6):=QV HB.o.bel hg6 HB.o.bel.size (by omega);have hqs:=Qb hbx6;clear hr6 hg6 h14;go_wp2;refine bodyPost_ret (v:=.tuple #[VH (.slice f1 JS.length f2) (.slice none 0 0),.slice g1 LM.length g2]) ?_ rfl (by rw[HE.o];exact⟨_,_,_,rfl,Hr6.o,HR6.o,HBL.o⟩);rw[results_cell_tmp rfl];go_simp
end
theorem NG(ks:List Nat):∀(l m:List TRule)(i:Nat),Um ks (l++m) i=Um ks l i++Um ks m (i+l.length)
 |[],m,i=>by simp[Um]
 |r::l,m,i=>by
  have e:i+(l.length+1)=i+1+l.length:=by omega
  simp only[List.cons_append,Um,List.length_cons,NG ks l m (i+1),e];split<;>simp
theorem NH{ks:List Nat}{l:List TRule}{k:Nat}(h:k<l.length):Um ks (l.take (k+1)) 0=Um ks (l.take k) 0++if ks.contains k then[l[k]]else[]:=by
 rw[List.take_succ_eq_append_getElem h,NG];have e:0+(l.take k).length=k:=by rw[List.length_take];omega
 rw[e];simp only[Um]
theorem Om(d:Int)(r:TRule):∀l:List TRule,VQ d (l++[r])=if r.vd=d then VQ d l else l++[r]
 |[]=>by
  simp only[List.nil_append,VQ];split<;>simp_all
 |s::l=>by
  simp only[List.cons_append,VQ,Om d r l];split
  .rfl
  rename_i h;simp
theorem QgR{d:Int}{l:List TRule}{n:Nat}(h:n<l.length)(hv:l[n].vd=d):VQ d (l.take (n+1))=VQ d (l.take n):=by
 rw[List.take_succ_eq_append_getElem h,Om,if_pos hv]
theorem QgS{d:Int}{l:List TRule}{n:Nat}(h:n<l.length)(hv:l[n].vd≠d):VQ d (l.take (n+1))=l.take (n+1):=by
 rw[List.take_succ_eq_append_getElem h,Om,if_neg hv]
theorem Qez(ks:List Nat)(l:List TRule):(Um ks l 0).length<=l.length:=(Yt ks l 0).length_le
def bothRow(of:Int->Int->Int)(q:TPol)(r:TRule):List TRule:=q.ru.map (Ui of r)++[⟨r.cd++[],of r.vd q.df⟩]
def Qbe(of:Int->Int->Int)(p q:TPol):List TRule:=q.ru.map (Ui of ⟨[],p.df⟩)
theorem QeL(of:Int->Int->Int)(p q:TPol):VK of p q=⟨p.ru.flatMap (bothRow of q)++Qbe of p q,of p.df q.df⟩:=by
 unfold VK;congr 1
 have e:∀r,(QP q).map (Ui of r)=bothRow of q r:=λr=>by
  unfold QP bothRow;rw[List.map_append];rfl
 have e1:pairs of (QP p) (QP q)=(p.ru.flatMap (bothRow of q)++Qbe of p q)++[Ui of ⟨[],p.df⟩ ⟨[],q.df⟩]:=by
  unfold pairs;rw[show(λa=>(QP q).map (Ui of a))=bothRow of q from funext e];show List.flatMap _ (p.ru++[⟨[],p.df⟩])=_;rw[List.flatMap_append,List.append_assoc];congr 1
  unfold bothRow Qbe;simp[Ui]
 rw[e1,List.dropLast_concat]
theorem NE(d:Int):∀l:List TRule,l.take (VQ d l).length=VQ d l
 |[]=>rfl
 |r::l=>by
  unfold VQ;split
  .rfl
  rw[List.length_cons,List.take_succ_cons,NE d l]
theorem QhM(d:Int)(r:TRule)(l:List TRule):(VQ d (l++[r])).length=if r.vd=d then(VQ d l).length else l.length+1:=by
 rw[Om];split
 .rfl
 simp
theorem QdS(d:Int):∀l:List TRule,(VQ d l).length<=l.length
 |[]=>Nat.le_refl _
 |r::l=>by
  unfold VQ;split
  .simp
  simp only[List.length_cons];have:=QdS d l;omega
theorem QgX(ks:List Nat):∀(l:List TRule)(i:Nat),(Um ks l i).length<=l.length
 |[],_=>Nat.le_refl _
 |r::l,i=>by
  unfold Um;have:=QgX ks l (i+1);split<;>simp only[List.length_cons]<;>omega
section
open Go.RowKit
theorem Qga:(prog.info? 3).map (λi=>(i.zero,i.size,i.bytes))=some (some (.int .i64 0),1,8):=by kernel_rfl
theorem IM(y:Int)(cs:List Value)(h:JI y cs):∀c∈cs,c.oneCell'=true:=by
 unfold JI at h;subst h;intro c hc;simp at hc;subst hc;rfl
theorem Xy.cells{w:World}{D:Nat->Prop}{b o n c:Nat}{s:Option Nat}{l:List TPol}(h:Xy w D (.slice (some ⟨b,o,s⟩) n c) l){i:Nat}(hi:i<l.length):
  ∃(a':Option Addr)(c':Nat),w.cell? ⟨b,o+i*2,none⟩=some (.slice a' l[i].ru.length c')/\w.cell? ⟨b,o+i*2+1,none⟩=some (.int .i64 l[i].df)/\Qc w D (.slice a' l[i].ru.length c') l[i].ru /\
   l[i].ru.length<=c'/\c'<=9223372036854775807/\(0<l[i].ru.length->∃b o,a'=some ⟨b,o,none⟩/\D b/\b<w.heap.size):=by
 obtain⟨cs,hcs,⟨u,hu,hr⟩,hcell⟩:=Sl.get h hi;obtain⟨a',c',hv,h1,h2,h3⟩:=Sl.form hr;subst hu hv;exact⟨a',c',hcell 0 _ rfl,hcell 1 _ rfl,hr,h1,h2,h3⟩
theorem YO{α β:Type}(g:α->List β)(l:List α)(k:Nat)(h:k<l.length):(l.take (k+1)).flatMap g=(l.take k).flatMap g++g l[k]:=by
 rw[List.take_succ_eq_append_getElem h,List.flatMap_append];simp
theorem YB{α β:Type}(g:α->List β)(l:List α)(k:Nat):((l.take k).flatMap g).length<=(l.flatMap g).length:=by
 have:=congrArg (λm=>(m.flatMap g).length) (List.take_append_drop k l);simp only[List.flatMap_append,List.length_append]at this;omega
theorem Qbx{W:World}{x:Int}{T:TypeId}{b:Nat}(hb:b=W.heap.size):UR (W.alloc (.cells #[.int .i64 x] T)) (λ_=>True) (.slice (some ⟨b,0,none⟩) 1 1) [x]:=
 Ub (R:=JI) (sz:=1) (xs:=[x]) (rows:=[[.int .i64 x]]) (Qq.cons Qq.nil rfl rfl) (UM hb) rfl trivial (by simp[maxLen])
end
section
open Go.RowKit
theorem Qen(v:Value)(l:List TPol)(D:Nat->Prop)(w:World)(h:Xy w D v l):
  Calls prog 188 #[v] w λe w'=>e=.returned (.int .i64 (VD l))/\Below w.heap.size w w':=by
 have H:=Zh h;obtain⟨a,c,rfl,hlc,hcm,hat⟩:=Sl.form h;clear h;go_enter func188,ntmps188;go_wp2_with fail
 go_loopw[8](λkv wr=>∃k:Nat,kv=.int .i64 k/\k<=l.length/\VD (l.drop k)=VD l/\Below w.heap.size w wr) (λkv _=>l.length-(intOf kv).toNat)
 case atStart=>exact⟨0,rfl,Nat.zero_le _,rfl,Below.refl _ _⟩
 case round=>
  obtain⟨k,rfl,hk,hdr,hb⟩:=hrel;have Hdr:=Zh hdr;have Hb:=Zh hb;have hsz:=hb.size;clear hdr hb;by_cases hlt:k<l.length
  .obtain⟨b,o,rfl,hDb,hblt⟩:=hat (by omega);obtain⟨ca,cc,hc0w,hc1w,hrd,hcl,hcmx,hcat⟩:=Xy.cells H.o hlt;have Hs:=Zh (QaW l k hlt);obtain⟨p,hp⟩:∃p,l[k]=p:=⟨_,rfl⟩;rw[hp]at hc0w hc1w hrd hcl hcat Hs;have Hrd:=Zh hrd;have hc0:=(Hb.o.cell (p:=⟨b,o+k*2,none⟩) hblt).trans hc0w;have hc1:=(Hb.o.cell (p:=⟨b,o+k*2+1,none⟩) hblt).trans hc1w;clear hrd hp hc0w hc1w;go_wp2_with fail
   refine(Vz _ p D _ (Qc.below Hrd.o (Qa Hb.o _))).mono ?_;rintro e w1⟨rfl,hb1⟩;have Hb1:=Zh (UI Hb.o hb1);clear hb1 hc0 hc1;by_cases h0:UZ p=0
   .have H0:=Zh h0;rw[h0];clear h0;go_wp2
    go_roundw
    case rel=>exact⟨k+1,by go_num,by omega,by have:=Hs.o;rw[if_pos H0.o,Hdr.o]at this;exact this.symm,Hb1.o⟩
    case measure=>simp[intOf];omega
   have hb0:(UZ p != 0)=true:=bne_iff_ne.2 h0
   have HE:Hid (VD l=UZ p):=by
    show VD l=_;have:=Hs.o;rw[if_neg h0,Hdr.o]at this;exact this
   clear h0;go_wp2;go_ret;rw[HE.o];exact⟨rfl,Hb1.o⟩
  obtain rfl:k=l.length:=by omega
  have H0:Hid (VD l=0):=by have:=Hdr.o;rw[List.drop_length]at this;exact this.symm
  go_wp2;go_ret;rw[H0.o];exact⟨rfl,Hb.o⟩
end
section
open Go.RowKit
theorem Zj:(prog.info? 147).map (λi=>(i.zero,i.size,i.bytes))=some (some (.agg #[.slice none 0 0,.int .i64 0]),2,32):=by kernel_rfl
end
section
open Go.RowKit
theorem GH{α:Type}(R:α->List Value->Prop)(h1R:∀(y:α)(cs:List Value),R y cs->∀c∈cs,c.oneCell'=true)(v:Value)(xs:List α)(D:Nat->Prop)(w:World)(h:Sl w D 2 R v xs)(hn:xs.length*32<=140737488355328):
  Calls prog 155 #[v] w λe w'=>∃v',e=.returned v'/\Qg w' w.heap.size 147 2 R v' xs/\Below w.heap.size w w':=by
 obtain⟨i0,hi,hz0,hz1,hz2⟩:=info_parts Zj;have H:=Zh h;obtain⟨a,c,rfl,hlc,hcm,hnil,hat⟩:=h;have Hi:=Zh hi;clear hi
 cases a with
 |none=>
  have hc:=hnil rfl;subst hc;have hx:xs=[]:=List.length_eq_zero_iff.1 (by omega);subst hx;have hq:=λ(a:Option Addr)(n c:Nat)(W:World)=>Lib.run_eql_slice_nil (P:=prog) W 36 147 a n c 0 0 underlying36;go_enter func155,ntmps155;go_wp2;go_ret;exact⟨_,rfl,Qg.nil,Below.refl _ _⟩
 |some ad=>
  have H2:=Zh (H.o.belowR (Qa (Below.refl _ w) (.cells #[] 147)) (λ_ _ _ h=>h))
  have Hown:Hid (Qg (w.alloc (.cells #[] 147)) w.heap.size 147 2 R (.slice (some ⟨w.heap.size,0,none⟩) 0 0) ([]:List α)):=
   ⟨[],Qq.nil,by simp,.inr ⟨w.heap.size,0,#[],rfl,Nat.le_refl _,Qh _ _,by simp,by simp,by simp,by simp⟩⟩
  clear hat hnil;have hq:=λ(a:Option Addr)(n c:Nat)(W:World)=>Lib.run_eql_slice_nil (P:=prog) W 36 147 a n c 0 0 underlying36;go_enter func155,ntmps155;go_wp2_with(at_builtin;refine U6 rfl _ _ 36 rfl w.heap.size 147 i0 _ 2 32 underlying36 Hi.o hz0 hz1 hz2 rfl (by decide) _ _ rfl Hown.o _ _ rfl H2.o (λy _ cs h=>h1R y cs h) (by show 0+_<=maxLen;unfold maxLen;omega) (by show(0+_)*32<=_;omega) (by simp) ?_;intro v' w3 hown' hg)
  go_ret;exact⟨_,rfl,hown',Hown.o.grown (Qa Zbr _) hg (by simp) Znl⟩
end
section
open Go.RowKit
theorem Nw{w:World}{D:Nat->Prop}(y:TRule)(cs:List Value)(h:VP w D y cs):∀c∈cs,c.oneCell'=true:=by
 obtain⟨v,rfl,h⟩:=h;obtain⟨a,c,rfl,_⟩:=Sl.form h;intro u hu;simp at hu;rcases hu with rfl|rfl<;>rfl
theorem Qg.app1{α:Type}{w:World}{base n:Nat}{e:TypeId}{sz:Nat}{R:α->List Value->Prop}{v:Value}{xs:List α}{rows:List (List Value)}{y:α}{r:List Value}(hr:Qq sz R xs rows)(hy:R y r)(hl:r.length=sz)(h:w.ownsRow base e sz v n (rows.flatten++r))(hn:n=xs.length+1):Qg w base e sz R v (xs++[y]):=by
 subst hn;refine⟨rows++[r],hr.app (Qq.cons (x:=y) (r:=r) Qq.nil hy hl),?_⟩;simpa using h
end
section
open Go.RowKit
def VN(W:World)(b:Nat):Prop:=∀cs fr,W.heap[b]?≠some (.cells cs 38 fr)
theorem VN.keep{w w':World}{b:Nat}(h:VN w b)(e:w'.heap[b]?=w.heap[b]?):VN w' b:=λcs fr=>by rw[e];exact h cs fr
def Qiz(W:World)(B:Nat)(pv:Value)(b:Nat):Prop:=B<=b/\pv.ownBlock≠some b/\VN W b
theorem Qg.typedSl{α:Type}{w:World}{base:Nat}{e:TypeId}{sz:Nat}{R:α->List Value->Prop}{v:Value}{xs:List α}(h:Qg w base e sz R v xs)(he:e≠38):Sl w (λb=>base<=b/\VN w b) sz R v xs:=by
 have hs:Sl w (λb=>base<=b) sz R v xs:=h.sl λ_ h=>h;by_cases h0:0<xs.length
 .obtain⟨a,c,rfl⟩:=h.slice;obtain⟨b,rfl,hb,hlt,cur,hcur⟩:=h.addr h0;obtain⟨a',c',hv,hl,hm,hn,hat⟩:=hs;refine⟨a',c',hv,hl,hm,hn,λh1=>?_⟩;obtain⟨b',o,ha,hD,hlt',hr⟩:=hat h1;injection hv with hv _ _;rw[ha]at hv;injection hv with hv;injection hv with hv _ _;subst hv;refine⟨b,o,ha,⟨hD,λcs fr e'=>?_⟩,hlt',hr⟩;rw[hcur]at e';injection e' with e';injection e' with _ e' _;exact he e'
 obtain⟨a',c',hv,hl,hm,hn,hat⟩:=hs;exact⟨a',c',hv,hl,hm,hn,λh1=>absurd h1 h0⟩
theorem QhE:147≠38:=by decide
theorem Qg8:153≠38:=by decide
structure UD(B β:Nat)(d:Value)(wB:World)(pv0:Value)(wi:World)(pv:Value)(rs:List TRule):Prop where
 os:wi.os=wB.os
 tape:wi.tape=wB.tape
 output:wi.output=wB.output
 size:wB.heap.size<=wi.heap.size
 blk:∀b,b<wB.heap.size->b≠β->some b≠pv0.ownBlock->wi.heap[b]?=wB.heap[b]?
 box:wi.heap[β]?=some (.cells #[pv,d] 38)
 own:Qg wi B 147 2 (VP wi (Qiz wi B pv)) pv rs
 hob:pv.ownBlock=pv0.ownBlock\/∀g,pv.ownBlock=some g->wB.heap.size<=g
section
variable{B β:Nat}{d:Value}{wA wB wi W:World}{pvA pv0 pv:Value}{rs rs':List TRule}
theorem UD.start(hbox:wB.heap[β]?=some (.cells #[pv0,d] 38))(hown:Qg wB B 147 2 (VP wB (Qiz wB B pv0)) pv0 rs):UD B β d wB pv0 wB pv0 rs:=⟨rfl,rfl,rfl,Nat.le_refl _,λ_ _ _ _=>rfl,hbox,hown,.inl rfl⟩
theorem UD.below(h:UD B β d wB pv0 wi pv rs)(hb:Below wi.heap.size wi W):UD B β d wB pv0 W pv rs where
 os:=hb.os.trans h.os
 tape:=hb.tape.trans h.tape
 output:=hb.output.trans h.output
 size:=Nat.le_trans h.size hb.size
 blk:=λb hl hn ho=>(hb.block b (Nat.lt_of_lt_of_le hl h.size)).trans (h.blk b hl hn ho)
 box:=Qd h.box hb
 own:=(h.own.below hb).monoR λ_ _ _ ⟨v,h1,h2⟩=>⟨v,h1,h2.keep (λb hb' hl=>⟨hb'.1,hb'.2.1,hb'.2.2.keep (hb.block b hl)⟩) (λb _ hl=>hb.block b hl) hb.size⟩
 hob:=h.hob
theorem UD.trans(h:UD B β d wA pvA wB pv0 rs)(h':UD B β d wB pv0 wi pv rs'):UD B β d wA pvA wi pv rs' where
 os:=h'.os.trans h.os
 tape:=h'.tape.trans h.tape
 output:=h'.output.trans h.output
 size:=Nat.le_trans h.size h'.size
 blk:=λb hl hn ho=>(h'.blk b (Nat.lt_of_lt_of_le hl h.size) hn (λe=>by
  rcases h.hob with e'|e'
  .exact ho (e.trans e')
  have:=e' b e.symm;omega)).trans (h.blk b hl hn ho)
 box:=h'.box
 own:=h'.own
 hob:=by
  rcases h'.hob with e|e
  .rcases h.hob with e'|e'
   .exact .inl (e.trans e')
   exact .inr λg hg=>e' g (e.symm.trans hg)
  exact .inr λg hg=>Nat.le_trans h.size (e g hg)
theorem UD.belowB{C:Nat}{w:World}(h:UD B β d wB pv0 wi pv rs)(hb:Below C w wB)(hC:C<=wB.heap.size)(hβ:C<=β)(h0:∀g,pv0.ownBlock=some g->C<=g):Below C w wi:=
 hb.trans ⟨h.os,h.tape,h.output,h.size,λb hl=>h.blk b (by omega) (by omega) (λe=>by have:=h0 b e.symm;omega)⟩
theorem UD.ru(h:UD B β d wB pv0 wi pv rs):Qc wi (λb=>B<=b/\VN wi b) pv rs:=
 (h.own.monoR λ_ _ _ ⟨v,h1,h2⟩=>⟨v,h1,h2.keep (λ_ hb _=>⟨hb.1,hb.2.2⟩) (λ_ _ _=>rfl) Znl⟩).typedSl QhE
theorem QfT{w:World}{B C:Nat}{v pv:Value}{cs:List TCond}{E:TypeId}{n:Nat}{cells:List Value}(h:Qg w C 153 3 Ve v cs)(hB:B<=C)(ho:w.ownsRow B E 2 pv n cells)(hE:E≠153):QF w (Qiz w B pv) v cs:=by
 have hs:QF w (λb=>C<=b/\VN w b) v cs:=h.typedSl Qg8;by_cases h0:0<cs.length
 .obtain⟨a,c,rfl⟩:=h.slice;obtain⟨b,rfl,hb,hlt,cur,hcur⟩:=h.addr h0;have hs2:=hs;obtain⟨a',c',hv,hl,hm,hn,hat⟩:=hs2;refine⟨a',c',hv,hl,hm,hn,λh1=>?_⟩;obtain⟨b',o,ha,hD,hlt',hr⟩:=hat h1;refine⟨b',o,ha,⟨Nat.le_trans hB hD.1,λe=>?_,hD.2⟩,hlt',hr⟩;injection hv with hv _ _;rw[ha]at hv;injection hv with hv;injection hv with hv _ _;subst hv;rcases ho.2 with⟨hp,_⟩|⟨g,cap,cur',hp,_,hh,_⟩
  .subst hp;simp[Value.ownBlock]at e
  subst hp;simp[Value.ownBlock]at e;subst e;rw[hcur]at hh;injection hh with hh;injection hh with _ hh _;exact hE hh.symm
 obtain⟨a',c',hv,hl,hm,hn,hat⟩:=hs;exact⟨a',c',hv,hl,hm,hn,λh1=>absurd h1 h0⟩
theorem UD.step{w0:World}{pv' cv:Value}{cs:List TCond}{vd:Int}{rows:List (List Value)}{ia is:Nat}{dn:Nat->Bool}{cells:List Value}(h:UD B β d wB pv0 wi pv rs)(hb:Below wi.heap.size wi w0)(hβ:β<B)(hB:B<=w0.heap.size)
  (hI:I4 w0 β 38 #[pv,d] B 147 2 pv rs.length cells ia is dn W) (hro:Qq 2 (VP wi (Qiz wi B pv)) rs rows)
  (hrow:W.ownsRow B 147 2 pv' (rs.length+1) (rows.flatten++[cv,.int .i64 vd])) (hat:pv'.ownBlock=pv.ownBlock\/∀g,pv'.ownBlock=some g->w0.heap.size<=g)
  (hbox:W.heap[β]?=some (.cells (#[pv,d].setIfInBounds 0 pv') 38)) (hcv:Qg W w0.heap.size 153 3 Ve cv cs) (hT:147≠153):UD B β d wB pv0 W pv' (rs++[⟨cs,vd⟩]) where
 os:=hI.os.trans (hb.os.trans h.os)
 tape:=hI.tape.trans (hb.tape.trans h.tape)
 output:=hI.output.trans (hb.output.trans h.output)
 size:=Nat.le_trans (Nat.le_trans h.size hb.size) hI.size
 blk:=λb hl hn ho=>by
  have h1:b<wi.heap.size:=Nat.lt_of_lt_of_le hl h.size
  rw[hI.blk b (Nat.lt_of_lt_of_le h1 hb.size) hn (λe=>by
   rcases h.hob with e'|e'
   .exact ho (e.trans e')
   have:=e' b e.symm;omega),hb.block b h1]
  exact h.blk b hl hn ho
 box:=by simpa using hbox
 own:=by
  refine Qg.app1 (rows:=rows) (r:=[cv,.int .i64 vd]) (hro.mono λx _ c hx=>?_) ⟨cv,rfl,QfT hcv hB hrow hT⟩ rfl hrow rfl;obtain⟨v,e1,e2⟩:=hx
  have hsame:∀b,Qiz wi B pv b->b<wi.heap.size->W.heap[b]?=wi.heap[b]?:=λb hb' hlt=>by
   rw[hI.blk b (Nat.lt_of_lt_of_le hlt hb.size) (by have:=hb'.1;omega) (λe=>hb'.2.1 e.symm)];exact hb.block b hlt
  exact⟨v,e1,e2.keep (λb hb' hlt=>⟨hb'.1,λe=>by
   rcases hat with h'|h'
   .exact hb'.2.1 (h'.symm.trans e)
   have:=h' b e;have:=hb.size;omega,hb'.2.2.keep (hsame b hb' hlt)⟩) hsame (Nat.le_trans hb.size hI.size)⟩
 hob:=by
  have hs:=h.size;have hs':=hb.size;rcases hat with e|e
  .rcases h.hob with e'|e'
   .exact .inl (e.trans e')
   exact .inr λg hg=>e' g (e.symm.trans hg)
  exact .inr λg hg=>by have:=e g hg;omega
end
theorem QhH{w W:World}{B β:Nat}{D:Nat->Prop}{v:Value}{l:List TRule}(h:Qg W B 147 2 (VP w D) v l)(hb:Below w.heap.size w W)(h1:β<B)(h2:∀b,D b->b≠β):Qc W (λb=>b≠β) v l:=
 (h.monoR λ_ _ _ ⟨u,e1,e2⟩=>⟨u,e1,e2.keep (λb hd _=>h2 b hd) (λb _ hlt=>hb.block b hlt) hb.size⟩).sl λb hb'=>by omega
theorem Og{w:World}{v:Value}{l:List TRule}(h:Qc w (λ_=>True) v l):Qc w (λb=>b<w.heap.size) v l:=h.keep (λ_ _ hlt=>hlt) (λ_ _ _=>rfl) Znl
end
end Go.Proofs.YthkgjohhbdipcaaGreatDoor
