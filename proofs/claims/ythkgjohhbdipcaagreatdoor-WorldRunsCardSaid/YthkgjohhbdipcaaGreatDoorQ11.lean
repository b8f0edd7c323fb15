/- Texts laid one behind the other: TPrint, NoteCheck, NoteSpec, RegB. No condition beyond theirs. -/
import Derived.Test.YthkgjohhbdipcaaGreatDoorQ10
import Derived.Test.YthkgjohhbdipcaaGreatDoorQ4
import Derived.Test.YthkgjohhbdipcaaGreatDoorQ8
import Derived.Test.YthkgjohhbdipcaaGreatDoorQ7
import Derived.Test.YthkgjohhbdipcaaGreatDoorQ3
import Derived.Test.YthkgjohhbdipcaaGreatDoorQ5
set_option linter.all false
set_option maxHeartbeats 64000000
set_option maxRecDepth 100000
namespace Go.Proofs.YthkgjohhbdipcaaGreatDoor
open Tryz
section
open Go.RowKit Go.Shelf
attribute [local go_sem] gives QG
attribute [-go_sem] run_string_add_if run_slice_string_if run_slice_string
@[reducible] def Vt:Array Value:=#[Value.string (bsL [107,105,108,108]),.string (bsL [116,114,97,112]),.string (bsL [102,97,105,108]),.string (bsL [108,111,103]),.string (bsL [97,108,108,111,119])]
@[reducible] def ZA:Array Value:=#[Value.string (bsL [110,114]),.string (bsL [107,105,110,100]),.string (bsL [97]),.string (bsL [98]),.string (bsL [99])]
@[reducible] def Qcv:Array Value:=#[Value.string (bsL []),.string (bsL [61]),.string (bsL [33]),.string (bsL [60]),.string (bsL [62])]
theorem Qin{v:Int}(h0:1<=v)(h1:v<=4):Qcv[v.toNat]?=some (.string (bsL [opW v])):=by
 rcases(by omega:v=1\/v=2\/v=3\/v=4)with rfl|rfl|rfl|rfl<;>rfl
theorem Y0(w:World):Calls prog 103 #[] w λe w'=>e=.returned (.slice (some ⟨w.heap.size,0,none⟩) 5 5)/\w'=w.alloc (.cells Vt 9):=by
 go_enter func103,ntmps103;go_wp2;go_ret;exact⟨rfl,rfl⟩
theorem Qas(w:World):Calls prog 104 #[] w λe w'=>e=.returned (.slice (some ⟨w.heap.size,0,none⟩) 5 5)/\w'=w.alloc (.cells ZA 9):=by
 go_enter func104,ntmps104;go_wp2;go_ret;exact⟨rfl,rfl⟩
theorem Qgq(w:World):Calls prog 105 #[] w λe w'=>e=.returned (.slice (some ⟨w.heap.size,0,none⟩) 5 5)/\w'=w.alloc (.cells Qcv 9):=by
 go_enter func105,ntmps105;go_wp2;go_ret;exact⟨rfl,rfl⟩
def QaY(p:TPol):List UInt8×Int:=if UZ p=0 then(Vo p,0)else([],UZ p)
theorem QiG(w:World):Bd w.heap.size w.heap.size [] (w.alloc (.cells #[.pointer none,.slice none 0 0] 144)):=
 .inl ⟨Nat.le_refl _,_,Qh _ _,⟨by simp[Lib.byteCells],.inl ⟨rfl,rfl⟩⟩,by simp[Value.ownBlock]⟩
theorem Vd(l:List UInt8):(bsL l).data.toList=l:=rfl
theorem Qa8(v:Value)(p:TPol)(D:Nat->Prop)(w:World)(h:Qc w D v p.ru)(hL:Laid w):
  Calls prog 66 #[U8 v p.df] w λe w'=>e=.returned (.tuple #[.string (bsL (QaY p).1),.int .i64 (QaY p).2])/\Below w.heap.size w w':=by
 have H:=Zh (Qc.keep h (D':=λb=>b<w.heap.size) (λ_ _ hl=>hl) (λ_ _ _=>rfl) Znl);have HL:=Zh hL;obtain⟨a,c,rfl,hlc,hcm,hat⟩:=Sl.form H.o;clear h hL;go_enter func66,ntmps66;go_wp2_with fail
 have HB:=Zh (Bx.one (w:=w) (o:=.cells #[.slice a p.ru.length c,.int .i64 p.df] 38));refine(UO _ p _ _ (Qc.below H.o HB.o.bel)).mono ?_;rintro e w1⟨rfl,hb1⟩;replace HB:=Zh (HB.o.below hb1);clear hb1;by_cases h0:UZ p=0
 .have HE:Hid (QaY p=(Vo p,0)):=if_pos h0;have Hok:=Zh ((UN p).1 h0);have H1:=Zh (Qc.below H.o HB.o.bel);have HL1:=Zh (HL.o.below HB.o.bel);rw[h0];clear h0;have Hbd0:=Zh (QiG w1);have Hb0:Hid (Below w1.heap.size w1 (w1.alloc (.cells #[.pointer none,.slice none 0 0] 144))):=Qa Zbr _;have hsz1:w.heap.size+1<=w1.heap.size:=HB.o.top;have hc0:=(HB.o.below Hb0.o).cells0;go_wp2_with fail
  clear hc0;revert Hbd0 Hb0;generalize(w1.alloc (.cells #[.pointer none,.slice none 0 0] 144))=w2;intro Hbd0 Hb0
  go_loopw[18](λkv wr=>∃k:Nat,kv=.int .i64 k/\k<=p.ru.length/\Bd w1.heap.size w1.heap.size (IC (p.ru.take k)) wr/\Below w1.heap.size w1 wr) (λkv _=>p.ru.length-(intOf kv).toNat)
  case atStart=>exact⟨0,rfl,by omega,Hbd0.o,Hb0.o⟩
  case round=>
   obtain⟨k,rfl,hk,hbd,hb⟩:=hrel;obtain⟨wo,rfl⟩:∃wo:World,wo=wr:=⟨_,rfl⟩;have Hbase:=Zh hbd;have Hb:=Zh hb;have hszr:=hb.size;clear hbd hb Hbd0 Hb0;have HBr:=Zh (HB.o.below Hb.o);obtain⟨t,ht⟩:∃t,t=IC (p.ru.take k):=⟨_,rfl⟩
   have htl:t.length<=33600:=by
    rw[ht];have:=Jb (p.ru.take k) (λx hx=>Hok.o.ru x (List.mem_of_mem_take hx));rw[List.length_take]at this;have:=Hok.o.len;omega
   rw[<-ht]at Hbase;have Ht:=Zh ht;clear ht;by_cases hlt:k<p.ru.length
   .obtain⟨b,o,rfl,_,_⟩:=hat (by omega);obtain⟨ca,cc,hc0w,hc1w,hrd,_,_,hcat⟩:=Qc.cells (Qc.below H1.o Hb.o) hlt;have Hkr:=Zh (Hok.o.ru p.ru[k] (List.getElem_mem hlt));have Htk:=Zh (Qay hlt);obtain⟨r,hr⟩:∃r,p.ru[k]=r:=⟨_,rfl⟩;rw[hr]at hc0w hc1w hrd hcat Hkr Htk;have Hrd:=Zh hrd;have hcl10:=Hkr.o.len;have hv0:=Hkr.o.v0;have hv1:=Hkr.o.v1;have hv5:r.vd<5:=by omega
    have hvl:=XC r.vd;clear hrd hr;go_wp2_with fail
    clear hc0w hc1w;obtain⟨w3,hw3⟩:∃w3,wo.alloc (.cells #[.slice ca r.cd.length cc,.int .i64 r.vd] 147)=w3:=⟨_,rfl⟩;have Hbb:Hid (Below wo.heap.size wo w3):=by show Below _ _ _;rw[<-hw3];exact Qa Zbr _
    have Hrb:Hid (w3.heap[wo.heap.size]?=some (.cells #[.slice ca r.cd.length cc,.int .i64 r.vd] 147)):=by show _=_;rw[<-hw3];exact Qh _ _
    have HBB:Hid (wo.heap.size<=w3.heap.size):=Hbb.o.size;have Hbd:=Zh (Hbase.o.below Hbb.o);rw[hw3];clear hw3;refine Un 5 wo.heap.size [pr (Qah wo.heap.size 9 Vt 5),ex (.pointer (some ⟨wo.heap.size,1,none⟩)),ex (.int .i64 r.vd),pr (VAt wo.heap.size 9 Vt (r.vd).toNat),ex (.string (bsL (QO r.vd))),ex (.tuple #[.int .i64 ((bsL (QO r.vd)).size:Int),.nilIface])] (λW=>Bd w1.heap.size w1.heap.size (t++QO r.vd) W/\Below w1.heap.size w1 W/\W.heap[wo.heap.size]?=some (.cells #[.slice ca r.cd.length cc,.int .i64 r.vd] 147)/\wo.heap.size<=W.heap.size) (by kernel_rfl) (by kernel_rfl) ⟨.inr ⟨_,rfl,Qah.stable⟩,.inl ⟨_,rfl⟩,.inl ⟨_,rfl⟩,.inr ⟨_,rfl,VAt.stable⟩,.inl ⟨_,rfl⟩,.inl ⟨_,rfl⟩,trivial⟩ _ rfl ?_
    (refine QR λK hK=>⟨λdn W hI h0 hd hn hf R hR=>?_,λv0=>?_⟩;(have hno:dn 5=false:=hn 5 (by decide);have hC:=hI.before hno;have HC:=Zh hC;clear hC;clear h0 hd hn hf;go_simp;go_at_call 103;refine(Y0 W).mono ?_;rintro e w9 ⟨rfl,rfl⟩;exact⟨_,rfl,hR _ _ (hI.step hno (by decide) (Qa Zbr _)) (Qn.of_below (Qa Zbr _)) ⟨_,rfl,Nat.le_trans HBB.o HC.o.1,Qh _ _⟩⟩);(go_simp;refine hK _ _ ?_;clear hK K))
    iterate 2 (refine Qj λK hK=>⟨λdn W hI h0 hd hn hf R hR=>?_,?_⟩;(first|(have hno:dn 5=false:=hn 5 (by decide);have hC:=hI.before hno;clear h0 hd hn hf;go_simp;exact hR _ _ (hI.step hno (by decide) Zbr) (Qn.of_below Zbr) rfl)|(have hno:dn 5=false:=hn 5 (by decide);have hC:=hI.before hno;have hcell:=Qb (Qd Hrb.o hC.2);clear hC;clear h0 hd hn hf;go_simp;exact hR _ _ (hI.step hno (by decide) Zbr) (Qn.of_below Zbr) rfl));(go_simp;refine hK _ ?_;clear hK K))
    (refine QR λK hK=>⟨λdn W hI h0 hd hn hf R hR=>?_,λv3=>?_⟩;(have hno:dn 5=false:=hn 5 (by decide);have hC:=hI.before hno;have hv:Qah wo.heap.size 9 Vt 5 v0 W:=hf 0 (by decide);obtain⟨b0,rfl,hb0,hc0⟩:=hv;have Hc0:=Zh hc0;clear hc0 hC;clear h0 hd hn hf;go_simp;exact hR _ _ (hI.step hno (by decide) Zbr) (Qn.of_below Zbr) ⟨b0,rfl,hb0,Hc0.o⟩);(go_simp;refine hK _ _ ?_;clear hK K))
    iterate 2 (refine Qj λK hK=>⟨λdn W hI h0 hd hn hf R hR=>?_,?_⟩;(first|(have hno:dn 5=false:=hn 5 (by decide);have hC:=hI.before hno;have hv:VAt wo.heap.size 9 Vt (r.vd).toNat v3 W:=hf 3 (by decide);obtain⟨b0,rfl,hb0,hc0⟩:=hv;have hcell:=(Qb hc0 _).trans (YZ hv0 hv1);clear hc0 hC;clear h0 hd hn hf;go_simp;exact hR _ _ (hI.step hno (by decide) Zbr) (Qn.of_below Zbr) rfl)|(have hno:dn 5=false:=h0;have hC:=hI.before hno;have HC:=Zh hC;clear hC;clear h0 hd hn hf;go_simp;go_at_call 102;refine(Jo w1.heap.size w1.heap.size t (bsL (QO r.vd)) W (Hbd.o.below HC.o.2) (by show _+((QO r.vd)).toArray.size<=_;simp;omega) (by have:=Hbd.o.lt;have:=HC.o.1;omega)).mono ?_;rintro e w9 ⟨rfl,h1,h2,h3⟩;exact⟨_,rfl,hR _ _ (V8.at_ ⟨h1,(Hb.o.trans ((Hbb.o.trans (HC.o.2.mono HBB.o)).mono hszr)).trans h2,((Hbase.o.keep (Hbb.o.trans (HC.o.2.mono HBB.o)) h3 h2.size).2 _ Znl (by have h4:=(Array.getElem?_eq_some_iff.1 Hrb.o).1;have h5:=HC.o.1;omega)).trans (Qd Hrb.o HC.o.2),by have h4:=HC.o.1;have h5:=HBB.o;have h6:=h2.size;omega⟩) (Hbase.o.keep (Hbb.o.trans (HC.o.2.mono HBB.o)) h3 h2.size) rfl⟩));(go_simp;refine hK _ ?_;clear hK K))
    intro dn w4 hd hI _;obtain⟨hbd4,hb4,hrb4,hsz4⟩:=hI.after (hd 5 (by decide));clear hd hI;have Hbd4:=Zh hbd4;have Hb4:=Zh hb4;have hcr:=Qb hrb4;have Hrd4:Hid (QF w4 (λb=>b<w.heap.size) (.slice ca r.cd.length cc) r.cd):=Hrd.o.keep (λ_ h _=>h) (λb hb _=>by have h1:b<w.heap.size:=hb;rw[Hb4.o.block b (by omega),Hb.o.block b (by omega)]) hsz4;clear hbd4 hb4 hrb4 Hbd Hbb Hrb HBB;go_wp2_with fail
    clear hcr
    go_loopw[31](λjv wi=>∃j:Nat,jv=.int .i64 j/\j<=r.cd.length/\Bd w1.heap.size w1.heap.size ((t++QO r.vd)++Z9 (r.cd.take j)) wi/\Below w1.heap.size w1 wi/\w4.heap.size<=wi.heap.size) (λjv _=>r.cd.length-(intOf jv).toNat)
    case atStart=>exact⟨0,rfl,by omega,by simpa[Z9]using Hbd4.o,Hb4.o,Nat.le_refl _⟩
    case round=>
     obtain⟨j,rfl,hj,hbd,hbi,hszi⟩:=hrel;obtain⟨wi,rfl⟩:∃wi:World,wi=wr:=⟨_,rfl⟩
     have hul:((t++QO r.vd)++Z9 (r.cd.take j)).length<=34000:=by
      have h1:=Ja (r.cd.take j) (λx hx=>Hkr.o.cd x (List.mem_of_mem_take hx));rw[List.length_take]at h1;have h2:=Hkr.o.len;simp only[List.length_append];omega
     obtain⟨u,hu⟩:∃u,u=(t++QO r.vd)++Z9 (r.cd.take j):=⟨_,rfl⟩;rw[<-hu]at hbd hul;clear Hbase;have Hbase:=Zh hbd;have Hbi:=Zh hbi;have Hu:=Zh hu;have hszb:=hbi.size;clear hbd hbi hu;by_cases hjl:j<r.cd.length
     .obtain⟨b2,o2,rfl,_,_⟩:=hcat (by omega);have Hrdi:QF wi (λb=>b<w.heap.size) (.slice (some ⟨b2,o2,none⟩) r.cd.length cc) r.cd:=Hrd4.o.keep (λ_ h _=>h) (λb hb _=>by have h1:b<w.heap.size:=hb;rw[Hbi.o.block b (by omega),Hb4.o.block b (by omega)]) hszi;obtain⟨hd0,hd1,hd2⟩:=QF.cells Hrdi hjl;have Hoc:=Zh (Hkr.o.cd r.cd[j] (List.getElem_mem hjl));have Hcj:=Zh (Qax hjl);obtain⟨⟨cf,cop,cv⟩,hcj⟩:∃y:TCond,r.cd[j]=y:=⟨_,rfl⟩;rw[hcj]at hd0 hd1 hd2 Hoc Hcj;obtain⟨hf0,hf1,ho0,ho1,hcv0,hcv1⟩:=(show(0<=cf/\cf<=4/\1<=cop/\cop<=4/\0<=cv/\cv<=65535)from⟨Hoc.o.f0,by have h:cf<5:=Hoc.o.f1;omega,Hoc.o.o0,Hoc.o.o1,Hoc.o.v0,by have h1:=Hoc.o.v1;have:QY cf<=65535:=(by unfold QY;split<;>(try split)<;>omega);exact Int.le_trans h1 this⟩);have hf5:cf<5:=by omega
      have ho5:cop<5:=by omega
      have hoz:0<=cop:=by omega
      have hfl:=OC cf;have hil:=Lib.itoa_length_le cv (by omega) (by omega);obtain⟨s1,hs1⟩:∃s1,32::Xo cf=s1:=⟨_,rfl⟩;obtain⟨s2,hs2⟩:∃s2,s1++[opW cop]=s2:=⟨_,rfl⟩;obtain⟨s3,hs3⟩:∃s3,s2++Lib.itoa cv=s3:=⟨_,rfl⟩;have hl1:s1.length<=5:=by rw[<-hs1];simp;omega
      have hl2:s2.length<=6:=by rw[<-hs2];simp;omega
      have hl3:s3.length<=27:=by rw[<-hs3];simp;omega
      have hb1:∀W:World,(Op.stringOp .add ⟨#[32]⟩ (bsL (Xo cf))).run prog W=.ok (.string (bsL s1)) W:=λW=>by rw[<-hs1];exact Xg [32] (Xo cf) (by simp;omega) W
      have hb2:∀W:World,(Op.stringOp .add (bsL s1) (bsL [opW cop])).run prog W=.ok (.string (bsL s2)) W:=λW=>by rw[<-hs2];exact Xg s1 [opW cop] (by simp;omega) W
      have hb3:∀W:World,(Op.stringOp .add (bsL s2) (bsL (Lib.itoa cv))).run prog W=.ok (.string (bsL s3)) W:=λW=>by rw[<-hs3];exact Xg s2 (Lib.itoa cv) (by omega) W
      have HF:Hid (u++s3=(t++QO r.vd)++Z9 (r.cd.take (j+1))):=by
       show _=_;rw[Hcj.o,<-hs3,<-hs2,<-hs1,Hu.o];unfold condW;simp
      clear hs1 hs2 hs3 hl1 hl2 hcj;go_wp2_with fail
      clear hd0 hd1 hd2;obtain⟨w5,hw5⟩:∃w5,wi.alloc (.cells #[.int .i64 cf,.int .i64 cop,.int .i64 cv] 153)=w5:=⟨_,rfl⟩;have Hbb:Hid (Below wi.heap.size wi w5):=by show Below _ _ _;rw[<-hw5];exact Qa Zbr _
      have Hrb:Hid (w5.heap[wi.heap.size]?=some (.cells #[.int .i64 cf,.int .i64 cop,.int .i64 cv] 153)):=by show _=_;rw[<-hw5];exact Qh _ _
      have HBB:Hid (wi.heap.size<=w5.heap.size):=Hbb.o.size;have Hbd:=Zh (Hbase.o.below Hbb.o);have HLi:=Zh (HL1.o.below (Hbi.o.trans (Hbb.o.mono hszb)));rw[hw5];clear hw5;refine Un 16 wi.heap.size [pr (Qah wi.heap.size 9 ZA 5),ex (.pointer (some ⟨wi.heap.size,0,none⟩)),ex (.int .i64 cf),pr (VAt wi.heap.size 9 ZA cf.toNat),ex (.string (bsL (Xo cf))),ex (.string (bsL s1)),pr (Qah wi.heap.size 9 Qcv 5),ex (.pointer (some ⟨wi.heap.size,1,none⟩)),ex (.int .i64 cop),pr (VAt wi.heap.size 9 Qcv cop.toNat),ex (.string (bsL [opW cop])),ex (.string (bsL s2)),ex (.pointer (some ⟨wi.heap.size,2,none⟩)),ex (.int .i64 cv),ex (.string (bsL (Lib.itoa cv))),ex (.string (bsL s3)),ex (.tuple #[.int .i64 ((bsL s3).size:Int),.nilIface])] (λW=>Bd w1.heap.size w1.heap.size (u++s3) W/\Below w1.heap.size w1 W/\wi.heap.size<=W.heap.size) (by kernel_rfl) (by kernel_rfl) ⟨.inr ⟨_,rfl,Qah.stable⟩,.inl ⟨_,rfl⟩,.inl ⟨_,rfl⟩,.inr ⟨_,rfl,VAt.stable⟩,.inl ⟨_,rfl⟩,.inl ⟨_,rfl⟩,.inr ⟨_,rfl,Qah.stable⟩,.inl ⟨_,rfl⟩,.inl ⟨_,rfl⟩,.inr ⟨_,rfl,VAt.stable⟩,.inl ⟨_,rfl⟩,.inl ⟨_,rfl⟩,.inl ⟨_,rfl⟩,.inl ⟨_,rfl⟩,.inl ⟨_,rfl⟩,.inl ⟨_,rfl⟩,.inl ⟨_,rfl⟩,trivial⟩ _ rfl ?_
      (refine QR λK hK=>⟨λdn W hI h0 hd hn hf R hR=>?_,λv0=>?_⟩;(have hno:dn 16=false:=hn 16 (by decide);have hC:=hI.before hno;have HC:=Zh hC;clear hC;clear h0 hd hn hf;go_simp;go_at_call 104;refine(Qas W).mono ?_;rintro e w9 ⟨rfl,rfl⟩;exact⟨_,rfl,hR _ _ (hI.step hno (by decide) (Qa Zbr _)) (Qn.of_below (Qa Zbr _)) ⟨_,rfl,Nat.le_trans HBB.o HC.o.1,Qh _ _⟩⟩);(go_simp;refine hK _ _ ?_;clear hK K))
      iterate 2 (refine Qj λK hK=>⟨λdn W hI h0 hd hn hf R hR=>?_,?_⟩;(first|(have hno:dn 16=false:=hn 16 (by decide);have hC:=hI.before hno;clear h0 hd hn hf;go_simp;exact hR _ _ (hI.step hno (by decide) Zbr) (Qn.of_below Zbr) rfl)|(have hno:dn 16=false:=hn 16 (by decide);have hC:=hI.before hno;have hcell:=Qb (Qd Hrb.o hC.2);clear hC;clear h0 hd hn hf;go_simp;exact hR _ _ (hI.step hno (by decide) Zbr) (Qn.of_below Zbr) rfl));(go_simp;refine hK _ ?_;clear hK K))
      (refine QR λK hK=>⟨λdn W hI h0 hd hn hf R hR=>?_,λv3=>?_⟩;(have hno:dn 16=false:=hn 16 (by decide);have hC:=hI.before hno;have hv:Qah wi.heap.size 9 ZA 5 v0 W:=hf 0 (by decide);obtain⟨b0,rfl,hb0,hc0⟩:=hv;have Hc0:=Zh hc0;clear hc0 hC;clear h0 hd hn hf;go_simp;exact hR _ _ (hI.step hno (by decide) Zbr) (Qn.of_below Zbr) ⟨b0,rfl,hb0,Hc0.o⟩);(go_simp;refine hK _ _ ?_;clear hK K))
      iterate 2 (refine Qj λK hK=>⟨λdn W hI h0 hd hn hf R hR=>?_,?_⟩;(first|(have hno:dn 16=false:=hn 16 (by decide);have hC:=hI.before hno;clear h0 hd hn hf;go_simp;exact hR _ _ (hI.step hno (by decide) Zbr) (Qn.of_below Zbr) rfl)|(have hno:dn 16=false:=hn 16 (by decide);have hC:=hI.before hno;have hv:VAt wi.heap.size 9 ZA cf.toNat v3 W:=hf 3 (by decide);obtain⟨b0,rfl,hb0,hc0⟩:=hv;have hcell:=(Qb hc0 _).trans (Qar hf0 hf1);clear hc0 hC;clear h0 hd hn hf;go_simp;exact hR _ _ (hI.step hno (by decide) Zbr) (Qn.of_below Zbr) rfl));(go_simp;refine hK _ ?_;clear hK K))
      (refine QR λK hK=>⟨λdn W hI h0 hd hn hf R hR=>?_,λv6=>?_⟩;(have hno:dn 16=false:=hn 16 (by decide);have hC:=hI.before hno;have HC:=Zh hC;clear hC;clear h0 hd hn hf;go_simp;go_at_call 105;refine(Qgq W).mono ?_;rintro e w9 ⟨rfl,rfl⟩;exact⟨_,rfl,hR _ _ (hI.step hno (by decide) (Qa Zbr _)) (Qn.of_below (Qa Zbr _)) ⟨_,rfl,Nat.le_trans HBB.o HC.o.1,Qh _ _⟩⟩);(go_simp;refine hK _ _ ?_;clear hK K))
      iterate 2 (refine Qj λK hK=>⟨λdn W hI h0 hd hn hf R hR=>?_,?_⟩;(first|(have hno:dn 16=false:=hn 16 (by decide);have hC:=hI.before hno;clear h0 hd hn hf;go_simp;exact hR _ _ (hI.step hno (by decide) Zbr) (Qn.of_below Zbr) rfl)|(have hno:dn 16=false:=hn 16 (by decide);have hC:=hI.before hno;have hcell:=Qb (Qd Hrb.o hC.2);clear hC;clear h0 hd hn hf;go_simp;exact hR _ _ (hI.step hno (by decide) Zbr) (Qn.of_below Zbr) rfl));(go_simp;refine hK _ ?_;clear hK K))
      (refine QR λK hK=>⟨λdn W hI h0 hd hn hf R hR=>?_,λv9=>?_⟩;(have hno:dn 16=false:=hn 16 (by decide);have hC:=hI.before hno;have hv:Qah wi.heap.size 9 Qcv 5 v6 W:=hf 6 (by decide);obtain⟨b0,rfl,hb0,hc0⟩:=hv;have Hc0:=Zh hc0;clear hc0 hC;clear h0 hd hn hf;go_simp;exact hR _ _ (hI.step hno (by decide) Zbr) (Qn.of_below Zbr) ⟨b0,rfl,hb0,Hc0.o⟩);(go_simp;refine hK _ _ ?_;clear hK K))
      iterate 7 (refine Qj λK hK=>⟨λdn W hI h0 hd hn hf R hR=>?_,?_⟩;(first|(have hno:dn 16=false:=hn 16 (by decide);have hC:=hI.before hno;clear h0 hd hn hf;go_simp;exact hR _ _ (hI.step hno (by decide) Zbr) (Qn.of_below Zbr) rfl)|(have hno:dn 16=false:=hn 16 (by decide);have hC:=hI.before hno;have hcell:=Qb (Qd Hrb.o hC.2);clear hC;clear h0 hd hn hf;go_simp;exact hR _ _ (hI.step hno (by decide) Zbr) (Qn.of_below Zbr) rfl)|(have hno:dn 16=false:=hn 16 (by decide);have hC:=hI.before hno;have hLW:=HLi.o.below hC.2;have HC:=Zh hC;clear hC;clear h0 hd hn hf;go_simp;go_at_call 65;refine(X8 cv (by omega) (by omega) _ hLW).mono ?_;rintro e w9 ⟨rfl,hb9⟩;exact⟨_,rfl,hR _ _ (hI.step hno (by decide) hb9) (Qn.of_below hb9) rfl⟩)|(have hno:dn 16=false:=hn 16 (by decide);have hC:=hI.before hno;have hv:VAt wi.heap.size 9 Qcv cop.toNat v9 W:=hf 9 (by decide);obtain⟨b0,rfl,hb0,hc0⟩:=hv;have hcell:=(Qb hc0 _).trans (Qin ho0 ho1);clear hc0 hC;clear h0 hd hn hf;go_simp;exact hR _ _ (hI.step hno (by decide) Zbr) (Qn.of_below Zbr) rfl)|(have hno:dn 16=false:=h0;have hC:=hI.before hno;have HC:=Zh hC;clear hC;clear h0 hd hn hf;go_simp;go_at_call 102;refine(Jo w1.heap.size w1.heap.size u (bsL s3) W (Hbd.o.below HC.o.2) (by show _+(s3).toArray.size<=_;simp;omega) (by have:=Hbd.o.lt;have:=HC.o.1;omega)).mono ?_;rintro e w9 ⟨rfl,h1,h2,h3⟩;exact⟨_,rfl,hR _ _ (V8.at_ ⟨h1,(Hbi.o.trans ((Hbb.o.trans (HC.o.2.mono HBB.o)).mono hszb)).trans h2,by have h4:=HC.o.1;have h5:=HBB.o;have h6:=h2.size;omega⟩) (Hbase.o.keep (Hbb.o.trans (HC.o.2.mono HBB.o)) h3 h2.size) rfl⟩));(go_simp;refine hK _ ?_;clear hK K))
      intro dn w6 hd hI _;obtain⟨hbd6,hb6,hsz6⟩:=hI.after (hd 16 (by decide));clear hd hI;have Hbd6:=Zh hbd6;have Hb6:=Zh hb6;clear hbd6 hb6 hb1 hb2 hb3;go_wp2
      go_roundw
      case rel=>first|exact⟨j+1,by go_num,by omega,by rw[<-HF.o];exact Hbd6.o,Hb6.o,by omega⟩|((repeat apply Exists.intro);exact⟨⟨j+1,by go_num,by omega,by rw[<-HF.o];exact Hbd6.o,Hb6.o,by omega⟩,rfl⟩)
      case measure=>simp[intOf];omega
     obtain rfl:j=r.cd.length:=by omega
     have HF:Hid (u++(bsL [59]).data.toList=IC (p.ru.take (k+1))):=by
      show _=_;rw[Htk.o,Hu.o,List.take_length,Ht.o,Vd];unfold ZW Z9;simp
     go_wp2_with(go_at_call 102;refine(Jo w1.heap.size w1.heap.size u (bsL [59]) _ Hbase.o (by show _+1<=_;omega) (by omega)).mono ?_;rintro e w9 ⟨rfl,h1,h2,_⟩;have H9:=Zh h1;have Hb9:=Zh (Hbi.o.trans h2);clear h1 h2)
     go_roundw
     case rel=>first|exact⟨k+1,by go_num,by omega,by rw[<-HF.o];exact H9.o,Hb9.o⟩|((repeat apply Exists.intro);exact⟨⟨k+1,by go_num,by omega,by rw[<-HF.o];exact H9.o,Hb9.o⟩,rfl⟩)
     case measure=>simp[intOf];omega
   obtain rfl:k=p.ru.length:=by omega
   have hd0:=Hok.o.d0;have hd1:=Hok.o.d1;have hd5:p.df<5:=by omega
   have hvl:=XC p.df;have Hbb:=Zh (Below.refl wo.heap.size wo);have HBB:Hid (wo.heap.size<=wo.heap.size):=Nat.le_refl _;have Hbd:=Zh Hbase.o;have Hrb:Hid (wo.heap[w.heap.size]?=some (.cells #[.slice a p.ru.length c,.int .i64 p.df] 38)):=HBr.o.at_ 0 _ rfl;go_wp2_with fail
   refine Un 5 wo.heap.size [pr (Qah wo.heap.size 9 Vt 5),ex (.pointer (some ⟨w.heap.size,1,none⟩)),ex (.int .i64 p.df),pr (VAt wo.heap.size 9 Vt (p.df).toNat),ex (.string (bsL (QO p.df))),ex (.tuple #[.int .i64 ((bsL (QO p.df)).size:Int),.nilIface])] (λW=>Bd w1.heap.size w1.heap.size (t++QO p.df) W/\Below w1.heap.size w1 W) (by kernel_rfl) (by kernel_rfl) ⟨.inr ⟨_,rfl,Qah.stable⟩,.inl ⟨_,rfl⟩,.inl ⟨_,rfl⟩,.inr ⟨_,rfl,VAt.stable⟩,.inl ⟨_,rfl⟩,.inl ⟨_,rfl⟩,trivial⟩ _ rfl ?_
   (refine QR λK hK=>⟨λdn W hI h0 hd hn hf R hR=>?_,λv0=>?_⟩;(have hno:dn 5=false:=hn 5 (by decide);have hC:=hI.before hno;have HC:=Zh hC;clear hC;clear h0 hd hn hf;go_simp;go_at_call 103;refine(Y0 W).mono ?_;rintro e w9 ⟨rfl,rfl⟩;exact⟨_,rfl,hR _ _ (hI.step hno (by decide) (Qa Zbr _)) (Qn.of_below (Qa Zbr _)) ⟨_,rfl,Nat.le_trans HBB.o HC.o.1,Qh _ _⟩⟩);(go_simp;refine hK _ _ ?_;clear hK K))
   iterate 2 (refine Qj λK hK=>⟨λdn W hI h0 hd hn hf R hR=>?_,?_⟩;(first|(have hno:dn 5=false:=hn 5 (by decide);have hC:=hI.before hno;clear h0 hd hn hf;go_simp;exact hR _ _ (hI.step hno (by decide) Zbr) (Qn.of_below Zbr) rfl)|(have hno:dn 5=false:=hn 5 (by decide);have hC:=hI.before hno;have hcell:=Qb (Qd Hrb.o hC.2);clear hC;clear h0 hd hn hf;go_simp;exact hR _ _ (hI.step hno (by decide) Zbr) (Qn.of_below Zbr) rfl));(go_simp;refine hK _ ?_;clear hK K))
   (refine QR λK hK=>⟨λdn W hI h0 hd hn hf R hR=>?_,λv3=>?_⟩;(have hno:dn 5=false:=hn 5 (by decide);have hC:=hI.before hno;have hv:Qah wo.heap.size 9 Vt 5 v0 W:=hf 0 (by decide);obtain⟨b0,rfl,hb0,hc0⟩:=hv;have Hc0:=Zh hc0;clear hc0 hC;clear h0 hd hn hf;go_simp;exact hR _ _ (hI.step hno (by decide) Zbr) (Qn.of_below Zbr) ⟨b0,rfl,hb0,Hc0.o⟩);(go_simp;refine hK _ _ ?_;clear hK K))
   iterate 2 (refine Qj λK hK=>⟨λdn W hI h0 hd hn hf R hR=>?_,?_⟩;(first|(have hno:dn 5=false:=hn 5 (by decide);have hC:=hI.before hno;have hv:VAt wo.heap.size 9 Vt (p.df).toNat v3 W:=hf 3 (by decide);obtain⟨b0,rfl,hb0,hc0⟩:=hv;have hcell:=(Qb hc0 _).trans (YZ hd0 hd1);clear hc0 hC;clear h0 hd hn hf;go_simp;exact hR _ _ (hI.step hno (by decide) Zbr) (Qn.of_below Zbr) rfl)|(have hno:dn 5=false:=h0;have hC:=hI.before hno;have HC:=Zh hC;clear hC;clear h0 hd hn hf;go_simp;go_at_call 102;refine(Jo w1.heap.size w1.heap.size t (bsL (QO p.df)) W (Hbd.o.below HC.o.2) (by show _+((QO p.df)).toArray.size<=_;simp;omega) (by have:=Hbd.o.lt;have:=HC.o.1;omega)).mono ?_;rintro e w9 ⟨rfl,h1,h2,h3⟩;exact⟨_,rfl,hR _ _ (V8.at_ ⟨h1,(Hb.o.trans (HC.o.2.mono hszr)).trans h2⟩) (Hbase.o.keep (Hbb.o.trans (HC.o.2.mono HBB.o)) h3 h2.size) rfl⟩));(go_simp;refine hK _ ?_;clear hK K))
   intro dn w4 hd hI _;obtain⟨hbd4,hb4⟩:=hI.after (hd 5 (by decide));clear hd hI
   have HF:Hid (t++QO p.df=Vo p):=by
    show _=_;rw[Ht.o,List.take_length];rfl
   have hne:t++QO p.df≠[]:=by
    unfold QO
    repeat(split;· simp)
    simp
   have Hne:=Zh hne;have Hbd4:=Zh hbd4;have Hb4:=Zh hb4;clear hbd4 hb4 hne;go_wp2_with fail
   refine(Qdf w1.heap.size w1.heap.size _ _ Hbd4.o Hne.o).mono ?_;rintro e w5⟨rfl,hb5⟩;have HBf:=Zh (HB.o.bel.trans ((Hb4.o.trans hb5).mono HB.o.bel.size));clear hb5;go_wp2;go_ret2;exact⟨by rw[HE.o,<-HF.o];rfl,HBf.o⟩
 have HE:Hid (QaY p=([],UZ p)):=if_neg h0;have hne:(UZ p != 0)=true:=bne_iff_ne.2 h0;have HBf:=Zh HB.o.bel;generalize UZ p=E at *;clear h0;go_wp2;go_ret2;exact⟨by rw[HE.o];rfl,HBf.o⟩
end
section
open Go.RowKit
theorem Xb(v:Value)(r:TRec)(D:Nat->Prop)(w:World)(h:Qc w D v r.p.ru):
  Calls prog 29 #[Yg r v] w λe w'=>e=.returned (.int .i64 (UJ r))/\Below w.heap.size w w':=by
 obtain⟨kd,cl,fr,⟨rs,d⟩⟩:=r;dsimp only at h⊢;have H:=Zh h;obtain⟨a,c,rfl,hlc,hcm,hat⟩:=Sl.form h;clear h;by_cases k1:kd<1
 .have he:UJ ⟨kd,cl,fr,⟨rs,d⟩⟩=4:=by unfold UJ;dsimp only;rw[if_pos (Or.inl k1)]
  rw[he];clear he H hat;go_enter func29,ntmps29;go_wp2;go_ret;exact⟨rfl,Qa Zbr _⟩
 by_cases k2:4<kd
 .have he:UJ ⟨kd,cl,fr,⟨rs,d⟩⟩=4:=by unfold UJ;dsimp only;rw[if_pos (Or.inr k2)]
  rw[he];clear he H hat;go_enter func29,ntmps29;go_wp2;go_ret;exact⟨rfl,Qa Zbr _⟩
 by_cases c1:cl<0
 .have he:UJ ⟨kd,cl,fr,⟨rs,d⟩⟩=3:=by unfold UJ;dsimp only;rw[if_neg (by omega:¬(kd<1\/4<kd)),if_pos (by omega)]
  rw[he];clear he H hat;go_enter func29,ntmps29;go_wp2;go_ret;exact⟨rfl,Qa Zbr _⟩
 by_cases c2:4<=cl
 .have he:UJ ⟨kd,cl,fr,⟨rs,d⟩⟩=3:=by unfold UJ;dsimp only;rw[if_neg (by omega:¬(kd<1\/4<kd)),if_pos (by omega)]
  rw[he];clear he H hat;go_enter func29,ntmps29;go_wp2;go_ret;exact⟨rfl,Qa Zbr _⟩
 by_cases c3:fr<0
 .have he:UJ ⟨kd,cl,fr,⟨rs,d⟩⟩=3:=by unfold UJ;dsimp only;rw[if_neg (by omega:¬(kd<1\/4<kd)),if_pos (by omega)]
  rw[he];clear he H hat;go_enter func29,ntmps29;go_wp2;go_ret;exact⟨rfl,Qa Zbr _⟩
 by_cases c4:4<=fr
 .have he:UJ ⟨kd,cl,fr,⟨rs,d⟩⟩=3:=by unfold UJ;dsimp only;rw[if_neg (by omega:¬(kd<1\/4<kd)),if_pos (by omega)]
  rw[he];clear he H hat;go_enter func29,ntmps29;go_wp2;go_ret;exact⟨rfl,Qa Zbr _⟩
 by_cases k4:kd=3
 .subst k4;have k3:(2:Int)<3:=by decide
  by_cases d0:d=0
  .subst d0;rcases Nat.eq_zero_or_pos rs.length with r0|r0
   .obtain rfl:rs=[]:=List.length_eq_zero_iff.1 r0;have e1:([]:List TRule).length=0:=rfl;have he:UJ ⟨(3:Int),cl,fr,⟨[],0⟩⟩=0:=by unfold UJ;dsimp only;rw[if_neg (by omega:¬((3:Int)<1\/4<(3:Int))),if_neg (by omega:¬(cl<0\/4<=cl\/fr<0\/4<=fr)),if_neg (by simp[Y4];try omega),if_pos k3]
    rw[he];clear he H hat;go_enter func29,ntmps29;go_wp2;go_ret;exact⟨rfl,Qa Zbr _⟩
   have z0:rs≠[]:=λe=>by rw[e]at r0;simp at r0
   have z1:0<(rs.length:Int):=by omega
   clear r0;have he:UJ ⟨(3:Int),cl,fr,⟨rs,0⟩⟩=4:=by unfold UJ;dsimp only;rw[if_neg (by omega:¬((3:Int)<1\/4<(3:Int))),if_neg (by omega:¬(cl<0\/4<=cl\/fr<0\/4<=fr)),if_pos (Or.inr ⟨k3,λh=>z0 h.2⟩)]
   rw[he];clear he H hat;go_enter func29,ntmps29;go_wp2;go_ret;exact⟨rfl,Qa Zbr _⟩
  have z1:(d != 0)=true:=bne_iff_ne.2 d0;have he:UJ ⟨(3:Int),cl,fr,⟨rs,d⟩⟩=4:=by unfold UJ;dsimp only;rw[if_neg (by omega:¬((3:Int)<1\/4<(3:Int))),if_neg (by omega:¬(cl<0\/4<=cl\/fr<0\/4<=fr)),if_pos (Or.inr ⟨k3,λh=>d0 h.1⟩)]
  rw[he];clear he H hat;go_enter func29,ntmps29;go_wp2;go_ret;exact⟨rfl,Qa Zbr _⟩
 have k4':(kd != 3)=true:=bne_iff_ne.2 k4;by_cases f0:fr=0
 .subst f0;by_cases k3:2<kd
  .by_cases d0:d=0
   .subst d0;rcases Nat.eq_zero_or_pos rs.length with r0|r0
    .obtain rfl:rs=[]:=List.length_eq_zero_iff.1 r0;have e1:([]:List TRule).length=0:=rfl;have he:UJ ⟨kd,cl,(0:Int),⟨[],0⟩⟩=0:=by unfold UJ;dsimp only;rw[if_neg (by omega:¬(kd<1\/4<kd)),if_neg (by omega:¬(cl<0\/4<=cl\/(0:Int)<0\/4<=(0:Int))),if_neg (by simp[Y4];try omega),if_pos k3]
     rw[he];clear he H hat;go_enter func29,ntmps29;go_wp2;go_ret;exact⟨rfl,Qa Zbr _⟩
    have z0:rs≠[]:=λe=>by rw[e]at r0;simp at r0
    have z1:0<(rs.length:Int):=by omega
    clear r0;have he:UJ ⟨kd,cl,(0:Int),⟨rs,0⟩⟩=4:=by unfold UJ;dsimp only;rw[if_neg (by omega:¬(kd<1\/4<kd)),if_neg (by omega:¬(cl<0\/4<=cl\/(0:Int)<0\/4<=(0:Int))),if_pos (Or.inr ⟨k3,λh=>z0 h.2⟩)]
    rw[he];clear he H hat;go_enter func29,ntmps29;go_wp2;go_ret;exact⟨rfl,Qa Zbr _⟩
   have z1:(d != 0)=true:=bne_iff_ne.2 d0;have he:UJ ⟨kd,cl,(0:Int),⟨rs,d⟩⟩=4:=by unfold UJ;dsimp only;rw[if_neg (by omega:¬(kd<1\/4<kd)),if_neg (by omega:¬(cl<0\/4<=cl\/(0:Int)<0\/4<=(0:Int))),if_pos (Or.inr ⟨k3,λh=>d0 h.1⟩)]
   rw[he];clear he H hat;go_enter func29,ntmps29;go_wp2;go_ret;exact⟨rfl,Qa Zbr _⟩
  have he:UJ ⟨kd,cl,(0:Int),⟨rs,d⟩⟩=UZ ⟨rs,d⟩:=by unfold UJ;dsimp only;rw[if_neg (by omega:¬(kd<1\/4<kd)),if_neg (by omega:¬(cl<0\/4<=cl\/(0:Int)<0\/4<=(0:Int))),if_neg (by omega),if_neg k3]
  have He:=Zh he;clear he hat;have HB:=Zh (Bx.one (w:=w) (o:=.cells #[.int .i64 kd,.int .i64 cl,.int .i64 (0:Int),.slice a rs.length c,.int .i64 d] 56));go_enter func29,ntmps29;go_wp2_with fail
  refine(UO _ ⟨rs,d⟩ D _ (H.o.below HB.o.bel)).mono ?_;rintro e w1⟨rfl,hb1⟩;have HB1:=Zh (HB.o.below hb1);clear hb1;go_wp2;go_ret;exact⟨Q3 He.o.symm,HB1.o.bel⟩
 have f0':(fr != 0)=true:=bne_iff_ne.2 f0;have he:UJ ⟨kd,cl,fr,⟨rs,d⟩⟩=4:=by unfold UJ;dsimp only;rw[if_neg (by omega:¬(kd<1\/4<kd)),if_neg (by omega:¬(cl<0\/4<=cl\/fr<0\/4<=fr)),if_pos (Or.inl ⟨k4,f0⟩)]
 rw[he];clear he H hat;go_enter func29,ntmps29;go_wp2;go_ret;exact⟨rfl,Qa Zbr _⟩
end
def Je(k:Int):List UInt8:=if k=1 then[111,112,101,110]else if k=2 then[116,105,103,104,116]else if k=3 then[102,111,114,107]else[115,104,117,116]
def kindOf(l:List UInt8):Int:=if l=[111,112,101,110]then 1 else if l=[116,105,103,104,116]then 2 else if l=[102,111,114,107]then 3 else if l=[115,104,117,116]then 4 else 0
def X7:TRec:=⟨0,0,0,zeroPol⟩
def tailW(r:TRec):List UInt8:=if r.kind=3 then 32::Lib.itoa r.fm else if r.kind=4 then[]else 32::Vo r.p
def Zc(r:TRec):List UInt8:=Je r.kind++32::(Lib.itoa r.cell++tailW r)
def Uc(r:TRec):TRec×Int:=if UJ r=0 then(r,0)else(X7,UJ r)
def ZT(k:Int)(u:List UInt8×List UInt8×Bool):TRec×Int:=
 if k=0\/(Ug u.1).2=false\/u.2.2≠decide (k≠4)then(X7,1)
 else if k=3 then(if(Ug u.2.1).2 then Uc ⟨3,(Ug u.1).1,(Ug u.2.1).1,zeroPol⟩else(X7,1))
 else if k=4 then Uc ⟨4,(Ug u.1).1,0,zeroPol⟩
 else if(VE u.2.1).2≠0 then(X7,(VE u.2.1).2)else Uc ⟨k,(Ug u.1).1,0,(VE u.2.1).1⟩
def QZ(s:List UInt8):TRec×Int:=ZT (kindOf (Lib.cut s [32]).1) (Lib.cut (Lib.cut s [32]).2.1 [32])
theorem Yd(s:List UInt8)(c:UInt8):(c∉s/\Lib.cut s [c]=(s,[],false))\/∃a r,s=a++c::r/\c∉a/\Lib.cut s [c]=(a,r,true):=by
 by_cases h:c∈s
 .obtain⟨a,r,rfl,ha⟩:=List.eq_append_cons_of_mem h;exact .inr ⟨a,r,rfl,ha,Z4 ha⟩
 exact .inl ⟨h,Jr h⟩
theorem EL(k:Int):∀b∈Je k,EW b=true:=by
 intro b hb;unfold Je at hb;split at hb
 .simp at hb;rcases hb with rfl|rfl|rfl|rfl<;>decide
 split at hb
 .simp at hb;rcases hb with rfl|rfl|rfl|rfl|rfl<;>decide
 split at hb
 .simp at hb;rcases hb with rfl|rfl|rfl|rfl<;>decide
 simp at hb;rcases hb with rfl|rfl|rfl|rfl<;>decide
theorem Qhm{k:Int}(h0:1<=k)(h1:k<=4):kindOf (Je k)=k:=by
 have:k=1\/k=2\/k=3\/k=4:=by omega
 rcases this with rfl|rfl|rfl|rfl<;>decide
theorem Qea{l:List UInt8}(h:kindOf l≠0):Je (kindOf l)=l/\1<=kindOf l/\kindOf l<=4:=by
 unfold kindOf at h⊢;split
 .rename_i e;subst e;exact⟨by decide,by decide,by decide⟩
 split
 .rename_i e;subst e;exact⟨by decide,by decide,by decide⟩
 split
 .rename_i e;subst e;exact⟨by decide,by decide,by decide⟩
 split
 .rename_i e;subst e;exact⟨by decide,by decide,by decide⟩
 rename_i h1 h2 h3 h4;rw[if_neg h1,if_neg h2,if_neg h3,if_neg h4]at h;exact absurd rfl h
theorem Qds{v:Int}(h0:0<=v){b:UInt8}(hb:b.toNat<48\/57<b.toNat):b∉Lib.itoa v:=by
 intro hm;have:=(EH h0).1 b hm;omega
theorem QaP{p:TPol}(h:Y4 p):p=zeroPol:=by
 obtain⟨l,d⟩:=p;obtain⟨h1,h2⟩:=h;dsimp only at h1 h2;subst h1 h2;rfl
theorem Qib{r:TRec}(h:UJ r=0):Lib.cut (Zc r) [32]=(Je r.kind,Lib.itoa r.cell++tailW r,true)/\Lib.cut (Lib.itoa r.cell++tailW r) [32]=(Lib.itoa r.cell,(tailW r).drop 1,decide (r.kind≠4)):=by
 obtain⟨k0,k1,c0,c1,f0,f1,e1,e2,e3⟩:=Y5 h;refine⟨Z4 (X9 (EL _) (by decide)),?_⟩;have hn:(32:UInt8)∉Lib.itoa r.cell:=Qds c0 (by decide);by_cases h4:r.kind=4
 .unfold tailW;rw[if_neg (by omega),if_pos h4,List.append_nil,Jr hn];simp[h4]
 have hd:decide (r.kind≠4)=true:=by simpa using h4
 rw[hd];by_cases h3:r.kind=3
 .unfold tailW;rw[if_pos h3,Z4 hn];rfl
 unfold tailW;rw[if_neg h3,if_neg h4,Z4 hn];rfl
theorem G7{r:TRec}(h:UJ r=0):QZ (Zc r)=(r,0):=by
 obtain⟨h1,h2⟩:=Qib h;obtain⟨k0,k1,c0,c1,f0,f1,e1,e2,e3⟩:=Y5 h;unfold QZ;rw[h1];dsimp only;rw[h2,Qhm k0 k1];unfold ZT;dsimp only;have hw:=O4 c0 (show r.cell<=65535 by omega);rw[hw];rw[if_neg (by simp;omega)];have hk:∀r',r'=r->Uc r'=(r,0):=by rintro r' rfl;unfold Uc;rw[if_pos h]
 by_cases h3:r.kind=3
 .have ht:(tailW r).drop 1=Lib.itoa r.fm:=by unfold tailW;rw[if_pos h3];rfl
  rw[if_pos h3,ht,O4 f0 (by omega)];dsimp only;rw[if_pos rfl];refine hk _ ?_;obtain⟨a,b,c,d⟩:=r;dsimp only at *;rw[QaP (e2 (by omega)),h3]
 by_cases h4:r.kind=4
 .rw[if_neg h3,if_pos h4];refine hk _ ?_;obtain⟨a,b,c,d⟩:=r;dsimp only at *;rw[QaP (e2 (by omega)),h4,e1 h3]
 have ht:(tailW r).drop 1=Vo r.p:=by unfold tailW;rw[if_neg h3,if_neg h4];rfl
 rw[if_neg h3,if_neg h4,ht,Qfe (e3 (by omega))];dsimp only;rw[if_neg (by simp)];refine hk _ ?_;obtain⟨a,b,c,d⟩:=r;dsimp only at *;rw[e1 h3]
theorem Zw{r r':TRec}(h:Uc r'=(r,0)):r'=r/\UJ r=0:=by
 unfold Uc at h;split at h
 .rename_i h0;simp only[Prod.mk.injEq,and_true]at h;subst h;exact⟨rfl,h0⟩
 rename_i h0;simp only[Prod.mk.injEq]at h;exact absurd h.2 h0
theorem Qgz{s:List UInt8}{r:TRec}(h:QZ s=(r,0)):UJ r=0/\Zc r=s:=by
 unfold QZ ZT at h;split at h
 .simp at h
 rename_i hbad;have hk:kindOf (Lib.cut s [32]).1≠0:=λe=>hbad (.inl e)
 have hw:(Ug (Lib.cut (Lib.cut s [32]).2.1 [32]).1).2=true:=by
  cases hx:(Ug (Lib.cut (Lib.cut s [32]).2.1 [32]).1).2 with
  |true=>rfl
  |false=>exact absurd (.inr (.inl hx)) hbad
 have hm:(Lib.cut (Lib.cut s [32]).2.1 [32]).2.2=decide (kindOf (Lib.cut s [32]).1≠4):=by
  by_cases hx:(Lib.cut (Lib.cut s [32]).2.1 [32]).2.2=decide (kindOf (Lib.cut s [32]).1≠4)
  .exact hx
  exact absurd (.inr (.inr hx)) hbad
 clear hbad;obtain⟨hkw,hk1,hk2⟩:=Qea hk;rcases Yd s 32 with⟨_,hc⟩|⟨a,t,rfl,ha,hc⟩
 .rw[hc]at hw;have:(Ug (Lib.cut ([]:List UInt8) [32]).1).2=false:=by decide
  rw[this]at hw;cases hw
 rw[hc]at h hk hw hm hkw hk1 hk2;dsimp only at h hk hw hm hkw hk1 hk2;generalize hK:kindOf a=k at h hk hm hkw hk1 hk2;rcases Yd t 32 with⟨_,hc2⟩|⟨b,t2,rfl,hb,hc2⟩
 .rw[hc2]at h hw hm;dsimp only at h hw hm
  have h4:k=4:=by
   have:=of_decide_eq_false hm.symm;omega
  rw[if_neg (by omega),if_pos h4]at h;obtain⟨h1,h2⟩:=Zw h;refine⟨h2,?_⟩;rw[<-h1];unfold Zc tailW;dsimp only;rw[if_neg (by omega),if_pos rfl,List.append_nil,<-Zu hw,<-h4,hkw]
 rw[hc2]at h hw hm;dsimp only at h hw hm;have h4:k≠4:=of_decide_eq_true hm.symm;by_cases h3:k=3
 .rw[if_pos h3]at h;split at h
  .rename_i hw2;obtain⟨h1,h2⟩:=Zw h;refine⟨h2,?_⟩;rw[<-h1];unfold Zc tailW;dsimp only;rw[if_pos rfl,<-Zu hw,<-Zu hw2,<-h3,hkw]
  simp at h
 rw[if_neg h3,if_neg h4]at h;split at h
 .rename_i he;simp only[Prod.mk.injEq]at h;exact absurd h.2 he
 rename_i he;obtain⟨h1,h2⟩:=Zw h;refine⟨h2,?_⟩
 have hp:VE t2=((VE t2).1,0):=by
  have:(VE t2).2=0:=by simpa using he
  rw[<-this]
 rw[<-h1];unfold Zc tailW;dsimp only;rw[if_neg h3,if_neg h4,<-Zu hw,(Qfj hp).2,hkw]
theorem QgQ{p:TPol}(h:UT p):(10:UInt8)∉Vo p:=by
 unfold Vo;intro hm;rcases List.mem_append.1 hm with hm|hm
 .obtain⟨r,hr,hm⟩:=List.mem_flatMap.1 hm;have ok:=h.ru r hr;rcases List.mem_append.1 hm with hm|hm
  .unfold ZW at hm;rcases List.mem_append.1 hm with hm|hm
   .exact X9 (VC _) (by decide) hm
   obtain⟨c,hc,hm⟩:=List.mem_flatMap.1 hm;rcases List.mem_cons.1 hm with hm|hm
   .exact absurd hm (by decide)
   exact Qbj (ok.cd c hc).v0 (by decide) (by decide) (by decide) (by decide) (by decide) (by decide) hm
  exact absurd hm (by decide)
 exact X9 (VC _) (by decide) hm
theorem G8{r:TRec}(h:UJ r=0):(10:UInt8)∉Zc r:=by
 obtain⟨k0,k1,c0,c1,f0,f1,e1,e2,e3⟩:=Y5 h;intro hm;unfold Zc at hm;rcases List.mem_append.1 hm with hm|hm
 .exact X9 (EL _) (by decide) hm
 rcases List.mem_cons.1 hm with hm|hm
 .exact absurd hm (by decide)
 rcases List.mem_append.1 hm with hm|hm
 .exact Qds c0 (by decide) hm
 unfold tailW at hm;split at hm
 .rcases List.mem_cons.1 hm with hm|hm
  .exact absurd hm (by decide)
  exact Qds f0 (by decide) hm
 split at hm
 .cases hm
 rcases List.mem_cons.1 hm with hm|hm
 .exact absurd hm (by decide)
 exact QgQ (e3 (by omega)) hm
def U3(r:TRec):List UInt8:=Zc r++[10]
def VW(l:List TRec):List UInt8:=l.flatMap U3
def ZR:Nat->List UInt8->Nat->List TRec×Nat×Int
 |0,_,_=>([],0,0)
 |n+1,s,most=>if s=[]then([],0,0)else if(Lib.cut s [10]).2.2=false then([],0,8)else
   if(QZ (Lib.cut s [10]).1).2≠0 then([],0,(QZ (Lib.cut s [10]).1).2)else if most=0 then([],0,2)else
    ((QZ (Lib.cut s [10]).1).1::(ZR n (Lib.cut s [10]).2.1 (most-1)).1,(Lib.cut s [10]).1.length+1+(ZR n (Lib.cut s [10]).2.1 (most-1)).2.1,(ZR n (Lib.cut s [10]).2.1 (most-1)).2.2)
def Qv(s:List UInt8)(most:Nat):List TRec×Nat×Int:=ZR s.length s most
theorem EM:∀(n m:Nat)(s:List UInt8)(most:Nat),s.length<=n->s.length<=m->ZR n s most=ZR m s most
 |0,0,_,_,_,_=>rfl
 |0,m+1,s,most,h,_=>by
  obtain rfl:s=[]:=List.length_eq_zero_iff.1 (by omega);simp[ZR]
 |n+1,0,s,most,_,h=>by
  obtain rfl:s=[]:=List.length_eq_zero_iff.1 (by omega);simp[ZR]
 |n+1,m+1,s,most,h1,h2=>by
  unfold ZR;rcases Yd s 10 with⟨_,hc⟩|⟨a,t,rfl,ha,hc⟩
  .rw[hc];simp
  rw[hc];dsimp only;simp only[List.length_append,List.length_cons]at h1 h2;rw[EM n m t (most-1) (by omega) (by omega)]
theorem Xp(most:Nat):Qv [] most=([],0,0):=rfl
theorem Jw{s:List UInt8}(h:(10:UInt8)∉s)(h0:s≠[])(most:Nat):Qv s most=([],0,8):=by
 unfold Qv
 cases s with
 |nil=>exact absurd rfl h0
 |cons b s=>
  show ZR (s.length+1) _ _=_;unfold ZR;rw[Jr h];simp
theorem XY{a t:List UInt8}(ha:(10:UInt8)∉a)(most:Nat):Qv (a++10::t) most=if(QZ a).2≠0 then([],0,(QZ a).2)else if most=0 then([],0,2)else
  ((QZ a).1::(Qv t (most-1)).1,a.length+1+(Qv t (most-1)).2.1,(Qv t (most-1)).2.2):=by
 have hl:(a++10::t).length=(a.length+t.length)+1:=by simp;omega
 unfold Qv;rw[hl]
 conv=>lhs;unfold ZR
 rw[Z4 ha];dsimp only;rw[if_neg (by simp),if_neg (by simp),EM (a.length+t.length) t.length t (most-1) (by omega) Znl]
theorem GX:∀(l:List TRec)(t:List UInt8)(most:Nat),(∀r∈l,UJ r=0)->l.length<=most->Qv (VW l++t) most=(l++(Qv t (most-l.length)).1,(VW l).length+(Qv t (most-l.length)).2.1,(Qv t (most-l.length)).2.2)
 |[],t,most,_,_=>by simp[VW]
 |r::l,t,most,h,hm=>by
  have h0:=h r (List.mem_cons_self ..);have e:VW (r::l)++t=Zc r++10::(VW l++t):=by simp[VW,U3]
  simp only[List.length_cons]at hm;rw[e,XY (G8 h0),G7 h0,if_neg (by simp),if_neg (by omega),GX l t (most-1) (λx hx=>h x (List.mem_cons_of_mem _ hx)) (by omega)];have e2:most-1-l.length=most-(l.length+1):=by omega
  simp only[List.length_cons,e2];refine Prod.ext rfl (Prod.ext ?_ rfl);simp[VW,U3];omega
theorem QaE:∀(n:Nat)(s:List UInt8)(most:Nat),s.length<=n->(∀r∈(Qv s most).1,UJ r=0)/\(Qv s most).1.length<=most/\∃t,s=VW (Qv s most).1++t/\(Qv s most).2.1=(VW (Qv s most).1).length/\((Qv s most).2.2=0->t=[])
 |n,s,most,hn=>by
  rcases Yd s 10 with⟨hs,_⟩|⟨a,t,rfl,ha,hc⟩
  .by_cases h0:s=[]
   .subst h0;rw[Xp];simp[VW]
   rw[Jw hs h0];simp[VW]
  cases n with
  |zero=>simp at hn
  |succ n=>
  simp only[List.length_append,List.length_cons]at hn;obtain⟨i1,i2,t2,i3,i4,i5⟩:=QaE n t (most-1) (by omega);rw[XY ha];split
  .rename_i he;refine⟨by simp,by simp,_,by simp[VW];rfl,by simp[VW],λh=>absurd h he⟩
  rename_i he;split
  .refine⟨by simp,by simp,_,by simp[VW];rfl,by simp[VW],λh=>by simp at h⟩
  rename_i hm
  have hr:QZ a=((QZ a).1,0):=by
   have:(QZ a).2=0:=by simpa using he
   rw[<-this]
  obtain⟨r1,r2⟩:=Qgz hr;refine⟨λr hr'=>?_,by simp;omega,t2,?_,?_,i5⟩
  .rcases List.mem_cons.1 hr' with rfl|hr'
   .exact r1
   exact i1 r hr'
  .have e:VW ((QZ a).1::(Qv t (most-1)).1)++t2=a++10::(VW (Qv t (most-1)).1++t2):=by simp[VW,U3,r2]
   dsimp only;rw[e,<-i3]
  dsimp only;rw[i4];simp[VW,U3,r2];omega
theorem Vb(s:List UInt8)(most:Nat):(∀r∈(Qv s most).1,UJ r=0)/\(Qv s most).1.length<=most/\∃t,s=VW (Qv s most).1++t/\(Qv s most).2.1=(VW (Qv s most).1).length/\((Qv s most).2.2=0->t=[]):=QaE _ s most Znl
theorem QaF:∀(l:List TRec)(n most:Nat),(∀r∈l,UJ r=0)->l.length<=most->∃k,k<=l.length/\(Qv ((VW l).take n) most).1=l.take k/\(Qv ((VW l).take n) most).2.1=(VW (l.take k)).length
 |[],n,most,_,_=>⟨0,by simp,by simp[VW,Xp],by simp[VW,Xp]⟩
 |r::l,n,most,h,hm=>by
  have h0:=h r (List.mem_cons_self ..);simp only[List.length_cons]at hm;have e:VW (r::l)=Zc r++10::VW l:=by simp[VW,U3]
  rw[e];by_cases hn:n<=(Zc r).length
  .have ht:(Zc r++10::VW l).take n=(Zc r).take n:=List.take_append_of_le_length hn;have hno:(10:UInt8)∉(Zc r).take n:=λhx=>G8 h0 (List.mem_of_mem_take hx);rw[ht];by_cases he:(Zc r).take n=[]
   .rw[he];exact⟨0,by simp,by simp[Xp],by simp[VW,Xp]⟩
   rw[Jw hno he];exact⟨0,by simp,by simp,by simp[VW]⟩
  obtain⟨m,rfl⟩:∃m,n=(Zc r).length+(m+1):=⟨n-(Zc r).length-1,by omega⟩
  have ht:(Zc r++10::VW l).take ((Zc r).length+(m+1))=Zc r++10::(VW l).take m:=by
   rw[List.take_length_add_append,List.take_succ_cons]
  rw[ht,XY (G8 h0),G7 h0,if_neg (by simp),if_neg (by omega)];obtain⟨k,hk,i1,i2⟩:=QaF l m (most-1) (λx hx=>h x (List.mem_cons_of_mem _ hx)) (by omega);refine⟨k+1,by simp;omega,by simp[i1],?_⟩;dsimp only;rw[i2,List.take_succ_cons];simp[VW,U3];omega
structure TDisk where
 sa:List UInt8
 wt:List UInt8
deriving DecidableEq
def zeroDisk:TDisk:=⟨[],[]⟩
def UA(d:TDisk):Int:=if 60000<d.sa.length+d.wt.length then 2 else(Qv d.sa 40).2.2
def Gi(d:TDisk)(r:TRec):TDisk×Int:=if UA d≠0 then(zeroDisk,UA d)else if UJ r≠0 then(zeroDisk,UJ r)else
 if 60000<d.sa.length+d.wt.length+(Zc r).length+1 then(zeroDisk,2)else(⟨d.sa,d.wt++U3 r⟩,0)
def Y7(d:TDisk):TDisk×Int:=if UA d≠0 then(zeroDisk,UA d)else if UA ⟨d.sa++d.wt,[]⟩≠0 then(zeroDisk,UA ⟨d.sa++d.wt,[]⟩)else(⟨d.sa++d.wt,[]⟩,0)
def Xn(d:TDisk)(n:Int):TDisk×Int:=if UA d≠0 then(zeroDisk,UA d)else if n<0\/(d.wt.length:Int)<n then(zeroDisk,3)else(⟨d.sa,d.wt.take n.toNat⟩,0)
def Qa3(d:TDisk):List TRec×Nat×Int:=Qv d.wt (40-(Qv d.sa 40).1.length)
def QD(d:TDisk):TDisk×List TRec×Int:=if UA d≠0 then(zeroDisk,[],UA d)else(⟨d.sa++d.wt.take (Qa3 d).2.1,[]⟩,(Qv d.sa 40).1++(Qa3 d).1,0)
theorem Zx{d:TDisk}(h:UA d=0):d.sa.length+d.wt.length<=60000/\(∀r∈(Qv d.sa 40).1,UJ r=0)/\(Qv d.sa 40).1.length<=40/\d.sa=VW (Qv d.sa 40).1:=by
 unfold UA at h;split at h
 .simp at h
 rename_i h0;obtain⟨i1,i2,t,i3,_,i5⟩:=Vb d.sa 40;rw[i5 h,List.append_nil]at i3;exact⟨by omega,i1,i2,i3⟩
theorem GL{l:List TRec}{w:List UInt8}(hl:∀r∈l,UJ r=0)(h40:l.length<=40)(hn:(VW l).length+w.length<=60000):UA ⟨VW l,w⟩=0/\Qv (VW l) 40=(l,(VW l).length,0):=by
 have:=GX l [] 40 hl h40;rw[List.append_nil,Xp]at this;simp only[List.append_nil,Nat.add_zero]at this;refine⟨?_,this⟩;unfold UA;dsimp only;rw[if_neg (by omega),this]
theorem ZE(l m:List TRec):VW (l++m)=VW l++VW m:=by unfold VW;rw[List.flatMap_append]
section
open Go.RowKit
section
variable{P:Program}{ops:Array Oper}{B:Nat}{w0:World}{Q:Act->World->Prop}{o:Oper}{l:List Oper}{ss:List Spec}{a:Act}{fs:List (World->Prop)}{F:World->Prop}
def obB(P:Program)(ops:Array Oper)(B:Nat)(w0:World)(s:Spec)(o:Oper)(a:Act)(fs:List (World->Prop)):Prop:=
 ∀(W:World),Cls B w0 W->Jt (prune o) fs W->∀R:Value->World->Prop,(∀(v:Value)(W':World),Below W.heap.size W W'->s.holds v W'->R v W')->if Region.wanted o (yielded ops a.tmps)then gives P o a W R else R undef W
def Qc3(P:Program)(ops:Array Oper)(B:Nat)(w0:World)(Q:Act->World->Prop):List Oper->List Spec->Act->List (World->Prop)->(World->Prop)->Prop
 |[],_,a,_,F=>∀(W:World),Cls B w0 W->F W->Q a W
 |_::_,[],_,_,_=>False
 |o::l,s::ss,a,fs,F=>obB P ops B w0 s o a fs /\
   match s.exact? with
   |some x=>Qc3 P ops B w0 Q l ss (a.put o.dst x) (fs++[λ_:World=>True]) F
   |none=>∀v:Value,Qc3 P ops B w0 Q l ss (a.put o.dst v) (fs++[s.pred v]) (λw:World=>F w/\s.pred v w)
theorem Qs{x:Value}(h:∀K:Act->Prop,(∀a',Qc3 P ops B w0 Q l ss a' (fs++[λ_:World=>True]) F->K a')->obB P ops B w0 (ex x) o a fs/\K (a.put o.dst x)):Qc3 P ops B w0 Q (o::l) (ex x::ss) a fs F:=h _ (λ_ h=>h)
theorem Ya{p:Value->World->Prop}(h:∀K:Value->Act->Prop,(∀v a',Qc3 P ops B w0 Q l ss a' (fs++[p v]) (λw:World=>F w/\p v w)->K v a')->obB P ops B w0 (pr p) o a fs/\∀v,K v (a.put o.dst v)):Qc3 P ops B w0 Q (o::l) (pr p::ss) a fs F:=h _ (λ_ _ h=>h)
theorem QdW{bs:List (List Nat)}{n:Nat}:∀(l:List Oper)(ss:List Spec)(i:Nat)(a:Act)(fs:List (World->Prop))(F:World->Prop),Qc3 P ops B w0 Q l ss a fs F->IE P ops (λ_=>Cls B w0) TB bs Q n l ss i a fs F
 |[],_,_,_,_,_,h=>λ_ W _ hC hF=>h W hC hF
 |_::_,[],_,_,_,_,h=>h.elim
 |o::l,s::ss,i,a,fs,F,h=>by
  obtain⟨h1,h2⟩:=h;refine⟨λdn W hI _ _ _ hf R hR=>h1 W hI hf R λv W' hb hs=>hR v W' (hI.step hb) hb hs,?_⟩;revert h2;show(match s.exact? with|some x=>_|none=>_)->(match s.exact? with|some x=>_|none=>_)
  cases s.exact? with
  |some x=>exact λh2=>QdW l ss (i+1) _ _ _ h2
  |none=>exact λh2 v=>QdW l ss (i+1) _ _ _ (h2 v)
def OY(p:Value->World->Prop):Prop:=∀v w w',Below w.heap.size w w'->p v w->p v w'
def stables:List Spec->Prop
 |[]=>True
 |s::r=>((∃x,s=ex x)\/∃p,s=pr p/\OY p)/\stables r
theorem NC:∀(ss:List Spec),stables ss->∀s∈ss,QdP s
 |[],_,s,h=>by cases h
 |s0::r,h,s,hm=>by
  rcases List.mem_cons.1 hm with rfl|hm
  .rcases h.1 with⟨x,rfl⟩|⟨p,rfl,hp⟩
   .exact QcV x
   exact hp
  exact NC r h.2 s hm
theorem Xx{Q:Exit->Act->World->Prop}{id:Nat}{w:World}(ss:List Spec)(B:Nat)(hBw:B<=w.heap.size)(hm:P.follows .mixedOrders=true)(hB:YD (l.map prune) a.tmps.size=true)
  (hst:stables ss) (h:Qc3 P l.toArray B w (Q .normal) l ss a [] (λ_=>True)):(Code.region id l.toArray true).wp P Q a w:=
 XN ss (λ_=>Cls B w) TB hm hB (λ_ _ s _ hk v _ w1 w2 _ hT hf=>NC ss hst s (List.mem_of_getElem? hk) v w1 w2 hT hf) ⟨hBw,Zbr.drew⟩ _ rfl (QdW l ss 0 a [] _ h)
end
end
end Go.Proofs.YthkgjohhbdipcaaGreatDoor
