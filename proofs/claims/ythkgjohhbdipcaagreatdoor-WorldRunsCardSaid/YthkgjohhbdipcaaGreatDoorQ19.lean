/- Texts laid one behind the other: DRecover, RRecText, ConcatRec. No condition beyond theirs. -/
import Derived.Test.YthkgjohhbdipcaaGreatDoorQ18
import Derived.Test.YthkgjohhbdipcaaGreatDoorQ12
import Derived.Test.YthkgjohhbdipcaaGreatDoorQ4
import Derived.Test.YthkgjohhbdipcaaGreatDoorQ10
import Derived.Test.YthkgjohhbdipcaaGreatDoorProg
import Derived.Test.YthkgjohhbdipcaaGreatDoorQ3
import Derived.KernelRfl
import Derived.Deep.LoopGhost
set_option linter.all false
set_option maxHeartbeats 64000000
set_option maxRecDepth 100000
namespace Go.Proofs.YthkgjohhbdipcaaGreatDoor
open Tryz
section
open Go.RowKit
attribute [local go_sem] gives QG
theorem Qbu(w:World)(D:Nat->Prop):Vg w D (.slice none 0 0) []:=⟨none,0,rfl,Nat.le_refl _,by decide,λ_=>rfl,λh=>by cases h⟩
theorem Ez{α:Type}{P:Program}{w:World}{o:Oper}{a:Act}{R':Value->World->Prop}{R:α->List Value->Prop}{D:Nat->Prop}(s x:Operand)(t:TypeId)
  (ho:o.op=.call { callee:=.builtin .append,args:=#[s,x],argTypes:=#[t,t] }) (base:Nat) (e:TypeId) (i:TypeInfo) (z:Value) (size bytes:Nat) (ht:P.underlying t=some (.slice e)) (hi:P.info? e=some i) (hz:i.zero=some z)
  (hsize:i.size=size) (hby:i.bytes=bytes) (hzs:z.cells.size=size) (hsz:0<size)
  (v:Value) (xs:List α) (hs:a.eval s=v) (hown:Qg w base e size R v xs)
  (u:Value) (ys:List α) (hx:a.eval x=u) (hu:Sl w D size R u ys) (h1:∀y∈ys,∀cs,R y cs->∀c∈cs,c.oneCell'=true)
  (h63:xs.length+ys.length<=maxLen) (hbytes:(xs.length+ys.length)*bytes<=140737488355328) (hbase:base<=w.heap.size)
  (h:∀v' w',Qg w' base e size R v' (xs++ys)->w.grownBy w' v.ownBlock->(v'.ownBlock=v.ownBlock\/v'.ownBlock=some w.heap.size)->R' v' w'):gives P o a w R':=by
 obtain⟨au,cu,rows,hv,hr,hcm,hnone,hcell⟩:=hu.rows;obtain⟨rows0,hr0,ho0⟩:=hown
 cases au with
 |none=>
  obtain⟨hc0,hy⟩:=hnone rfl;subst hc0 hy;have hrun:=run_append_owned_none (P:=P) (w:=w) base t o.type e i size ht hi v xs.length rows0.flatten ho0;unfold gives execOp;simp only[ho,resolve,invoke,builtin,Sem.run_bind,Sem.run_pure,Result.andThen_ok,List.map_toArray,List.map_cons,List.map_nil,hs,hx,hv,List.length_nil,hrun];exact h v w ⟨rows0,by simpa using hr0,by simpa using ho0⟩ ⟨rfl,rfl,rfl,Nat.le_refl _,λ_ _ _=>rfl⟩ (.inl rfl)
 |some ad=>
  obtain⟨v',w',hrun,h2,h3,_,h5⟩:=run_append_own_at (P:=P) w base t o.type e i z size bytes ht hi hz hsize hby hzs hsz v xs.length rows0.flatten ho0 ad ys.length cu rows.flatten (by rw[YP rows hr.size,hr.len]) (hcell ad rfl) (λc hc=>by
   obtain⟨r,hrm,hcr⟩:=List.mem_flatten.1 hc;obtain⟨k,hk⟩:=List.getElem?_of_mem hrm;have hkl:k<ys.length:=by rw[<-hr.len];exact(List.getElem?_eq_some_iff.1 hk).1
   exact h1 ys[k] (List.getElem_mem hkl) r (hr.rel k _ r (List.getElem?_eq_getElem hkl) hk) c hcr) h63 hbytes hbase
  unfold gives execOp;simp only[ho,resolve,invoke,builtin,Sem.run_bind,Sem.run_pure,Result.andThen_ok,List.map_toArray,List.map_cons,List.map_nil,hs,hx,hv,hrun];exact h v' w' ⟨rows0++rows,hr0.app hr,by simpa using h2⟩ h3 h5
structure Qi1(w0:World)(β:Nat)(lv:Value)(B:Nat)(L:List UInt8)(rs:List TRec)(v7 v11:Value)(W:World):Prop where
 os:W.os=w0.os
 tape:W.tape=w0.tape
 output:W.output=w0.output
 size:w0.heap.size<=W.heap.size
 blk:∀k,k<w0.heap.size->k≠β->some k≠lv.ownBlock->W.heap[k]?=w0.heap[k]?
 box:W.heap[β]?=some (.cells #[v7,.slice none 0 0] 25)
 bytes:Qu W (λb=>w0.heap.size<=b) v7 L
 recs:Q9 W B v11 rs
structure RcI(w0:World)(β:Nat)(lv:Value)(B:Nat)(S Wn:List UInt8)(l m:List TRec)(dn:Nat->Bool)(vf:Nat->Value)(W:World):Prop where
 fr:dn 11=false->dn 12=false->Below w0.heap.size w0 W
 o1:dn 11=true->dn 7=true
 o2:dn 12=true->dn 11=true
 c6:dn 6=true->dn 7=false->Sl W (λ_=>True) 1 (Nl W (λ_=>True)) (vf 6) [S,Wn]
 c7:dn 7=true->Qu W (λb=>w0.heap.size<=b) (vf 7) (S++Wn)
 mid:dn 11=true->dn 12=false->w0.grownBy W lv.ownBlock/\Q9 W B (vf 11) (l++m)
 fin:dn 12=true->Qi1 w0 β lv B (S++Wn) (l++m) (vf 7) (vf 11) W
section
variable{w0 W W':World}{β B:Nat}{lv:Value}{S Wn:List UInt8}{l m:List TRec}{dn:Nat->Bool}{vf:Nat->Value}{v:Value}{i:Nat}
theorem RcI.start:RcI w0 β lv B S Wn l m (λ_=>false) (λ_=>undef) w0.drew:=⟨λ_ _=>Zbr.drew,(λh=>by cases h),(λh=>by cases h),(λh=>by cases h),(λh=>by cases h),(λh=>by cases h),(λh=>by cases h)⟩
theorem RcI.same(h:RcI w0 β lv B S Wn l m dn vf W)(h6:6≠i)(h7:7≠i)(h11:11≠i)(h12:12≠i):RcI w0 β lv B S Wn l m (Qe dn i) (QS vf i v) W:=by
 have e6:Qe dn i 6=dn 6:=if_neg h6;have e7:Qe dn i 7=dn 7:=if_neg h7;have e11:Qe dn i 11=dn 11:=if_neg h11;have e12:Qe dn i 12=dn 12:=if_neg h12;have f6:QS vf i v 6=vf 6:=if_neg h6;have f7:QS vf i v 7=vf 7:=if_neg h7;have f11:QS vf i v 11=vf 11:=if_neg h11;refine⟨?_,?_,?_,?_,?_,?_,?_⟩<;>simp only[e6,e7,e11,e12,f6,f7,f11]
 .exact h.fr
 .exact h.o1
 .exact h.o2
 .exact h.c6
 .exact h.c7
 .exact h.mid
 exact h.fin
theorem RcI.new6{x y:Value}(h:RcI w0 β lv B S Wn l m dn vf W)(n7:dn 7=false)(n11:dn 11=false)(n12:dn 12=false)(hx:Qu W (λ_=>True) x S)(hy:Qu W (λ_=>True) y Wn):RcI w0 β lv B S Wn l m (Qe dn 6) (QS vf 6 (.slice (some ⟨W.heap.size,0,none⟩) 2 2)) (W.alloc (.cells #[x,y] 23)):=by
 have hb:Below W.heap.size W (W.alloc (.cells #[x,y] 23)):=Qa Zbr _;refine⟨λ_ _=>Ql (h.fr n11 n12) hb,?_,?_,λ_ _=>?_,?_,?_,?_⟩
 .exact λe=>by simp[Qe,n11]at e
 .exact λe=>by simp[Qe,n12]at e
 .have e:QS vf 6 (.slice (some ⟨W.heap.size,0,none⟩) 2 2) 6=.slice (some ⟨W.heap.size,0,none⟩) 2 2:=if_pos rfl;rw[e];exact Oo (Qu.below hx hb) (Qu.below hy hb) (Qh _ _)
 .exact λe=>by simp[Qe,n7]at e
 .exact λe=>by simp[Qe,n11]at e
 exact λe=>by simp[Qe,n12]at e
theorem RcI.conc7(h:RcI w0 β lv B S Wn l m dn vf W)(n7:dn 7=false)(n11:dn 11=false)(n12:dn 12=false)(hb:Below W.heap.size W W')(ho:OwnB W' W.heap.size v (S++Wn)):RcI w0 β lv B S Wn l m (Qe dn 7) (QS vf 7 v) W':=by
 refine⟨λ_ _=>Ql (h.fr n11 n12) hb,?_,?_,?_,λ_=>?_,?_,?_⟩
 .exact λ_=>by simp[Qe]
 .exact λe=>by simp[Qe,n12]at e
 .exact λ_ e=>by simp[Qe]at e
 .have e:QS vf 7 v 7=v:=if_pos rfl;rw[e];exact(OwnB.read ho).keep (λb hb' _=>by have h1:W.heap.size<=b:=hb';have:=(h.fr n11 n12).size;show _<=_;omega) (λ_ _ _=>rfl) Znl
 .exact λe=>by simp[Qe,n11]at e
 exact λe=>by simp[Qe,n12]at e
theorem RcI.app11(h:RcI w0 β lv B S Wn l m dn vf W)(d7:dn 7=true)(n11:dn 11=false)(n12:dn 12=false)(hlv:(∀g,lv.ownBlock=some g->g<w0.heap.size)/\∀g,lv.ownBlock=some g->g≠β)(ho:Qg W' B 56 5 (QbR W (λb=>B<=b/\lv.ownBlock≠some b)) v (l++m))(hg:W.grownBy W' lv.ownBlock)(hat:v.ownBlock=lv.ownBlock\/v.ownBlock=some W.heap.size):
  RcI w0 β lv B S Wn l m (Qe dn 11) (QS vf 11 v) W':=by
 have hb:=h.fr n11 n12;refine⟨?_,?_,?_,?_,λ_=>?_,λ_ _=>⟨?_,?_⟩,?_⟩
 .exact λe=>by simp[Qe]at e
 .exact λ_=>by simp[Qe,d7]
 .exact λe=>by simp[Qe,n12]at e
 .exact λ_ e=>by simp[Qe,d7]at e
 .have e:QS vf 11 v 7=vf 7:=if_neg (by decide);rw[e];exact(h.c7 d7).keep (λ_ hx _=>hx) (λx hx hl=>hg.block x hl (λe=>by have h1:w0.heap.size<=x:=hx;have:=hlv.1 x e.symm;omega)) hg.size
 .exact⟨hg.os.trans hb.os,hg.tape.trans hb.tape,hg.output.trans hb.output,Nat.le_trans hb.size hg.size,λk hk hn=>(hg.block k (Nat.lt_of_lt_of_le hk hb.size) hn).trans (hb.block k hk)⟩
 .have e:QS vf 11 v 11=v:=if_pos rfl;rw[e];exact Q9.app ho hg hat
 exact λe=>by simp[Qe,n12]at e
theorem RcI.box(h:RcI w0 β lv B S Wn l m dn vf W)(d11:dn 11=true)(n12:dn 12=false){o:Obj}(hβ:w0.heap[β]?=some o)(hlv:∀g,lv.ownBlock=some g->g≠β):W.heap[β]?=some o:=by
 obtain⟨hg,_⟩:=h.mid d11 n12;rw[hg.block β (Array.getElem?_eq_some_iff.1 hβ).1 (λe=>hlv β e.symm rfl)];exact hβ
theorem RcI.fin12(h:RcI w0 β lv B S Wn l m dn vf W)(d11:dn 11=true)(n12:dn 12=false){c0 c1:Value}(hβ:w0.heap[β]?=some (.cells #[c0,c1] 25))(hlv:(∀g,lv.ownBlock=some g->g<w0.heap.size)/\∀g,lv.ownBlock=some g->g≠β)(hB:β<B):RcI w0 β lv B S Wn l m (Qe dn 12) (QS vf 12 v) ((W.setCell ⟨β,0,none⟩ (vf 7)).setCell ⟨β,1,none⟩ (.slice none 0 0)):=by
 obtain⟨hg,ho⟩:=h.mid d11 n12;have d7:=h.o1 d11;have hbx:=h.box d11 n12 hβ hlv.2;have hβl:=(Array.getElem?_eq_some_iff.1 hβ).1;have hp:W.grownBy ((W.setCell ⟨β,0,none⟩ (vf 7)).setCell ⟨β,1,none⟩ (.slice none 0 0)) (some β):=UH _ _;have e7:QS vf 12 v 7=vf 7:=if_neg (by decide);have e11:QS vf 12 v 11=vf 11:=if_neg (by decide);have h7:Qu ((W.setCell ⟨β,0,none⟩ (vf 7)).setCell ⟨β,1,none⟩ (.slice none 0 0)) (λb=>w0.heap.size<=b) (vf 7) (S++Wn):=(h.c7 d7).keep (λ_ hx _=>hx) (λx hx hl=>QC hp hl (by have h1:w0.heap.size<=x:=hx;omega)) hp.size;refine⟨?_,?_,?_,?_,λ_=>by rw[e7];exact h7,?_,λ_=>?_⟩
 .exact λ_ e=>by simp[Qe]at e
 .exact λ_=>by simp[Qe,d7]
 .exact λ_=>by simp[Qe,d11]
 .exact λ_ e=>by simp[Qe,d7]at e
 .exact λ_ e=>by simp[Qe]at e
 rw[e7,e11];refine⟨hp.os.trans hg.os,hp.tape.trans hg.tape,hp.output.trans hg.output,Nat.le_trans hg.size hp.size,λk hk hn ho'=>(QC hp (Nat.lt_of_lt_of_le hk hg.size) hn).trans (hg.block k hk ho'),ZG _ _ hbx,h7,?_⟩;refine Qg.monoR (Qg.keepFrom ho λb hb' hl=>QC hp hl (by omega)) λ_ _ _ hr=>hr.keep (λ_ hx _=>hx) (λx hx hl=>QC hp hl (by have h1:B<=x:=hx.1;omega)) hp.size
end
theorem Ie(u v:Value)(d:TDisk)(D:Nat->Prop)(w:World)(h:QB w D u v d)(hL:Laid w):
  Calls prog 36 #[VH u v] w λe w'=>∃u' v' vl,e=.returned (.tuple #[VH u' v',vl,.int .i64 (QD d).2.2])/\QB w' (λb=>w.heap.size<=b) u' v' (QD d).1/\Vg w' (λb=>w.heap.size<=b) vl (QD d).2.1/\Below w.heap.size w w':=by
 have HL:=Zh hL;have Hd:=Zh (QB.true h);obtain⟨a1,c1,rfl,hc1⟩:=Sl.form h.1;obtain⟨a2,c2,rfl,hc2,hc3,hc4⟩:=Sl.form h.2;clear h hL hc1 hc4;go_enter func36,ntmps36;go_wp2_with fail
 have HB:=Zh (Bx.two (w:=w) (o:=.cells #[.slice a1 d.sa.length c1,.slice a2 d.wt.length c2] 25) (o':=.cells #[.slice none 0 0,.slice none 0 0] 25));refine(Zf _ _ d _ _ (QB.below Hd.o HB.o.bel) (HL.o.below HB.o.bel)).mono ?_;rintro e w1⟨rfl,hb1⟩;have HB1:=Zh (HB.o.below hb1);clear hb1 HB;by_cases h0:UA d=0
 .have H0:=Zh h0;have Hsum:Hid (d.sa.length+d.wt.length<=60000):=(Zx h0).1;rw[h0];clear h0;have hq0:=HB1.o.cells0;have hcv:=Xz (Qu.below Hd.o.1 HB1.o.bel);go_wp2_with fail
  clear hq0 hcv;refine(lines_any d.sa 40 _ (HL.o.below HB1.o.bel) (by have:=Hsum.o;omega) (by decide)).mono ?_;obtain⟨⟨l,nl,el⟩,hl⟩:∃E,Qv d.sa 40=E:=⟨_,rfl⟩;have Hl:=Zh hl;have hl40:l.length<=40:=by have:=(Vb d.sa 40).2.1;rw[hl]at this;exact this
  rw[hl];rintro e w2⟨vl,rfl,hol,hb2⟩;dsimp only at hol;have HB2:=Zh (HB1.o.below hb2);have Hol:=Zh hol;have Hlt:=Zh (Q9.lt hol);have Hb2s:Hid (w1.heap.size<=w2.heap.size):=hb2.size;obtain⟨al,cl,rfl⟩:=Qg.slice hol;have hsub:IntKind.i64.wrap (40-(l.length:Int))=((40-l.length:Nat):Int):=by rw[show((40-l.length:Nat):Int)=40-(l.length:Int) by omega];exact IntWalk.i64_in _ (by omega)
  have hsub2:40-(l.length:Int)=((40-l.length:Nat):Int):=by omega
  have Hw1:Hid (w.heap.size+2<=w1.heap.size):=HB1.o.top;have Hl40:=Zh hl40;have hq0:=HB2.o.cells0;have hcv:=Xz (Qu.below Hd.o.2 HB2.o.bel);clear hl hol hb2;dsimp only;go_wp2_with fail
  clear hq0 hcv;refine(lines_any d.wt (40-l.length) _ (HL.o.below HB2.o.bel) (by have:=Hsum.o;omega) (by omega)).mono ?_;obtain⟨⟨m,nw,em⟩,hm⟩:∃E,Qv d.wt (40-l.length)=E:=⟨_,rfl⟩;have Hm:=Zh hm
  have hnw:nw<=d.wt.length:=by
   obtain⟨_,_,t,h3,h4,_⟩:=Vb d.wt (40-l.length);rw[hm]at h3 h4;dsimp only at h3 h4;have:=congrArg List.length h3;rw[List.length_append]at this;omega
  have hm40:m.length<=40-l.length:=by have:=(Vb d.wt (40-l.length)).2.1;rw[hm]at this;exact this
  rw[hm];rintro e w0⟨vm,rfl,hom,hb3⟩;dsimp only at hom;have HB3:=Zh (HB2.o.below hb3);obtain⟨am,cm,rfl⟩:=Qg.slice hom
  have HE:Hid (QD d=(⟨d.sa++d.wt.take nw,[]⟩,l++m,0)):=by
   show _=_;unfold QD Qa3;rw[if_neg (by rw[H0.o];simp),Hl.o];dsimp only;rw[Hm.o]
  have HO:Hid (Q9 w0 w1.heap.size (.slice al l.length cl) l):=Q9.below Hol.o hb3;have HBB:Hid (w.heap.size+1<w1.heap.size):=by show _<_;have:=Hw1.o;omega
  have HM:Hid (∀W,Below w0.heap.size w0 W->Sl W (λb=>w1.heap.size<=b) 5 (QbR W (λb=>w1.heap.size<=b/\(Value.slice al l.length cl).ownBlock≠some b)) (.slice am m.length cm) m):=λW hW=>by
   have h1:=Q9.below hom hW;refine Sl.mono (Qg.sl (D:=λb=>w2.heap.size<=b) h1 (λ_ hb=>hb)) (λb hb _=>by have h2:w2.heap.size<=b:=hb;have:=Hb2s.o;show _<=_;omega) (λ_ _ _=>rfl) Znl λ_ _ _ hr=>hr.keep (λb hb _=>⟨by have:=hb.1;have:=Hb2s.o;omega,λe=>by have h2:=Hlt.o b e;have:=hb.1;omega⟩) (λ_ _ _=>rfl) Znl
  have HOb:Hid ((∀g,(Value.slice al l.length cl).ownBlock=some g->g<w0.heap.size)/\∀g,(Value.slice al l.length cl).ownBlock=some g->g≠w.heap.size+1):=⟨λg hg=>by have:=Hlt.o g hg;have:=hb3.size;omega,λg hg=>by have:=Qg.block Hol.o g hg;have:=Hw1.o;omega⟩;have Hlm:Hid (l.length+m.length<=40):=by show _<=_;omega
  have HBr:Hid (∀W,Below w0.heap.size w0 W->∀i,W.cell? ⟨w.heap.size,i,none⟩=(#[.slice a1 d.sa.length c1,.slice a2 d.wt.length c2]:Array Value)[i]?):=λW hW=>(HB3.o.below hW).cells0;have HBt:Hid (w0.heap[w.heap.size+1]?=some (.cells #[.slice none 0 0,.slice none 0 0] 25)):=HB3.o.at_ 1 _ rfl;have HSB:Hid (∀W,Below w0.heap.size w0 W->Qu W (λ_=>True) (.slice a1 d.sa.length c1) d.sa/\Qu W (λ_=>True) (.slice a2 nw c2) (d.wt.take nw)):=λW hW=>⟨Qu.below (Qu.below Hd.o.1 HB3.o.bel) hW,Sl.take (Qu.below (Qu.below Hd.o.2 HB3.o.bel) hW) hnw⟩;have hn0:(0:Int)<=(nw:Int):=by omega
  have hnc:(nw:Int)<=(c2:Int):=by omega
  have Hsz:Hid (w.heap.size+2<=w0.heap.size):=HB3.o.top;have Hs10:Hid (w1.heap.size<=w0.heap.size):=by show _<=_;have:=hb3.size;have:=Hb2s.o;omega
  have HBw:Hid (Below w.heap.size w w0):=HB3.o.bel;obtain⟨i0,hi,hz0,hz1,hz2⟩:=info_parts Qbp;have Hi:=Zh hi;clear hi hm hom hb3 hnw hm40 hl40 hsub hsub2;dsimp only;go_wp2_with fail
  refine RV.Yu (RcI w0 (w.heap.size+1) (.slice al l.length cl) w1.heap.size d.sa (d.wt.take nw) l m) (λ_ _ _ _=>True) (λ_ _ _ _=>True) (by kernel_rfl) (by kernel_rfl) _ rfl (λ_ _ _ _ _ _ _ _ _ _ _ _=>trivial) (λ_ _ _ _ _ _ _ _=>trivial) RcI.start ?_
  iterate 6 (refine RV.QU (λK hK=>?_);apply Exists.intro;refine⟨λdn vf W hI hd0 hd hn hf R hR=>?_,?_,?_⟩;(first|(clear hd0 hd hn hf;go_simp;exact hR _ _ (hI.same (by decide) (by decide) (by decide) (by decide)) trivial rfl trivial);exact(λ_ _ _=>rfl)|(have n11:dn 11=false:=hn 11 (by decide);have n12:dn 12=false:=hn 12 (by decide);have hqb:=HBr.o W (hI.fr n11 n12);clear hd0 hd hn hf;go_simp;exact hR _ _ (hI.same (by decide) (by decide) (by decide) (by decide)) trivial rfl trivial);exact(λ_ _ _=>rfl));(go_simp;refine hK _ ?_;clear hK K))
  (refine RV.VO λK hK=>⟨λdn vf W hI hd0 hd hn hf R hR=>?_,?_⟩;(have n11:dn 11=false:=hn 11 (by decide);have n12:dn 12=false:=hn 12 (by decide);have n7:dn 7=false:=hn 7 (by decide);have HNW:=Zh (hI.new6 n7 n11 n12 (HSB.o W (hI.fr n11 n12)).1 (HSB.o W (hI.fr n11 n12)).2);clear hd0 hd hn hf hI;go_simp;exact hR _ _ HNW.o trivial trivial trivial);(go_simp;refine hK _ ?_;clear hK K))
  (refine RV.VO λK hK=>⟨λdn vf W hI hd0 hd hn hf R hR=>?_,?_⟩;(have n11:dn 11=false:=hn 11 (by decide);have n12:dn 12=false:=hn 12 (by decide);have d6:dn 6=true:=hd 6 (by decide);have h6:=hI.c6 d6 hd0;obtain⟨x6,y6,hv6,_⟩:=Sl.form h6;have hv6':vf 6=.slice x6 2 y6:=hv6;have H6:=Zh h6;have HI:=Zh hI;rw[hv6']at H6;clear h6 hv6 hI hd hn hf;go_simp;go_at_call 81;refine(Xm _ [d.sa,d.wt.take nw] _ W H6.o (by have:=Hsum.o;simp[Vy];omega)).mono ?_;rintro e w9 ⟨v9,rfl,ho9,hb9⟩;rw[show [d.sa,d.wt.take nw].flatten=d.sa++d.wt.take nw by simp]at ho9;exact⟨_,rfl,hR _ _ (HI.o.conc7 hd0 n11 n12 hb9 ho9) trivial trivial trivial⟩);(go_simp;refine hK _ ?_;clear hK K))
  (refine RV.QU (λK hK=>?_);refine⟨λvf=>Value.agg #[vf 7,.slice none 0 0],?_⟩;refine⟨λdn vf W hI hd0 hd hn hf R hR=>?_,?_,?_⟩;(have d7:dn 7=true:=hd 7 (by decide);have h7:=hI.c7 d7;obtain⟨x7,y7,hv7,_⟩:=Sl.form h7;obtain⟨N,hN⟩:∃N,(d.sa++d.wt.take nw).length=N:=⟨_,rfl⟩;rw[hN]at hv7;clear hN;have HI:=Zh hI;clear hI h7;clear hd0 hd hn hf;go_simp;exact hR _ _ (HI.o.same (by decide) (by decide) (by decide) (by decide)) trivial (by show _=Value.agg #[vf 7,.slice none 0 0];rw[hv7]) trivial);exact(λf g h=>by show Value.agg #[f 7,.slice none 0 0]=Value.agg #[g 7,.slice none 0 0];rw[h 7 (by decide)]);(go_simp;refine hK _ ?_;clear hK K))
  iterate 2 (refine RV.QU (λK hK=>?_);apply Exists.intro;refine⟨λdn vf W hI hd0 hd hn hf R hR=>?_,?_,?_⟩;(clear hd0 hd hn hf;go_simp;exact hR _ _ (hI.same (by decide) (by decide) (by decide) (by decide)) trivial rfl trivial);exact(λ_ _ _=>rfl);(go_simp;refine hK _ ?_;clear hK K))
  (refine RV.VO λK hK=>⟨λdn vf W hI hd0 hd hn hf R hR=>?_,?_⟩;(have d7:dn 7=true:=hd 7 (by decide);have n12:dn 12=false:=hn 12 (by decide);have hfr:=hI.fr hd0 n12;have hO:=Q9.below HO.o hfr;have hM:Sl W (λb=>w1.heap.size<=b) 5 (QbR W (λb=>w1.heap.size<=b/\(Value.slice al l.length cl).ownBlock≠some b)) (.slice am m.length cm) m:=(HM.o W hfr);refine YT rfl ?_;refine Ez (.tmp 46) (.tmp 47) 68 rfl w1.heap.size 56 i0 _ 5 56 underlying68 Hi.o hz0 hz1 hz2 rfl (by decide) (.slice al l.length cl) l (by rfl) hO (.slice am m.length cm) m (by rfl) hM (λy _ cs h=>IX y cs h) (by have:=Hlm.o;unfold maxLen;omega) (by have:=Hlm.o;omega) (by have:=hfr.size;have:=Hs10.o;omega) (λv' w' h1 h2 h3=>hR _ _ (hI.app11 d7 hd0 n12 HOb.o h1 h2 h3) trivial trivial trivial));(go_simp;refine hK _ ?_;clear hK K))
  (refine RV.VO λK hK=>⟨λdn vf W hI hd0 hd hn hf R hR=>?_,?_⟩;(have d11:dn 11=true:=hd 11 (by decide);have d7:=hI.o1 d11;have h7:=hI.c7 d7;obtain⟨x7,y7,hv7,_⟩:=Sl.form h7;obtain⟨N,hN⟩:∃N,(d.sa++d.wt.take nw).length=N:=⟨_,rfl⟩;rw[hN]at hv7;clear hN h7;have hbt:=hI.box d11 hd0 HBt.o HOb.o.2;have hqt:=Qb hbt;have hft:=Qp hbt;have hF:=hI.fin12 (v:=undef) d11 hd0 HBt.o HOb.o HBB.o;rw[hv7]at hF;have HF:=Zh hF;clear hd0 hd hn hf hF hI hbt;go_simp;exact hR _ _ HF.o trivial trivial trivial);(go_simp;refine hK _ ?_;clear hK K))
  iterate 2 (refine RV.QU (λK hK=>?_);apply Exists.intro;refine⟨λdn vf W hI hd0 hd hn hf R hR=>?_,?_,?_⟩;(first|(clear hd0 hd hn hf;go_simp;exact hR _ _ (hI.same (by decide) (by decide) (by decide) (by decide)) trivial rfl trivial);exact(λ_ _ _=>rfl)|(have HI:=Zh hI;clear hI;clear hd0 hd hn hf;go_simp;exact hR _ _ (HI.o.same (by decide) (by decide) (by decide) (by decide)) trivial rfl trivial);exact(λf g h=>h 11 (by decide)));(go_simp;refine hK _ ?_;clear hK K))
  intro dn vf w5 hdone hI _;have hF:=hI.fin (hdone 12 (by decide));clear hdone hI;obtain⟨v7,h7⟩:∃v,vf 7=v:=⟨_,rfl⟩;obtain⟨v11,h11⟩:∃v,vf 11=v:=⟨_,rfl⟩;rw[h7,h11]at hF;obtain⟨x7,y7,rfl,_⟩:=Sl.form hF.bytes;obtain⟨x11,y11,rfl⟩:=Qg.slice hF.recs;have hqb:=Qb hF.box;have HF:=Zh hF
  have HBL:Hid (Below w.heap.size w w5):=⟨hF.os.trans HBw.o.os,hF.tape.trans HBw.o.tape,hF.output.trans HBw.o.output,Nat.le_trans HBw.o.size hF.size,λk hk=>by
   rw[hF.blk k (Nat.lt_of_lt_of_le hk HBw.o.size) (by omega) (λe=>by have h1:=Qg.block HO.o k e.symm;have:=Hw1.o;omega)];exact HBw.o.block k hk⟩
  have HRD:Hid (QB w5 (λb=>w.heap.size<=b) (.slice x7 (d.sa++d.wt.take nw).length y7) (.slice none 0 0) ⟨d.sa++d.wt.take nw,[]⟩):=⟨hF.bytes.keep (λb hb _=>by have h1:w0.heap.size<=b:=hb;have:=Hsz.o;show _<=_;omega) (λ_ _ _=>rfl) Znl,Ye _ _⟩;have HRC:Hid (Vg w5 (λb=>w.heap.size<=b) (.slice x11 (l++m).length y11) (l++m)):=(Q9.read hF.recs).keep (λb hb _=>by have h1:w1.heap.size<=b:=hb;have:=Hw1.o;show _<=_;omega) (λ_ _ _=>rfl) Znl;obtain⟨N7,hN7⟩:∃N,(d.sa++d.wt.take nw).length=N:=⟨_,rfl⟩;obtain⟨N11,hN11⟩:∃N,(l++m).length=N:=⟨_,rfl⟩;rw[hN7]at HRD hqb h7;rw[hN11]at HRC h11;clear hF hN7 hN11 HF;dsimp only;go_wp2;refine bodyPost_ret (v:=.tuple #[VH (.slice x7 N7 y7) (.slice none 0 0),.slice x11 N11 y11,.int .i64 0]) ?_ rfl (by rw[HE.o];exact⟨_,_,_,rfl,HRD.o,HRC.o,HBL.o⟩);simp[results,results36,go_sem,hqb,h11]
 have HE:Hid (QD d=(zeroDisk,[],UA d)):=by show _=_;unfold QD;rw[if_pos h0]
 have hne:(UA d != 0)=true:=bne_iff_ne.2 h0;generalize UA d=E at *;clear h0;have hq1:=HB1.o.cells1;have hf1:=HB1.o.free1;have HS:=Zh ((HB1.o.set (i:=1) rfl 0 (.slice none 0 0)).set (i:=1) rfl 1 (.slice none 0 0));have hqs:=HS.o.cells1;have HBL:=Zh HS.o.bel;clear HS;go_wp2;refine bodyPost_ret (v:=.tuple #[VH (.slice none 0 0) (.slice none 0 0),.slice none 0 0,.int .i64 E]) ?_ rfl (by rw[HE.o];exact⟨_,_,_,rfl,U7 _ _,Qbu _ _,HBL.o⟩);simp[results,results36,go_sem,hqs]
end
section
open Go.RowKit Go.Shelf
attribute [local go_sem] gives QG
attribute [-go_sem] run_string_add_if run_slice_string_if run_slice_string
@[reducible] def kindRow:Array Value:=#[Value.string (bsL [111,112,101,110,32]),.string (bsL [116,105,103,104,116,32]),.string (bsL [102,111,114,107,32]),.string (bsL [115,104,117,116,32])]
theorem Qcp{v:Int}(h0:1<=v)(h1:v<=4):kindRow[(v-1).toNat]?=some (.string (bsL (Je v++[32]))):=by
 rcases(by omega:v=1\/v=2\/v=3\/v=4)with rfl|rfl|rfl|rfl<;>rfl
theorem QcI(v:Value)(r:TRec)(D:Nat->Prop)(w:World)(h:Qc w D v r.p.ru)(hL:Ov w):
  Calls prog 27 #[Yg r v] w λe w'=>e=.returned (.tuple #[.string (bsL (Yl r).1),.int .i64 (Yl r).2])/\Below w.heap.size w w':=by
 have H:=Zh (Qc.keep h (D':=λb=>b<w.heap.size) (λ_ _ hl=>hl) (λ_ _ _=>rfl) Znl);have HL0:=Zh hL;obtain⟨kd,cl,fr,p⟩:=r;dsimp only at H h⊢;obtain⟨a,c,rfl,hlc,hcm,hat⟩:=Sl.form H.o;clear h hL hlc hcm hat;go_enter func27,ntmps27;go_wp2_with fail
 have HB0:=Zh (Bx.one (w:=w) (o:=.cells #[.int .i64 kd,.int .i64 cl,.int .i64 fr,.slice a p.ru.length c,.int .i64 p.df] 56));refine(Xd _ ⟨kd,cl,fr,p⟩ _ _ (Qc.below H.o HB0.o.bel)).mono ?_;rintro e w1⟨rfl,hb1⟩;have HB:=Zh (HB0.o.below hb1);clear hb1 HB0;by_cases h0:UJ ⟨kd,cl,fr,p⟩=0
 .have HE:Hid (Yl ⟨kd,cl,fr,p⟩=(Zc ⟨kd,cl,fr,p⟩,0)):=if_pos h0;obtain⟨hk1,hk2,hc0,hc1,hf0,hf1,_,_,hp⟩:=Y5 h0;dsimp only at hk1 hk2 hc0 hc1 hf0 hf1 hp;have Hp:=Zh hp;have HL:=Zh (HL0.o.below HB.o.bel);rw[h0];clear h0 hp;have hkl:=EK kd;have hil:=Lib.itoa_length_le cl (by omega) (by omega);obtain⟨s1,hs1⟩:∃s1,Je kd++[32]=s1:=⟨_,rfl⟩;obtain⟨s2,hs2⟩:∃s2,s1++Lib.itoa cl=s2:=⟨_,rfl⟩;have hl1:s1.length<=6:=by rw[<-hs1];simp;omega
  have hl2:s2.length<=27:=by rw[<-hs2];simp;omega
  have hb2:∀W:World,(Op.stringOp .add (bsL s1) (bsL (Lib.itoa cl))).run prog W=.ok (.string (bsL s2)) W:=λW=>by rw[<-hs2];exact Xg s1 (Lib.itoa cl) (by omega) W
  have HS:Hid (s2=Je kd++32::Lib.itoa cl):=by show _=_;rw[<-hs2,<-hs1];simp
  obtain⟨j,hj⟩:∃j,kd-1=j:=⟨_,rfl⟩;have Hcell:Hid (kindRow[j.toNat]?=some (.string (bsL s1))):=by show _=_;rw[<-hj,<-hs1];exact Qcp hk1 hk2
  have hwj:IntKind.i64.wrap (kd-1)=j:=by rw[hj];exact IntWalk.i64_in _ (by omega)
  have hj0:0<=j:=by omega
  have hj4:j<4:=by omega
  have Hl2:=Zh hl2;clear hs1 hs2 hl1 hj;have hq0:=HB.o.cells0;go_wp2_with fail
  clear hq0;refine Xx [pr (QfJ kindRow 9 4),ex (.pointer (some ⟨w.heap.size,0,none⟩)),ex (.int .i64 kd),ex (.int .i64 j),pr (QiE kindRow 9 j.toNat),ex (.string (bsL s1)),ex (.pointer (some ⟨w.heap.size,1,none⟩)),ex (.int .i64 cl),ex (.string (bsL (Lib.itoa cl))),ex (.string (bsL s2)),ex (.string (bsL s2))] _ Znl (by kernel_rfl) (by kernel_rfl) ⟨.inr ⟨_,rfl,O6⟩,.inl ⟨_,rfl⟩,.inl ⟨_,rfl⟩,.inl ⟨_,rfl⟩,.inr ⟨_,rfl,I5⟩,.inl ⟨_,rfl⟩,.inl ⟨_,rfl⟩,.inl ⟨_,rfl⟩,.inl ⟨_,rfl⟩,.inl ⟨_,rfl⟩,.inl ⟨_,rfl⟩,trivial⟩ ?_
  (refine Ya λK hK=>⟨λW hC hd R hR=>?_,λv0=>?_⟩;(clear hd;go_simp;exact hR _ _ (Qa Zbr _) ⟨_,rfl,Qh _ _⟩);(go_simp;refine hK _ _ ?_;clear hK K))
  iterate 3 (refine Qs λK hK=>⟨λW hC hd R hR=>?_,?_⟩;(first|(clear hd;go_simp;exact hR _ _ Zbr rfl)|(have hqb:=(HB.o.below hC.2).cells0;clear hd;go_simp;exact hR _ _ Zbr rfl));(go_simp;refine hK _ ?_;clear hK K))
  (refine Ya λK hK=>⟨λW hC hd R hR=>?_,λv4=>?_⟩;(have hv:QfJ kindRow 9 4 v0 W:=hd 0 (by decide);obtain⟨b0,rfl,hc0⟩:=hv;have Hc0:=Zh hc0;clear hc0;clear hd;go_simp;exact hR _ _ Zbr ⟨b0,rfl,Hc0.o⟩);(go_simp;refine hK _ _ ?_;clear hK K))
  iterate 6 (refine Qs λK hK=>⟨λW hC hd R hR=>?_,?_⟩;(first|(clear hd;go_simp;exact hR _ _ Zbr rfl)|(have hqb:=(HB.o.below hC.2).cells0;clear hd;go_simp;exact hR _ _ Zbr rfl)|(have HLW:=Zh (HL.o.below hC.2).base;clear hd;go_simp;go_at_call 65;refine(X8 cl (by omega) (by omega) _ HLW.o).mono ?_;rintro e w9 ⟨rfl,hb9⟩;exact⟨_,rfl,hR _ _ hb9 rfl⟩)|(have hv:QiE kindRow 9 j.toNat v4 W:=hd 4 (by decide);obtain⟨b0,rfl,hc0⟩:=hv;have hcell:=(Qb hc0 _).trans Hcell.o;clear hc0;clear hd;go_simp;exact hR _ _ Zbr rfl));(go_simp;refine hK _ ?_;clear hK K))
  intro w2 hC2 _;have HB2:=Zh (HB.o.below hC2.2);have HL2:=Zh (HL.o.below hC2.2);clear hC2 hb2 HB HL hkl hil hl2 hwj hj0 hj4 Hcell;have hq0:=HB2.o.cells0;have hkd:kd=1\/kd=2\/kd=3\/kd=4:=by omega
  have hs32:∀(t:List UInt8),t.length<=34100->∀W:World,(Op.stringOp .add (bsL s2) (bsL t)).run prog W=.ok (.string (bsL (s2++t))) W:=λt ht W=>Xg s2 t (by have:=Hl2.o;omega) W;have h32:∀W:World,(Op.stringOp .add (bsL s2) ⟨#[32]⟩).run prog W=.ok (.string (bsL (s2++[32]))) W:=hs32 [32] (by decide);clear hk1 hk2;rcases hkd with rfl|rfl|rfl|rfl
  .have Hok:=Zh (Hp.o (by decide));have htl:=Jm Hok.o;have hadd2:∀W:World,(Op.stringOp .add (bsL (s2++[32])) (bsL (Vo p))).run prog W=.ok (.string (bsL ((s2++[32])++Vo p))) W:=λW=>Xg (s2++[32]) (Vo p) (by have:=Hl2.o;simp;omega) W;clear hs32;go_wp2_with fail
   refine(Qcz _ p _ _ (Qc.below H.o HB2.o.bel) Hok.o HL2.o).mono ?_;rintro e w3⟨rfl,hb3⟩;have HB3:=Zh (HB2.o.below hb3);clear hb3 hq0;go_wp2;go_ret2;exact⟨by rw[HE.o,HS.o];simp[Zc,tailW],HB3.o.bel⟩
  .have Hok:=Zh (Hp.o (by decide));have htl:=Jm Hok.o;have hadd2:∀W:World,(Op.stringOp .add (bsL (s2++[32])) (bsL (Vo p))).run prog W=.ok (.string (bsL ((s2++[32])++Vo p))) W:=λW=>Xg (s2++[32]) (Vo p) (by have:=Hl2.o;simp;omega) W;clear hs32;go_wp2_with fail
   refine(Qcz _ p _ _ (Qc.below H.o HB2.o.bel) Hok.o HL2.o).mono ?_;rintro e w3⟨rfl,hb3⟩;have HB3:=Zh (HB2.o.below hb3);clear hb3 hq0;go_wp2;go_ret2;exact⟨by rw[HE.o,HS.o];simp[Zc,tailW],HB3.o.bel⟩
  .have hfl:=Lib.itoa_length_le fr (by omega) (by omega);have hadd2:∀W:World,(Op.stringOp .add (bsL (s2++[32])) (bsL (Lib.itoa fr))).run prog W=.ok (.string (bsL ((s2++[32])++Lib.itoa fr))) W:=λW=>Xg (s2++[32]) (Lib.itoa fr) (by have:=Hl2.o;simp;omega) W;clear hs32;go_wp2_with fail
   refine(X8 fr (by omega) (by omega) _ HL2.o.base).mono ?_;rintro e w3⟨rfl,hb3⟩;have HB3:=Zh (HB2.o.below hb3);clear hb3 hq0;go_wp2;go_ret2;exact⟨by rw[HE.o,HS.o];simp[Zc,tailW],HB3.o.bel⟩
  clear hs32;go_wp2;go_ret2;exact⟨by rw[HE.o,HS.o];simp[Zc,tailW],HB2.o.bel⟩
 have HE:Hid (Yl ⟨kd,cl,fr,p⟩=([],UJ ⟨kd,cl,fr,p⟩)):=if_neg h0;have hne:(UJ ⟨kd,cl,fr,p⟩ != 0)=true:=bne_iff_ne.2 h0;have HBf:=Zh HB.o.bel;generalize UJ ⟨kd,cl,fr,p⟩=E at *;clear h0;go_wp2;go_ret2;exact⟨by rw[HE.o];rfl,HBf.o⟩
end
section
open Go.RowKit
theorem Qd8:(prog.info? 56).map (λi=>(i.zero,i.size,i.bytes))=some (some (.agg #[.int .i64 0,.int .i64 0,.int .i64 0,.slice none 0 0,.int .i64 0]),5,56):=by kernel_rfl
theorem Qdr{α:Type}(R:α->List Value->Prop)(n:Nat)(w:World)(hn:n*56<=140737488355328):Calls prog 125 #[.slice none 0 0,.int .i64 n] w λe w'=>∃v,e=.returned v/\Qg w' w.heap.size 56 5 R v ([]:List α)/\Below w.heap.size w w':=by
 by_cases h0:n=0
 .subst h0;go_enter func125,ntmps125;go_wp2;go_ret;exact⟨_,rfl,Qg.nil,Below.refl _ _⟩
 obtain⟨i0,hi,hz0,hz1,hz2⟩:=info_parts Qd8;have hrun:=λ(W:World)(ty:TypeId)=>Lib.run_append_nil_zeros (P:=prog) W 68 3 ty 56 i0 (.agg #[.int .i64 0,.int .i64 0,.int .i64 0,.slice none 0 0,.int .i64 0]) .i64 .i64 underlying68 underlying3 hi hz0 n (by omega) (by rw[hz1];omega) (by omega) (by rw[hz2];omega);have hgc:∀W:World,grownCap W n 0 56<=maxLen:=λW=>grownCap_le_maxLen W n 0 56 (by unfold maxLen;omega);have h1:0<(n:Int):=by omega
 have h2:(n:Int)<=9223372036854775807:=by omega
 have Hrun:=Zh hrun;have Hz:=Zh hz1;clear hrun hi hz0 hz1 hz2 h0 hn;go_enter func125,ntmps125;go_wp2_with(at_builtin;refine Lib.wpList_append_run _ rfl _ _ _ _ rfl _ _ rfl rfl _ _ (Hrun.o _ _) ?_)
 go_ret;refine⟨_,rfl,⟨[],Qq.nil,by simp,.inr ⟨w.heap.size,grownCap w n 0 56,_,rfl,Nat.le_refl _,UM rfl,by simp,hgc w,?_,by simp⟩⟩,(Qa Zbr _).drew⟩;have hge:=grownCap_ge w n 0 56;simp[size_zeroCells];omega
def Qes{α:Type}(R:α->List Value->Prop)(w:World)(D:Nat->Prop)(l:List α)(cs:List Value):Prop:=∃u,cs=[u]/\Sl w D 5 R u l
theorem Qbi{α:Type}(R:α->List Value->Prop)(h1R:∀(y:α)(cs:List Value),R y cs->∀c∈cs,c.oneCell'=true)(v:Value)(ls:List (List α))(D:Nat->Prop)(w:World)(h:Sl w D 1 (Qes R w D) v ls)(hn:Vy ls ls.length*56<=140737488355328):
  Calls prog 85 #[v] w λe w'=>∃v',e=.returned v'/\Qg w' w.heap.size 56 5 R v' ls.flatten/\Below w.heap.size w w':=by
 obtain⟨a,c,rfl,hlc,hcm,hat⟩:=Sl.form h;obtain⟨i0,hi,hz0,hz1,hz2⟩:=info_parts Qd8;have H:=Zh h;clear h
 have hrow:∀k (hk:k<ls.length) b o,a=some ⟨b,o,none⟩->∃(u:Value)(cu:Option Addr×Nat),u=Value.slice cu.1 ls[k].length cu.2/\Sl w D 5 R u ls[k]/\∀wr,Below w.heap.size w wr->wr.cell? ⟨b,o+k,none⟩=some u:=λk hk b o e=>by
  subst e;obtain⟨cs,hcs,⟨u,hu,hs⟩,hcell⟩:=Sl.get H.o hk;obtain⟨a',c',hv,_⟩:=Sl.form hs;refine⟨u,(a',c'),hv,hs,λwr hb=>?_⟩;subst hu;have hc:=hcell 0 u rfl;rw[Nat.mul_one]at hc;exact(hb.cell (p:=⟨b,o+k,none⟩) (World.block_lt_of_cell? _ _ hc)).trans hc
 have Hrow:=Zh hrow;have Hn:=Zh hn;have hn':Vy ls ls.length<=140737488355328:=by omega
 clear hrow hn;go_enter func85,ntmps85;go_wp2_with fail
 go_loop [3,11](λs i=>∃k:Nat,k<=ls.length/\i=.int .i64 k/\s=.int .i64 (Vy ls k)) (λ_ i=>ls.length-(intOf i).toNat)
 case atStart=>exact⟨0,by omega,rfl,rfl⟩
 case round=>
  obtain⟨k,hk,rfl,rfl⟩:=hrel;by_cases hlt:k<ls.length
  .obtain⟨b,o,rfl,hDb,hb⟩:=hat (by omega);obtain⟨u,⟨a',c'⟩,rfl,hs,hc⟩:=Hrow.o k hlt b o rfl;have hcw:=hc w Zbr;have hle:=YQ ls (k+1) (by omega);have Hs:=Zh (XA ls k hlt);have hle':Vy ls k+ls[k].length<=140737488355328:=by have:=Hs.o;omega
   clear hs hc;go_wp2
   go_round
   case rel=>exact⟨k+1,by omega,by go_num,by rw[Hs.o];go_num⟩
   case measure=>simp[intOf];omega
  obtain rfl:k=ls.length:=by omega
  go_wp2_with fail
  refine(Qdr R (Vy ls ls.length) _ Hn.o).mono ?_;rintro e w1⟨vg,rfl,hown,hb1⟩;go_wp2_with fail
  go_loopw[6,27](λs i wr=>∃(k:Nat)(vs:Value),k<=ls.length/\i=.int .i64 k/\vs=s/\Qg wr w.heap.size 56 5 R vs (ls.take k).flatten/\Below w.heap.size w wr) (λ_ i _=>ls.length-(intOf i).toNat)
  case atStart=>exact⟨0,vg,by omega,rfl,rfl,by simpa using hown,hb1⟩
  case round=>
   obtain⟨k,vs,hk,rfl,rfl,hown,hbw⟩:=hrel;have Hown:=Zh hown;have hsz:=hbw.size;clear hown;by_cases hlt:k<ls.length
   .obtain⟨b,o,rfl,hDb,hb⟩:=hat (by omega);obtain⟨u,⟨a',c'⟩,rfl,hs,hc⟩:=Hrow.o k hlt b o rfl;have hcw:=hc wr hbw;have hle:=YQ ls (k+1) (by omega);have Hl:=Zh (XA ls k hlt);have hs':Sl wr D 5 R (.slice a' ls[k].length c') ls[k]:=Sl.mono hs (λ_ h _=>h) (λb _ hlt=>hbw.block b hlt) hbw.size (λ_ _ _ h=>h);have Hs':=Zh hs';have Hs:=Zh (U1 ls k hlt);clear hs hc hs';go_wp2_with(at_builtin;refine U6 rfl _ _ 68 rfl w.heap.size 56 i0 _ 5 56 underlying68 hi hz0 hz1 hz2 rfl (by decide) _ _ rfl Hown.o _ _ rfl Hs'.o (λy _ cs h=>h1R y cs h) (by have:=Hl.o;unfold Vy at *;unfold maxLen;omega) (by have:=Hn.o;have:=Hl.o;unfold Vy at *;omega) hsz ?_;intro v' w2 hown' hg)
    go_roundw
    case rel=>exact⟨k+1,v',by omega,by go_num,rfl,by rw[<-U1 ls k hlt];exact hown',Hown.o.grown hbw hg hsz Znl⟩
    case measure=>simp[intOf];omega
   obtain rfl:k=ls.length:=by omega
   have Hf:Hid (Qg wr w.heap.size 56 5 R vs ls.flatten):=by have:=Hown.o;rwa [List.take_length]at this
   go_wp2;go_ret;exact⟨_,rfl,Hf.o,hbw⟩
end
end Go.Proofs.YthkgjohhbdipcaaGreatDoor
