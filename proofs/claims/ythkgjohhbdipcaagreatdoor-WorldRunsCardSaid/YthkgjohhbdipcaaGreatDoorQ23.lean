/- Texts laid one behind the other: Looser, RRule, RBoth, BoolMap, BoolRange. No condition beyond theirs. -/
import Derived.Test.YthkgjohhbdipcaaGreatDoorQ22
import Derived.Test.YthkgjohhbdipcaaGreatDoorQ6
import Derived.Test.YthkgjohhbdipcaaGreatDoorQ20
import Derived.Test.YthkgjohhbdipcaaGreatDoorQ21
import Derived.Laws.EntriesVeiled
import Derived.Test.YthkgjohhbdipcaaGreatDoorProg
import Derived.Test.YthkgjohhbdipcaaGreatDoorQ3
import Derived.Maps.OwnSet
import Derived.KernelRfl
import Derived.Maps.RangeWalk
import Derived.Laws.IdiomRangeMap
set_option linter.all false
set_option maxHeartbeats 64000000
set_option maxRecDepth 100000
namespace Go.Proofs.YthkgjohhbdipcaaGreatDoor
open Tryz
section
open Go.RowKit
theorem QbI{W:World}{b:Nat}{T:TypeId}{D:Nat->Prop}{u v:Value}{p q:TPol}(hb:W.heap[b]?=some (.cells #[u,.int .i64 p.df,v,.int .i64 q.df] T))(hp:Qc W D u p.ru)(hq:Qc W D v q.ru)(hD:D b):Xy W D (.slice (some ⟨b,0,none⟩) 2 2) [p,q]:=
 Ub (xs:=[p,q]) (rows:=[[u,.int .i64 p.df],[v,.int .i64 q.df]]) (Qq.cons (Qq.cons Qq.nil ⟨_,rfl,hq⟩ rfl) ⟨_,rfl,hp⟩ rfl) hb rfl hD (by simp[maxLen])
theorem Qgm{W:World}{b:Nat}{T:TypeId}{D:Nat->Prop}{u:Value}{p:TPol}(hb:W.heap[b]?=some (.cells #[u,.int .i64 p.df] T))(hp:Qc W D u p.ru)(hD:D b):Xy W D (.slice (some ⟨b,0,none⟩) 1 1) [p]:=
 Ub (xs:=[p]) (rows:=[[u,.int .i64 p.df]]) (Qq.cons Qq.nil ⟨_,rfl,hp⟩ rfl) hb rfl hD (by simp[maxLen])
theorem Qb5(f:Int)(c:TCond):(Uo f c).length<=2:=by unfold Uo;split<;>(try split)<;>simp
theorem XV{α β:Type}(g:α->List β)(m:Nat):∀l:List α,(∀x∈l,(g x).length<=m)->(l.flatMap g).length<=l.length*m
 |[],_=>by simp
 |x::l,h=>by
  have h1:=h x (List.mem_cons_self ..);have h2:=XV g m l (λy hy=>h y (List.mem_cons_of_mem _ hy));rw[List.flatMap_cons,List.length_append,List.length_cons,Nat.add_mul];omega
theorem QdD{p:TPol}(h:UT p)(f:Int):(Ym f p).length<=2400:=by
 have h1:∀r∈p.ru,(Xe f r).length<=20:=λr hr=>by
  have:=XV (Uo f) 2 r.cd (λc _=>Qb5 f c);have:=(h.ru r hr).len;show(r.cd.flatMap (Uo f)).length<=20;omega
 have:=XV (Xe f) 20 p.ru h1;have:=h.len;show(p.ru.flatMap (Xe f)).length<=2400;omega
theorem QeC{l:List TPol}(h:VD l=0)(hl:l.length<=2)(f:Int):(U2 l f).length*8<=140737488355328:=by
 have h1:=XV (Ym f) 2400 l (λp hp=>QdD ((Yf l).1 h p hp) f);unfold U2;simp only[List.length_cons];have:l.length*2400<=2*2400:=Nat.mul_le_mul_right _ hl;omega
theorem Qcd(g:TCall->Bool)(l:List TCall)(k:Nat)(h:k<l.length):(l.drop k).find? g=if g l[k]then some l[k]else(l.drop (k+1)).find? g:=by
 rw[List.drop_eq_getElem_cons h,List.find?_cons];cases g l[k]<;>rfl
theorem J7{p:TPol}(h:UT p){x:TCall}(hx:x.ok):Jc p x=(says p x,((judged p x).2:Int),0):=by
 unfold Jc;rw[if_neg (by rw[(UN p).2 h];simp),if_pos hx];rfl
theorem QeW(u v:Value)(p q:TPol)(w:World)(hp:Qc w (λ_=>True) u p.ru)(hq:Qc w (λ_=>True) v q.ru):
  Calls prog 193 #[U8 u p.df,U8 v q.df] w λe w'=>e=.returned (.tuple #[.bool (Uw p q).1,Yk (Uw p q).2.1,.int .i64 (Uw p q).2.2])/\Below w.heap.size w w':=by
 have Hp:=Zh hp;have Hq:=Zh hq;obtain⟨ap,cp,rfl,_⟩:=Sl.form hp;obtain⟨aq,cq,rfl,_⟩:=Sl.form hq;clear hp hq;go_enter func193,ntmps193;go_wp2_with fail
 refine(QaV _ [p,q] (λ_=>True) _ (QbI (UM (by simp)) (Hp.o.below (Qa (Qa (Qa (Qa Zbr _) _) _) _)) (Hq.o.below (Qa (Qa (Qa (Qa Zbr _) _) _) _)) trivial) (λh0 f _ _=>QeC h0 (by simp) f)).mono ?_;rintro e w1⟨v1,rfl,ho1,hb1⟩;have HB1:=Zh (Bx.three.below ((Qa Zbr _).trans (hb1.mono (by simp))));have Ho1:=Zh ho1;obtain⟨a1,c1,rfl⟩:=ho1.slice;clear ho1 hb1;by_cases h0:(Q8 [p,q]).2=0
 .obtain⟨hok,hsz5,hpe⟩:=Yw h0
  have HL:Hid (Uw p q=Qbr ((stage [p,q] 5).find? (UY p q))):=by
   refine QaG (p:=p) (q:=q) ?_;unfold Uw;rw[if_neg (by rw[h0];simp)];split<;>rfl
  have Hok:=Zh hok;have HokP:=Zh (hok p (by simp));have HokQ:=Zh (hok q (by simp));rw[hpe]at Ho1⊢;have Hl1:Hid (Xj w1 (λ_=>True) (.slice a1 (stage [p,q] 5).length c1) (stage [p,q] 5)):=Ho1.o.sl (λ_ _=>trivial);have hSl:(stage [p,q] 5).length<=1000:=by rw[VJ];assumption
  have Hpo:=Zh (λx (hx:x∈stage [p,q] 5)=>IV hok hx);obtain⟨S,hS⟩:∃S,S=stage [p,q] 5:=⟨_,rfl⟩;rw[<-hS]at Hl1 HL Hpo hSl⊢;have hat:=λh0=>Sl.at_ Hl1.o h0;clear h0 hok hpe hS Ho1 hsz5;go_wp2_with fail
  go_loopw[30](λkv wr=>∃k:Nat,kv=.int .i64 k/\k<=S.length/\(S.drop k).find? (UY p q)=S.find? (UY p q)/\Below w1.heap.size w1 wr) (λkv _=>S.length-(intOf kv).toNat)
  case atStart=>exact⟨0,rfl,Nat.zero_le _,rfl,Below.refl _ _⟩
  case round=>
   obtain⟨k,rfl,hk,hfd,hb⟩:=hrel;have Hfd:=Zh hfd;have Hb:=Zh hb;have hszr:=hb.size;have HBr:=Zh (HB1.o.below hb);have hc0:=HBr.o.cells0;have hc1:=HBr.o.cells1;clear hfd hb;by_cases hlt:k<S.length
   .obtain⟨b,o,rfl,_,hblt⟩:=hat (by omega);obtain⟨h0c,h1c,h2c,h3c,h4c⟩:=Xj.cells (Hl1.o.below Hb.o) hlt;have Hs:=Zh (Qcd (UY p q) S k hlt);have Hxo:=Zh (Hpo.o S[k] (List.getElem_mem hlt));obtain⟨x,hx⟩:∃x,S[k]=x:=⟨_,rfl⟩;rw[hx]at h0c h1c h2c h3c h4c Hs Hxo;have HJp:=Zh (J7 HokP.o Hxo.o);have HJq:=Zh (J7 HokQ.o Hxo.o);have HBa:=Zh (HBr.o.alloc (.cells (Vr x) 46));have Hxb:Hid ((wr.alloc (.cells (Vr x) 46)).heap[wr.heap.size]?=some (.cells (Vr x) 46)):=Qh _ _;have hc0':=HBa.o.cells0;have hcx':=Qb Hxb.o;clear hx hc0 hc1;go_wp2_with fail
    refine(EI _ p x _ _ (Hp.o.below HBa.o.bel)).mono ?_;rw[HJp.o];rintro e w2⟨rfl,hb2⟩;have HB2:=Zh (HBa.o.below hb2);have Hx2:=Zh (Qd Hxb.o hb2);have Hbb2:=Zh (UI (Hb.o.mono Znl) hb2);have hc1:=HB2.o.cells1;have hcx:=Qb Hx2.o;clear hb2 hc0' hcx' h0c h1c h2c h3c h4c;go_wp2_with fail
    refine(EI _ q x _ _ (Hq.o.below HB2.o.bel)).mono ?_;rw[HJq.o];rintro e w3⟨rfl,hb3⟩;have HB3:=Zh (HB2.o.below hb3);have Hx3:=Zh (Qd Hx2.o hb3);have Hbb3:=Zh (Ql Hbb2.o hb3);clear hb3 hc1 hcx;by_cases hgt:says q x<says p x
    .have hd:decide (says q x<says p x)=true:=decide_eq_true hgt
     have HR:Hid (Uw p q=(true,x,0)):=by
      show Uw p q=_;rw[HL.o,<-Hfd.o,Hs.o,if_pos (by unfold UY;exact hd)];rfl
     have hcx:=Qb Hx3.o;have hc2:=HB3.o.cells2;have hf2:∀j,w3.frozen? ⟨w.heap.size+1+1,j,none⟩=false:=λj=>HB3.o.free (i:=2) rfl j;clear hgt;go_wp2_with fail
     go_region
     have HBf:=Zh ((HB3.o.setCall2 (x:=⟨0,0,0,0,0⟩) (y:=x)).drew);have hcf:=HBf.o.cells2;go_wp2;refine bodyPost_ret (v:=.tuple #[.bool true,Yk x,.int .i64 0]) ?_ rfl ⟨by rw[HR.o],HBf.o.bel⟩;simp[results,results193,go_sem,hcf]
    have hd:decide (says q x<says p x)=false:=decide_eq_false hgt
    have HR:Hid ((S.drop (k+1)).find? (UY p q)=S.find? (UY p q)):=by
     show _=_;have:=Hs.o;rw[if_neg (by unfold UY;rw[hd];simp),Hfd.o]at this;exact this.symm
    clear hgt;go_wp2
    go_roundw
    case rel=>exact⟨k+1,by go_num,by omega,HR.o,Hbb3.o⟩
    case measure=>simp[intOf];omega
   obtain rfl:k=S.length:=by omega
   have HR:Hid (Uw p q=(false,ZQ,0)):=by
    show Uw p q=_;rw[HL.o,<-Hfd.o,List.drop_length];rfl
   have hc2:=HBr.o.cells2;have hf2:∀j,wr.frozen? ⟨w.heap.size+1+1,j,none⟩=false:=λj=>HBr.o.free (i:=2) rfl j;clear hc0 hc1;have HBf:=Zh (HBr.o.setCall2 (x:=⟨0,0,0,0,0⟩) (y:=⟨0,0,0,0,0⟩));have hcf:=HBf.o.cells2;go_wp2;refine bodyPost_ret (v:=.tuple #[.bool false,Yk ⟨0,0,0,0,0⟩,.int .i64 0]) ?_ rfl ⟨by rw[HR.o];rfl,HBf.o.bel⟩;simp[results,results193,go_sem,hcf]
 have HL:Hid (Uw p q=(false,ZQ,(Q8 [p,q]).2)):=by
  show Uw p q=_;unfold Uw;rw[if_pos h0]
 have hb0:((Q8 [p,q]).2 != 0)=true:=bne_iff_ne.2 h0;have hc2:=HB1.o.cells2;have hf2:∀j,w1.frozen? ⟨w.heap.size+1+1,j,none⟩=false:=λj=>HB1.o.free (i:=2) rfl j;clear h0;have HBf:=Zh (HB1.o.setCall2 (x:=⟨0,0,0,0,0⟩) (y:=⟨0,0,0,0,0⟩));have hcf:=HBf.o.cells2;go_wp2;refine bodyPost_ret (v:=.tuple #[.bool false,Yk ⟨0,0,0,0,0⟩,.int .i64 (Q8 [p,q]).2]) ?_ rfl ⟨by rw[HL.o];rfl,HBf.o.bel⟩;simp[results,results193,go_sem,hcf]
end
section
open Go.RowKit
attribute [local go_sem] gives QG
def U9(ex:Bool)(a b:Int):Int:=if a<b then a else if ex then 4 else b
theorem Qde:U9 true=exceptOf:=rfl
theorem QgC(ex:Bool)(a b:Int)(ε:Nat)(w:World)(h:w.cell? ⟨ε,0,none⟩=some (.bool ex)):
  Calls prog 189 #[.int .i64 a,.int .i64 b,.pointer (some ⟨ε,0,none⟩)] w λe w'=>e=.returned (.int .i64 (U9 ex a b))/\w=w':=by
 by_cases hab:a<b
 .have hd:decide (a<b)=true:=decide_eq_true hab;have hE:Hid (U9 ex a b=a):=if_pos hab;clear hab;go_enter func189,ntmps189;go_wp2;go_ret;exact⟨Q3 hE.o.symm,rfl⟩
 have hd:decide (a<b)=false:=decide_eq_false hab
 cases ex with
 |true=>
  have hE:Hid (U9 true a b=4):=by show(if a<b then a else if true=true then(4:Int)else b)=4;rw[if_neg hab,if_pos rfl]
  clear hab;go_enter func189,ntmps189;go_wp2;go_ret;exact⟨Q3 hE.o.symm,rfl⟩
 |false=>
  have hE:Hid (U9 false a b=b):=by show(if a<b then a else if false=true then(4:Int)else b)=b;rw[if_neg hab,if_neg (by simp)]
  clear hab;go_enter func189,ntmps189;go_wp2;go_ret;exact⟨Q3 hE.o.symm,rfl⟩
@[reducible] def ofFn(ε:Nat):Value:=.func (.func 189) #[] #[.pointer (some ⟨ε,0,none⟩)]
theorem Nu(ex:Bool){B β ε φ:Nat}{wB:World}{pv0 pv:Value}{rs:List TRule}(ra rb:TRule)(ca cb:Option Addr)(cca ccb:Nat)(wj:World)(hG:UD B β (.int .i64 0) wB pv0 wj pv rs)(hβ:β<B)(hB:B<=wj.heap.size)(hβw:β<wj.heap.size)
  (hε:wj.heap[ε]?=some (.cells #[.bool ex] 4)) (hεβ:ε≠β) (hφ:wj.heap[φ]?=some (.cells #[ofFn ε] 77)) (hφβ:φ≠β)
  (hra:QF wj (λb=>b≠β) (.slice ca ra.cd.length cca) ra.cd) (hrb:QF wj (λb=>b≠β) (.slice cb rb.cd.length ccb) rb.cd) (hcl:ra.cd.length<=10) (hcm:rb.cd.length<=10) (hrl:rs.length<=20000):
  Calls prog 190 #[.agg #[.slice ca ra.cd.length cca,.int .i64 ra.vd],.agg #[.slice cb rb.cd.length ccb,.int .i64 rb.vd],.pointer (some ⟨β,0,none⟩),.pointer (some ⟨φ,0,none⟩)] wj λe w'=>e=.returned (.tuple #[])/\∃pv',UD B β (.int .i64 0) wB pv0 w' pv' (rs++[Ui (U9 ex) ra rb]):=by
 have HJ:=Zh hG;obtain⟨i0,hi,hz0,hz1,hz2⟩:=info_parts Zj;have Hi:=Zh hi;obtain⟨w0,hw0⟩:∃w0,(wj.alloc (.cells #[.slice ca ra.cd.length cca,.int .i64 ra.vd] 147)).alloc (.cells #[.slice cb rb.cd.length ccb,.int .i64 rb.vd] 147)=w0:=⟨_,rfl⟩;have HbJ:Hid (Below wj.heap.size wj w0):=by show Below _ _ _;rw[<-hw0];exact Qa (Qa Zbr _) _
 have hsz0:w0.heap.size=wj.heap.size+1+1:=by rw[<-hw0];simp
 have H13:Hid (w0.heap[wj.heap.size]?=some (.cells #[.slice ca ra.cd.length cca,.int .i64 ra.vd] 147)):=by show _=_;rw[<-hw0];exact QQ (Qh _ _)
 have H15:Hid (w0.heap[wj.heap.size+1]?=some (.cells #[.slice cb rb.cd.length ccb,.int .i64 rb.vd] 147)):=by show _=_;rw[<-hw0];exact UM (by simp)
 have Hra0:Hid (QF w0 (λb=>b≠β) (.slice ca ra.cd.length cca) ra.cd):=hra.below HbJ.o;have Hrb0:Hid (QF w0 (λb=>b≠β) (.slice cb rb.cd.length ccb) rb.cd):=hrb.below HbJ.o;have Hbox0:Hid (w0.heap[β]?=some (.cells #[pv,.int .i64 0] 38)):=Qd hG.box HbJ.o;have Hφ0:Hid (w0.heap[φ]?=some (.cells #[ofFn ε] 77)):=Qd hφ HbJ.o;have Hε0:Hid (w0.heap[ε]?=some (.cells #[.bool ex] 4)):=Qd hε HbJ.o;obtain⟨rows,hro,hrow⟩:=hG.own;have Hcv:Hid (∀g,pv.ownBlock=some g->g≠β):=λg hg=>by have:=(hrow.lt g hg).1;omega
 have Hro:=Zh hro;have Hrow:Hid (w0.ownsRow B 147 2 pv rs.length rows.flatten):=Uh hrow λb _ hl _=>HbJ.o.block b hl;have Hβ0:Hid (β<w0.heap.size):=by show _<_;omega
 have H13lt:Hid (wj.heap.size<w0.heap.size):=by show _<_;omega
 have H13ne:Hid (wj.heap.size≠β):=by show _≠_;omega
 have H15lt:Hid (wj.heap.size+1<w0.heap.size):=by show _<_;omega
 have H15ne:Hid (wj.heap.size+1≠β):=by show _≠_;omega
 have Hφlt:Hid (φ<w0.heap.size):=(Array.getElem?_eq_some_iff.1 Hφ0.o).1;have Hφne:Hid (φ≠β):=hφβ;have Hεlt:Hid (ε<w0.heap.size):=(Array.getElem?_eq_some_iff.1 Hε0.o).1;have Hεne:Hid (ε≠β):=hεβ;have HwA:Hid (B<=w0.heap.size):=by show _<=_;omega
 obtain⟨vd,hvd⟩:∃vd,U9 ex ra.vd rb.vd=vd:=⟨_,rfl⟩;have Hvd:=Zh hvd;have HP:Hid (Ui (U9 ex) ra rb=⟨ra.cd++rb.cd,vd⟩):=by show _=_;rw[<-hvd];rfl
 clear hG hi hro hrow hε hφ hra hrb hvd hφβ hεβ;go_enter func190,ntmps190;go_wp2_with fail
 try rw[hw0]
 clear hw0 hsz0
 refine ZO β 38 #[pv,.int .i64 0] 0 B 147 2 pv rs.length rows.flatten 1 (λvf=>[vf 7,.int .i64 vd]) 16 18 (QdB w0 (.slice ca ra.cd.length cca) (.slice cb rb.cd.length ccb) (ra.cd++rb.cd) vd) (by kernel_rfl) (by kernel_rfl) _ rfl Hbox0.o Hrow.o (by omega) Hcv.o (by decide) (by decide) (λk vf w1 w2 hb _ h=>QaS hb h)
  (λk f g w1 hfg hk h=>by
   unfold QdB at h⊢;split
   .rename_i e;subst e;rw[if_pos rfl,hk]at h;exact h
   rename_i e;rw[if_neg e]at h;split
   .rename_i e2;subst e2;rw[if_pos rfl,hk]at h;exact h
   rename_i e2;rw[if_neg e2]at h;split
   .rename_i e3;subst e3;rw[if_pos rfl,hfg 7 (by decide)]at h;exact h
   rename_i e3;rw[if_neg e3]at h;split
   .rename_i e4;subst e4;rw[if_pos rfl,hk,hfg 7 (by decide)]at h;exact h
   trivial) (λf g h=>by show [f 7,_]=[g 7,_];rw[h 7 (by decide)]) ?_
 iterate 6 (refine QU (λK hK=>?_);apply Exists.intro;refine⟨λdn vf W hI h0 hd hn hf R hR=>?_,?_,?_⟩;(first|(clear h0 hd hn hf;go_simp;exact hR _ _ (hI.step Zbr (by decide) (by decide) Hβ0.o) (ApT.of_below Zbr) rfl trivial);exact(λ_ _ _=>rfl)|(have hcell:=Qb (hI.before (hn 18 (by decide)));clear h0 hd hn hf;go_simp;exact hR _ _ (hI.step Zbr (by decide) (by decide) Hβ0.o) (ApT.of_below Zbr) rfl trivial);exact(λ_ _ _=>rfl)|(have hcell:=Qb ((hI.old (hn 16 (by decide)) _ H13lt.o H13ne.o).trans H13.o);clear h0 hd hn hf;go_simp;exact hR _ _ (hI.step Zbr (by decide) (by decide) Hβ0.o) (ApT.of_below Zbr) rfl trivial);exact(λ_ _ _=>rfl)|(have hcell:=Qb ((hI.old (hn 16 (by decide)) _ H15lt.o H15ne.o).trans H15.o);clear h0 hd hn hf;go_simp;exact hR _ _ (hI.step Zbr (by decide) (by decide) Hβ0.o) (ApT.of_below Zbr) rfl trivial);exact(λ_ _ _=>rfl));(go_simp;refine hK _ ?_;clear hK K))
 (refine VO λK hK=>⟨λdn vf W hI h0 hd hn hf R hR=>?_,?_⟩;(clear h0 hd hn hf;go_simp;exact hR _ _ (hI.step (Qa Zbr _) (by decide) (by decide) Hβ0.o) (ApT.of_below (Qa Zbr _)) trivial ⟨_,rfl,hI.size,Qh _ _⟩);(go_simp;refine hK _ ?_;clear hK K))
 (refine VO λK hK=>⟨λdn vf W hI h0 hd hn hf R hR=>?_,?_⟩;(have h6:Yn w0.heap.size 145 2 #[.slice ca ra.cd.length cca,.slice cb rb.cd.length ccb] (vf 6) W:=hf 6 (hd 6 (by decide));obtain⟨b6,h6,hb6,hc6⟩:=h6;have Hc6:=Zh hc6;have HW:=Zh (hI.old (hn 16 (by decide)));have Hsz:=Zh hI.size;clear h0 hd hn hf hc6;go_simp;go_at_call 191;refine(JO (.slice (some ⟨b6,0,none⟩) 2 2) [ra.cd,rb.cd] (λ_=>True) W (Qc0 Hc6.o (Hra0.o.keep (λ_ _ _=>trivial) (λb hb hl=>HW.o b hl hb) Hsz.o) (Hrb0.o.keep (λ_ _ _=>trivial) (λb hb hl=>HW.o b hl hb) Hsz.o)) (by rw[Qcr];omega)).mono ?_;(rintro e w5 ⟨v5,rfl,ho5,hb5⟩;exact⟨_,rfl,hR _ _ (hI.step hb5 (by decide) (by decide) Hβ0.o) (ApT.of_below hb5) trivial (show Qg w5 w0.heap.size 153 3 Ve v5 (ra.cd++rb.cd) by have:=ho5.base Hsz.o;simpa using this)⟩));(go_simp;refine hK _ ?_;clear hK K))
 iterate 6 (refine QU (λK hK=>?_);apply Exists.intro;refine⟨λdn vf W hI h0 hd hn hf R hR=>?_,?_,?_⟩;(first|(clear h0 hd hn hf;go_simp;exact hR _ _ (hI.step Zbr (by decide) (by decide) Hβ0.o) (ApT.of_below Zbr) rfl trivial);exact(λ_ _ _=>rfl)|(have hcell:=Qb ((hI.old (hn 16 (by decide)) _ Hφlt.o Hφne.o).trans Hφ0.o);clear h0 hd hn hf;go_simp;exact hR _ _ (hI.step Zbr (by decide) (by decide) Hβ0.o) (ApT.of_below Zbr) rfl trivial);exact(λ_ _ _=>rfl)|(have hcell:=Qb ((hI.old (hn 16 (by decide)) _ H13lt.o H13ne.o).trans H13.o);clear h0 hd hn hf;go_simp;exact hR _ _ (hI.step Zbr (by decide) (by decide) Hβ0.o) (ApT.of_below Zbr) rfl trivial);exact(λ_ _ _=>rfl)|(have hcell:=Qb ((hI.old (hn 16 (by decide)) _ H15lt.o H15ne.o).trans H15.o);clear h0 hd hn hf;go_simp;exact hR _ _ (hI.step Zbr (by decide) (by decide) Hβ0.o) (ApT.of_below Zbr) rfl trivial);exact(λ_ _ _=>rfl)|(have hcell:=(hI.old (hn 16 (by decide)) _ Hεlt.o Hεne.o).trans Hε0.o;clear h0 hd hn hf;go_simp;go_at_call 189;refine(QgC ex ra.vd rb.vd ε _ (Qb hcell 0)).mono ?_;rintro e w5 ⟨rfl,rfl⟩;exact⟨_,rfl,hR _ _ (hI.step Zbr (by decide) (by decide) Hβ0.o) (ApT.of_below Zbr) rfl trivial⟩);exact(λ_ _ _=>rfl));(go_simp;refine hK _ ?_;clear hK K))
 (refine QU λK hK=>⟨λvf=>.agg #[vf 7,.int .i64 vd],λdn vf W hI h0 hd hn hf R hR=>?_,?_,?_⟩;(have h7:Qg W w0.heap.size 153 3 Ve (vf 7) (ra.cd++rb.cd):=hf 7 (hd 7 (by decide));have h7k:=h7;obtain⟨a7,c7,h7⟩:=h7.slice;generalize(ra.cd++rb.cd).length=n7 at h7;clear h0 hd hn hf;go_simp;exact hR _ _ (hI.step Zbr (by decide) (by decide) Hβ0.o) (ApT.of_below Zbr) (by show _=Value.agg #[vf 7,.int .i64 vd];rw[h7,<-Hvd.o]) h7k);exact(λf g h=>by show Value.agg #[f 7,_]=Value.agg #[g 7,_];rw[h 7 (by decide)]);(go_simp;refine hK _ ?_;clear hK K))
 (refine VO λK hK=>⟨λdn vf W hI h0 hd hn hf R hR=>?_,?_⟩;(have h7:Qg W w0.heap.size 153 3 Ve (vf 7) (ra.cd++rb.cd):=hf 14 (hd 14 (by decide));have H7k:=Zh h7;obtain⟨a7,c7,h7⟩:=h7.slice;generalize(ra.cd++rb.cd).length=n7 at h7;have H7:=Zh h7;clear h0 hd hn hf;go_simp;exact hR _ _ (hI.step (Qa Zbr _) (by decide) (by decide) Hβ0.o) (ApT.of_below (Qa Zbr _)) trivial ⟨⟨_,rfl,hI.size,by rw[Qh];show some (Obj.cells #[.slice a7 n7 c7,.int .i64 vd] _)=some (Obj.cells #[vf 7,.int .i64 vd] _);rw[H7.o]⟩,H7k.o.below (Qa Zbr _)⟩);(go_simp;refine hK _ ?_;clear hK K))
 (refine VO λK hK=>⟨λdn vf W hI h0 hd hn hf R hR=>?_,?_⟩;(have h15:Yn w0.heap.size 147 1 #[vf 7,.int .i64 vd] (vf 15) W/\Qg W w0.heap.size 153 3 Ve (vf 7) (ra.cd++rb.cd):=hf 15 (hd 15 (by decide));obtain⟨⟨bn,hbv,hbn,hcn⟩,h7⟩:=h15;obtain⟨a7,c7,h7⟩:=h7.slice;refine YT rfl ?_;refine V5 (.tmp 7) (.tmp 21) 36 rfl B 147 i0 _ 2 32 underlying36 Hi.o hz0 hz1 hz2 rfl (by omega) pv rs.length rows.flatten (by rfl) (hI.own h0) ⟨bn,0,none⟩ 1 1 [vf 7,.int .i64 vd] (by exact hbv) (by rfl) (World.news_of_block hcn) (by rw[h7];simp[Value.oneCell']) (by omega) (by unfold maxLen;omega) (by omega) (by have:=hI.size;have:=HwA.o;omega) (λv' w' h1 h2 h3=>hR _ _ (hI.appended (hn 18 (by decide)) Hcv.o h2 Hβ0.o) (ApT.of_grown h2) trivial ⟨by exact h1,by rcases h3 with h3|h3;exact .inl h3;exact .inr (λg hg=>by have h9:v'.ownBlock=some g:=hg;rw[h3]at h9;injection h9 with h9;have:=hI.size;omega)⟩));(go_simp;refine hK _ ?_;clear hK K))
 iterate 2 (refine QU (λK hK=>?_);apply Exists.intro;refine⟨λdn vf W hI h0 hd hn hf R hR=>?_,?_,?_⟩;(first|(clear h0 hd hn hf;go_simp;exact hR _ _ (hI.step Zbr (by decide) (by decide) Hβ0.o) (ApT.of_below Zbr) rfl trivial);exact(λ_ _ _=>rfl)|(have h16:W.ownsRow B 147 2 (vf 16) (rs.length+1) (rows.flatten++[vf 7,.int .i64 vd])/\_:=hf 16 (hd 16 (by decide));obtain⟨gv,cpv,hv16,_,_⟩:=World.ownsRow.form h16.1 (by omega);have hst:=hI.stored (off:=0) (v:=vf 16) (hd 16 (by decide)) (by decide);have hbf:=hI.before h0;have hcb:=Qb hbf;have hfb:=Qp hbf;have Hst:=Zh hst;have Hset:=Zh (QJ (o:=0) (v:=vf 16) hbf);have H16:=Zh hv16;clear hd hn hf h16 hst hbf;go_simp;rw[<-H16.o];exact hR _ _ Hst.o ApT.of_store rfl Hset.o);exact(λ_ _ _=>rfl));(go_simp;refine hK _ ?_;clear hK K))
 intro dn vf W hd hI hF;have h7:Qg W w0.heap.size 153 3 Ve (vf 7) (ra.cd++rb.cd):=hF 7 (by decide);have h16:W.ownsRow B 147 2 (vf 16) (rs.length+1) (rows.flatten++[vf 7,.int .i64 vd])/\((vf 16).ownBlock=pv.ownBlock\/∀g,(vf 16).ownBlock=some g->w0.heap.size<=g):=hF 16 (by decide);have h18:W.heap[β]?=some (.cells (#[pv,.int .i64 0].setIfInBounds 0 (vf 16)) 38):=hF 18 (by decide);have HN:=Zh (UD.step HJ.o HbJ.o hβ HwA.o hI Hro.o h16.1 h16.2 h18 h7 QbD);clear hd hI hF h7 h16 h18;go_wp2;exact bodyPost_end (results_none rfl _ _ _) rfl ⟨rfl,_,by rw[HP.o];exact HN.o⟩
end
section
open Go.RowKit
attribute [local go_sem] gives QG
theorem QbY{of:Int->Int->Int}{q:TPol}{l:List TRule}{k:Nat}(h:k<l.length):(l.take (k+1)).flatMap (bothRow of q)=((l.take k).flatMap (bothRow of q)++q.ru.map (Ui of l[k]))++[Ui of l[k] ⟨[],q.df⟩]:=by
 rw[List.take_succ_eq_append_getElem h,List.flatMap_append];simp[bothRow,Ui]
theorem QdY(of:Int->Int->Int)(q:TPol):∀l:List TRule,(l.flatMap (bothRow of q)).length=l.length*(q.ru.length+1)
 |[]=>by simp
 |r::l=>by
  rw[List.flatMap_cons,List.length_append,QdY of q l,List.length_cons,Nat.add_mul];simp[bothRow];omega
theorem QbZ{of:Int->Int->Int}{p q:TPol}(hp:UT p)(hq:UT q)(k:Nat):((p.ru.take k).flatMap (bothRow of q)).length<=14520:=by
 rw[QdY,List.length_take];have h1:=hp.len;have h2:=hq.len;have h3:min k p.ru.length*(q.ru.length+1)<=120*121:=Nat.mul_le_mul (by omega) (by omega);omega
theorem GY{α β:Type}(f:α->β){l:List α}{j:Nat}(h:j<l.length):(l.take (j+1)).map f=(l.take j).map f++[f l[j]]:=by
 rw[List.take_succ_eq_append_getElem h,List.map_append];rfl
theorem QaO(w:World)(D:Nat->Prop):QF w D (.slice none 0 0) []:=⟨none,0,rfl,Nat.le_refl _,by unfold maxLen;simp,λ_=>rfl,λh=>by cases h⟩
theorem Qgv(ex:Bool)(u v:Value)(p q:TPol)(w:World)(hp:Qc w (λ_=>True) u p.ru)(hq:Qc w (λ_=>True) v q.ru):
  Calls prog 159 #[U8 u p.df,U8 v q.df,.bool ex] w λe w'=>∃r,e=.returned (.tuple #[U8 r (VI (U9 ex) p q).1.df,.int .i64 (VI (U9 ex) p q).2])/\Qc w' (λb=>w.heap.size<=b) r (VI (U9 ex) p q).1.ru/\Below w.heap.size w w':=by
 have Hp:=Zh hp;have Hq:=Zh hq;obtain⟨ap,cp,rfl,_⟩:=Sl.form hp;obtain⟨aq,cq,rfl,_⟩:=Sl.form hq;clear hp hq;go_enter func159,ntmps159;go_wp2_with fail
 refine(Qen _ [p,q] (λ_=>True) _ (QbI (UM (by simp)) (Hp.o.below (Qa (Qa (Qa (Qa (Qa Zbr _) _) _) _) _)) (Hq.o.below (Qa (Qa (Qa (Qa (Qa Zbr _) _) _) _) _)) trivial)).mono ?_;rintro e w1⟨rfl,hb1⟩;have HB1:=Zh ((Bx.three.push (by simp) (.cells #[.slice none 0 0,.int .i64 0] 38)).below ((Qa Zbr _).trans (hb1.mono (by simp))));clear hb1;by_cases h0:VD [p,q]=0
 .have hpe:UZ p=0:=by rw[Zn]at h0;split at h0<;>simp_all
  have hqe:UZ q=0:=by rw[Zn,if_pos hpe]at h0;exact h0
  have Hpe:=Zh hpe;have Hqe:=Zh hqe;have Hokp:=Zh ((UN p).1 hpe);have Hokq:=Zh ((UN q).1 hqe);have hlp:=Hokp.o.len;have hlq:=Hokq.o.len;rw[h0];clear h0 hpe hqe;have htop:w.heap.size+4<=w1.heap.size:=HB1.o.top;obtain⟨wB,hwB⟩:∃wB,(w1.alloc (.cells #[ofFn (w.heap.size+1+1)] 77)).alloc (.cells #[.slice none 0 0,.int .i64 0] 38)=wB:=⟨_,rfl⟩;have HBB:Hid (Bx w [.cells #[.slice ap p.ru.length cp,.int .i64 p.df] 38,.cells #[.slice aq q.ru.length cq,.int .i64 q.df] 38,.cells #[.bool ex] 4,.cells #[.slice none 0 0,.int .i64 0] 38] wB):=by show Bx _ _ _;rw[<-hwB];exact(HB1.o.alloc _).alloc _
  have Hbox:Hid (wB.heap[w1.heap.size+1]?=some (.cells #[.slice none 0 0,.int .i64 0] 38)):=by show _=_;rw[<-hwB];exact UM (by simp)
  have Hφ:Hid (wB.heap[w1.heap.size]?=some (.cells #[ofFn (w.heap.size+1+1)] 77)):=by show _=_;rw[<-hwB];exact QQ (Qh _ _)
  have hszB:wB.heap.size=w1.heap.size+2:=by rw[<-hwB];simp
  have HPB:Hid (Qc wB (λb=>b<w.heap.size) (.slice ap p.ru.length cp) p.ru):=(Og Hp.o).below HBB.o.bel;have HQB:Hid (Qc wB (λb=>b<w.heap.size) (.slice aq q.ru.length cq) q.ru):=(Og Hq.o).below HBB.o.bel;have hc0:=HBB.o.cells0;go_wp2_with fail
  try rw[hwB]
  clear hc0 hwB
  go_loopw[32](λkv wr=>∃(k:Nat)(pk:Value),kv=.int .i64 k/\k<=p.ru.length/\UD wB.heap.size (w1.heap.size+1) (.int .i64 0) wB (.slice none 0 0) wr pk ((p.ru.take k).flatMap (bothRow (U9 ex) q))) (λkv _=>p.ru.length-(intOf kv).toNat)
  case atStart=>exact⟨0,_,rfl,by omega,UD.start Hbox.o Qg.nil⟩
  case round=>
   obtain⟨k,pk,rfl,hk,hG⟩:=hrel;obtain⟨wk,rfl⟩:∃wk:World,wk=wr:=⟨_,rfl⟩;have HG:=Zh hG;clear hG;have hszk:=HG.o.size;have HPk:Hid (Qc wk (λb=>b<w.heap.size) (.slice ap p.ru.length cp) p.ru):=HPB.o.keep (λ_ h _=>h) (λb hb hl=>HG.o.blk b hl (by have h1:b<w.heap.size:=hb;omega) (by simp[Value.ownBlock])) HG.o.size;have HQk:Hid (Qc wk (λb=>b<w.heap.size) (.slice aq q.ru.length cq) q.ru):=HQB.o.keep (λ_ h _=>h) (λb hb hl=>HG.o.blk b hl (by have h1:b<w.heap.size:=hb;omega) (by simp[Value.ownBlock])) HG.o.size;have HBk:Hid (Bx w [.cells #[.slice ap p.ru.length cp,.int .i64 p.df] 38,.cells #[.slice aq q.ru.length cq,.int .i64 q.df] 38,.cells #[.bool ex] 4,.cells #[.slice none 0 0,.int .i64 0] 38] wk):=HBB.o.lift (B:=w.heap.size+4) (HG.o.belowB Zbr (by omega) (by omega) (λg hg=>by simp[Value.ownBlock]at hg)) (by simp);have Hφk:Hid (wk.heap[w1.heap.size]?=some (.cells #[ofFn (w.heap.size+1+1)] 77)):=(HG.o.blk _ (by omega) (by omega) (by simp[Value.ownBlock])).trans Hφ.o
   have Hpk:Hid (∀g,pk.ownBlock=some g->g<wk.heap.size/\wB.heap.size<=g):=λg hg=>by
    obtain⟨rows,_,ho⟩:=HG.o.own;exact⟨(ho.lt g hg).2,(ho.lt g hg).1⟩
   by_cases hlt:k<p.ru.length
   .obtain⟨ba,oa,rfl,_,_⟩:=Sl.at_ HPk.o (by omega);obtain⟨ca,cca,hca0,hca1,hra,_,_,_⟩:=Qc.cells HPk.o hlt;have hcl:=(Hokp.o.ru _ (List.getElem_mem hlt)).len;have Htk:=Zh (QbY (of:=U9 ex) (q:=q) hlt);have Hbs:=Zh (QbZ (of:=U9 ex) Hokp.o Hokq.o k);obtain⟨ra,hrae⟩:∃ra,p.ru[k]=ra:=⟨_,rfl⟩;rw[hrae]at hca0 hca1 hra hcl Htk;obtain⟨rs,hrs⟩:∃rs,(p.ru.take k).flatMap (bothRow (U9 ex) q)=rs:=⟨_,rfl⟩;rw[hrs]at HG Htk Hbs;obtain⟨wC,hwC⟩:∃wC,wk.alloc (.cells #[.slice ca ra.cd.length cca,.int .i64 ra.vd] 147)=wC:=⟨_,rfl⟩;have HbC:Hid (Below wk.heap.size wk wC):=by show Below _ _ _;rw[<-hwC];exact Qa Zbr _
    have hszC:wC.heap.size=wk.heap.size+1:=by rw[<-hwC];simp
    have H13:Hid (wC.heap[wk.heap.size]?=some (.cells #[.slice ca ra.cd.length cca,.int .i64 ra.vd] 147)):=by show _=_;rw[<-hwC];exact Qh _ _
    have HGC:=Zh (HG.o.below HbC.o);have HraC:Hid (QF wC (λb=>b<w.heap.size) (.slice ca ra.cd.length cca) ra.cd):=hra.below HbC.o;have HQC:=Zh (Qc.below HQk.o HbC.o);have HBC:=Zh (HBk.o.below HbC.o);have HφC:=Zh (Qd Hφk.o HbC.o);have hc1:=HBC.o.cells1;clear hra hrae hrs;go_wp2_with fail
    try rw[hwC]
    clear hc1 hca0 hca1 hwC
    go_loopw[39](λjv wj=>∃(j:Nat)(pj:Value),jv=.int .i64 j/\j<=q.ru.length/\UD wB.heap.size (w1.heap.size+1) (.int .i64 0) wC pk wj pj (rs++(q.ru.take j).map (Ui (U9 ex) ra))) (λjv _=>q.ru.length-(intOf jv).toNat)
    case atStart=>exact⟨0,_,rfl,by omega,by simpa using UD.start HGC.o.box HGC.o.own⟩
    case round=>
     obtain⟨j,pj,rfl,hj,hJ⟩:=hrel;obtain⟨wj,rfl⟩:∃wj:World,wj=wr:=⟨_,rfl⟩;have HJ:=Zh hJ;clear hJ;have hszj:=HJ.o.size;have H13j:Hid (wj.heap[wk.heap.size]?=some (.cells #[.slice ca ra.cd.length cca,.int .i64 ra.vd] 147)):=(HJ.o.blk _ (by omega) (by omega) (λe=>by have:=(Hpk.o _ e.symm).1;omega)).trans H13.o;have HBj:=Zh (HBC.o.lift (B:=w.heap.size+4) (HJ.o.belowB Zbr (by omega) (by omega) (λg hg=>by have:=(Hpk.o _ hg).2;omega)) (by simp));have Hφj:Hid (wj.heap[w1.heap.size]?=some (.cells #[ofFn (w.heap.size+1+1)] 77)):=(HJ.o.blk _ (by omega) (by omega) (λe=>by have:=(Hpk.o _ e.symm).2;omega)).trans HφC.o;have HQj:Hid (Qc wj (λb=>b<w.heap.size) (.slice aq q.ru.length cq) q.ru):=HQC.o.keep (λ_ h _=>h) (λb hb hl=>HJ.o.blk b hl (by have h1:b<w.heap.size:=hb;omega) (λe=>by have h1:b<w.heap.size:=hb;have:=(Hpk.o _ e.symm).2;omega)) HJ.o.size;have Hraj:Hid (QF wj (λb=>b<w.heap.size) (.slice ca ra.cd.length cca) ra.cd):=HraC.o.keep (λ_ h _=>h) (λb hb hl=>HJ.o.blk b hl (by have h1:b<w.heap.size:=hb;omega) (λe=>by have h1:b<w.heap.size:=hb;have:=(Hpk.o _ e.symm).2;omega)) HJ.o.size;by_cases hjt:j<q.ru.length
     .obtain⟨bb,ob,rfl,_,_⟩:=Sl.at_ HQj.o (by omega);obtain⟨cb,ccb,hcb0,hcb1,hrb,_,_,_⟩:=Qc.cells HQj.o hjt;have hcm:=(Hokq.o.ru _ (List.getElem_mem hjt)).len;have Htj:=Zh (GY (Ui (U9 ex) ra) hjt);obtain⟨rb,hrbe⟩:∃rb,q.ru[j]=rb:=⟨_,rfl⟩;rw[hrbe]at hcb0 hcb1 hrb hcm Htj;have HbS:Hid (Below wj.heap.size wj (wj.alloc (.cells #[.slice cb rb.cd.length ccb,.int .i64 rb.vd] 147))):=Qa Zbr _;have hc13:∀i,(wj.alloc (.cells #[.slice cb rb.cd.length ccb,.int .i64 rb.vd] 147)).cell? ⟨wk.heap.size,i,none⟩=_:=Qb (Qd H13j.o HbS.o);have Hrb:=Zh hrb
      have hlen:(rs++(q.ru.take j).map (Ui (U9 ex) ra)).length<=20000:=by
       rw[List.length_append,List.length_map,List.length_take];have:=Hbs.o;omega
      have Hlen:=Zh hlen;clear hrb hrbe hlen;go_wp2_with(go_at_call 190;refine(Nu ex ra rb ca cb cca ccb _ (HJ.o.below HbS.o) (by omega) (by simp;omega) (by simp;omega) (Qd (HBj.o.at_ 2 _ rfl) HbS.o) (by omega) (Qd Hφj.o HbS.o) (by omega) ((Hraj.o.below HbS.o).keep (λb hb _=>by have h1:b<w.heap.size:=hb;show b≠_;omega) (λ_ _ _=>rfl) Znl) ((Hrb.o.below HbS.o).keep (λb hb _=>by have h1:b<w.heap.size:=hb;show b≠_;omega) (λ_ _ _=>rfl) Znl) hcl hcm Hlen.o).mono ?_;rintro e w5 ⟨rfl,pv5,hG5⟩;have HG5:=Zh hG5;clear hG5)
      go_roundw
      case rel=>first|exact⟨j+1,pv5,by go_num,by omega,by rw[Htj.o,<-List.append_assoc];exact HG5.o⟩|((repeat apply Exists.intro);exact⟨⟨j+1,pv5,by go_num,by omega,by rw[Htj.o,<-List.append_assoc];exact HG5.o⟩,rfl⟩)
      case measure=>simp[intOf];omega
     obtain rfl:j=q.ru.length:=by omega
     have hc13:=Qb H13j.o;have hc1:=HBj.o.cells1
     have hlen:(rs++(q.ru.take q.ru.length).map (Ui (U9 ex) ra)).length<=20000:=by
      rw[List.length_append,List.length_map,List.length_take];have:=Hbs.o;omega
     have Hlen:=Zh hlen;clear hlen;go_wp2_with(go_at_call 190;refine(Nu ex ra ⟨[],q.df⟩ ca none cca 0 _ HJ.o (by omega) (by omega) (by omega) (HBj.o.at_ 2 _ rfl) (by omega) Hφj.o (by omega) (Hraj.o.keep (λb hb _=>by have h1:b<w.heap.size:=hb;show b≠_;omega) (λ_ _ _=>rfl) Znl) (QaO _ _) hcl (by simp) Hlen.o).mono ?_;rintro e w5 ⟨rfl,pv5,hG5⟩;have HG5:=Zh hG5;clear hG5)
     have HN:=Zh (HGC.o.trans HG5.o)
     go_roundw
     case rel=>first|exact⟨k+1,pv5,by go_num,by omega,by rw[Htk.o];have:=HN.o;rw[List.take_length]at this;exact this⟩|((repeat apply Exists.intro);exact⟨⟨k+1,pv5,by go_num,by omega,by rw[Htk.o];have:=HN.o;rw[List.take_length]at this;exact this⟩,rfl⟩)
     case measure=>simp[intOf];omega
   obtain rfl:k=p.ru.length:=by omega
   obtain⟨rs,hrs⟩:∃rs,(p.ru.take p.ru.length).flatMap (bothRow (U9 ex) q)=rs:=⟨_,rfl⟩;have Hbs:=Zh (QbZ (of:=U9 ex) Hokp.o Hokq.o p.ru.length);rw[hrs]at HG Hbs;have Hrs:Hid (p.ru.flatMap (bothRow (U9 ex) q)=rs):=by show _=_;rw[<-hrs,List.take_length]
   clear hrs;have hc1:=HBk.o.cells1;go_wp2_with fail
   clear hc1
   go_loopw[58](λjv wj=>∃(j:Nat)(pj:Value),jv=.int .i64 j/\j<=q.ru.length/\UD wB.heap.size (w1.heap.size+1) (.int .i64 0) wk pk wj pj (rs++(q.ru.take j).map (Ui (U9 ex) ⟨[],p.df⟩))) (λjv _=>q.ru.length-(intOf jv).toNat)
   case atStart=>exact⟨0,_,rfl,by omega,by simpa using UD.start HG.o.box HG.o.own⟩
   case round=>
    obtain⟨j,pj,rfl,hj,hJ⟩:=hrel;obtain⟨wj,rfl⟩:∃wj:World,wj=wr:=⟨_,rfl⟩;have HJ:=Zh hJ;clear hJ;have hszj:=HJ.o.size;have HBj:=Zh (HBk.o.lift (B:=w.heap.size+4) (HJ.o.belowB Zbr (by omega) (by omega) (λg hg=>by have:=(Hpk.o _ hg).2;omega)) (by simp));have Hφj:Hid (wj.heap[w1.heap.size]?=some (.cells #[ofFn (w.heap.size+1+1)] 77)):=(HJ.o.blk _ (by omega) (by omega) (λe=>by have:=(Hpk.o _ e.symm).2;omega)).trans Hφk.o;have HQj:Hid (Qc wj (λb=>b<w.heap.size) (.slice aq q.ru.length cq) q.ru):=HQk.o.keep (λ_ h _=>h) (λb hb hl=>HJ.o.blk b hl (by have h1:b<w.heap.size:=hb;omega) (λe=>by have h1:b<w.heap.size:=hb;have:=(Hpk.o _ e.symm).2;omega)) HJ.o.size;by_cases hjt:j<q.ru.length
    .obtain⟨bb,ob,rfl,_,_⟩:=Sl.at_ HQj.o (by omega);obtain⟨cb,ccb,hcb0,hcb1,hrb,_,_,_⟩:=Qc.cells HQj.o hjt;have hcm:=(Hokq.o.ru _ (List.getElem_mem hjt)).len;have Htj:=Zh (GY (Ui (U9 ex) ⟨[],p.df⟩) hjt);obtain⟨rb,hrbe⟩:∃rb,q.ru[j]=rb:=⟨_,rfl⟩;rw[hrbe]at hcb0 hcb1 hrb hcm Htj;have HbS:Hid (Below wj.heap.size wj (wj.alloc (.cells #[.slice cb rb.cd.length ccb,.int .i64 rb.vd] 147))):=Qa Zbr _;have hc0:∀i,(wj.alloc (.cells #[.slice cb rb.cd.length ccb,.int .i64 rb.vd] 147)).cell? ⟨w.heap.size,i,none⟩=_:=(HBj.o.below HbS.o).cells0;have Hrb:=Zh hrb
     have hlen:(rs++(q.ru.take j).map (Ui (U9 ex) ⟨[],p.df⟩)).length<=20000:=by
      rw[List.length_append,List.length_map,List.length_take];have:=Hbs.o;omega
     have Hlen:=Zh hlen;clear hrb hrbe hlen;go_wp2_with(go_at_call 190;refine(Nu ex ⟨[],p.df⟩ rb none cb 0 ccb _ (HJ.o.below HbS.o) (by omega) (by simp;omega) (by simp;omega) (Qd (HBj.o.at_ 2 _ rfl) HbS.o) (by omega) (Qd Hφj.o HbS.o) (by omega) (QaO _ _) ((Hrb.o.below HbS.o).keep (λb hb _=>by have h1:b<w.heap.size:=hb;show b≠_;omega) (λ_ _ _=>rfl) Znl) (by simp) hcm Hlen.o).mono ?_;rintro e w5 ⟨rfl,pv5,hG5⟩;have HG5:=Zh hG5;clear hG5)
     go_roundw
     case rel=>first|exact⟨j+1,pv5,by go_num,by omega,by rw[Htj.o,<-List.append_assoc];exact HG5.o⟩|((repeat apply Exists.intro);exact⟨⟨j+1,pv5,by go_num,by omega,by rw[Htj.o,<-List.append_assoc];exact HG5.o⟩,rfl⟩)
     case measure=>simp[intOf];omega
    obtain rfl:j=q.ru.length:=by omega
    obtain⟨P,hP⟩:∃P,VK (U9 ex) p q=P:=⟨_,rfl⟩;obtain⟨vD,hvD⟩:∃vD,U9 ex p.df q.df=vD:=⟨_,rfl⟩;have hPb:=QeL (U9 ex) p q;rw[hP,hvD]at hPb;have hPd:P.df=vD:=by rw[hPb]
    have HGf:=Zh (HG.o.trans HJ.o)
    have HL:Hid (Qc wj (λb=>wB.heap.size<=b/\VN wj b) pj P.ru):=by
     have:=HGf.o.ru;rw[List.take_length,<-Hrs.o]at this;rw[hPb];exact this
    have HPE:Hid (VI (U9 ex) p q=if UZ P=0 then(P,0)else(zeroPol,UZ P)):=by
     show VI _ p q=_;unfold VI;rw[Zn,if_pos Hpe.o,Hqe.o,if_neg (by simp),hP];by_cases h:UZ P=0
     .rw[if_neg (by simp[h]),if_pos h]
     rw[if_pos h,if_neg h]
    have HvD:=Zh hvD;have Hpd:=Zh hPd;obtain⟨aP,cP,rfl,_⟩:=Sl.form HL.o;have hc0:=HBj.o.cells0;have hc1:=HBj.o.cells1;have hcφ:=Qb Hφj.o;have hcβ:=Qb HGf.o.box;have hfβ:=Qp HGf.o.box;have Hst:Hid ((wj.setCell ⟨w1.heap.size+1,1,none⟩ (.int .i64 vD)).heap[w1.heap.size+1]?=some (.cells #[.slice aP P.ru.length cP,.int .i64 vD] 38)):=QJ HGf.o.box;have hsβ:=Qb Hst.o;have HR2:Hid (Qc (wj.setCell ⟨w1.heap.size+1,1,none⟩ (.int .i64 vD)) (λb=>wB.heap.size<=b) (.slice aP P.ru.length cP) P.ru):=HL.o.keep (λb h _=>h.1) (λb hb _=>Qm (by show b≠w1.heap.size+1;have:=hb.1;omega)) (by rw[Qr];exact Nat.le_refl _);have HB2:=Zh (HBj.o.lift (B:=w.heap.size+4) (Qw (a:=⟨w1.heap.size+1,1,none⟩) (v:=.int .i64 vD) Zbr (by show w.heap.size+4<=w1.heap.size+1;omega)) (by simp));clear hP hvD hPb hPd;go_wp2_with(go_at_call 189;refine(QgC ex p.df q.df (w.heap.size+1+1) _ (HBj.o.cells2 0)).mono ?_;rw[HvD.o];rintro e w5 ⟨rfl,rfl⟩)
    clear hc0 hc1 hcφ hcβ hfβ hsβ;revert Hst HR2 HB2;generalize(wj.setCell ⟨w1.heap.size+1,1,none⟩ (.int .i64 vD))=wz;intro Hst HR2 HB2
    have HC:Hid (Calls prog 112 #[U8 (.slice aP P.ru.length cP) vD] wz λe w'=>e=.returned (.int .i64 (UZ P))/\Below wz.heap.size wz w'):=by
     have:=Vz (.slice aP P.ru.length cP) P _ wz HR2.o;rw[Hpd.o]at this;exact this
    refine HC.o.mono ?_;rintro e w6⟨rfl,hb6⟩;have HB6:=Zh (HB2.o.below hb6);have Hst6:=Zh (Qd Hst.o hb6);have HR6:=Zh (Qc.below HR2.o hb6);clear hb6;have hc3:∀i,w6.cell? ⟨w.heap.size+1+1+1,i,none⟩=_:=Qb (HB6.o.at_ 3 _ rfl);have hf3:∀i,w6.frozen? ⟨w.heap.size+1+1+1,i,none⟩=false:=Qp (HB6.o.at_ 3 _ rfl);by_cases h0:UZ P=0
    .have HE:Hid (VI (U9 ex) p q=(P,0)):=by show VI _ p q=_;rw[HPE.o,if_pos h0]
     rw[h0];have hcb:=Qb Hst6.o;have HB7:=Zh (HB6.o.set (i:=3) rfl 0 (.slice aP P.ru.length cP));have HB8:=Zh (HB7.o.set (i:=3) rfl 1 (.int .i64 vD));have hc8:∀i,((w6.setCell ⟨w.heap.size+1+1+1,0,none⟩ (.slice aP P.ru.length cP)).setCell ⟨w.heap.size+1+1+1,1,none⟩ (.int .i64 vD)).cell? ⟨w.heap.size+1+1+1,i,none⟩=_:=Qb (HB8.o.at_ 3 _ rfl)
     have HR8:Hid (Qc ((w6.setCell ⟨w.heap.size+3,0,none⟩ (.slice aP P.ru.length cP)).setCell ⟨w.heap.size+3,1,none⟩ (.int .i64 vD)) (λb=>w.heap.size<=b) (.slice aP P.ru.length cP) P.ru):=
      HR6.o.keep (λb h _=>by have h1:wB.heap.size<=b:=h;show _<=b;omega) (λb hb _=>by have h1:wB.heap.size<=b:=hb;rw[Qm (by show b≠w.heap.size+3;omega),Qm (by show b≠w.heap.size+3;omega)]) (by rw[Qr,Qr];exact Nat.le_refl _)
     clear h0;go_wp2;refine bodyPost_ret (v:=.tuple #[U8 (.slice aP P.ru.length cP) vD,.int .i64 0]) ?_ rfl (by rw[HE.o];exact⟨_,by rw[Hpd.o],HR8.o,HB8.o.bel⟩);rw[results_cell_tmp rfl];go_simp
    have hb0:(UZ P != 0)=true:=bne_iff_ne.2 h0;have HE:Hid (VI (U9 ex) p q=(zeroPol,UZ P)):=by show VI _ p q=_;rw[HPE.o,if_neg h0]
    have HB7:=Zh (HB6.o.set (i:=3) rfl 0 (.slice none 0 0));have HB8:=Zh (HB7.o.set (i:=3) rfl 1 (.int .i64 0));have hc8:∀i,((w6.setCell ⟨w.heap.size+1+1+1,0,none⟩ (.slice none 0 0)).setCell ⟨w.heap.size+1+1+1,1,none⟩ (.int .i64 0)).cell? ⟨w.heap.size+1+1+1,i,none⟩=_:=Qb (HB8.o.at_ 3 _ rfl);clear h0;go_wp2;refine bodyPost_ret (v:=.tuple #[U8 (.slice none 0 0) 0,.int .i64 (UZ P)]) ?_ rfl (by rw[HE.o];exact⟨_,rfl,VF _ _,HB8.o.bel⟩);rw[results_cell_tmp rfl];go_simp
 have hb0:(VD [p,q] != 0)=true:=bne_iff_ne.2 h0;have HE:Hid (VI (U9 ex) p q=(zeroPol,VD [p,q])):=by show VI _ p q=_;unfold VI;rw[if_pos h0]
 have hc3:∀i,w1.cell? ⟨w.heap.size+1+1+1,i,none⟩=_:=Qb (HB1.o.at_ 3 _ rfl);have hf3:∀i,w1.frozen? ⟨w.heap.size+1+1+1,i,none⟩=false:=Qp (HB1.o.at_ 3 _ rfl);have HB7:=Zh (HB1.o.set (i:=3) rfl 0 (.slice none 0 0));have HB8:=Zh (HB7.o.set (i:=3) rfl 1 (.int .i64 0));have hc8:∀i,((w1.setCell ⟨w.heap.size+1+1+1,0,none⟩ (.slice none 0 0)).setCell ⟨w.heap.size+1+1+1,1,none⟩ (.int .i64 0)).cell? ⟨w.heap.size+1+1+1,i,none⟩=_:=Qb (HB8.o.at_ 3 _ rfl);generalize VD [p,q]=E at *;clear h0;go_wp2;refine bodyPost_ret (v:=.tuple #[U8 (.slice none 0 0) 0,.int .i64 E]) ?_ rfl (by rw[HE.o];exact⟨_,rfl,VF _ _,HB8.o.bel⟩);rw[results_cell_tmp rfl];go_simp
end
section
open Go.RowKit Go.Maps
theorem EJ:Keyed prog 3:=int_keyed underlying3
def UQ(w:World)(b n:Nat)(f:Int->Bool):Prop:=
 ∃D:DataW Unit,w.ownsMap prog 3 (plainElem prog 4) b n D/\∀z:Int,D.atKey (.int .i64 z) (.lit (.bool false))=.lit (.bool (f z))
theorem UQ.made(w:World):UQ (w.alloc (.map #[] 0)) w.heap.size 0 (λ_=>false):=⟨.map [],World.ownsMap_made _ _ _ _,λ_=>rfl⟩
theorem UQ.below{w w':World}{b n:Nat}{f:Int->Bool}(h:UQ w b n f)(hb:Below w.heap.size w w'):UQ w' b n f:=by
 obtain⟨D,⟨es,clock,hbk,F,hs,hD⟩,hat⟩:=h;exact⟨D,⟨es,clock,Qd hbk hb,F,hs,hD⟩,hat⟩
theorem UQ.keep{w w':World}{b n:Nat}{f:Int->Bool}(h:UQ w b n f)(hb:w'.heap[b]?=w.heap[b]?):UQ w' b n f:=by
 obtain⟨D,⟨es,clock,hbk,F,hs,hD⟩,hat⟩:=h;exact⟨D,⟨es,clock,hb.trans hbk,F,hs,hD⟩,hat⟩
theorem UQ.lt{w:World}{b n:Nat}{f:Int->Bool}(h:UQ w b n f):b<w.heap.size:=by
 obtain⟨D,ho,_⟩:=h;exact ho.lt
theorem YU{v:Value}{x:Bool}{ps:List MemPlace}(h:plainElem (H:=Unit) prog 4 v=some (.lit (.bool x),ps)):v=.bool x:=by
 have hu:=underlying4;unfold plainElem at h;generalize prog.underlying 4=u at h hu;subst hu;cases v<;>first|(cases h;rfl)|(cases h)
theorem Qiy{z:Int}(h0: -9223372036854775808<=z)(h1:z<=9223372036854775807):(Lit.int .i64 z).wf=true:=by
 simp[Lit.wf,IntKind.min,IntKind.max,IntKind.signed,IntKind.bits];omega
theorem UQ.look{w:World}{b n:Nat}{f:Int->Bool}(h:UQ w b n f){z:Int}(h0: -9223372036854775808<=z)(h1:z<=9223372036854775807):
  (Instr.lookup 273 (.map (some b)) (.int .i64 z) false).run prog w=.ok (.bool (f z)) w:=by
 obtain⟨D,ho,hat⟩:=h;obtain⟨v,ps,hrun,hv⟩:=ho.lookup EJ underlying273 (z:=.bool false) (by kernel_rfl) (plainElem_bool underlying4 false) (keyOf_int_mk underlying3 (Qiy h0 h1));rw[hat z]at hv;rw[YU hv]at hrun;exact hrun
theorem Y8{w:World}{ops:Array Oper}{rest:List Oper}{o:Oper}{a:Act}{Q:Exit->Act->World->Prop}(hg:o.guard=none)(m x v:Operand)(hop:o.op=Op.mapUpdate 273 m x v)
  (b n:Nat) (f:Int->Bool) (hm:a.eval m=.map (some b)) (hown:UQ w b n f) (hn:n<maxLen) (z:Int) (h0: -9223372036854775808<=z) (h1:z<=9223372036854775807) (y:Bool) (hx:a.eval x=.int .i64 z) (hv:a.eval v=.bool y)
  (hK:∀w',UQ w' b (n+1) (λt=>if t=z then y else f t)->w.grownBy w' (some b)->wpList prog ops Q rest (a.put o.dst undef) w'):wpList prog ops Q (o::rest) a w:=by
 obtain⟨D,ho,hat⟩:=hown;have hkey:=keyOf_int_mk (P:=prog) underlying3 (Qiy h0 h1);refine wpList_mapUpdate_own w hg m x v _ hop _ _ EJ underlying273 _ b n D hm ho hn _ _ _ hx hv hkey (.lit (.bool y)) [] (plainElem_bool underlying4 y) λw' ho' hgr=>hK w' ⟨_,ho',λt=>?_⟩ hgr;show _=DataW.lit (.bool (if t=z then y else f t));by_cases e:t=z
 .subst e;rw[if_pos rfl,atKey_put_same ho.isMap (EJ.key hkey)]
 rw[if_neg e,atKey_put_other (λe'=>by injection e' with _ e';exact e e')];exact hat t
end
section
open Go.RowKit Go.Maps
def VY(w:World)(b r n:Nat)(f left:Int->Bool)(cnt:Nat):Prop:=
 ∃(D:DataW Unit)(lf:Lit->Bool),w.ranges prog 3 (plainElem prog 4) b r n D lf cnt/\(∀z:Int,D.atKey (.int .i64 z) (.lit (.bool false))=.lit (.bool (f z)))/\∀z:Int,lf (.int .i64 z)=left z
theorem VY.kept{w w':World}{b r n cnt:Nat}{f left:Int->Bool}{row:Option Nat}(h:VY w b r n f left cnt)(hg:w.grownBy w' row)(h1:some b≠row)(h2:some r≠row):VY w' b r n f left cnt:=by
 obtain⟨D,lf,hr,h3,h4⟩:=h;exact⟨D,lf,hr.kept hg h1 h2,h3,h4⟩
theorem VY.left_eq{w:World}{b r n cnt:Nat}{f left:Int->Bool}(h:VY w b r n f left cnt):w.rangeLeft b r=cnt:=by
 obtain⟨D,lf,hr,_⟩:=h;exact hr.left_eq
theorem VY.lt{w:World}{b r n cnt:Nat}{f left:Int->Bool}(h:VY w b r n f left cnt):r<w.heap.size/\b<w.heap.size:=by
 obtain⟨D,lf,hr,_⟩:=h;exact⟨hr.lt,hr.owns.lt⟩
section
variable{w:World}{ops:Array Oper}{rest:List Oper}{o:Oper}{a:Act}{Q:Exit->Act->World->Prop}
theorem IG(hg:o.guard=none)(m:Operand)(hop:o.op=Op.range 273 m)(b n:Nat)(f:Int->Bool)(hm:a.eval m=.map (some b))(hown:UQ w b n f)
  (hK:∀w' left cnt,VY w' b w.heap.size n f left cnt->(∀z:Int,f z=true->left z=true)->cnt<=n->w.grownBy w' none->w'.heap.size=w.heap.size+1->wpList prog ops Q rest (a.put o.dst (.pointer (some ⟨w.heap.size,0,none⟩))) w'):
  wpList prog ops Q (o::rest) a w:=by
 obtain⟨D,ho,hat⟩:=hown;refine wpList_range_own w hg m _ hop _ _ EJ underlying273 _ b n D hm ho λw' hr hgr hs=>hK w' (λz=>Maps.has D (.int .i64 z)) (Maps.size D) ⟨D,_,hr,hat,λ_=>rfl⟩ (λz hz=>?_) ?_ hgr hs
 .cases h:Maps.has D (.int .i64 z)with
  |true=>rfl
  |false=>
   have:=hat z;rw[Maps.atKey_of_not_has h,hz]at this;cases this
 obtain⟨es,clock,_,_,hsz,hD⟩:=ho;rw[hD];show List.length _<=n;rw[length_sorted];simpa using hsz
theorem NR(hg:o.guard=none)(it:Operand)(hop:o.op=Op.next it false)(b r n:Nat)(f left:Int->Bool)(cnt:Nat)(hit:a.eval it=.pointer (some ⟨r,0,none⟩))(h:VY w b r n f left cnt)
  (hDone:(∀z,left z=false)->wpList prog ops Q rest (a.put o.dst (.tuple #[.bool false])) w)
  (hMore:∀(x:Int)(w':World)(cnt':Nat),left x=true->VY w' b r n f (λz=>left z && !decide (z=x)) cnt'->cnt'<cnt->w.grownBy w' (some r)->w'.heap.size=w.heap.size ->
   (Instr.entry (.pointer (some ⟨r,0,none⟩))).run prog w'=.ok (.tuple #[.int .i64 x,.bool (f x)]) w'->wpList prog ops Q rest (a.put o.dst (.tuple #[.bool true,.int .i64 x,.bool (f x)])) w'):
  wpList prog ops Q (o::rest) a w:=by
 obtain⟨D,lf,hr,hat,hlf⟩:=h;refine wpList_next_ranges w hg it hop 3 EJ (plainElem prog 4) (Value.int .i64) Value.bool (λkey kl hkey=>by obtain⟨x,rfl,_⟩:=Maps.keyOf_int_inv underlying3 hkey;exact⟨x,rfl⟩) (λv y hv=>?_) b r n D lf cnt hit hr (λ_ hl=>hDone λz=>by rw[<-hlf z];exact hl _) λx c kl y w' cnt' hkey hlk hv hat' hrg hlt hgr hsz hen=>?_
 .have hu:=underlying4;unfold plainElem at hv;generalize prog.underlying 4=u at hv hu;subst hu;cases v<;>first|exact⟨_,rfl⟩|(cases hv)
 obtain⟨x',ex,rfl,_⟩:=Maps.keyOf_int_inv underlying3 hkey;cases ex
 have hy:y.1=.lit (.bool (f x)):=by rw[<-hat x];exact(hat' _).symm
 obtain⟨y1,y2⟩:=y;subst hy;have hc:=YU hv;injection hc with hc;subst hc;refine hMore x w' cnt' (by rw[<-hlf];exact hlk) ⟨D,_,hrg,hat,λz=>?_⟩ hlt hgr hsz hen;show(lf (.int .i64 z) && !(Lit.int .i64 z).sameKey (.int .i64 x))=_;rw[hlf];unfold Lit.sameKey;simp
end
end
end Go.Proofs.YthkgjohhbdipcaaGreatDoor
