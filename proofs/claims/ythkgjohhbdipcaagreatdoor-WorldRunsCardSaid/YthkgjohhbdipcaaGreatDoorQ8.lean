/- Texts laid one behind the other: Init, Chain, RecRd, KeepRd, EqIns, ChainSame, PolCheck, Judge. No condition beyond theirs. -/
import Derived.Test.YthkgjohhbdipcaaGreatDoorQ7
import Derived.Test.YthkgjohhbdipcaaGreatDoorQ3
import Derived.Test.YthkgjohhbdipcaaGreatDoorQ6
import Derived.Test.YthkgjohhbdipcaaGreatDoorQ4
import Derived.Test.YthkgjohhbdipcaaGreatDoorQ2
import Derived.Test.YthkgjohhbdipcaaGreatDoorProg
import Derived.Laws.StructEq
import Derived.KernelRfl
set_option linter.all false
set_option maxHeartbeats 64000000
set_option maxRecDepth 100000
namespace Go.Proofs.YthkgjohhbdipcaaGreatDoor
open Tryz
section
open Go.RowKit
def Typed(T0:TypeId)(o:Obj):Prop:=∃cs fr,o=.cells cs T0 fr
structure Yc(ts:List TypeId)(w w':World):Prop where
 size:w.heap.size<=w'.heap.size
 keep:∀(k:Nat)(o:Obj),w.heap[k]?=some o->(∀T∈ts,¬Typed T o)->w'.heap[k]?=some o
theorem Yc.of_below{ts:List TypeId}{w w':World}(h:Below w.heap.size w w'):Yc ts w w':=⟨h.size,λ_ _ hk _=>Qd hk h⟩
theorem Yc.of_set{T0:TypeId}{ts:List TypeId}(hT:T0∈ts){w:World}{b o:Nat}{v:Value}{cs:Array Value}{fr:Nat×Nat}(h:w.heap[b]?=some (.cells cs T0 fr)):Yc ts w (w.setCell ⟨b,o,none⟩ v):=by
 refine⟨by rw[Qr];exact Nat.le_refl _,λk o' hk hn=>?_⟩;rw[Qm (λe=>by subst e;rw[h]at hk;injection hk with hk;exact hn T0 hT ⟨_,_,hk.symm⟩)];exact hk
theorem Qg.set{α:Type}{w:World}{base:Nat}{e:TypeId}{sz:Nat}{R:α->List Value->Prop}{v x:Value}{xs:List α}{a:Addr}(h:Qg w base e sz R v xs)(hb:v.ownBlock≠some a.block):Qg (w.setCell a x) base e sz R v xs:=by
 obtain⟨rows,hr,ho⟩:=h;exact⟨rows,hr,Uh ho λb _ _ hv=>Qm (λe=>hb (by rw[<-e];exact hv))⟩
theorem Qg.base{α:Type}{w:World}{base base':Nat}{e:TypeId}{sz:Nat}{R:α->List Value->Prop}{v:Value}{xs:List α}(h:Qg w base e sz R v xs)(hb:base'<=base):Qg w base' e sz R v xs:=by
 obtain⟨rows,hr,h1,h2⟩:=h;refine⟨rows,hr,h1,?_⟩;rcases h2 with h2|⟨g,cap,cur,hv,hg,r⟩
 .exact .inl h2
 exact .inr ⟨g,cap,cur,hv,Nat.le_trans hb hg,r⟩
theorem Qg.put{α:Type}{w:World}{base b n c:Nat}{e:TypeId}{sz:Nat}{R:α->List Value->Prop}{xs:List α}(h:Qg w base e sz R (.slice (some ⟨b,0,none⟩) n c) xs){i j:Nat}(hi:i<xs.length)(hj:j<sz){y:α}{u:Value}(hR:∀r,R xs[i] r->R y (r.set j u)):
  Qg (w.setCell ⟨b,i*sz+j,none⟩ u) base e sz R (.slice (some ⟨b,0,none⟩) n c) (xs.set i y):=by
 obtain⟨rows,hr,h1,h2⟩:=h;rcases h2 with⟨h0,_⟩|⟨g,cap,cur,hv,hg,hh,hnc,hcm,hcs,htk⟩
 .cases h0
 injection hv with ha hn hc;injection ha with ha;injection ha with ha;subst ha hn hc;have hir:i<rows.length:=by rw[hr.len];exact hi
 have hsz:=hr.size _ (List.getElem_mem hir)
 have hrows:Qq sz R (xs.set i y) (rows.set i (rows[i].set j u)):=by
  refine⟨by simp[hr.len],λr hrm=>?_,λk x r hx hk=>?_⟩
  .rcases List.mem_or_eq_of_mem_set hrm with h|h
   .exact hr.size r h
   rw[h,List.length_set];exact hsz
  by_cases e:i=k
  .subst e;rw[List.getElem?_set_self hi]at hx;rw[List.getElem?_set_self hir]at hk;injection hx with hx;injection hk with hk;subst hx hk;exact hR _ (hr.rel i _ _ (List.getElem?_eq_getElem hi) (List.getElem?_eq_getElem hir))
  rw[List.getElem?_set_ne e]at hx hk;exact hr.rel k x r hx hk
 have hfl:=YP _ hrows.size;have hlen:(rows.set i (rows[i].set j u)).length=xs.length:=by simp[hr.len]
 refine⟨_,hrows,by rw[hfl,hlen,List.length_set],.inr ⟨b,c,cur.setIfInBounds (i*sz+j) u,by simp,hg,QJ hh,by simpa using hnc,hcm,by simp[hcs],?_⟩⟩;rw[List.length_set]
 have hlt:i*sz+j<xs.length*sz:=by
  calc i*sz+j<i*sz+sz:=by omega
   _=(i+1)*sz:=by rw[Nat.add_mul];omega
   _<=xs.length*sz:=Nat.mul_le_mul_right _ hi
 apply List.ext_getElem?;intro k;by_cases hk:k<xs.length*sz
 .rw[List.getElem?_take_of_lt hk,Array.getElem?_toList];have hsz0:0<sz:=by omega
  have hdm:k / sz*sz+k % sz=k:=by rw[Nat.mul_comm];exact Nat.div_add_mod k sz
  have hm:k % sz<sz:=Nat.mod_lt _ hsz0;have hd:k / sz<xs.length:=(Nat.div_lt_iff_lt_mul hsz0).2 hk
  have g1:(rows.set i (rows[i].set j u)).flatten[k]?=(rows.set i (rows[i].set j u))[k / sz]?.bind λr=>r[k % sz]?:=by
   have hlt2:k / sz<(rows.set i (rows[i].set j u)).length:=by rw[hlen];exact hd
   have h:=flat_get _ (k / sz) _ hrows.size (List.getElem?_eq_getElem hlt2) (k % sz) hm;rw[hdm]at h;rw[h,List.getElem?_eq_getElem hlt2];rfl
  have g2:rows.flatten[k]?=rows[k / sz]?.bind λr=>r[k % sz]?:=by
   have hlt2:k / sz<rows.length:=by rw[hr.len];exact hd
   have h:=flat_get _ (k / sz) _ hr.size (List.getElem?_eq_getElem hlt2) (k % sz) hm;rw[hdm]at h;rw[h,List.getElem?_eq_getElem hlt2];rfl
  rw[g1];by_cases e:k=i*sz+j
  .subst e;have e1:(i*sz+j) / sz=i:=by rw[Nat.mul_comm,Nat.mul_add_div hsz0,Nat.div_eq_of_lt hj,Nat.add_zero]
   have e2:(i*sz+j) % sz=j:=by rw[Nat.mul_comm,Nat.mul_add_mod,Nat.mod_eq_of_lt hj]
   rw[Array.getElem?_setIfInBounds_self_of_lt (by rw[hcs];exact Nat.lt_of_lt_of_le hlt (Nat.mul_le_mul_right _ hnc)),e1,e2,List.getElem?_set_self hir];show some u=(rows[i].set j u)[j]?;rw[List.getElem?_set_self (by omega)]
  rw[Array.getElem?_setIfInBounds_ne (Ne.symm e),<-Array.getElem?_toList,<-List.getElem?_take_of_lt (l:=cur.toList) hk,htk,g2];by_cases ei:i=k / sz
  .rw[<-ei,List.getElem?_set_self hir,List.getElem?_eq_getElem hir];show rows[i][k % sz]?=(rows[i].set j u)[k % sz]?;rw[List.getElem?_set_ne (λej=>e (by rw[<-hdm,<-ei,<-ej]))]
  rw[List.getElem?_set_ne ei]
 rw[List.getElem?_eq_none (by rw[List.length_take];omega),List.getElem?_eq_none (by rw[hfl,hlen];omega)]
theorem Qg.slice{α:Type}{w:World}{base:Nat}{e:TypeId}{sz:Nat}{R:α->List Value->Prop}{v:Value}{xs:List α}(h:Qg w base e sz R v xs):∃a c,v=.slice a xs.length c:=by
 obtain⟨rows,_,_,h2⟩:=h;rcases h2 with⟨hv,hn⟩|⟨g,cap,cur,hv,_⟩
 .exact⟨_,_,by rw[hv,hn]⟩
 exact⟨_,_,hv⟩
theorem Qg.addr{α:Type}{w:World}{base:Nat}{e:TypeId}{sz n c:Nat}{a:Option Addr}{R:α->List Value->Prop}{xs:List α}(h:Qg w base e sz R (.slice a n c) xs)(h0:0<xs.length):∃b,a=some ⟨b,0,none⟩/\base<=b/\b<w.heap.size/\∃cur,w.heap[b]?=some (.cells cur e):=by
 obtain⟨rows,_,h1,h2⟩:=h;rcases h2 with⟨_,hn⟩|⟨g,cap,cur,hv,hg,hh,_⟩
 .omega
 injection hv with ha hn hc;exact⟨g,ha,hg,(Array.getElem?_eq_some_iff.1 hh).1,cur,hh⟩
theorem Qg.typed{α:Type}{w:World}{base:Nat}{e:TypeId}{sz:Nat}{R:α->List Value->Prop}{v:Value}{xs:List α}(h:Qg w base e sz R v xs):∀g,v.ownBlock=some g->∃o,w.heap[g]?=some o/\Typed e o:=by
 obtain⟨rows,_,_,h2⟩:=h;intro g hg;rcases h2 with⟨hv,_⟩|⟨g',cap,cur,hv,_,hh,_⟩
 .subst hv;simp[Value.ownBlock]at hg
 subst hv;simp[Value.ownBlock]at hg;subst hg;exact⟨_,hh,_,_,rfl⟩
theorem Yc.trans{ts:List TypeId}{w w' w'':World}(h:Yc ts w w')(h':Yc ts w' w''):Yc ts w w'':=⟨Nat.le_trans h.size h'.size,λk o hk hn=>h'.keep k o (h.keep k o hk hn) hn⟩
theorem QcZ{cs:Array Value}(h:cs.size=2):∃c0 c1,cs = #[c0,c1]:=by
 obtain⟨l⟩:=cs
 match l,h with
 |[c0,c1],_=>exact⟨c0,c1,rfl⟩
theorem Qbd{ts:List TypeId}{w w':World}{b:Nat}{cs:Array Value}{T:TypeId}(h:w.heap[b]?=some (.cells cs T))(hi:Yc ts w w')(hT:T∉ts):w'.heap[b]?=some (.cells cs T):=
 hi.keep b _ h λT' hT'=>by
  rintro⟨cs',fr,e'⟩;injection e' with _ e2 _;exact hT (e2▸hT')
def Qc9(B:Nat)(T0:TypeId)(sz:Nat)(v:Value)(w:World):Prop:=∃b,v=.pointer (some ⟨b,0,none⟩)/\B<=b/\∃cs,cs.size=sz/\w.heap[b]?=some (.cells cs T0)
def QfK(T0:TypeId)(v:Value)(cs:Array Value)(w:World):Prop:=∃b,v=.pointer (some ⟨b,0,none⟩)/\w.heap[b]?=some (.cells cs T0)
def Qif(B:Nat)(T0:TypeId)(sz:Nat)(ia is:Nat)(news:(Nat->Value)->Array Value)(G:Nat->(Nat->Bool)->(Nat->Value)->World->Prop)(k:Nat)(dn:Nat->Bool)(vf:Nat->Value)(w:World):Prop:=
 if k=ia then Qc9 B T0 sz (vf ia) w else if k=is then QfK T0 (vf ia) (news vf) w else G k dn vf w
def Xk(T0:TypeId)(ts:Nat->List TypeId)(ia is:Nat)(news:(Nat->Value)->Array Value)(i:Nat)(vf:Nat->Value)(w w':World):Prop:=
 Yc (if i=is then[T0]else ts i) w w'/\(i=is->QfK T0 (vf ia) (news vf) w')
def QiO(B:Nat)(w0:World)(_:Nat->Bool)(w:World):Prop:=Cls B w0 w
theorem Xk.plain{T0:TypeId}{ts:Nat->List TypeId}{ia is i:Nat}{news:(Nat->Value)->Array Value}{vf:Nat->Value}{w w':World}(h:Below w.heap.size w w')(hi:i≠is):Xk T0 ts ia is news i vf w w':=⟨.of_below h,λe=>absurd e hi⟩
theorem Y9{P:Program}{l:List Oper}{Q:Exit->Act->World->Prop}{a:Act}{id:Nat}{w:World}(B:Nat)(hBw:B<=w.heap.size)(T0:TypeId)(sz:Nat)(ts:Nat->List TypeId)(ia is:Nat)(news:(Nat->Value)->Array Value)(G:Nat->(Nat->Bool)->(Nat->Value)->World->Prop)
  (hm:P.follows .mixedOrders=true) (hB:YD (l.map prune) a.tmps.size=true) (bs:List (List Nat)) (hbs:befores (l.map prune) []=bs) (hia:ia∈bs.getD is []) (hts:∀i,T0∉ts i) (hsz:∀vf,(news vf).size=sz)
  (hG:∀(i k:Nat)(dn:Nat->Bool)(vf:Nat->Value)(w w':World),k≠i->dn i=false->(∀m∈bs.getD i [],dn m=true)->dn k=true->Yc (if i=is then[T0]else ts i) w w'->G k dn vf w->G k (Qe dn i) vf w')
  (hGp:∀(k:Nat)(dn:Nat->Bool)(f g:Nat->Value)(w:World),(∀m∈bs.getD k [],f m=g m)->f k=g k->G k dn f w->G k dn g w) (hN:∀f g:Nat->Value,(∀m∈bs.getD is [],f m=g m)->news f=news g)
  (h:Vl P l.toArray (QiO B w) (Xk T0 ts ia is news) (Qif B T0 sz ia is news G) bs (Q .normal) l.length l 0 (λ_=>a)):(Code.region id l.toArray true).wp P Q a w:=by
 refine Yu _ _ _ hm hB bs hbs (λi dn vf w1 w2 _ hd hbf hf hT k hk=>?_) (λk dn f g w1 hfg hk hF=>?_) ⟨hBw,Zbr.drew⟩ h
 .have hki:k≠i:=λe=>by rw[e,hd]at hk;cases hk
  have hF:=hf k hk;unfold Qif at hF⊢;split
  .rename_i e;rw[if_pos e]at hF;obtain⟨b,hv,hb,cs,hs,hc⟩:=hF;by_cases ei:i=is
   .obtain⟨b',hv',hc'⟩:=hT.2 ei;rw[hv]at hv';injection hv' with hv';injection hv' with hv';injection hv' with hv';subst hv';exact⟨b,hv,hb,_,hsz vf,hc'⟩
   have h1:=hT.1;rw[if_neg ei]at h1;exact⟨b,hv,hb,cs,hs,Qbd hc h1 (hts i)⟩
  rename_i e;rw[if_neg e]at hF;split
  .rename_i e2;rw[if_pos e2]at hF;obtain⟨b,hv,hc⟩:=hF;have h1:=hT.1;rw[if_neg (λe'=>hki (e2.trans e'.symm))]at h1;exact⟨b,hv,Qbd hc h1 (hts i)⟩
  rename_i e2;rw[if_neg e2]at hF;exact hG i k dn vf _ _ hki hd hbf hk hT.1 hF
 unfold Qif at hF⊢;split
 .rename_i e;subst e;rw[if_pos rfl,hk]at hF;exact hF
 rename_i e;rw[if_neg e]at hF;split
 .rename_i e2;subst e2;rw[if_pos rfl,hN f g hfg,hfg ia hia]at hF;exact hF
 rename_i e2;rw[if_neg e2]at hF;exact hGp k dn f g w1 hfg hk hF
end
section
open Go.RowKit
def XQ(w:World)(D:Nat->Prop)(f:List TIns)(cs:List Value):Prop:=∃u,cs=[u]/\QW w D u f
def Qz(w:World)(D:Nat->Prop)(v:Value)(l:List (List TIns)):Prop:=Sl w D 1 (XQ w D) v l
theorem Qz.keep{w w':World}{D D':Nat->Prop}{v:Value}{l:List (List TIns)}(h:Qz w D v l)(hD:∀b,D b->b<w.heap.size->D' b)
  (hw:∀b,D b->b<w.heap.size->w'.heap[b]?=w.heap[b]?) (hs:w.heap.size<=w'.heap.size):Qz w' D' v l:=
 Sl.mono h hD hw hs (λ_ _ _ ⟨u,h1,h2⟩=>⟨u,h1,h2.keep hD hw hs⟩)
theorem Qz.below{w w':World}{D:Nat->Prop}{v:Value}{l:List (List TIns)}(h:Qz w D v l)(hb:Below w.heap.size w w'):Qz w' D v l:=
 h.keep (λ_ h _=>h) (λb _ hlt=>hb.block b hlt) hb.size
theorem Qz.cells{w:World}{D:Nat->Prop}{b o n c:Nat}{s:Option Nat}{l:List (List TIns)}(h:Qz w D (.slice (some ⟨b,o,s⟩) n c) l){i:Nat}(hi:i<l.length):
  ∃(a':Option Addr)(c':Nat),w.cell? ⟨b,o+i,none⟩=some (.slice a' l[i].length c')/\QW w D (.slice a' l[i].length c') l[i]:=by
 obtain⟨cs,_,⟨u,hu,hr⟩,hcell⟩:=Sl.get h hi;obtain⟨a',c',hv,_⟩:=Sl.form hr;subst hv hu;have h1:=hcell 0 _ rfl;rw[Nat.mul_one]at h1;exact⟨a',c',h1,hr⟩
theorem J3(v:Value)(l:List (List TIns))(D:Nat->Prop)(w:World)(h:Qz w D v l):
  Calls prog 95 #[v] w λe w'=>e=.returned (.int .i64 (chainE l))/\Below w.heap.size w w':=by
 obtain⟨a,c,rfl,hlc,hcm,hat⟩:=Sl.form h;have H:=Zh h;clear h;go_enter func95,ntmps95;by_cases h6:6<l.length
 .have hE:chainE l=2:=by unfold chainE;rw[if_pos h6]
  rw[hE];go_wp2;go_ret;exact⟨rfl,Below.refl _ _⟩
 have HE:Hid (chainE l=V4 l):=by show chainE l=_;unfold chainE;rw[if_neg h6]
 go_wp2_with fail
 go_loopw[11](λkv wr=>∃k:Nat,kv=.int .i64 k/\k<=l.length/\V4 l=V4 (l.drop k)/\Below w.heap.size w wr) (λkv _=>l.length-(intOf kv).toNat)
 case atStart=>exact⟨0,rfl,by omega,rfl,Below.refl _ _⟩
 case round=>
  obtain⟨k,rfl,hk,hd,hb⟩:=hrel;have Hd:=Zh hd;have Hb:=Zh hb;clear hd hb;by_cases hlt:k<l.length
  .obtain⟨b,o,rfl,_,_⟩:=hat (by omega);obtain⟨a',c',hc,hr⟩:=Qz.cells (H.o.below Hb.o) hlt;have Hr:=Zh hr;have Hdk:=Zh (O9 l k hlt);obtain⟨f,hf⟩:∃f,l[k]=f:=⟨_,rfl⟩;rw[hf]at hc Hr Hdk;clear hr hf;go_wp2_with fail
   refine(XJ _ f _ _ Hr.o).mono ?_;rintro e w1⟨rfl,hb1⟩;have Hb1:=Zh (Ql Hb.o hb1);clear hb1 hc;by_cases h0:Vj f=0
   .have Hn:Hid (V4 l=V4 (l.drop (k+1))):=by show _=_;rw[Hd.o,Hdk.o,if_pos h0]
    rw[h0];clear h0;go_wp2
    go_roundw
    case rel=>exact⟨k+1,by go_num,by omega,Hn.o,Hb1.o⟩
    case measure=>simp[intOf];omega
   have Hn:Hid (chainE l=Vj f):=by show _=_;rw[HE.o,Hd.o,Hdk.o,if_neg h0]
   have hb0:(Vj f != 0)=true:=bne_iff_ne.2 h0;clear h0;go_wp2;go_ret;exact⟨Q3 Hn.o.symm,Hb1.o⟩
  obtain rfl:k=l.length:=by omega
  have Hn:Hid (chainE l=0):=by show _=_;rw[HE.o,Hd.o,List.drop_length];rfl
  go_wp2;go_ret;exact⟨Q3 Hn.o.symm,Hb.o⟩
theorem Qaj(x:TCall)(l:List (List TIns))(k:Nat)(v:Int)(h:k<l.length):YJ x (l.drop k) v=YJ x (l.drop (k+1)) (minOf v (run l[k] x).1):=by
 rw[List.drop_eq_getElem_cons h];rfl
theorem Qis{f:List TIns}(h:Vj f=0){x:TCall}(hx:x.ok):QgH f x=((run f x).1,((run f x).2:Int),0):=by
 unfold QgH;rw[if_neg (by rw[h];simp),if_pos hx]
theorem Qh6(v:Value)(l:List (List TIns))(x:TCall)(D:Nat->Prop)(w:World)(h:Qz w D v l):
  Calls prog 58 #[v,Yk x] w λe w'=>e=.returned (.tuple #[.int .i64 (NV l x).1,.int .i64 (NV l x).2])/\Below w.heap.size w w':=by
 obtain⟨a,c,rfl,hlc,hcm,hat⟩:=Sl.form h;have H:=Zh h;clear h;go_enter func58,ntmps58;go_wp2_with fail
 have HB:=Zh (Bx.one (w:=w) (o:=.cells #[.int .i64 x.a0,.int .i64 x.a1,.int .i64 x.a2,.int .i64 x.a3,.int .i64 x.a4] 46));refine(J3 _ l D _ (H.o.below HB.o.bel)).mono ?_;rintro e w1⟨rfl,hb1⟩;have HB1:=Zh (HB.o.below hb1);clear hb1;by_cases h0:chainE l=0
 .obtain⟨hl6,hcodes⟩:=(V9 l).1 h0;have Hcd:=Zh hcodes;have H0:=Zh h0;rw[h0];have hc0:=HB1.o.cells0;clear h0 hcodes;go_wp2_with fail
  refine(XI x _).mono ?_;rintro e w2⟨rfl,hb2⟩;have HB2:=Zh (HB1.o.below hb2);clear hb2 hc0;by_cases hx:x.ok
  .have Hx:=Zh hx;have he:JZ x=0:=by unfold JZ;rw[if_pos hx]
   rw[he];have HA:Hid (NV l x=(asked l x,0)):=by show NV l x=_;unfold NV;rw[if_neg (by rw[H0.o];simp),if_pos hx]
   clear hx he;go_wp2_with fail
   go_loopw[8,26](λvv kv wr=>∃(k:Nat)(t:Int),kv=.int .i64 k/\vv=.int .i64 t/\k<=l.length/\asked l x=YJ x (l.drop k) t/\Bx w [.cells #[.int .i64 x.a0,.int .i64 x.a1,.int .i64 x.a2,.int .i64 x.a3,.int .i64 x.a4] 46] wr) (λ_ kv _=>l.length-(intOf kv).toNat)
   case atStart=>exact⟨0,4,rfl,rfl,by omega,rfl,HB2.o⟩
   case round=>
    obtain⟨k,t,rfl,rfl,hk,hd,hb⟩:=hrel;have Hd:=Zh hd;have HBr:=Zh hb;clear hd hb;by_cases hlt:k<l.length
    .obtain⟨b,o,rfl,_,_⟩:=hat (by omega);obtain⟨a',c',hc,hr⟩:=Qz.cells (H.o.below HBr.o.bel) hlt;have Hr:=Zh hr;have Hck:=Zh (Hcd.o l[k] (List.getElem_mem hlt));have Hdk:=Zh (Qaj x l k t hlt);obtain⟨f,hf⟩:∃f,l[k]=f:=⟨_,rfl⟩;rw[hf]at hc Hr Hdk Hck;have hc0:=HBr.o.cells0;clear hr hf;go_wp2_with fail
     refine(run_any _ f x _ _ Hr.o).mono ?_;rw[Qis Hck.o Hx.o];rintro e w3⟨rfl,hb3⟩;have HB3:=Zh (HBr.o.below hb3);clear hb3 hc hc0;obtain⟨u,hu⟩:∃u,(run f x).1=u:=⟨_,rfl⟩;rw[hu]at Hdk⊢;have Hn:Hid (asked l x=YJ x (l.drop (k+1)) (minOf t u)):=by show _=_;rw[Hd.o,Hdk.o]
     by_cases htu:t<=u
     .have e1:minOf t u=t:=by unfold minOf;rw[if_pos htu]
      rw[e1]at Hn;go_wp2
      go_roundw
      case rel=>exact⟨k+1,t,by go_num,(by first|rfl|(congr 1<;>omega)|omega),by omega,Hn.o,HB3.o⟩
      case measure=>simp[intOf];omega
     have e1:minOf t u=u:=by unfold minOf;rw[if_neg htu]
     rw[e1]at Hn;go_wp2
     go_roundw
     case rel=>exact⟨k+1,u,by go_num,(by first|rfl|(congr 1<;>omega)|omega),by omega,Hn.o,HB3.o⟩
     case measure=>simp[intOf];omega
    obtain rfl:k=l.length:=by omega
    have Hn:Hid (asked l x=t):=by show _=_;rw[Hd.o,List.drop_length];rfl
    have HBf:=Zh HBr.o.bel;go_wp2;go_ret2;exact⟨by rw[HA.o,Hn.o]<;>rfl,HBf.o⟩
  have he:JZ x=3:=by unfold JZ;rw[if_neg hx]
  have HA:Hid (NV l x=(0,3)):=by show NV l x=_;unfold NV;rw[if_neg (by rw[H0.o];simp),if_neg hx]
  have HBf:=Zh HB2.o.bel;rw[he];clear hx;go_wp2;go_ret2;exact⟨by rw[HA.o]<;>rfl,HBf.o⟩
 have HA:Hid (NV l x=(0,chainE l)):=by show NV l x=_;unfold NV;rw[if_pos h0]
 have hb0:(chainE l != 0)=true:=bne_iff_ne.2 h0;have HBf:=Zh HB1.o.bel;clear h0;go_wp2;go_ret2;exact⟨by rw[HA.o]<;>rfl,HBf.o⟩
end
section
open Go.RowKit
@[reducible] def Yg(r:TRec)(v:Value):Value:=.agg #[.int .i64 r.kind,.int .i64 r.cell,.int .i64 r.fm,v,.int .i64 r.p.df]
def QbR(w:World)(D:Nat->Prop)(r:TRec)(cs:List Value):Prop:=∃v,cs=[.int .i64 r.kind,.int .i64 r.cell,.int .i64 r.fm,v,.int .i64 r.p.df]/\Qc w D v r.p.ru
def Vg(w:World)(D:Nat->Prop)(v:Value)(l:List TRec):Prop:=Sl w D 5 (QbR w D) v l
theorem Vg.keep{w w':World}{D D':Nat->Prop}{v:Value}{l:List TRec}(h:Vg w D v l)(hD:∀b,D b->b<w.heap.size->D' b)
  (hw:∀b,D b->b<w.heap.size->w'.heap[b]?=w.heap[b]?) (hs:w.heap.size<=w'.heap.size):Vg w' D' v l:=Sl.mono h hD hw hs (λ_ _ _ ⟨u,h1,h2⟩=>⟨u,h1,h2.keep hD hw hs⟩)
theorem Vg.below{w w':World}{D:Nat->Prop}{v:Value}{l:List TRec}(h:Vg w D v l)(hb:Below w.heap.size w w'):Vg w' D v l:=
 h.keep (λ_ h _=>h) (λb _ hlt=>hb.block b hlt) hb.size
theorem Vg.cells{w:World}{D:Nat->Prop}{b o n c:Nat}{s:Option Nat}{l:List TRec}(h:Vg w D (.slice (some ⟨b,o,s⟩) n c) l){i:Nat}(hi:i<l.length):
  ∃(a:Option Addr)(c:Nat),w.cell? ⟨b,o+i*5,none⟩=some (.int .i64 l[i].kind)/\w.cell? ⟨b,o+i*5+1,none⟩=some (.int .i64 l[i].cell)/\w.cell? ⟨b,o+i*5+2,none⟩=some (.int .i64 l[i].fm)/\w.cell? ⟨b,o+i*5+3,none⟩=some (.slice a l[i].p.ru.length c)/\w.cell? ⟨b,o+i*5+4,none⟩=some (.int .i64 l[i].p.df) /\
   Qc w D (.slice a l[i].p.ru.length c) l[i].p.ru:=by
 obtain⟨cs,_,⟨v,hu,hp⟩,hcell⟩:=Sl.get h hi;obtain⟨a1,c1,hv,_⟩:=Sl.form hp;subst hv hu;exact⟨a1,c1,by have:=hcell 0 _ rfl;simpa using this,by have:=hcell 1 _ rfl;simpa[Nat.add_assoc]using this,by have:=hcell 2 _ rfl;simpa[Nat.add_assoc]using this,by have:=hcell 3 _ rfl;simpa[Nat.add_assoc]using this,by have:=hcell 4 _ rfl;simpa[Nat.add_assoc]using this,hp⟩
theorem QbR.keep{w w':World}{D D':Nat->Prop}{r:TRec}{cs:List Value}(h:QbR w D r cs)(hD:∀b,D b->b<w.heap.size->D' b)(hw:∀b,D b->b<w.heap.size->w'.heap[b]?=w.heap[b]?)(hs:w.heap.size<=w'.heap.size):QbR w' D' r cs:=by
 obtain⟨u,h1,h2⟩:=h;exact⟨u,h1,h2.keep hD hw hs⟩
theorem IX{w:World}{D:Nat->Prop}(y:TRec)(cs:List Value)(h:QbR w D y cs):∀c∈cs,c.oneCell'=true:=by
 obtain⟨u,rfl,h1⟩:=h;obtain⟨a,c,rfl,_⟩:=Sl.form h1;simp[Value.oneCell']
theorem QgA{w:World}{D:Nat->Prop}{v:Value}{l:List TRec}(h:Vg w D v l):Vg w (λ_=>True) v l:=h.keep (λ_ _ _=>trivial) (λ_ _ _=>rfl) Znl
end
section
open Go.RowKit
def XD(w:World)(D:Nat->Prop)(c:TCell)(cs:List Value):Prop:=∃u v,cs=[.bool c.open_,u,v,.int .i64 c.p.df]/\Qz w D u c.chain/\Qc w D v c.p.ru
def Qo(w:World)(D:Nat->Prop)(v:Value)(l:List TCell):Prop:=Sl w D 4 (XD w D) v l
theorem XD.keep{w w':World}{D D':Nat->Prop}{c:TCell}{cs:List Value}(h:XD w D c cs)(hD:∀b,D b->b<w.heap.size->D' b)(hw:∀b,D b->b<w.heap.size->w'.heap[b]?=w.heap[b]?)(hs:w.heap.size<=w'.heap.size):XD w' D' c cs:=by
 obtain⟨u,v,h1,h2,h3⟩:=h;exact⟨u,v,h1,h2.keep hD hw hs,h3.keep hD hw hs⟩
theorem Qo.keep{w w':World}{D D':Nat->Prop}{v:Value}{l:List TCell}(h:Qo w D v l)(hD:∀b,D b->b<w.heap.size->D' b)
  (hw:∀b,D b->b<w.heap.size->w'.heap[b]?=w.heap[b]?) (hs:w.heap.size<=w'.heap.size):Qo w' D' v l:=Sl.mono h hD hw hs (λ_ _ _ h=>h.keep hD hw hs)
theorem Qo.below{w w':World}{D:Nat->Prop}{v:Value}{l:List TCell}(h:Qo w D v l)(hb:Below w.heap.size w w'):Qo w' D v l:=
 h.keep (λ_ h _=>h) (λb _ hlt=>hb.block b hlt) hb.size
theorem Qo.cells{w:World}{D:Nat->Prop}{b o n c:Nat}{s:Option Nat}{l:List TCell}(h:Qo w D (.slice (some ⟨b,o,s⟩) n c) l){i:Nat}(hi:i<l.length):
  ∃(a1 a2:Option Addr)(c1 c2:Nat),w.cell? ⟨b,o+i*4,none⟩=some (.bool l[i].open_)/\w.cell? ⟨b,o+i*4+1,none⟩=some (.slice a1 l[i].chain.length c1)/\w.cell? ⟨b,o+i*4+2,none⟩=some (.slice a2 l[i].p.ru.length c2)/\w.cell? ⟨b,o+i*4+3,none⟩=some (.int .i64 l[i].p.df) /\
   Qz w D (.slice a1 l[i].chain.length c1) l[i].chain/\Qc w D (.slice a2 l[i].p.ru.length c2) l[i].p.ru:=by
 obtain⟨cs,_,⟨u,v,hu,hr,hp⟩,hcell⟩:=Sl.get h hi;obtain⟨a1,c1,hv,_⟩:=Sl.form hr;obtain⟨a2,c2,hv2,_⟩:=Sl.form hp;subst hv hv2 hu;exact⟨a1,a2,c1,c2,by have:=hcell 0 _ rfl;simpa using this,by have:=hcell 1 _ rfl;simpa[Nat.add_assoc]using this,by have:=hcell 2 _ rfl;simpa[Nat.add_assoc]using this,by have:=hcell 3 _ rfl;simpa[Nat.add_assoc]using this,hr,hp⟩
theorem ZY{w:World}{D:Nat->Prop}(y:TCell)(cs:List Value)(h:XD w D y cs):∀c∈cs,c.oneCell'=true:=by
 obtain⟨u,v,rfl,h1,h2⟩:=h;obtain⟨a,c,rfl,_⟩:=Sl.form h1;obtain⟨a2,c2,rfl,_⟩:=Sl.form h2;simp[Value.oneCell']
end
section
open Go.RowKit
attribute [local go_sem] gives QG
theorem QdN(c d:TIns)(w:World):(binOp .neq 141 (.agg #[.int .i64 c.k,.int .i64 c.a,.int .i64 c.b,.int .i64 c.c]) (.agg #[.int .i64 d.k,.int .i64 d.a,.int .i64 d.b,.int .i64 d.c])).run prog w=.ok (.bool (!decide (c=d))) w:=by
 obtain⟨k,a,b,c⟩:=c;obtain⟨k',a',b',c'⟩:=d;dsimp only
 have hd:decide ((⟨k,a,b,c⟩:TIns)=⟨k',a',b',c'⟩)=(decide (k=k')&&decide (a=a')&&decide (b=b')&&decide (c=c')):=by
  rw[Bool.eq_iff_iff];simp[and_assoc]
 rw[hd];clear hd;by_cases h0:k=k'
 .have b0:(k==k')=true:=beq_iff_eq.2 h0;by_cases h1:a=a'
  .have b1:(a==a')=true:=beq_iff_eq.2 h1;by_cases h2:b=b'
   .have b2:(b==b')=true:=beq_iff_eq.2 h2;by_cases h3:c=c'
    .have b3:(c==c')=true:=beq_iff_eq.2 h3;rw[decide_eq_true h0,decide_eq_true h1,decide_eq_true h2,decide_eq_true h3];clear h0 h1 h2 h3;go_simp
    have b3:(c==c')=false:=beq_eq_false_iff_ne.2 h3;rw[decide_eq_true h0,decide_eq_true h1,decide_eq_true h2,decide_eq_false h3];clear h0 h1 h2 h3;go_simp
   have b2:(b==b')=false:=beq_eq_false_iff_ne.2 h2;rw[decide_eq_true h0,decide_eq_true h1,decide_eq_false h2];clear h0 h1 h2;go_simp
  have b1:(a==a')=false:=beq_eq_false_iff_ne.2 h1;rw[decide_eq_true h0,decide_eq_false h1];clear h0 h1;go_simp
 have b0:(k==k')=false:=beq_eq_false_iff_ne.2 h0;rw[decide_eq_false h0];clear h0;go_simp
theorem XM{α:Type}{xs ys:List α}{k:Nat}(hx:k<xs.length)(hy:k<ys.length)(h:xs.take k=ys.take k)(e:xs[k]=ys[k]):xs.take (k+1)=ys.take (k+1):=by
 rw[List.take_succ_eq_append_getElem hx,List.take_succ_eq_append_getElem hy,h,e]
theorem Zl{α:Type}{xs ys:List α}{k:Nat}(hx:k<xs.length)(hy:k<ys.length)(e:xs[k]≠ys[k]):xs≠ys:=λh=>e (by subst h;rfl)
attribute [-go_sem] run_neq_struct
theorem Qcb(v u:Value)(xs ys:List TIns)(D:Nat->Prop)(w:World)(h:QW w D v xs)(h':QW w D u ys):
  Calls prog 131 #[v,u] w λe w'=>e=.returned (.bool (decide (xs=ys)))/\Below w.heap.size w w':=by
 obtain⟨a,c,rfl,hlc,hcm,hat⟩:=Sl.form h;obtain⟨a',c',rfl,hlc',hcm',hat'⟩:=Sl.form h';have H:=Zh h;have H':=Zh h';clear h h';by_cases hl:xs.length=ys.length
 .have b0:((xs.length:Int) !=(ys.length:Int))=false:=bne_eq_false_iff_eq.2 (by omega);have hl':=Zh hl;have hl1:xs.length<=ys.length:=by omega
  have hl2:ys.length<=xs.length:=by omega
  clear hl;go_enter func131,ntmps131;go_wp2_with fail
  go_loopw[13](λi wr=>∃k:Nat,k<=xs.length/\i=.int .i64 k/\xs.take k=ys.take k/\Below w.heap.size w wr) (λi _=>xs.length-(intOf i).toNat)
  case atStart=>exact⟨0,by omega,rfl,rfl,Below.refl _ _⟩
  case round=>
   obtain⟨k,hk,rfl,htk,hbw⟩:=hrel;have Ht:=Zh htk;have hsz:=hbw.size;clear htk;by_cases hlt:k<xs.length
   .obtain⟨b,o,rfl,hDb,hb⟩:=hat (by omega);obtain⟨b',o',rfl,hDb',hb'⟩:=hat' (by omega);have hlt':k<ys.length:=by omega
    have hc:∀W,Cls w.heap.size wr W->(W.cell? ⟨b,o+k*4,none⟩=some (.int .i64 xs[k].k)/\W.cell? ⟨b,o+k*4+1,none⟩=some (.int .i64 xs[k].a)/\W.cell? ⟨b,o+k*4+2,none⟩=some (.int .i64 xs[k].b)/\W.cell? ⟨b,o+k*4+3,none⟩=some (.int .i64 xs[k].c)) /\
      (W.cell? ⟨b',o'+k*4,none⟩=some (.int .i64 ys[k].k)/\W.cell? ⟨b',o'+k*4+1,none⟩=some (.int .i64 ys[k].a)/\W.cell? ⟨b',o'+k*4+2,none⟩=some (.int .i64 ys[k].b)/\W.cell? ⟨b',o'+k*4+3,none⟩=some (.int .i64 ys[k].c)):=λW hW=>
     ⟨QW.cells (H.o.below (hbw.trans hW.2)) hlt,QW.cells (H'.o.below (hbw.trans hW.2)) hlt'⟩
    have Hc:=Zh hc;have hne:=QdN xs[k] ys[k];clear hc;go_wp2_with fail
    refine Qy w.heap.size hsz (by kernel_rfl) (by kernel_rfl) ?_
    repeat(refine QL (λK hK=>?_);apply Exists.intro;refine⟨λW hC R hR=>?_,?_⟩;(first
     |(have hne':=hne W;clear hne;go_simp;exact hR _ _ Zbr rfl)
     |(have hcc:=Hc.o W hC;go_simp;exact hR _ _ Zbr rfl));(go_simp;refine hK _ ?_;clear hK K))
    intro w2 hC2;clear hne;by_cases he:xs[k]=ys[k]
    .have Hn:=Zh (XM hlt hlt' Ht.o he);have d:decide (xs[k]=ys[k])=true:=decide_eq_true he;clear he;simp only[d];go_wp2
     go_roundw
     case rel=>exact⟨k+1,by omega,by go_num,Hn.o,hbw.trans hC2.2⟩
     case measure=>simp[intOf];omega
    have Hn:=Zh (Zl hlt hlt' he);have d:decide (xs[k]=ys[k])=false:=decide_eq_false he;clear he;simp only[d];go_wp2;go_ret;exact⟨VM (decide_eq_false Hn.o).symm,hbw.trans hC2.2⟩
   obtain rfl:k=xs.length:=by omega
   have Hn:Hid (xs=ys):=by
    have:=Ht.o;rw[List.take_length,hl'.o,List.take_length]at this;exact this
   go_wp2;go_ret;exact⟨VM (decide_eq_true Hn.o).symm,hbw⟩
 have b0:((xs.length:Int) !=(ys.length:Int))=true:=bne_iff_ne.2 (by omega);have hn:decide (xs=ys)=false:=decide_eq_false λe=>hl (by rw[e]);rw[hn];clear hn hl;go_enter func131,ntmps131;go_wp2;go_ret;exact⟨rfl,Below.refl _ _⟩
end
section
open Go.RowKit
theorem Qdh(v u:Value)(f g:List TIns)(w:World)(h:QW w (λ_=>True) v f)(h':QW w (λ_=>True) u g):
  Calls prog 139 #[v,u] w λe w'=>e=.returned (.bool (decide (f=g)))/\Below w.heap.size w w':=by
 have H:=Zh h;have H':=Zh h';obtain⟨a,c,rfl,_⟩:=Sl.form h;obtain⟨a',c',rfl,_⟩:=Sl.form h';clear h h';go_enter func139,ntmps139;go_wp2_with fail
 refine(Qcb _ _ f g _ w H.o H'.o).mono ?_;rintro e w1⟨rfl,hb1⟩;go_wp2;go_ret;exact⟨rfl,hb1⟩
theorem Qg6(v u:Value)(xs ys:List (List TIns))(w:World)(h:Qz w (λ_=>True) v xs)(h':Qz w (λ_=>True) u ys):
  Calls prog 129 #[v,u,.func (.func 139) #[] #[]] w λe w'=>e=.returned (.bool (decide (xs=ys)))/\Below w.heap.size w w':=by
 have H:=Zh h;have H':=Zh h';obtain⟨a,c,rfl,hlc,hcm,hat⟩:=Sl.form h;obtain⟨a',c',rfl,hlc',hcm',hat'⟩:=Sl.form h';clear h h';by_cases hl:xs.length=ys.length
 .have Hl:=Zh hl;have hln:((xs.length:Int) !=(ys.length:Int))=false:=by rw[hl];simp
  clear hl;go_enter func129,ntmps129;go_wp2_with fail
  go_loopw[17](λi wr=>∃k:Nat,k<=xs.length/\i=.int .i64 k/\xs.take k=ys.take k/\Below w.heap.size w wr) (λi _=>xs.length-(intOf i).toNat)
  case atStart=>exact⟨0,by omega,rfl,rfl,Below.refl _ _⟩
  case round=>
   obtain⟨k,hk,rfl,htk,hbw⟩:=hrel;have Ht:=Zh htk;have Hb:=Zh hbw;clear htk hbw;by_cases hlt:k<xs.length
   .obtain⟨b,o,rfl,_,_⟩:=hat (by omega);obtain⟨b',o',rfl,_,_⟩:=hat' (by rw[<-Hl.o];omega);have hlt':k<ys.length:=by rw[<-Hl.o];exact hlt
    obtain⟨a1,c1,hc1,hr1⟩:=Qz.cells (H.o.below Hb.o) hlt;obtain⟨a2,c2,hc2,hr2⟩:=Qz.cells (H'.o.below Hb.o) hlt';have Hr1:=Zh hr1;have Hr2:=Zh hr2;clear hr1 hr2;go_wp2_with fail
    refine(Qdh _ _ xs[k] ys[k] _ Hr1.o Hr2.o).mono ?_;rintro e w1⟨rfl,hb1⟩;have Hb1:=Zh (Ql Hb.o hb1);clear hb1 hc1 hc2;by_cases he:xs[k]=ys[k]
    .have Hn:=Zh (XM hlt hlt' Ht.o he);have d:decide (xs[k]=ys[k])=true:=decide_eq_true he;clear he;rw[d];go_wp2
     go_roundw
     case rel=>first|exact⟨k+1,by omega,by go_num,Hn.o,Hb1.o⟩|((repeat apply Exists.intro);exact⟨⟨k+1,by omega,by go_num,Hn.o,Hb1.o⟩,rfl⟩)
     case measure=>simp[intOf];omega
    have Hn:=Zh (Zl hlt hlt' he);have d:decide (xs[k]=ys[k])=false:=decide_eq_false he;clear he;rw[d];go_wp2;go_ret;exact⟨by rw[decide_eq_false Hn.o];rfl,Hb1.o⟩
   obtain rfl:k=xs.length:=by omega
   have Hn:Hid (xs=ys):=by
    have:=Ht.o;rw[List.take_length,Hl.o,List.take_length]at this;exact this
   go_wp2;go_ret;exact⟨by rw[decide_eq_true Hn.o];rfl,Hb.o⟩
 have hn:xs≠ys:=λe=>hl (by rw[e]);have hl':((xs.length:Int) !=(ys.length:Int))=true:=bne_iff_ne.2 (by omega);have HD:=Zh (decide_eq_false hn);clear hn;go_enter func129,ntmps129;go_wp2;go_ret;exact⟨by rw[HD.o];rfl,Below.refl _ _⟩
theorem QeP(v u:Value)(xs ys:List (List TIns))(w:World)(h:Qz w (λ_=>True) v xs)(h':Qz w (λ_=>True) u ys):
  Calls prog 100 #[v,u] w λe w'=>e=.returned (.bool (decide (xs=ys)))/\Below w.heap.size w w':=by
 have H:=Zh h;have H':=Zh h';obtain⟨a,c,rfl,_⟩:=Sl.form h;obtain⟨a',c',rfl,_⟩:=Sl.form h';clear h h';go_enter func100,ntmps100;go_wp2_with fail
 refine(Qg6 _ _ xs ys w H.o H'.o).mono ?_;rintro e w1⟨rfl,hb1⟩;go_wp2;go_ret;exact⟨rfl,hb1⟩
end
section
open Go.RowKit
theorem UO(v:Value)(p:TPol)(D:Nat->Prop)(w:World)(h:Qc w D v p.ru):Calls prog 74 #[U8 v p.df] w λe w'=>e=.returned (.int .i64 (UZ p))/\Below w.heap.size w w':=by
 obtain⟨rs,d⟩:=p;dsimp only at h⊢;obtain⟨a,c,rfl,hlc,hcm,hat⟩:=Sl.form h;have H:=Zh h;clear h;by_cases h1:120<rs.length
 .have he:UZ ⟨rs,d⟩=2:=by unfold UZ;rw[if_pos h1]
  have hz:120<(rs.length:Int):=by omega
  rw[he];clear he h1 hat H;go_enter func74,ntmps74;go_wp2;go_ret;exact⟨rfl,Qa Zbr _⟩
 have hz:¬120<(rs.length:Int):=by omega
 by_cases h2:d<0\/4<d
 .have he:UZ ⟨rs,d⟩=3:=by unfold UZ;rw[if_neg h1,if_pos h2]
  rw[he];clear he hat H h1;rcases h2 with h2|h2
  .go_enter func74,ntmps74;go_wp2;go_ret;exact⟨rfl,Qa Zbr _⟩
  have h0:¬d<0:=by omega
  go_enter func74,ntmps74;go_wp2;go_ret;exact⟨rfl,Qa Zbr _⟩
 have g0:¬d<0:=by omega
 have g1:¬4<d:=by omega
 have He:=Zh (show UZ ⟨rs,d⟩=V7 rs by unfold UZ;rw[if_neg h1,if_neg h2]);clear h1 h2;go_enter func74,ntmps74;go_wp2_with fail
 go_loopw[23](λi wr=>∃k:Nat,k<=rs.length/\i=.int .i64 k/\V7 rs=V7 (rs.drop k)/\Below w.heap.size w wr) (λi _=>rs.length-(intOf i).toNat)
 case atStart=>exact⟨0,by omega,rfl,rfl,Qa Zbr _⟩
 case round=>
  obtain⟨k,hk,rfl,hgo,hbw⟩:=hrel;have Hgo:=Zh hgo;have hsz:=hbw.size;clear hgo;by_cases hlt:k<rs.length
  .obtain⟨b,o,rfl,hDb,hb⟩:=hat (by omega);obtain⟨a',c',k0,k1,hr,hlc',hcm',hat'⟩:=Qc.cells (Qc.below H.o hbw) hlt;have Hr:=Zh hr
   have bad:∀e:Int,ZJ rs[k]=e->e≠0->∀wz,Below w.heap.size w wz->Ending.returned (.int .i64 e)=.returned (.int .i64 (UZ ⟨rs,d⟩))/\Below w.heap.size w wz:=λe he h0 wz hz=>by
    refine⟨Q3 ?_,hz⟩;rw[He.o,Hgo.o,YX rs k hlt,he,if_neg h0]
   have good:ZJ rs[k]=0->V7 rs=V7 (rs.drop (k+1)):=λhe=>by rw[Hgo.o,YX rs k hlt,if_pos he]
   have Hbad:=Zh bad;have Hgood:=Zh good;clear bad good hr;generalize hX:rs[k]=X at *;clear hX;obtain⟨cs,vd⟩:=X;dsimp only at k0 k1 hlc' hat';have Hr':Hid (QF wr D (.slice a' cs.length c') cs):=Hr;clear Hr;by_cases h3:10<cs.length
   .have Hb:=Zh (Hbad.o 2 (by unfold ZJ;rw[if_pos h3]) (by decide));have hz3:10<(cs.length:Int):=by omega
    clear Hbad Hgood hat' h3;go_wp2;go_ret;exact Hb.o _ (Qa hbw _)
   have hz3:¬10<(cs.length:Int):=by omega
   by_cases h4:vd<0\/4<vd
   .have Hb:=Zh (Hbad.o 3 (by unfold ZJ;rw[if_neg h3,if_pos h4]) (by decide));clear Hbad Hgood hat' h3;rcases h4 with h4|h4
    .go_wp2;go_ret;exact Hb.o _ (Qa hbw _)
    have h40:¬vd<0:=by omega
    go_wp2;go_ret;exact Hb.o _ (Qa hbw _)
   have g3:¬vd<0:=by omega
   have g4:¬4<vd:=by omega
   have Hre:=Zh (show ZJ ⟨cs,vd⟩=Xt cs by unfold ZJ;rw[if_neg h3,if_neg h4]);clear h3 h4;go_wp2_with fail
   go_loopw[42](λi wi=>∃j:Nat,j<=cs.length/\i=.int .i64 j/\Xt cs=Xt (cs.drop j)/\Below w.heap.size w wi/\Below wr.heap.size wr wi) (λi _=>cs.length-(intOf i).toNat)
   case atStart=>exact⟨0,by omega,rfl,rfl,Qa hbw _,Qa Zbr _⟩
   case round=>
    obtain⟨j,hj,rfl,hgo,hbi,hbi'⟩:=hrel;have Hgi:=Zh hgo;have hszi:=hbi.size;clear hgo;by_cases hlj:j<cs.length
    .obtain⟨b',o',rfl,hDb',hb'⟩:=hat' (by omega);obtain⟨c0,c1,c2⟩:=QF.cells (QF.below Hr'.o hbi') hlj;have Hd:=Zh (ZZ cs j hlj);go_wp2_with(go_at_call 117;refine(Qg9 cs[j] _).mono ?_;rintro e w1 ⟨rfl,hb1⟩)
     .rename_i ht;have ht':=bne_iff_ne.1 ht;go_ret;exact Hbad.o _ (by rw[Hre.o,Hgi.o,Hd.o,if_neg ht']) ht' _ (UI hbi hb1)
     rename_i ht;have ht':=bne_eq_false_iff_eq.1 ht
     go_roundw
     case rel=>exact⟨j+1,by omega,by go_num,by rw[Hgi.o,Hd.o,if_pos ht'],UI hbi hb1,UI hbi' hb1⟩
     case measure=>simp[intOf];omega
    obtain rfl:j=cs.length:=by omega
    have Hg:=Zh (Hgood.o (by rw[Hre.o,Hgi.o,List.drop_length];rfl));go_wp2
    go_roundw
    case rel=>exact⟨k+1,by omega,by go_num,Hg.o,hbi⟩
    case measure=>simp[intOf];omega
  obtain rfl:k=rs.length:=by omega
  go_wp2;go_ret;exact⟨Q3 (by rw[He.o,Hgo.o,List.drop_length];rfl),hbw⟩
end
section
open Go.RowKit
@[reducible] def Xl(x:TCall):Array Value:=#[.int .i64 x.a0,.int .i64 x.a1,.int .i64 x.a2,.int .i64 x.a3,.int .i64 x.a4]
@[reducible] def Qh9(c:TCond):Value:=.agg #[.int .i64 c.f,.int .i64 c.op,.int .i64 c.v]
theorem Qf6(c:TCond)(x:TCall)(w:World)(hf0:0<=c.f)(hf1:c.f<5)(ho0:1<=c.op)(ho1:c.op<=4):Calls prog 232 #[Qh9 c,Yk x] w λe w'=>e=.returned (.bool (holdsB c x))/\Below w.heap.size w w':=by
 obtain⟨f,op,v⟩:=c;dsimp only at hf0 hf1 ho0 ho1;obtain⟨m,rfl⟩:=Int.eq_ofNat_of_zero_le hf0;have hm:m<5:=by omega
 have hc:∀o,((w.alloc o).alloc (.cells (Xl x) 46)).cell? ⟨w.heap.size+1,m,none⟩=some (.int .i64 (x.get m)):=λo=>by
  rw[World.cell?_alloc_at _ _ _ _ (by simp)];exact cell5 x m hm
 have Hx:Hid (holdsB ⟨m,op,v⟩ x=if op=1 then x.get m==v else if op=2 then x.get m != v else if op=3 then decide (x.get m<v)else decide (v<=x.get m)):=rfl;have hop:op=1\/op=2\/op=3\/op=4:=by omega
 rcases hop with rfl|rfl|rfl|rfl
 .rw[Hx.o];simp only[if_true];clear Hx ho0 ho1;go_enter func232,ntmps232;go_wp2;go_ret;exact⟨rfl,Qa (Qa Zbr _) _⟩
 .rw[Hx.o];simp only[if_true,show ¬((2:Int)=1) by decide,if_false];clear Hx ho0 ho1;go_enter func232,ntmps232;go_wp2;go_ret;exact⟨rfl,Qa (Qa Zbr _) _⟩
 .rw[Hx.o];simp only[if_true,show ¬((3:Int)=1) by decide,show ¬((3:Int)=2) by decide,if_false];clear Hx ho0 ho1;go_enter func232,ntmps232;go_wp2;go_ret;exact⟨rfl,Qa (Qa Zbr _) _⟩
 rw[Hx.o];simp only[show ¬((4:Int)=1) by decide,show ¬((4:Int)=2) by decide,show ¬((4:Int)=3) by decide,if_false];clear Hx ho0 ho1;go_enter func232,ntmps232;go_wp2;go_ret;exact⟨rfl,Qa (Qa Zbr _) _⟩
theorem QfC(c:TCond)(x:TCall)(bx:Nat)(w:World)(hok:YL c)(hx:∀j,w.cell? ⟨bx,j,none⟩=(Xl x)[j]?)(hbx:bx<w.heap.size):
  Calls prog 231 #[Qh9 c,.pointer (some ⟨bx,0,none⟩)] w λe w'=>e=.returned (.bool (!holdsB c x))/\Below w.heap.size w w':=by
 have hx':∀o j,(w.alloc o).cell? ⟨bx,j,none⟩=(Xl x)[j]?:=λo j=>(World.cell?_alloc_lt w o ⟨bx,j,none⟩ hbx).trans (hx j);have Hok:=Zh hok;clear hok hx;go_enter func231,ntmps231;go_wp2_with fail
 refine(Qf6 c x _ Hok.o.f0 Hok.o.f1 Hok.o.o0 Hok.o.o1).mono ?_;rintro e w1⟨rfl,hb1⟩;go_wp2;go_ret;exact⟨rfl,UI Zbr hb1⟩
theorem QbT{x:TCall}{l:List TCond}{k:Nat}(hk:k<l.length)(h:QN x (l.take k)=true)(hh:holdsB l[k] x=true):QN x (l.take (k+1))=true:=by
 rw[List.take_succ_eq_append_getElem hk];unfold QN at *;rw[List.all_append,h];simp[hh]
theorem Qda{x:TCall}{l:List TCond}{k:Nat}(hk:k<l.length)(hh:holdsB l[k] x=false):QN x l=false:=by
 unfold QN;rw[List.all_eq_false];exact⟨l[k],List.getElem_mem hk,by simp[hh]⟩
theorem Qbo(v:Value)(l:List TCond)(x:TCall)(bx:Nat)(D:Nat->Prop)(w:World)(h:QF w D v l)(hok:∀c∈l,YL c)(hx:∀j,w.cell? ⟨bx,j,none⟩=(Xl x)[j]?)(hbx:bx<w.heap.size):
  Calls prog 246 #[v,.func (.func 231) #[] #[.pointer (some ⟨bx,0,none⟩)]] w λe w'=>
   ∃n:Int,e=.returned (.int .i64 n)/\decide (0<=n)=(!QN x l)/\Below w.heap.size w w':=by
 obtain⟨a,c,rfl,hlc,hcm,hat⟩:=Sl.form h;have H:=Zh h;have Hok:=Zh hok;have Hx:=Zh hx;clear h hok hx;go_enter func246,ntmps246;go_wp2_with fail
 go_loopw[8](λi wr=>∃k:Nat,k<=l.length/\i=.int .i64 k/\QN x (l.take k)=true/\Below w.heap.size w wr) (λi _=>l.length-(intOf i).toNat)
 case atStart=>exact⟨0,by omega,rfl,rfl,Below.refl _ _⟩
 case round=>
  obtain⟨k,hk,rfl,hall,hbw⟩:=hrel;have Hall:=Zh hall;have hsz:=hbw.size;clear hall;by_cases hlt:k<l.length
  .obtain⟨b,o,rfl,hDb,hb⟩:=hat (by omega);obtain⟨c0,c1,c2⟩:=QF.cells (QF.below H.o hbw) hlt;go_wp2_with fail
   refine(QfC l[k] x bx _ (Hok.o _ (List.getElem_mem hlt)) (λj=>(hbw.cell (p:=⟨bx,j,none⟩) hbx).trans (Hx.o j)) (by omega)).mono ?_;rintro e w1⟨rfl,hb1⟩
   cases hh:holdsB l[k] x with
   |true=>
    have Hn:=Zh (QbT hlt Hall.o hh);clear hh;go_wp2
    go_roundw
    case rel=>exact⟨k+1,by omega,by go_num,Hn.o,Ql hbw hb1⟩
    case measure=>simp[intOf];omega
   |false=>
    have Hn:=Zh (Qda hlt hh);clear hh;go_wp2;go_ret;exact⟨_,rfl,by rw[Hn.o];simp,Ql hbw hb1⟩
  obtain rfl:k=l.length:=by omega
  have Hn:Hid (QN x l=true):=by have:=Hall.o;rwa [List.take_length]at this
  go_wp2;go_ret;exact⟨_,rfl,by rw[Hn.o];simp,hbw⟩
theorem IB(v:Value)(l:List TCond)(x:TCall)(bx:Nat)(D:Nat->Prop)(w:World)(h:QF w D v l)(hok:∀c∈l,YL c)(hx:∀j,w.cell? ⟨bx,j,none⟩=(Xl x)[j]?)(hbx:bx<w.heap.size):
  Calls prog 230 #[v,.func (.func 231) #[] #[.pointer (some ⟨bx,0,none⟩)]] w λe w'=>e=.returned (.bool (!QN x l))/\Below w.heap.size w w':=by
 have H:=Zh h;have Hok:=Zh hok;have Hx:=Zh hx;clear h hok hx;go_enter func230,ntmps230;go_wp2_with fail
 refine(Qbo v l x bx D _ H.o Hok.o Hx.o hbx).mono ?_;rintro e w1⟨n,rfl,hn,hb1⟩;have Hn:=Zh hn;clear hn;go_wp2;go_ret;exact⟨VM (by rw[<-Hn.o]),hb1⟩
end
end Go.Proofs.YthkgjohhbdipcaaGreatDoor
