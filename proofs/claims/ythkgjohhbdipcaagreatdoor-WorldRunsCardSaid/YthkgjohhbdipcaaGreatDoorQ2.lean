/- Texts laid one behind the other: Done, Prune, Spec, Base, Laid. No condition beyond theirs. -/
import Derived.Test.YthkgjohhbdipcaaGreatDoorQ1
import Derived.WalkKit
import Derived.WalkLawsBesides
import Derived.WalkSpells
import Derived.Lib.Hide
import Derived.MapKept
import Derived.Lib.SmallJoins
import Derived.Lib.QuietBelow
import Derived.KernelRfl
set_option linter.all false
set_option maxHeartbeats 64000000
set_option maxRecDepth 100000
namespace Go.Proofs.YthkgjohhbdipcaaGreatDoor
open Tryz
section
open Go.RowKit
def befores:List Oper->List (List Nat)->List (List Nat)
 |[],acc=>acc
 |o::l,acc=>befores l (acc++[o.after.toList.flatMap λe=>e.on::acc.getD e.on []])
def Qe(dn:Nat->Bool)(i:Nat):Nat->Bool:=λk=>if k=i then true else dn k
def QhV(P:Program)(ops:Array Oper)(Inv:(Nat->Bool)->World->Prop)(T:World->World->Prop)(s:Spec)(i:Nat)(bs:List (List Nat))(o:Oper)(a:Act)(fs:List (World->Prop)):Prop:=
 ∀(dn:Nat->Bool)(w:World),Inv dn w->dn i=false->(∀k∈o.after.toList.map (λe=>e.on),dn k=true)->(∀k:Nat,i∈bs.getD k []->dn k=false)->Jt o fs w->∀R:Value->World->Prop,(∀(v:Value)(w':World),Inv (Qe dn i) w'->T w w'->s.holds v w'->R v w') ->
  if Region.wanted o (yielded ops a.tmps)then gives P o a w R else R undef w
def Zy(P:Program)(ops:Array Oper)(Inv:(Nat->Bool)->World->Prop)(T:Nat->World->World->Prop)(bs:List (List Nat))(Q:Act->World->Prop)(n:Nat):
  List Oper->List Spec->Nat->Act->List (World->Prop)->(World->Prop)->Prop
 |[],_,_,a,_,F=>∀(dn:Nat->Bool)(w:World),(∀k,k<n->dn k=true)->Inv dn w->F w->Q a w
 |_::_,[],_,_,_,_=>False
 |o::l,s::ss,i,a,fs,F=>QhV P ops Inv (T i) s i bs o a fs /\
   match s.exact? with
   |some x=>Zy P ops Inv T bs Q n l ss (i+1) (a.put o.dst x) (fs++[λ_:World=>True]) F
   |none=>∀v:Value,Zy P ops Inv T bs Q n l ss (i+1) (a.put o.dst v) (fs++[s.pred v]) (λw:World=>F w/\s.pred v w)
theorem Qd2{P:Program}{ops:Array Oper}{Inv:(Nat->Bool)->World->Prop}{T:Nat->World->World->Prop}{bs:List (List Nat)}{n:Nat}{Q:Act->World->Prop}(vals:Nat->Value):
  ∀(l:List Oper)(ss:List Spec)(i:Nat)(a:Act)(fs:List (World->Prop))(F:World->Prop),QaR vals ss i->Zy P ops Inv T bs Q n l ss i a fs F ->
   (∀j o s,l[j]?=some o->ss[j]?=some s->QhV P ops Inv (T (i+j)) s (i+j) bs o (Ut vals (l.take j) i a) (fs++XK vals (ss.take j) i)) /\
   (∀(dn:Nat->Bool)(w:World),(∀k,k<n->dn k=true)->Inv dn w->F w->Jn vals (ss.take l.length) i w->Q (Ut vals l i a) w)/\l.length<=ss.length:=by
 intro l
 induction l with
 |nil=>intro ss i a fs F _ h;exact⟨λj o s hj _=>by simp at hj,λdn w hd hC hF _=>h dn w hd hC hF,by simp⟩
 |cons o l ih=>
  intro ss i a fs F hv h
  cases ss with
  |nil=>exact h.elim
  |cons s ss=>
   obtain⟨hx,hv'⟩:=hv;obtain⟨hob,hrest⟩:=h
   have key:∃F':World->Prop,Zy P ops Inv T bs Q n l ss (i+1) (a.put o.dst (vals i)) (fs++[s.fact (vals i)]) F'/\∀w,F w->s.fact (vals i) w->F' w:=by
    unfold Spec.fact
    cases he:s.exact? with
    |some x=>
     rw[he]at hrest;rw[hx x he];exact⟨F,hrest,λw h _=>h⟩
    |none=>
     rw[he]at hrest;exact⟨_,hrest (vals i),λw h h'=>⟨h,h'⟩⟩
   obtain⟨F',hk,hF'⟩:=key;obtain⟨h1,h2,h3⟩:=ih ss (i+1) _ _ F' hv' hk;refine⟨λj o' s' hj hs=>?_,λdn w hd hC hF hall=>?_,by simp;omega⟩
   .cases j with
    |zero=>
     simp only[List.getElem?_cons_zero,Option.some.injEq]at hj hs;subst hj hs;simpa[Ut,XK]using hob
    |succ j=>
     have:=h1 j o' s' (by simpa using hj) (by simpa using hs);simpa[Ut,XK,List.append_assoc,Nat.add_comm,Nat.add_left_comm,Nat.add_assoc]using this
   simp only[List.length_cons,List.take_succ_cons,Jn]at hall;exact h2 dn w hd hC (hF' w hF hall.1) hall.2
structure Qc6(l:List Oper)(ss:List Spec)(Inv:(Nat->Bool)->World->Prop)(a:Act)(vf:Nat->Value)(listed:Array Bool)(a':Act)(w':World):Prop where
 cls:Inv (λk=>listed[k]?==some true) w'
 down:∀(j:Nat)(o:Oper),l[j]?=some o->listed[j]?=some true->∀e∈o.after,listed[e.on]?=some true
 lsize:listed.size=l.length
 defers:a'.defers=a.defers
 size:a'.tmps.size=a.tmps.size
 dn:∀(j:Nat)(o:Oper)(s:Spec),l[j]?=some o->ss[j]?=some s->listed[j]?=some true->s.holds (vf j) w'/\∀d,o.dst=some d->a'.tmps[d]?=some (vf j)
 rest:∀t,(∀(j:Nat)(o:Oper),l[j]?=some o->listed[j]?=some true->o.dst≠some t)->a'.tmps[t]?=a.tmps[t]?
theorem Vu:∀(l:List Oper)(acc:List (List Nat))(P:Nat->Nat->Prop),(∀k i,i∈acc.getD k []->P k i)->(∀(j:Nat)(o:Oper)(e:Edge),l[j]?=some o->e∈o.after->P (acc.length+j) e.on) ->
  (∀a b c,P a b->P b c->P a c)->∀k i,i∈(befores l acc).getD k []->P k i
 |[],_,_,h,_,_=>h
 |o::l,acc,P,h,he,ht=>by
  refine Vu l _ P ?_ (λj o' e hj hm=>by
   have:=he (j+1) o' e (by simpa using hj) hm
   rwa [List.length_append,List.length_singleton,Nat.add_assoc,Nat.add_comm 1 j]) ht
  intro k i hi;rw[List.getD_eq_getElem?_getD,List.getElem?_append]at hi;split at hi
  .exact h k i (by rw[List.getD_eq_getElem?_getD];exact hi)
  rename_i hge
  have hk:k=acc.length:=by
   rcases Nat.lt_or_ge acc.length k with hlt|hle
   .have:([o.after.toList.flatMap λe=>e.on::acc.getD e.on []]:List (List Nat))[k-acc.length]?=none:=List.getElem?_eq_none (by simp;omega);rw[this]at hi;simp at hi
   omega
  subst hk;simp only[Nat.sub_self,List.getElem?_cons_zero,Option.getD_some,List.mem_flatMap]at hi;obtain⟨e,hm,hi⟩:=hi;have h1:=he 0 o e rfl (by simpa using hm);rw[Nat.add_zero]at h1;rcases List.mem_cons.1 hi with rfl|hi
  .exact h1
  exact ht _ _ _ h1 (h e.on i hi)
def YD(l:List Oper)(size:Nat):Bool:=
 (l.zipIdx.all λ(o,i)=>
  (match o.op with|.select ..=>false|_=>true) &&
  o.after.toList.all (λe=>decide (e.on<i)&&Region.binds .any e) &&
  (o.looksAt l.toArray).all (λs=>l.zipIdx.all λ(o',j)=>o'.dst != some s || (decide (j<i)&&(o.after.toList.map (·.on)).contains j) || ((befores l []).getD j []).contains i) &&
  (match o.dst with|some d=>decide (d<size)&&l.zipIdx.all (λ(o',j)=>j==i || o'.dst != some d)|none=>true))
theorem EP{l:List Oper}{size:Nat}(h:YD l size=true){i:Nat}{o:Oper}(hi:l[i]?=some o):
  (∀cs b,o.op ≠ .select cs b)/\(∀e∈o.after,e.on<i/\Region.binds .any e=true) /\
  (∀s∈o.looksAt l.toArray,∀(j:Nat)(o':Oper),l[j]?=some o'->o'.dst=some s->(j<i/\∃e∈o.after,e.on=j)\/i∈(befores l []).getD j []) /\
  (∀d,o.dst=some d->d<size/\∀(j:Nat)(o':Oper),l[j]?=some o'->j≠i->o'.dst≠some d):=by
 have hz:∀{j:Nat} {o':Oper},l[j]?=some o'->(o',j)∈l.zipIdx:=λ{j o'} hj=>by
  rw[List.mem_zipIdx_iff_getElem?];exact hj
 have h1:=List.all_eq_true.1 h _ (hz hi);simp only[Bool.and_eq_true]at h1;obtain⟨⟨⟨ha,hb⟩,hc⟩,hd⟩:=h1;refine⟨λcs b e=>?_,λe he=>?_,λs hs j o' hj hds=>?_,λd hd'=>?_⟩
 .rw[e]at ha;simp at ha
 .have:=List.all_eq_true.1 hb e (by simpa using he);simpa using this
 .have h2:=List.all_eq_true.1 (List.all_eq_true.1 hc s hs) _ (hz hj);simp only[hds,bne_self_eq_false,Bool.false_or,Bool.or_eq_true,Bool.and_eq_true,decide_eq_true_eq,List.contains_eq_mem]at h2;rcases h2 with h2|h2
  .refine .inl ⟨h2.1,?_⟩;have:=h2.2;simpa using this
  exact .inr (by simpa using h2)
 simp only[hd',Bool.and_eq_true,decide_eq_true_eq]at hd;refine⟨hd.1,λj o' hj hne e=>?_⟩;have:=List.all_eq_true.1 hd.2 _ (hz hj);simp[hne,e]at this
section
variable{P:Program}{l:List Oper}{Inv:(Nat->Bool)->World->Prop}{T:Nat->World->World->Prop}{Q:Exit->Act->World->Prop}{a:Act}{ss:List Spec}
theorem wpAny_done(hB:YD l a.tmps.size=true)(hst:∀(i k:Nat)(s:Spec),i≠k->ss[k]?=some s->∀v dn w w',Inv dn w->T i w w'->s.fact v w->s.fact v w')
  (h:Zy P l.toArray Inv T (befores l []) (Q .normal) l.length l ss 0 a [] (λ_=>True)):
  ∀(fuel:Nat)(listed:Array Bool)(vf:Nat->Value)(a':Act)(w':World),(undone listed l.length).length<=fuel->Qc6 l ss Inv a vf listed a' w'->wpAny P .any l.toArray Q fuel listed a' w':=by
 have hS:=λ{i:Nat} {o:Oper} (hi:l[i]?=some o)=>EP hB hi
 -- the values as far as they are there
 have hok:∀(listed:Array Bool)(vf:Nat->Value)(a':Act)(w':World),Qc6 l ss Inv a vf listed a' w'->QaR (Ur ss listed vf) ss 0:=by
  intro listed vf a' w' hI;refine ET ss 0 λj s x hj hx=>?_;rw[Nat.zero_add];unfold Ur;split
  .rename_i hl
   have hlt:j<l.length:=by
    have:=(Array.getElem?_eq_some_iff.1 hl).1;rw[hI.lsize]at this;exact this
   have:=(hI.dn j l[j] s (List.getElem?_eq_getElem hlt) hj hl).1;unfold Spec.holds at this;rw[hx]at this;exact this
  rw[hj];simp[hx]
 have hfill:∀(listed:Array Bool)(vf:Nat->Value)(j:Nat),listed[j]?=some true->Ur ss listed vf j=vf j:=λlisted vf j hl=>by unfold Ur;rw[if_pos hl]
 have fin:∀(listed:Array Bool)(vf:Nat->Value)(a':Act)(w':World),(∀j,j<l.length->listed[j]?=some true)->Qc6 l ss Inv a vf listed a' w'->Q .normal a' w':=by
  intro listed vf a' w' hall hI;obtain⟨_,h2,h3⟩:=Qd2 (Ur ss listed vf) l ss 0 a [] _ (hok listed vf a' w' hI) h
  have hq:=h2 _ w' (λk hk=>by simp[hall k hk]) hI.cls trivial (JX _ 0 λj s hj=>by
   rw[Nat.zero_add]
   have hjl:j<l.length:=by
    have:=(List.getElem?_eq_some_iff.1 hj).1;simp at this;omega
   have hj':ss[j]?=some s:=by rw[List.getElem?_take_of_lt hjl]at hj;exact hj
   rw[hfill _ _ _ (hall j hjl)];exact Spec.fact_of_holds (hI.dn j l[j] s (List.getElem?_eq_getElem hjl) hj' (hall j hjl)).1)
  have ea:a'=Ut (Ur ss listed vf) l 0 a:=by
   obtain⟨hz,hd⟩:=ZC (Ur ss listed vf) l 0 a
   have ht:a'.tmps=(Ut (Ur ss listed vf) l 0 a).tmps:=by
    apply Array.ext_getElem?;intro t;by_cases hex:∃(j:Nat)(o:Oper),l[j]?=some o/\o.dst=some t
    .obtain⟨j,o,hj,hdt⟩:=hex;have hjl:=(List.getElem?_eq_some_iff.1 hj).1;obtain⟨hlt,huniq⟩:=(hS hj).2.2.2 t hdt;rw[Xu _ l 0 a j o hj hdt huniq hlt,Nat.zero_add,hfill _ _ _ (hall j hjl)];have hjs:ss[j]?=some ss[j]:=List.getElem?_eq_getElem (by omega);exact(hI.dn j o _ hj hjs (hall j hjl)).2 t hdt
    have hn:∀(j:Nat)(o:Oper),l[j]?=some o->o.dst≠some t:=λj o hj e=>hex ⟨j,o,hj,e⟩;rw[Va _ l 0 a (λo ho=>by obtain⟨j,hj⟩:=List.getElem?_of_mem ho;exact hn j o hj)];exact hI.rest t (λj o hj _=>hn j o hj)
   cases a';cases hx:Ut (Ur ss listed vf) l 0 a
   rw[hx]at ht hd;have:=hI.defers
   simp_all
  rw[ea];exact hq
 have allIf:∀(listed:Array Bool),listed.size=l.length->Region.ready .any l.toArray listed=[]->∀j,j<l.length->listed[j]?=some true:=by
  intro listed hsz hr j
  induction j using Nat.strongRecOn with
  |ind j ih=>
   intro hj;have hsome:listed[j]?=some listed[j]:=Array.getElem?_eq_getElem (by omega)
   cases hb:listed[j]with
   |true=>rw[hsome,hb]
   |false=>
    have:j∈Region.ready .any l.toArray listed:=by
     rw[mem_ready];refine⟨by simp[Array.getD_eq_getD_getElem?,hsome,hb],l[j],by simp[hj],λe he _=>?_⟩;have h1:=((hS (List.getElem?_eq_getElem hj)).2.1 e he).1;have h2:=ih e.on h1 (by omega);simp[Array.getD_eq_getD_getElem?,h2]
    rw[hr]at this;cases this
 intro fuel
 induction fuel with
 |zero=>
  intro listed vf a' w' hf hI
  have hall:∀j,j<l.length->listed[j]?=some true:=by
   intro j hj;have h0:undone listed l.length=[]:=List.eq_nil_of_length_eq_zero (by omega);unfold undone at h0;rw[List.filter_eq_nil_iff]at h0;simpa using h0 j (List.mem_range.2 hj)
  refine⟨?_,fin _ _ _ _ hall hI⟩;rw[List.eq_nil_iff_forall_not_mem];intro j hj;obtain⟨h0,o,ho,_⟩:=mem_ready.1 hj
  have hj':j<l.length:=by
   have:=(Array.getElem?_eq_some_iff.1 ho).1;simpa using this
  simp[Array.getD_eq_getD_getElem?,hall j hj']at h0
 |succ fuel ih=>
  intro listed vf a' w' hf hI;refine⟨λhr=>fin _ _ _ _ (allIf listed hI.lsize hr) hI,λi hi=>?_⟩;obtain⟨h0,o,ho,hdep⟩:=mem_ready.1 hi;have hil:l[i]?=some o:=by simpa using ho
  have hilt:i<l.length:=(List.getElem?_eq_some_iff.1 hil).1;have hnl:listed[i]?≠some true:=λe=>by simp[Array.getD_eq_getD_getElem?,e]at h0
  obtain⟨hsel,hafter,hlooks,hdst⟩:=hS hil
  have hdone:∀e∈o.after,listed[e.on]?=some true:=λe he=>by
   have:=hdep e he (hafter e he).2;rw[Array.getD_eq_getD_getElem?]at this
   cases hx:listed[e.on]? with
   |none=>simp[hx]at this
   |some b=>simp[hx]at this;rw[this]
  obtain⟨h1,_,h3⟩:=Qd2 (Ur ss listed vf) l ss 0 a [] _ (hok listed vf a' w' hI) h;have hsi:ss[i]?=some ss[i]:=List.getElem?_eq_getElem (by omega);have hob:=h1 i o ss[i] hil hsi;rw[Nat.zero_add,List.nil_append]at hob
  -- the lexical act looks alike to this operation
  have hsame:∀t∈o.looksAt l.toArray,(Ut (Ur ss listed vf) (l.take i) 0 a).tmps[t]?=a'.tmps[t]?:=by
   intro t ht;by_cases hex:∃(j:Nat)(o':Oper),l[j]?=some o'/\o'.dst=some t
   .obtain⟨j,o',hj,hdt⟩:=hex;rcases hlooks t ht j o' hj hdt with⟨hji,e,he,hej⟩|hbef
    rotate_left
    .have hij:i<j:=Vu l [] (λk i=>i<k) (λk i h=>by simp at h) (λj o' e hj he=>by
      have:=((hS (show l[j]?=some o' from hj)).2.1 e he).1;simpa using this) (λa b c h1 h2=>Nat.lt_trans h2 h1) j i hbef
     have hnj:listed[j]?≠some true:=λhlj=>hnl (Vu l [] (λk i=>listed[k]?=some true->listed[i]?=some true) (λk i h=>by simp at h) (λj o' e hj he hlj=>by
      simp at hlj;exact hI.down j o' hj hlj e he) (λa b c h1 h2 h3=>h2 (h1 h3)) j i hbef hlj)
     obtain⟨_,huniq⟩:=(hS hj).2.2.2 t hdt
     rw[Va _ (l.take i) 0 a (λo'' ho''=>by
      obtain⟨k,hk⟩:=List.getElem?_of_mem ho'';have hki:k<i:=by have:=(List.getElem?_eq_some_iff.1 hk).1;simp at this;omega
      rw[List.getElem?_take_of_lt hki]at hk;exact huniq k o'' hk (by omega))]
     refine(hI.rest t λk o'' hk hlk=>?_).symm;by_cases hkj:k=j
     .subst hkj;exact absurd hlk hnj
     exact huniq k o'' hk hkj
    have hlj:listed[j]?=some true:=hej▸hdone e he;obtain⟨hlt,huniq⟩:=(hS hj).2.2.2 t hdt;have hjs:ss[j]?=some ss[j]:=List.getElem?_eq_getElem (by omega)
    rw[Xu _ (l.take i) 0 a j o' (by rw[List.getElem?_take_of_lt hji];exact hj) hdt (λj' o'' hj' hne=>huniq j' o'' (by
     have hlt':j'<i:=by
      have:=(List.getElem?_eq_some_iff.1 hj').1;simp at this;omega
     rw[List.getElem?_take_of_lt hlt']at hj';exact hj') hne) hlt,Nat.zero_add,hfill _ _ _ hlj]
    exact((hI.dn j o' _ hj hjs hlj).2 t hdt).symm
   have hn:∀(j:Nat)(o:Oper),l[j]?=some o->o.dst≠some t:=λj o hj e=>hex ⟨j,o,hj,e⟩;rw[Va _ (l.take i) 0 a (λo' ho'=>by obtain⟨j,hj⟩:=List.getElem?_of_mem (List.mem_of_mem_take ho');exact hn j o' hj)];exact(hI.rest t (λj o hj _=>hn j o hj)).symm
  have hexec:execOp (Ut (Ur ss listed vf) (l.take i) 0 a).eval o=execOp a'.eval o:=by
   refine execOp_congr o hsel λx hx=>?_
   cases x with
   |tmp t=>
    have:=hsame t (List.mem_append_left _ (List.mem_filterMap.2 ⟨.tmp t,by simpa using hx,rfl⟩));simp[Act.eval,Array.getD_eq_getD_getElem?,this]
   |_=>rfl
  have hwant:Region.wanted o (yielded l.toArray (Ut (Ur ss listed vf) (l.take i) 0 a).tmps)=Region.wanted o (yielded l.toArray a'.tmps):=by
   unfold Region.wanted
   cases hg:o.guard with
   |none=>rfl
   |some gw=>
    obtain⟨g,want⟩:=gw
    have hy:yielded l.toArray (Ut (Ur ss listed vf) (l.take i) 0 a).tmps g=yielded l.toArray a'.tmps g:=by
     unfold yielded
     cases ht:(l.toArray[g]?).bind (·.dst)with
     |none=>rfl
     |some t=>
      have:=hsame t (by simp only[Oper.looksAt,hg,ht];simp);simp only[Option.bind_some,this]
    simp only[hy]
  have hfacts:Jt o ([]++XK (Ur ss listed vf) (ss.take i) 0) w':=by
   intro k hk;rw[List.nil_append];obtain⟨e,he,rfl⟩:=List.mem_map.1 hk;have he':e∈o.after:=by simpa using he
   have hlt:=(hafter e he').1;have hlk:=hdone e he';have hks:ss[e.on]?=some ss[e.on]:=List.getElem?_eq_getElem (by omega);rw[List.getD_eq_getElem?_getD,Z7 (ss.take i) 0 e.on ss[e.on] (by rw[List.getElem?_take_of_lt hlt];exact hks),Nat.zero_add,hfill _ _ _ hlk];exact Spec.fact_of_holds (hI.dn e.on l[e.on] _ (List.getElem?_eq_getElem (by omega)) hks hlk).1
  rw[List.nil_append]at hfacts
  have hnot:∀k:Nat,i∈(befores l []).getD k []->((λk=>listed[k]?==some true) k)=false:=by
   intro k hk
   have hP:=Vu l [] (λk i=>listed[k]?=some true->listed[i]?=some true) (λk i h=>by simp at h) (λj o' e hj he hlj=>by
    simp at hlj;exact hI.down j o' hj hlj e he) (λa b c h1 h2 h3=>h2 (h1 h3)) k i hk
   cases hx:(listed[k]?==some true)with
   |false=>exact hx
   |true=>exact absurd (hP (by simpa using hx)) hnl
  have hres:=hob _ w' hI.cls (by simpa using hnl) (λk hk=>by
   obtain⟨e,he,rfl⟩:=List.mem_map.1 hk;simp[hdone e (by simpa using he)]) hnot hfacts (λv w''=>Inv (Qe (λk=>listed[k]?==some true) i) w''/\T i w' w''/\ss[i].holds v w'') (λv w'' h0 h1 h2=>⟨h0,h1,h2⟩)
  rw[hwant]at hres
  have next:∀v w'',Inv (Qe (λk=>listed[k]?==some true) i) w''->T i w' w''->ss[i].holds v w''->wpAny P .any l.toArray Q fuel (listed.setIfInBounds i true) (a'.put o.dst v) w'':=by
   intro v w'' hIv hT hv;have hu:=O0 hilt (by rw[hI.lsize];exact Nat.le_refl _) hnl;refine ih _ (λj=>if j=i then v else vf j) _ _ (by omega) ⟨?_,?_,by simp[hI.lsize],?_,?_,?_,?_⟩
   .refine(congrArg (λd=>Inv d w'') ?_).mp hIv;funext k
    unfold Qe;by_cases e:k=i
    .subst e;rw[if_pos rfl,Array.getElem?_setIfInBounds_self_of_lt (by rw[hI.lsize];exact hilt)];simp
    rw[if_neg e,Array.getElem?_setIfInBounds_ne (Ne.symm e)]
   .intro j o' hj hlj e he;by_cases hje:j=i
    .subst hje;rw[hil]at hj;obtain rfl:o=o':=by simpa using hj
     have:=hdone e he;by_cases hei:e.on=j
     .rw[hei,Array.getElem?_setIfInBounds_self_of_lt (by rw[hI.lsize];exact hilt)]
     rw[Array.getElem?_setIfInBounds_ne (Ne.symm hei)];exact this
    rw[Array.getElem?_setIfInBounds_ne (Ne.symm hje)]at hlj;have:=hI.down j o' hj hlj e he;by_cases hei:e.on=i
    .rw[hei,Array.getElem?_setIfInBounds_self_of_lt (by rw[hI.lsize];exact hilt)]
    rw[Array.getElem?_setIfInBounds_ne (Ne.symm hei)];exact this
   .rw[<-hI.defers];cases o.dst<;>rfl
   .rw[<-hI.size];cases o.dst<;>simp[Act.put]
   .intro j o' s hj hjs hlj;by_cases e:j=i
    .subst e;rw[hil]at hj;obtain rfl:o=o':=by simpa using hj
     rw[hsi]at hjs;obtain rfl:ss[j]=s:=by simpa using hjs
     rw[if_pos rfl];refine⟨hv,λd hd=>?_⟩;rw[hd,YV (by rw[hI.size];exact(hdst d hd).1)]
    rw[Array.getElem?_setIfInBounds_ne (Ne.symm e)]at hlj;rw[if_neg e];obtain⟨g1,g2⟩:=hI.dn j o' s hj hjs hlj;refine⟨?_,λd hd=>?_⟩
    .have hf:=hst i j s (Ne.symm e) hjs (vf j) _ w' w'' hI.cls hT (Spec.fact_of_holds g1);unfold Spec.holds at g1⊢;unfold Spec.fact at hf;split<;>simp_all
    rw[VL (λe'=>(hdst d e').2 j o' hj e hd)];exact g2 d hd
   intro t ht;have hti:o.dst≠some t:=ht i o hil (by rw[Array.getElem?_setIfInBounds_self_of_lt (by rw[hI.lsize];exact hilt)]);rw[VL hti];refine hI.rest t λj o' hj hlj=>?_;by_cases e:j=i
   .subst e;exact absurd hlj hnl
   exact ht j o' hj (by rw[Array.getElem?_setIfInBounds_ne (Ne.symm e)];exact hlj)
  unfold wpOp;rw[ho];by_cases hw:Region.wanted o (yielded l.toArray a'.tmps)=true
  .simp only[hw,if_true]at hres⊢;refine .inl (Gs (R:=λv w''=>Inv (Qe (λk=>listed[k]?==some true) i) w''/\T i w' w''/\ss[i].holds v w'') ?_ λv w'' ⟨h0,h1,h2⟩=>next v w'' h0 h1 h2);unfold gives at hres⊢;rw[<-hexec];exact hres
  simp only[hw]at hres⊢;exact next _ _ hres.1 hres.2.1 hres.2.2
end
def Qhd(P:Program)(ops:Array Oper)(Inv:(Nat->Bool)->World->Prop)(bs:List (List Nat))(Q:Act->World->Prop)(n:Nat):List Oper->Nat->Act->Prop
 |[],_,a=>∀(dn:Nat->Bool)(w:World),(∀k,k<n->dn k=true)->Inv dn w->Q a w
 |o::l,i,a=>∃x:Value,(∀(dn:Nat->Bool)(w:World),Inv dn w->dn i=false->(∀k∈o.after.toList.map (λe=>e.on),dn k=true)->(∀k:Nat,i∈bs.getD k []->dn k=false) ->
   ∀R:Value->World->Prop,(∀(v:Value)(w':World),Inv (Qe dn i) w'->v=x->R v w')->if Region.wanted o (yielded ops a.tmps)then gives P o a w R else R undef w) /\
   Qhd P ops Inv bs Q n l (i+1) (a.put o.dst x)
theorem OB{P:Program}{ops:Array Oper}{Inv:(Nat->Bool)->World->Prop}{bs:List (List Nat)}{Q:Act->World->Prop}{n:Nat}:∀(l:List Oper)(i:Nat)(a:Act)(fs:List (World->Prop)),
  Qhd P ops Inv bs Q n l i a->∃xs:List Value,Zy P ops Inv (λ_ _ _=>True) bs Q n l (xs.map ex) i a fs (λ_=>True)
 |[],_,_,_,h=>⟨[],λd w hd hC _=>h d w hd hC⟩
 |o::l,i,a,fs,⟨x,hob,hrest⟩=>by
  obtain⟨xs,hx⟩:=OB l (i+1) _ (fs++[λ_:World=>True]) hrest;exact⟨x::xs,λd w hC h0 h1 h2 _ R hR=>hob d w hC h0 h1 h2 R (λv w' hI hv=>hR v w' hI trivial hv),hx⟩
end
section
open Go.RowKit
def prune(o:Oper):Oper:={ o with after:=o.after.filter (Region.binds .any) }
theorem EY(l:List Oper)(i:Nat):(l.map prune).toArray[i]?=(l.toArray[i]?).map prune:=by simp
theorem QfN(p q:Edge->Bool)(es:Array Edge):((es.filter p).all λe=>!p e || q e)=es.all λe=>!p e || q e:=by
 rw[Bool.eq_iff_iff];simp only[Array.all_eq_true_iff_forall_mem,Array.mem_filter];constructor
 .intro h e he
  cases hp:p e with
  |false=>rfl
  |true=>have:=h e ⟨he,hp⟩;rwa [hp]at this
 intro h e he;exact h e he.1
theorem Na(l:List Oper)(listed:Array Bool):Region.ready .any (l.map prune).toArray listed=Region.ready .any l.toArray listed:=by
 unfold Region.ready;have hs:(l.map prune).toArray.size=l.toArray.size:=by simp
 rw[hs];congr 1
 funext i
 rw[EY,Option.map_map];congr 2
 congr 1
 funext o
 exact QfN _ _ _
theorem XO(l:List Oper)(t:Array Value):yielded (l.map prune).toArray t=yielded l.toArray t:=by
 funext j
 unfold yielded;rw[EY];cases l.toArray[j]?<;>rfl
theorem QfF{P:Program}{l:List Oper}{Q:Exit->Act->World->Prop}{i:Nat}{K:Act->World->Prop}{a:Act}{w:World}(h:wpOp P (l.map prune).toArray Q i K a w):wpOp P l.toArray Q i K a w:=by
 unfold wpOp at h⊢;rw[EY]at h
 cases ho:l.toArray[i]? with
 |none=>rw[ho]at h;exact h
 |some o=>rw[ho,XO]at h;exact h
theorem YI{P:Program}{l:List Oper}{Q:Exit->Act->World->Prop}:∀(fuel:Nat)(listed:Array Bool)(a:Act)(w:World),wpAny P .any (l.map prune).toArray Q fuel listed a w->wpAny P .any l.toArray Q fuel listed a w
 |0,listed,a,w,h=>by unfold wpAny at h⊢;rwa [Na]at h
 |fuel+1,listed,a,w,h=>by
  unfold wpAny at h⊢;rw[Na]at h;exact⟨h.1,λi hi=>wpOp_mono (λa' w' h'=>YI fuel _ a' w' h') (QfF (h.2 i hi))⟩
theorem EQ{P:Program}{ops:List Oper}{C:World->Prop}{T:Nat->World->World->Prop}{Q:Act->World->Prop}:∀(l:List Oper)(i:Nat)(a:Act),Qbt P ops.toArray C T Q l i a->Qbt P (ops.map prune).toArray C T Q (l.map prune) i a
 |[],_,_,h=>h
 |o::l,i,a,⟨x,h1,h2⟩=>by
  refine⟨x,λw hC R hR=>?_,EQ l _ _ h2⟩;have:=h1 w hC R hR;rw[<-XO]at this;exact this
theorem Qy{P:Program}{l:List Oper}{Q:Exit->Act->World->Prop}{a:Act}{id:Nat}{w:World}(B:Nat)(hBw:B<=w.heap.size)(hm:P.follows .mixedOrders=true)(hB:YD (l.map prune) a.tmps.size=true)
  (h:Qbt P l.toArray (Cls B w) TB (Q .normal) l 0 a):(Code.region id l.toArray true).wp P Q a w:=by
 have h':=EQ (ops:=l) l 0 a h;generalize hl:l.map prune=l' at hB h'
 have conv:∀(l'':List Oper)(i:Nat)(a':Act),Qbt P l'.toArray (Cls B w) TB (Q .normal) l'' i a'->Qhd P l'.toArray (λ_=>Cls B w) (befores l' []) (Q .normal) l'.length l'' i a':=by
  intro l''
  induction l'' with
  |nil=>intro i a' h _ W _ hC;exact h W hC
  |cons o l'' ih=>
   intro i a' h;obtain⟨x,h1,h2⟩:=h;exact⟨x,λ_ W hC _ _ _ R hR=>h1 W hC R (λv w' hT hv=>hR v w' (hC.step hT) hv),ih _ _ h2⟩
 obtain⟨xs,hx⟩:=OB l' 0 a [] (conv l' 0 a h');refine wp_region_any hm (YI _ _ _ _ ?_);rw[hl];refine wpAny_done (Inv:=λ_=>Cls B w) (T:=λ_ _ _=>True) (ss:=xs.map ex) hB (λi k s _ hk v dn w1 w2 _ _ _=>?_) hx _ _ (λ_=>undef) _ _ ?_ ⟨⟨hBw,Zbr.drew⟩,?_,by simp[<-hl],rfl,rfl,?_,λ_ _=>rfl⟩
 .obtain⟨x,_,rfl⟩:=List.mem_map.1 (List.mem_of_getElem? hk)
  trivial
 .have:=List.length_filter_le (λi=>(Array.replicate l.toArray.size false)[i]? != some true) (List.range l'.length);simpa[undone,<-hl]using this
 .intro j o hj hl;rw[Array.getElem?_replicate]at hl;split at hl<;>simp at hl
 intro j o s hj _ hl;rw[Array.getElem?_replicate]at hl;split at hl<;>simp at hl
end
structure TCall where
 a0:Int
 a1:Int
 a2:Int
 a3:Int
 a4:Int
deriving DecidableEq
structure TIns where
 k:Int
 a:Int
 b:Int
 c:Int
deriving DecidableEq
structure TCond where
 f:Int
 op:Int
 v:Int
deriving DecidableEq
structure TRule where
 cd:List TCond
 vd:Int
deriving DecidableEq
structure TPol where
 ru:List TRule
 df:Int
deriving DecidableEq
def TCall.get(x:TCall)(k:Int):Int:=if k=0 then x.a0 else if k=1 then x.a1 else if k=2 then x.a2 else if k=3 then x.a3 else x.a4
def QY(k:Int):Int:=if k=0 then 63 else if k=1 then 3 else 65535
def TCall.ok(x:TCall):Prop:=(0<=x.a0/\x.a0<=63)/\(0<=x.a1/\x.a1<=3)/\(0<=x.a2/\x.a2<=65535)/\(0<=x.a3/\x.a3<=65535)/\(0<=x.a4/\x.a4<=65535)
instance(x:TCall):Decidable x.ok:=by unfold TCall.ok;infer_instance
def JZ(x:TCall):Int:=if x.ok then 0 else 3
theorem TCall.ok_get{x:TCall}(h:x.ok){k:Nat}(hk:k<5):0<=x.get k/\x.get k<=QY k:=by
 unfold TCall.ok at h
 match k,hk with
 |0,_=>exact h.1
 |1,_=>exact h.2.1
 |2,_=>exact h.2.2.1
 |3,_=>exact h.2.2.2.1
 |4,_=>exact h.2.2.2.2
theorem TCall.ok_of{x:TCall}(h:∀k:Nat,k<5->0<=x.get k/\x.get k<=QY k):x.ok:=
 ⟨h 0 (by omega),h 1 (by omega),h 2 (by omega),h 3 (by omega),h 4 (by omega)⟩
def OG(x:TIns)(n:Int):Int:=
 if x.k=1\/x.k=4 then
  if x.b≠0\/x.c≠0 then 4
  else if x.a<0\/x.a>4 then 3 else 0
 else if x.k=2\/x.k=3 then
  if x.a<0\/x.a>65535 then 3
  else if x.b<0\/x.b ≥ n\/x.c<0\/x.c ≥ n then 5 else 0
 else 4
def Vk:List TIns->Int
 |[]=>0
 |x::r=>if OG x r.length=0 then Vk r else OG x r.length
def N8:List TIns->Int
 |[]=>0
 |[x]=>x.k
 |_::x::r=>N8 (x::r)
def Vj(l:List TIns):Int:=
 if l.length=0\/1500<l.length then 2 else if Vk l≠0 then Vk l else if N8 l=4 then 0 else 4
theorem J4(l:List TIns)(k:Nat)(h:k<l.length):Vk (l.drop k)=if OG l[k] ((l.length:Int)-1-k)=0 then Vk (l.drop (k+1))else OG l[k] ((l.length:Int)-1-k):=by
 rw[List.drop_eq_getElem_cons h];have e:((l.drop (k+1)).length:Int)=(l.length:Int)-1-k:=by simp;omega
 simp only[Vk,e]
theorem Qbq:∀(l:List TIns)(h:0<l.length),N8 l=(l[l.length-1]).k
 |[],h=>absurd h (by simp)
 |[x],_=>rfl
 |x::y::r,_=>by
  simp only[N8];rw[Qbq (y::r) (by simp)];simp
def VV(x:TIns)(n:Int):Nat:=if(x.k=2/\n=x.a)\/(x.k=3/\n<x.a)then x.b.toNat else x.c.toNat
def ZK(x:TCall):(fuel:Nat)->List TIns->(n:Int)->(dn:Nat)->Int×Nat
 |0,_,_,d=>(0,d)
 |_+1,[],_,d=>(0,d)
 |f+1,i::r,n,d=>
  if i.k=4 then(i.a,d+1)
  else if i.k=1 then ZK x f r (x.get i.a) (d+1)
  else ZK x f (r.drop (VV i n)) n (d+1)
def run(l:List TIns)(x:TCall):Int×Nat:=ZK x l.length l 0 0
structure Right(l:List TIns):Prop where
 ne:l≠[]
 go:Vk l=0
 last:N8 l=4
theorem Qeq{l:List TIns}(h:Vj l=0):Right l/\l.length<=1500:=by
 unfold Vj at h;split at h
 .simp at h
 rename_i h1;split at h
 .rename_i h2;exact absurd h h2
 rename_i h2;split at h
 .rename_i h3;exact⟨⟨λe=>h1 (.inl (by simp[e])),by omega,h3⟩,by omega⟩
 simp at h
theorem Right.tail{x:TIns}{r:List TIns}(h:Right (x::r))(hr:r≠[]):Right r:=by
 obtain⟨_,h1,h2⟩:=h;refine⟨hr,?_,?_⟩
 .unfold Vk at h1;split at h1
  .exact h1
  rename_i h3;exact absurd h1 h3
 cases r with
 |nil=>exact absurd rfl hr
 |cons y r=>exact h2
theorem Right.ins{x:TIns}{r:List TIns}(h:Right (x::r)):OG x r.length=0:=by
 have h1:=h.go;unfold Vk at h1;split at h1
 .rename_i h3;exact h3
 exact h1
theorem Right.drop:∀{l:List TIns},Right l->∀{k:Nat},k<l.length->Right (l.drop k)
 |_,h,0,_=>h
 |[],h,_+1,_=>absurd rfl h.ne
 |x::r,h,k+1,hk=>by
  have hr:r≠[]:=λe=>by subst e;simp at hk
  exact(h.tail hr).drop (by simpa using hk)
theorem QaB{x:TIns}{n:Int}(h:OG x n=0):(x.k=4/\0<=x.a/\x.a<=4/\x.b=0/\x.c=0)\/(x.k=1/\0<=x.a/\x.a<=4/\x.b=0/\x.c=0)\/((x.k=2\/x.k=3)/\0<=x.a/\x.a<=65535/\0<=x.b/\x.b<n/\0<=x.c/\x.c<n):=by
 unfold OG at h;split at h
 .split at h
  .simp at h
  split at h
  .simp at h
  rename_i h1 h2 h3;omega
 split at h
 .split at h
  .simp at h
  split at h
  .simp at h
  rename_i h1 h2 h3;omega
 simp at h
theorem Right.at_{l:List TIns}(h:Right l){k:Nat}(hk:k<l.length):OG l[k] ((l.length:Int)-1-k)=0/\(l[k].k≠4->k+1<l.length):=by
 have h1:=h.drop hk;rw[List.drop_eq_getElem_cons hk]at h1;have e:((l.drop (k+1)).length:Int)=(l.length:Int)-1-k:=by simp;omega
 refine⟨by rw[<-e];exact h1.ins,λh4=>?_⟩;rcases Nat.lt_or_ge (k+1) l.length with hlt|hge
 .exact hlt
 have:l.drop (k+1)=[]:=List.drop_eq_nil_of_le hge;rw[this]at h1;exact absurd h1.last h4
theorem Qa5(x:TCall)(f:Nat)(l:List TIns)(n:Int)(d k:Nat)(hk:k<l.length)(hf:(l.drop k).length<=f)(h4:l[k].k≠4):
  ∃f',(l.drop (k+1)).length<=f'/\ZK x f (l.drop k) n d=if l[k].k=1 then ZK x f' (l.drop (k+1)) (x.get l[k].a) (d+1)else ZK x f' (l.drop (k+1+VV l[k] n)) n (d+1):=by
 rw[List.drop_eq_getElem_cons hk]at hf⊢
 cases f with
 |zero=>simp at hf;omega
 |succ f=>
  refine⟨f,by simp at hf⊢;omega,?_⟩;simp only[ZK,if_neg h4,List.drop_drop]
theorem QgI(x:TCall)(f:Nat)(l:List TIns)(n:Int)(d k:Nat)(hk:k<l.length)(hf:(l.drop k).length<=f)(h4:l[k].k=4):ZK x f (l.drop k) n d=(l[k].a,d+1):=by
 rw[List.drop_eq_getElem_cons hk]at hf⊢
 cases f with
 |zero=>simp at hf;omega
 |succ f=>simp only[ZK,if_pos h4]
def QgH(l:List TIns)(x:TCall):Int×Int×Int:=if Vj l≠0 then(0,0,Vj l)else if x.ok then((run l x).1,(run l x).2,0)else(0,0,3)
section
open Go.RowKit
open Go.MapKept (IsKey)
theorem Q3{k:IntKind}{a b:Int}(h:a=b):Ending.returned (.int k a)=.returned (.int k b):=by rw[h]
theorem VM{a b:Bool}(h:a=b):Ending.returned (.bool a)=.returned (.bool b):=by rw[h]
theorem Qa{w wr:World}(h:Below w.heap.size w wr)(o:Obj):Below w.heap.size w (wr.alloc o):=h.alloc h.size o
theorem Ql{w wr w1:World}(h:Below w.heap.size w wr)(h1:Below wr.heap.size wr w1):Below w.heap.size w w1:=h.trans (h1.mono h.size)
theorem UI{w wr w1:World}{o:Obj}(h:Below w.heap.size w wr)(h1:Below (wr.alloc o).heap.size (wr.alloc o) w1):Below w.heap.size w w1:=
 (Qa h o).trans (h1.mono (by have:=h.size;simp;omega))
theorem UU{w w1:World}{cs:Array Value}{T:TypeId}(hb:Below (w.heap.size+1) (w.alloc (.cells cs T)) w1)(j:Nat):w1.cell? ⟨w.heap.size,j,none⟩=cs[j]?:=by
 rw[hb.cell (p:=⟨w.heap.size,j,none⟩) (by simp)];exact World.cell?_alloc_at _ _ _ _ rfl
theorem UL{w w1:World}{o:Obj}(hb:Below (w.heap.size+1) (w.alloc o) w1):Below w.heap.size w w1:=(Qa Zbr o).trans (hb.mono (by omega))
theorem U5{w w1:World}{o:Obj}(hb:Below (w.heap.size+1) (w.alloc o) w1):w.heap.size+1<=w1.heap.size:=by have:=hb.size;simp at this;omega
theorem VS{w w1:World}{cs cs':Array Value}{T T':TypeId}(hb:Below (w.heap.size+2) ((w.alloc (.cells cs T)).alloc (.cells cs' T')) w1):
  (∀j,w1.cell? ⟨w.heap.size,j,none⟩=cs[j]?)/\(∀j,w1.cell? ⟨w.heap.size+1,j,none⟩=cs'[j]?):=by
 constructor
 .intro j;rw[hb.cell (p:=⟨w.heap.size,j,none⟩) (by simp),World.cell?_alloc_lt _ _ _ (by simp)];exact World.cell?_alloc_at _ _ _ _ rfl
 intro j;rw[hb.cell (p:=⟨w.heap.size+1,j,none⟩) (by simp)];exact World.cell?_alloc_at _ _ _ _ (by simp)
theorem XG{w w1:World}{o o':Obj}(hb:Below (w.heap.size+2) ((w.alloc o).alloc o') w1):Below w.heap.size w w1:=(Qa (Qa Zbr o) o').trans (hb.mono (by omega))
theorem Zr{w w1:World}{o o':Obj}(hb:Below (w.heap.size+2) ((w.alloc o).alloc o') w1):w.heap.size+2<=w1.heap.size:=by have:=hb.size;simp at this;omega
def Sl{α:Type}(w:World)(D:Nat->Prop)(sz:Nat)(R:α->List Value->Prop)(v:Value)(xs:List α):Prop:=
 ∃a c,v=.slice a xs.length c/\xs.length<=c/\c<=maxLen/\(a=none->c=0)/\(0<xs.length->∃b o,a=some ⟨b,o,none⟩/\D b/\b<w.heap.size /\
  ∀i x,xs[i]?=some x->∃cs:List Value,cs.length=sz/\R x cs/\∀j u,cs[j]?=some u->w.cell? ⟨b,o+(i*sz+j),none⟩=some u)
section
variable{α:Type}{w w':World}{D D':Nat->Prop}{sz:Nat}{R R':α->List Value->Prop}{v:Value}{xs:List α}
theorem Sl.mono(h:Sl w D sz R v xs)(hD:∀b,D b->b<w.heap.size->D' b)(hw:∀b,D b->b<w.heap.size->w'.heap[b]?=w.heap[b]?)(hs:w.heap.size<=w'.heap.size)
  (hR:∀x∈xs,∀cs,R x cs->R' x cs):Sl w' D' sz R' v xs:=by
 obtain⟨a,c,hv,hl,hm,hn,h⟩:=h;refine⟨a,c,hv,hl,hm,hn,λh0=>?_⟩;obtain⟨b,o,ha,hDb,hb,hc⟩:=h h0;refine⟨b,o,ha,hD b hDb hb,by omega,λi x hx=>?_⟩;obtain⟨cs,hcs,hr,hcell⟩:=hc i x hx;exact⟨cs,hcs,hR x (List.mem_of_getElem? hx) cs hr,λj u hu=>(World.cell?_of_block (w:=w) (hw b hDb hb)).trans (hcell j u hu)⟩
theorem Sl.form(h:Sl w D sz R v xs):∃a c,v=.slice a xs.length c/\xs.length<=c/\c<=9223372036854775807/\(0<xs.length->∃b o,a=some ⟨b,o,none⟩/\D b/\b<w.heap.size):=by
 obtain⟨a,c,hv,hl,hm,_,h⟩:=h;refine⟨a,c,hv,hl,by unfold maxLen at hm;omega,λh0=>?_⟩;obtain⟨b,o,ha,hDb,hb,hc⟩:=h h0;exact⟨b,o,ha,hDb,hb⟩
theorem Sl.get{b o n c:Nat}{s:Option Nat}(h:Sl w D sz R (.slice (some ⟨b,o,s⟩) n c) xs){i:Nat}(hi:i<xs.length):
  ∃cs:List Value,cs.length=sz/\R xs[i] cs/\∀j u,cs[j]?=some u->w.cell? ⟨b,o+(i*sz+j),none⟩=some u:=by
 obtain⟨a,c',hv,hl,hm,_,h⟩:=h;obtain⟨b',o',ha,hDb,hb,hc⟩:=h (by omega);injection hv with h1 h2 h3;subst h1;injection ha with h4;injection h4 with h5 h6 h7;subst h5 h6;exact hc i _ (List.getElem?_eq_getElem hi)
end
theorem Qh(w:World)(o:Obj):(w.alloc o).heap[w.heap.size]?=some o:=by
 show(w.heap.push o)[w.heap.size]?=_;simp
theorem QhK(w:World)(o o':Obj):({ w.alloc o with heap:=(w.alloc o).heap.setIfInBounds w.heap.size o' }:World)=w.alloc o':=by
 have:(w.alloc o).heap.setIfInBounds w.heap.size o'=(w.alloc o').heap:=by
  show(w.heap.push o).setIfInBounds w.heap.size o'=w.heap.push o';apply Array.ext_getElem?;intro i;rw[Array.getElem?_setIfInBounds];simp only[Array.getElem?_push,Array.size_push];split<;>split<;>simp_all
 simp only[this];rfl
theorem Y6{P:Program}{w:World}{t kt et:TypeId}{kd:TypeDesc}{es:Array MapEntry}{c:Nat}{key v:Value}(ht:P.underlying t=some (.map kt et))(hk:P.underlying kt=some kd)
  (hp:IsKey kd key) (hf:Instr.findNow kd key es.toList 0=some none):
  (Instr.mapUpdate t (.map (some w.heap.size)) key v).run P (w.alloc (.map es c))=.ok () (w.alloc (.map (es.push ⟨key,v,c⟩) (c+1))):=by
 have hb:=Qh w (.map es c);simp[Instr.mapUpdate,run_underlying ht,MapKept.run_getObj_map hb,MapKept.run_checkKey hk hp,MapKept.run_findKey hk hf,MapKept.run_setObj_map _ hb,Result.andThen];exact QhK w _ _
theorem Qx{P:Program}{w:World}{b:Nat}{t kt et:TypeId}{kd:TypeDesc}{es:Array MapEntry}{c:Nat}{key v:Value}(hb:b=w.heap.size)(ht:P.underlying t=some (.map kt et))(hk:P.underlying kt=some kd)
  (hp:IsKey kd key) (hf:Instr.findNow kd key es.toList 0=some none):
  (Instr.mapUpdate t (.map (some b)) key v).run P (w.alloc (.map es c))=.ok () (w.alloc (.map (es.push ⟨key,v,c⟩) (c+1))):=by subst hb;exact Y6 ht hk hp hf
theorem ZL{P:Program}{w:World}{r:Nat}{t kt et:TypeId}{kd:TypeDesc}{es:Array MapEntry}{c:Nat}{key z:Value}{f:Option (Nat×Value)}(ht:P.underlying t=some (.map kt et))(hk:P.underlying kt=some kd)
  (hb:w.heap[r]?=some (.map es c)) (hz:(zeroValue et).run P w=.ok z w) (hp:IsKey kd key) (hf:Instr.findNow kd key es.toList 0=some f):
  (Instr.lookup t (.map (some r)) key true).run P w=.ok (.tuple #[(f.map (·.2)).getD z,.bool f.isSome]) w:=by
 cases f with
 |none=>simp[Instr.lookup,run_underlying ht,MapKept.run_getObj_map hb,MapKept.run_checkKey hk hp,MapKept.run_findKey hk hf,Result.andThen,hz]
 |some x=>simp[Instr.lookup,run_underlying ht,MapKept.run_getObj_map hb,MapKept.run_checkKey hk hp,MapKept.run_findKey hk hf,Result.andThen]
theorem Vm{P:Program}{w:World}{r:Nat}{t kt et:TypeId}{kd:TypeDesc}{es:Array MapEntry}{c:Nat}{key z:Value}{f:Option (Nat×Value)}(ht:P.underlying t=some (.map kt et))(hk:P.underlying kt=some kd)
  (hb:w.heap[r]?=some (.map es c)) (hz:(zeroValue et).run P w=.ok z w) (hp:IsKey kd key) (hf:Instr.findNow kd key es.toList 0=some f):
  (Instr.lookup t (.map (some r)) key false).run P w=.ok ((f.map (·.2)).getD z) w:=by
 cases f with
 |none=>simp[Instr.lookup,run_underlying ht,MapKept.run_getObj_map hb,MapKept.run_checkKey hk hp,MapKept.run_findKey hk hf,Result.andThen,hz]
 |some x=>simp[Instr.lookup,run_underlying ht,MapKept.run_getObj_map hb,MapKept.run_checkKey hk hp,MapKept.run_findKey hk hf,Result.andThen]
def Gt(x:TIns)(cs:List Value):Prop:=cs=[.int .i64 x.k,.int .i64 x.a,.int .i64 x.b,.int .i64 x.c]
def QW(w:World)(D:Nat->Prop)(v:Value)(l:List TIns):Prop:=Sl w D 4 Gt v l
theorem QW.keep{w w':World}{D D':Nat->Prop}{v:Value}{l:List TIns}(h:QW w D v l)(hD:∀b,D b->b<w.heap.size->D' b)
  (hw:∀b,D b->b<w.heap.size->w'.heap[b]?=w.heap[b]?) (hs:w.heap.size<=w'.heap.size):QW w' D' v l:=Sl.mono h hD hw hs (λ_ _ _ h=>h)
theorem QW.below{w w':World}{D:Nat->Prop}{v:Value}{l:List TIns}(h:QW w D v l)(hb:Below w.heap.size w w'):QW w' D v l:=
 h.keep (λ_ h _=>h) (λb _ hlt=>hb.block b hlt) hb.size
theorem QW.cells{w:World}{D:Nat->Prop}{b o n c:Nat}{s:Option Nat}{l:List TIns}(h:QW w D (.slice (some ⟨b,o,s⟩) n c) l){i:Nat}(hi:i<l.length):
  w.cell? ⟨b,o+i*4,none⟩=some (.int .i64 l[i].k)/\w.cell? ⟨b,o+i*4+1,none⟩=some (.int .i64 l[i].a)/\w.cell? ⟨b,o+i*4+2,none⟩=some (.int .i64 l[i].b)/\w.cell? ⟨b,o+i*4+3,none⟩=some (.int .i64 l[i].c):=by
 obtain⟨cs,hcs,hr,hcell⟩:=Sl.get h hi;unfold Gt at hr;subst hr;exact⟨hcell 0 _ rfl,hcell 1 _ rfl,hcell 2 _ rfl,hcell 3 _ rfl⟩
def JI(x:Int)(cs:List Value):Prop:=cs=[.int .i64 x]
def UR(w:World)(D:Nat->Prop)(v:Value)(l:List Int):Prop:=Sl w D 1 JI v l
theorem UR.keep{w w':World}{D D':Nat->Prop}{v:Value}{l:List Int}(h:UR w D v l)(hD:∀b,D b->b<w.heap.size->D' b)
  (hw:∀b,D b->b<w.heap.size->w'.heap[b]?=w.heap[b]?) (hs:w.heap.size<=w'.heap.size):UR w' D' v l:=Sl.mono h hD hw hs (λ_ _ _ h=>h)
theorem UR.below{w w':World}{D:Nat->Prop}{v:Value}{l:List Int}(h:UR w D v l)(hb:Below w.heap.size w w'):UR w' D v l:=
 h.keep (λ_ h _=>h) (λb _ hlt=>hb.block b hlt) hb.size
theorem UR.cell{w:World}{D:Nat->Prop}{b o n c:Nat}{s:Option Nat}{l:List Int}(h:UR w D (.slice (some ⟨b,o,s⟩) n c) l){i:Nat}(hi:i<l.length):
  w.cell? ⟨b,o+i,none⟩=some (.int .i64 l[i]):=by
 obtain⟨cs,hcs,hr,hcell⟩:=Sl.get h hi;unfold JI at hr;subst hr;have:=hcell 0 _ rfl
 rwa [Nat.mul_one]at this
theorem UM{w:World}{o:Obj}{b:Nat}(hb:b=w.heap.size):(w.alloc o).heap[b]?=some o:=by subst hb;exact Qh w o
theorem QQ{w:World}{o x:Obj}{b:Nat}(h:w.heap[b]?=some x):(w.alloc o).heap[b]?=some x:=
 (Below.heap_alloc w o b (Array.getElem?_eq_some_iff.1 h).1).trans h
theorem Qd{w w':World}{x:Obj}{b:Nat}(h:w.heap[b]?=some x)(hb:Below w.heap.size w w'):w'.heap[b]?=some x:=
 (hb.block b (Array.getElem?_eq_some_iff.1 h).1).trans h
theorem Sl.take{α:Type}{w:World}{D:Nat->Prop}{sz:Nat}{R:α->List Value->Prop}{a:Option Addr}{n c k:Nat}{xs:List α}(h:Sl w D sz R (.slice a n c) xs)(hk:k<=n):Sl w D sz R (.slice a k c) (xs.take k):=by
 obtain⟨a',c',hv,hl,hm,hn,h⟩:=h;injection hv with h1 h2 h3;subst h1 h2 h3;have hlk:(xs.take k).length=k:=by rw[List.length_take];omega
 refine⟨a,c,by rw[hlk],by omega,hm,hn,λh0=>?_⟩;obtain⟨b,o,ha,hDb,hb,hc⟩:=h (by omega);refine⟨b,o,ha,hDb,hb,λi x hx=>hc i x ?_⟩;have hi:i<k:=by have:=(List.getElem?_eq_some_iff.1 hx).1;omega
 rwa [List.getElem?_take_of_lt hi]at hx
@[reducible] def Yk(x:TCall):Value:=.agg #[.int .i64 x.a0,.int .i64 x.a1,.int .i64 x.a2,.int .i64 x.a3,.int .i64 x.a4]
end
section
open Go.RowKit Go.Shelf
attribute [local go_sem] gives QG
structure Laid(w:World):Prop where
 ml:∃m:Int,w.cell? ⟨1,0,none⟩=some (.int .i64 m)
 pow:Lib.TabIs prog w "internal/strconv.uint64pow10" .u64 Lib.pow10Tab
 syn:∃te pe,w.cell? ⟨4,0,none⟩=some (.iface te pe)
 rng:∃te pe,w.cell? ⟨5,0,none⟩=some (.iface te pe)
theorem Laid.below{w w':World}(h:Laid w)(hb:Below w.heap.size w w'):Laid w':=by
 obtain⟨⟨m,h1⟩,h2,⟨te,pe,h3⟩,⟨te',pe',h4⟩⟩:=h;have st:∀(p:Addr) v,w.cell? p=some v->w'.cell? p=some v:=λp v hv=>(hb.cell (World.block_lt_of_cell? _ _ hv)).trans hv;exact⟨⟨m,st _ _ h1⟩,Go.Joins.tab_stays (g:=3) (by kernel_rfl) h2 hb Znl,⟨te,pe,st _ _ h3⟩,⟨te',pe',st _ _ h4⟩⟩
theorem Ea{w w':World}{k:Nat}{os:Array Obj}(h:w'=Go.Sort.grow (w.drewN k) os):Below w.heap.size w w':=by
 subst h
 exact⟨rfl,rfl,rfl,by simp[Go.Sort.grow],λi hi=>by
  show((w.drewN k).heap++os)[i]?=_;rw[Array.getElem?_append_left (by show i<w.heap.size;omega)];rfl⟩
theorem Qgs(s:ByteArray)(hlim:s.size<=281474976710656)(h:∀v,Lib.parseIntB 64 s.data.toList ≠ .ok v)(h':Lib.parseIntB 64 s.data.toList ≠ .range)(ev:Value)(w:World)(hv:w.cell? ⟨4,0,none⟩=some ev)(hev:ev=.nilIface\/∃te pe,ev=.iface te pe):
  Calls prog 119 #[.string s,.int .i64 10,.int .i64 64] w λe w'=>∃t p,e=.returned (.tuple #[.int .i64 0,.iface t p])/\Below w.heap.size w w':=by
 cases hp:Lib.parseIntB 64 s.data.toList
 .exact absurd hp (h _)
 .have c:Calls prog 119 #[.string s,.int .i64 10,.int .i64 64] w _:=Any.strconv_ParseInt_10_at64_syntax Tryz.laysC174 s hlim hp ev w hv hev;exact c.mono λe w' ⟨N,h1,_,_,h4⟩=>⟨_,_,h1,h4⟩
 exact absurd hp h'
theorem YG(s:ByteArray)(w:World)(hL:Laid w)(hs:s.size<=281474976710656):
  Calls prog 78 #[.string s] w λe w'=>e=.returned (.tuple #[.int .i64 (Ug s.data.toList).1,.bool (Ug s.data.toList).2])/\Below w.heap.size w w':=by
 have HL:=Zh hL;clear hL;cases hp:Lib.parseIntB 64 s.data.toList
 .rename_i v;have he:Ug s.data.toList=(v,Lib.itoa v==s.data.toList):=by unfold Ug;rw[hp]
  rw[he];have Hp:=Zh hp;obtain⟨h0,h1⟩:=Qbz hp;clear hp he;go_enter func78,ntmps78;go_wp2_with fail
  refine(Tryz.strconv_ParseInt_10_at64_ok s (by omega) v Hp.o _).mono ?_;rintro e w1⟨rfl,hw1⟩
  have hb1:Below w.heap.size w w1:=by
   rcases hw1 with rfl|⟨t,rfl⟩
   .exact Below.refl _ _
   exact Go.Joins.below_bytesWorld _ _ _ _ Znl
  clear hw1;go_wp2_with fail
  refine(Tryz.strconv_FormatInt_10 v h0 h1 w1 (HL.o.below hb1).pow).mono ?_;rintro e w2⟨rfl,k,os,hw2⟩;have hb2:=Ea hw2;clear hw2;go_wp2;go_ret2;exact⟨by rw[<-ByteArray.toList_eq];rfl,Ql hb1 hb2⟩
 .have he:Ug s.data.toList=(0,false):=by unfold Ug;rw[hp]
  rw[he];have h1:Hid (∀v,Lib.parseIntB 64 s.data.toList ≠ .ok v):=λv=>by rw[hp];intro e;cases e
  have h2:Hid (Lib.parseIntB 64 s.data.toList ≠ .range):=by show _≠_;rw[hp];intro e;cases e
  clear hp he;obtain⟨te,pe,hv⟩:=HL.o.syn;have Hv:=Zh hv;clear hv;go_enter func78,ntmps78;go_wp2_with fail
  refine(Qgs s hs h1.o h2.o _ _ Hv.o (.inr ⟨te,pe,rfl⟩)).mono ?_;rintro e w1⟨t1,p1,rfl,hb1⟩;go_wp2;go_ret2;exact⟨rfl,hb1⟩
 have he:Ug s.data.toList=(Lib.intSat 64 s.data.toList,false):=by unfold Ug;rw[hp]
 rw[he];have Hp:=Zh hp;clear hp he;obtain⟨te,pe,hv⟩:=HL.o.rng;have Hv:=Zh hv;clear hv;go_enter func78,ntmps78;go_wp2_with fail
 refine(Tryz.strconv_ParseInt_10_at64_range s hs Hp.o _ _ Hv.o (.inr ⟨te,pe,rfl⟩)).mono ?_;rintro e w1⟨N,rfl,_,_,hb1⟩;go_wp2;go_ret2;exact⟨rfl,hb1⟩
end
end Go.Proofs.YthkgjohhbdipcaaGreatDoor
