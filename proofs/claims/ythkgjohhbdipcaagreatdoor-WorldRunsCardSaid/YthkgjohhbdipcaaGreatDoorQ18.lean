/- Texts laid one behind the other: ByteRows, DPut, DSync. No condition beyond theirs. -/
import Derived.Test.YthkgjohhbdipcaaGreatDoorQ17
import Derived.Test.YthkgjohhbdipcaaGreatDoorQ13
import Derived.Test.YthkgjohhbdipcaaGreatDoorQ7
import Derived.Test.YthkgjohhbdipcaaGreatDoorQ14
import Derived.Lib.AppendStr
import Derived.Test.YthkgjohhbdipcaaGreatDoorQ10
set_option linter.all false
set_option maxHeartbeats 64000000
set_option maxRecDepth 100000
namespace Go.Proofs.YthkgjohhbdipcaaGreatDoor
open Tryz
section
open Go.RowKit
abbrev OwnB(W:World)(B:Nat)(v:Value)(l:List UInt8):Prop:=Qg W B 5 1 XH v l
theorem OwnB.read{W:World}{B:Nat}{v:Value}{l:List UInt8}(h:OwnB W B v l):Qu W (λb=>B<=b) v l:=Qg.sl h (λ_ hb=>hb)
theorem OwnB.lt{W:World}{B:Nat}{v:Value}{l:List UInt8}(h:OwnB W B v l):∀g,v.ownBlock=some g->g<W.heap.size:=λg hg=>by
 obtain⟨o,h1,_⟩:=Qg.typed h g hg;exact(Array.getElem?_eq_some_iff.1 h1).1
theorem OwnB.base{W:World}{B B':Nat}{v:Value}{l:List UInt8}(h:OwnB W B v l)(hB:B'<=B):OwnB W B' v l:=by
 obtain⟨rows,hr,h1,h2⟩:=h;refine⟨rows,hr,h1,?_⟩;rcases h2 with h2|⟨g,cap,cur,hv,hg,r⟩
 .exact .inl h2
 exact .inr ⟨g,cap,cur,hv,Nat.le_trans hB hg,r⟩
def Apart(v v':Value):Prop:=∀g,v.ownBlock=some g->v'.ownBlock=some g->False
structure JH(W:World)(B:Nat)(ps:List (Value×List UInt8)):Prop where
 own:∀p∈ps,OwnB W B p.1 p.2
 apart:ps.Pairwise (λp q=>Apart p.1 q.1)
section
variable{W W':World}{B:Nat}{ps:List (Value×List UInt8)}{v v':Value}{l l':List UInt8}
theorem JH.nil:JH W B []:=⟨λ_ h=>by simp at h,List.Pairwise.nil⟩
theorem JH.cons(h:JH W B ps)(hb:Below W.heap.size W W')(hB:B<=W.heap.size)(ho:OwnB W' W.heap.size v l):JH W' B ((v,l)::ps):=by
 refine⟨λp hp=>?_,List.Pairwise.cons (λq hq g h1 h2=>?_) h.apart⟩
 .rcases List.mem_cons.1 hp with rfl|hp
  .exact ho.base hB
  exact Qg.below (h.own p hp) hb
 have h3:=Qg.block ho g h1;have h4:=(h.own q hq).lt g h2;omega
theorem JH.snoc(h:JH W B ps)(hb:Below W.heap.size W W')(hB:B<=W.heap.size)(ho:OwnB W' W.heap.size v l):JH W' B (ps++[(v,l)]):=by
 refine⟨λp hp=>?_,List.pairwise_append.2 ⟨h.apart,by simp,λq hq p hp g h1 h2=>?_⟩⟩
 .rcases List.mem_append.1 hp with hp|hp
  .exact Qg.below (h.own p hp) hb
  simp at hp;subst hp;exact ho.base hB
 simp at hp;subst hp;have h3:=Qg.block ho g h2;have h4:=(h.own q hq).lt g h1;omega
theorem JH.grow(h:JH W B (ps++[(v,l)]))(hg:W.grownBy W' v.ownBlock)(ho:OwnB W' B v' l')(hat:v'.ownBlock=v.ownBlock\/v'.ownBlock=some W.heap.size):JH W' B (ps++[(v',l')]):=by
 obtain⟨h1,_,h3⟩:=List.pairwise_append.1 h.apart;have hap:∀q∈ps,Apart q.1 v:=λq hq=>h3 q hq (v,l) (by simp);refine⟨λp hp=>?_,List.pairwise_append.2 ⟨h1,by simp,λq hq p hp g e1 e2=>?_⟩⟩
 .rcases List.mem_append.1 hp with hp|hp
  .have ho:=h.own p (List.mem_append_left _ hp);obtain⟨rows,hr,hw⟩:=ho;refine⟨rows,hr,Uh hw λb _ hl hb=>hg.block b hl (λe=>hap p hp b hb e.symm)⟩
  simp at hp;subst hp;exact ho
 simp at hp;subst hp;rcases hat with h9|h9
 .exact hap q hq g e1 (h9.symm.trans e2)
 have e3:some W.heap.size=some g:=h9.symm.trans e2;injection e3 with e3;have:=(h.own q (List.mem_append_left _ hq)).lt g e1;omega
theorem JH.drop1{p:Value×List UInt8}(h:JH W B (p::ps)):JH W B ps:=⟨λq hq=>h.own q (List.mem_cons_of_mem _ hq),(List.pairwise_cons.1 h.apart).2⟩
end
theorem Iz{P:Program}(w:World)(base:Nat)(t u ty e:TypeId)(i:TypeInfo)(ht:P.underlying t=some (.slice e))(hu:P.underlying u=some .string)(hi:P.info? e=some i)(hz:i.zero=some (.int .u8 0))
  (hsize:i.size=1) (hby:i.bytes=1) (v:Value) (n:Nat) (xs:List Value) (hown:w.ownsRow base e 1 v n xs) (s:ByteArray) (h63:n+s.size<=maxLen) (hbytes:n+s.size<=140737488355328) (hbase:base<=w.heap.size):
  ∃v' w',(Builtin.append_ #[t,u] ty #[v,.string s]).run P w=.ok v' w'/\w'.ownsRow base e 1 v' (n+s.size) (xs++Lib.strCells s)/\w.grownBy w' v.ownBlock/\(v'.ownBlock=v.ownBlock\/v'.ownBlock=some w.heap.size):=by
 obtain⟨v',w',hr,h2,h3,h4⟩:=Lib.run_append_own_string (P:=P) w base t u ty e i ht hu hi hz hsize hby v n xs hown s h63 hbytes hbase;refine⟨v',w',hr,h2,h3,?_⟩;have hsmall:n+s.size<=9223372036854775807:=by simp only[maxLen]at h63;omega
 have hxl:xs.length=n:=by simpa using hown.1
 rcases hown.2 with⟨rfl,rfl⟩|⟨g,cap,cur,rfl,hbg,hg,hnc,hcm,hcs,htake⟩
 .by_cases hm:s.size=0
  .left
   rw[h4.2 ⟨rfl,hm⟩]
  right
  have hr2:=run_append_nil_string (P:=P) w t u ty e i (.int .u8 0) ht hu hi hz s (by omega) (by omega) (by rw[hby];omega);rw[hr]at hr2;injection hr2 with h5 _;rw[h5];rfl
 by_cases hroom:n+s.size<=cap
 .left
  have hcs':cur.size=cap:=by simpa using hcs
  have hr2:=Lib.run_append_room_string (P:=P) w t u ty e i ht hu hi hsize g n cap cur hg s hroom (by omega);rw[hr]at hr2;injection hr2 with h5 _;rw[h5];rfl
 right
 have holds:∀j u,xs[j]?=some u->w.cell? ((⟨g,0,none⟩:Addr).add j)=some u:=World.ownsRow.cells hown (g:=g) rfl;have hr2:=Lib.run_append_grow_string (P:=P) w t u ty e i (.int .u8 0) ht hu hi hz ⟨g,0,none⟩ n cap xs (by rw[hsize];simpa using hxl) holds s (by omega) (by omega) (by rw[hby];exact growslice_fits (by omega) (by omega));rw[hr]at hr2;injection hr2 with h5 _;rw[h5];rfl
theorem Qfn(l:List UInt8):Qq 1 XH l (l.map λb=>[Value.int .u8 b.toNat]):=by
 refine⟨by simp,λr hr=>?_,λi x r hx hr=>?_⟩
 .obtain⟨b,_,rfl⟩:=List.mem_map.1 hr;rfl
 rw[List.getElem?_map,hx]at hr;simp at hr;exact hr.symm
theorem Qav:∀(l:List UInt8),(l.map λb=>[Value.int .u8 b.toNat]).flatten=l.map λb=>Value.int .u8 b.toNat
 |[]=>rfl
 |b::l=>by rw[List.map_cons,List.flatten_cons,Qav l];rfl
theorem J5{P:Program}{w:World}{o:Oper}{a:Act}{R:Value->World->Prop}(sl x:Operand)(t u:TypeId)
  (ho:o.op=.call { callee:=.builtin .append,args:=#[sl,x],argTypes:=#[t,u] }) (base:Nat) (e:TypeId) (i:TypeInfo) (ht:P.underlying t=some (.slice e)) (hu:P.underlying u=some .string) (hi:P.info? e=some i) (hz:i.zero=some (.int .u8 0))
  (hsize:i.size=1) (hby:i.bytes=1) (v:Value) (l:List UInt8) (hs:a.eval sl=v) (hown:Qg w base e 1 XH v l) (s:ByteArray) (hx:a.eval x=.string s)
  (hbytes:l.length+s.size<=140737488355328) (hbase:base<=w.heap.size)
  (h:∀v' w',Qg w' base e 1 XH v' (l++s.data.toList)->w.grownBy w' v.ownBlock->(v'.ownBlock=v.ownBlock\/v'.ownBlock=some w.heap.size)->R v' w'):gives P o a w R:=by
 obtain⟨rows,hr0,ho0⟩:=hown;obtain⟨v',w',hr,h2,h3,h4⟩:=Iz (P:=P) w base t u o.type e i ht hu hi hz hsize hby v l.length rows.flatten ho0 s (by unfold maxLen;omega) hbytes hbase;unfold gives execOp;simp only[ho,resolve,invoke,builtin,Sem.run_bind,Sem.run_pure,Result.andThen_ok,List.map_toArray,List.map_cons,List.map_nil,hs,hx,hr];refine h _ _ ⟨rows++(s.data.toList.map λb=>[Value.int .u8 b.toNat]),hr0.app (Qfn _),?_⟩ h3 h4;rw[List.flatten_append,Qav,List.length_append];exact h2
theorem GN{P:Program}{w:World}{o:Oper}{a:Act}{R:Value->World->Prop}(sl x:Operand)(t:TypeId)
  (ho:o.op=.call { callee:=.builtin .append,args:=#[sl,x],argTypes:=#[t,t] }) (base:Nat) (e:TypeId) (i:TypeInfo) (ht:P.underlying t=some (.slice e)) (hi:P.info? e=some i) (hz:i.zero=some (.int .u8 0))
  (hsize:i.size=1) (hby:i.bytes=1) (v:Value) (l:List UInt8) (hs:a.eval sl=v) (hown:Qg w base e 1 XH v l) (u:Value) (m:List UInt8) (D:Nat->Prop) (hx:a.eval x=u) (hu:Qu w D u m) (hm0:0<m.length)
  (hbytes:l.length+m.length<=140737488355328) (hbase:base<=w.heap.size)
  (h:∀v' w',Qg w' base e 1 XH v' (l++m)->w.grownBy w' v.ownBlock->(v'.ownBlock=v.ownBlock\/v'.ownBlock=some w.heap.size)->R v' w'):gives P o a w R:=by
 obtain⟨rows,hr0,ho0⟩:=hown;obtain⟨au,cu,rowsu,hv,hru,hcm,hnone,hcell⟩:=hu.rows
 cases au with
 |none=>exact absurd (hnone rfl).2 (by intro e;rw[e]at hm0;simp at hm0)
 |some ad=>
  refine V5 sl x t ho base e i (.int .u8 0) 1 1 ht hi hz hsize hby rfl (by decide) v l.length rows.flatten hs ho0 ad m.length cu rowsu.flatten (by rw[hx,hv]) (by rw[YP rowsu hru.size,hru.len]) (hcell ad rfl) (λc hc=>?_) hm0 (by unfold maxLen;omega) (by omega) hbase λv' w' h1 h2 h3=>h v' w' ⟨rows++rowsu,hr0.app hru,by rw[List.flatten_append,List.length_append];exact h1⟩ h2 h3;obtain⟨r,hrm,hcr⟩:=List.mem_flatten.1 hc;obtain⟨k,hk⟩:=List.getElem?_of_mem hrm;have hkl:k<m.length:=by rw[<-hru.len];exact(List.getElem?_eq_some_iff.1 hk).1
  have:=hru.rel k _ r (List.getElem?_eq_getElem hkl) hk;unfold XH at this;subst this;simp at hcr;subst hcr;rfl
end
section
open Go.RowKit
attribute [local go_sem] gives QG
theorem JC(y:UInt8)(cs:List Value)(h:XH y cs):∀c∈cs,c.oneCell'=true:=by
 unfold XH at h;subst h;simp[Value.oneCell']
def Ir(S Wt t:List UInt8)(dn:Nat->Bool)(vf:Nat->Value):List (Value×List UInt8):=
 (if dn 8 && !dn 9 then[(vf 8,[10])]else[])++((if dn 2 then[(vf 2,S)]else[])++((if dn 5 && !dn 7 then[(vf 5,Wt)]else[])++((if dn 7 && !dn 9 then[(vf 7,Wt++t)]else[])++(if dn 9 then[(vf 9,(Wt++t)++[10])]else[]))))
structure QiD(w0:World)(β:Nat)(S L:List UInt8)(W:World):Prop where
 gr:w0.grownBy W (some β)
 box:∃v2 v9,W.heap[β]?=some (.cells #[v2,v9] 25)/\Qu W (λb=>w0.heap.size<=b) v2 S/\Qu W (λb=>w0.heap.size<=b) v9 L
structure ZX(w0:World)(β:Nat)(S Wt t:List UInt8)(dn:Nat->Bool)(vf:Nat->Value)(W:World):Prop where
 fr:dn 11=false->Below w0.heap.size w0 W
 o1:dn 5=true->dn 2=true
 o2:dn 7=true->dn 5=true
 o3:dn 9=true->dn 7=true
 rows:dn 11=false->JH W w0.heap.size (Ir S Wt t dn vf)
 fin:dn 11=true->QiD w0 β S ((Wt++t)++[10]) W
section
variable{w0 W W':World}{β:Nat}{S Wt t:List UInt8}{dn:Nat->Bool}{vf:Nat->Value}{v:Value}{i:Nat}
theorem ZX.start:ZX w0 β S Wt t (λ_=>false) (λ_=>undef) w0.drew:=⟨λ_=>Zbr.drew,(λh=>by cases h),(λh=>by cases h),(λh=>by cases h),λ_=>JH.nil,(λh=>by cases h)⟩
theorem ZX.same(h:ZX w0 β S Wt t dn vf W)(h2:2≠i)(h5:5≠i)(h7:7≠i)(h8:8≠i)(h9:9≠i)(h11:11≠i):ZX w0 β S Wt t (Qe dn i) (QS vf i v) W:=by
 have e2:Qe dn i 2=dn 2:=if_neg h2;have e5:Qe dn i 5=dn 5:=if_neg h5;have e7:Qe dn i 7=dn 7:=if_neg h7;have e8:Qe dn i 8=dn 8:=if_neg h8;have e9:Qe dn i 9=dn 9:=if_neg h9;have e11:Qe dn i 11=dn 11:=if_neg h11;have f2:QS vf i v 2=vf 2:=if_neg h2;have f5:QS vf i v 5=vf 5:=if_neg h5;have f7:QS vf i v 7=vf 7:=if_neg h7;have f8:QS vf i v 8=vf 8:=if_neg h8;have f9:QS vf i v 9=vf 9:=if_neg h9;refine⟨?_,?_,?_,?_,?_,?_⟩<;>simp only[Ir,e2,e5,e7,e8,e9,e11,f2,f5,f7,f8,f9]
 .exact h.fr
 .exact h.o1
 .exact h.o2
 .exact h.o3
 .exact h.rows
 exact h.fin
theorem ZX.clone2(h:ZX w0 β S Wt t dn vf W)(n2:dn 2=false)(n5:dn 5=false)(n7:dn 7=false)(n9:dn 9=false)(n11:dn 11=false)(hb:Below W.heap.size W W')(ho:OwnB W' W.heap.size v S):ZX w0 β S Wt t (Qe dn 2) (QS vf 2 v) W':=by
 have hr:=(h.rows n11).snoc hb (h.fr n11).size ho;refine⟨λ_=>Ql (h.fr n11) hb,λe=>by simp[Qe,n5]at e,λe=>by simp[Qe,n7]at e,λe=>by simp[Qe,n9]at e,λ_=>?_,λe=>by simp[Qe,n11]at e⟩;have e:Ir S Wt t (Qe dn 2) (QS vf 2 v)=Ir S Wt t dn vf++[(v,S)]:=by simp[Ir,Qe,QS,n2,n5,n7,n9]
 rw[e];exact hr
theorem ZX.clone5(h:ZX w0 β S Wt t dn vf W)(n5:dn 5=false)(d2:dn 2=true)(n7:dn 7=false)(n9:dn 9=false)(n11:dn 11=false)(hb:Below W.heap.size W W')(ho:OwnB W' W.heap.size v Wt):ZX w0 β S Wt t (Qe dn 5) (QS vf 5 v) W':=by
 have hr:=(h.rows n11).snoc hb (h.fr n11).size ho;refine⟨λ_=>Ql (h.fr n11) hb,λ_=>by simp[Qe,d2],λe=>by simp[Qe,n7]at e,λe=>by simp[Qe,n9]at e,λ_=>?_,λe=>by simp[Qe,n11]at e⟩;have e:Ir S Wt t (Qe dn 5) (QS vf 5 v)=Ir S Wt t dn vf++[(v,Wt)]:=by simp[Ir,Qe,QS,d2,n5,n7,n9]
 rw[e];exact hr
theorem ZX.own5(h:ZX w0 β S Wt t dn vf W)(d5:dn 5=true)(n7:dn 7=false)(n11:dn 11=false):OwnB W w0.heap.size (vf 5) Wt:=(h.rows n11).own (vf 5,Wt) (by simp[Ir,d5,n7])
theorem ZX.own7(h:ZX w0 β S Wt t dn vf W)(d7:dn 7=true)(n9:dn 9=false)(n11:dn 11=false):OwnB W w0.heap.size (vf 7) (Wt++t):=(h.rows n11).own (vf 7,Wt++t) (by simp[Ir,d7,n9])
theorem ZX.own8(h:ZX w0 β S Wt t dn vf W)(d8:dn 8=true)(n9:dn 9=false)(n11:dn 11=false):OwnB W w0.heap.size (vf 8) [10]:=(h.rows n11).own (vf 8,[10]) (by simp[Ir,d8,n9])
theorem ZX.own2(h:ZX w0 β S Wt t dn vf W)(d9:dn 9=true)(n11:dn 11=false):OwnB W w0.heap.size (vf 2) S:=(h.rows n11).own (vf 2,S) (by simp[Ir,h.o1 (h.o2 (h.o3 d9))])
theorem ZX.own9(h:ZX w0 β S Wt t dn vf W)(d9:dn 9=true)(n11:dn 11=false):OwnB W w0.heap.size (vf 9) ((Wt++t)++[10]):=(h.rows n11).own (vf 9,(Wt++t)++[10]) (by simp[Ir,d9])
theorem ZX.app7(h:ZX w0 β S Wt t dn vf W)(d2:dn 2=true)(d5:dn 5=true)(n7:dn 7=false)(n9:dn 9=false)(n11:dn 11=false)(ho:OwnB W' w0.heap.size v (Wt++t))(hg:W.grownBy W' (vf 5).ownBlock)(hat:v.ownBlock=(vf 5).ownBlock\/v.ownBlock=some W.heap.size):ZX w0 β S Wt t (Qe dn 7) (QS vf 7 v) W':=by
 have h5:=h.own5 d5 n7 n11;have e0:Ir S Wt t dn vf=((if dn 8 then[(vf 8,[10])]else[])++[(vf 2,S)])++[(vf 5,Wt)]:=by cases h8:dn 8<;>simp[Ir,d2,d5,n7,n9,h8]
 have hr:=h.rows n11;rw[e0]at hr;have hr':=hr.grow hg ho hat;refine⟨λ_=>Qg.grown h5 (h.fr n11) hg (h.fr n11).size Znl,λ_=>by simp[Qe,d2],λ_=>by simp[Qe,d5],λe=>by simp[Qe,n9]at e,λ_=>?_,λe=>by simp[Qe,n11]at e⟩;have e:Ir S Wt t (Qe dn 7) (QS vf 7 v)=((if dn 8 then[(vf 8,[10])]else[])++[(vf 2,S)])++[(v,Wt++t)]:=by cases h8:dn 8<;>simp[Ir,Qe,QS,d2,d5,n9,h8]
 rw[e];exact hr'
theorem ZX.new8(h:ZX w0 β S Wt t dn vf W)(n8:dn 8=false)(n9:dn 9=false)(n11:dn 11=false):ZX w0 β S Wt t (Qe dn 8) (QS vf 8 (.slice (some ⟨W.heap.size,0,none⟩) 1 1)) (W.alloc (.cells #[.int .u8 10] 5)):=by
 have hb:Below W.heap.size W (W.alloc (.cells #[.int .u8 10] 5)):=Qa Zbr _
 have ho:OwnB (W.alloc (.cells #[.int .u8 10] 5)) W.heap.size (.slice (some ⟨W.heap.size,0,none⟩) 1 1) [10]:=
  ⟨[[.int .u8 10]],Qq.cons Qq.nil rfl rfl,by simp,.inr ⟨W.heap.size,1,#[.int .u8 10],rfl,Nat.le_refl _,Qh _ _,Nat.le_refl _,by decide,rfl,rfl⟩⟩
 have hr:=(h.rows n11).cons hb (h.fr n11).size ho;refine⟨λ_=>Ql (h.fr n11) hb,?_,?_,?_,λ_=>?_,λe=>by simp[Qe,n11]at e⟩
 .exact λe=>by simpa[Qe]using h.o1 (by simpa[Qe]using e)
 .exact λe=>by simpa[Qe]using h.o2 (by simpa[Qe]using e)
 .exact λe=>by simp[Qe,n9]at e
 have e:Ir S Wt t (Qe dn 8) (QS vf 8 (.slice (some ⟨W.heap.size,0,none⟩) 1 1))=(.slice (some ⟨W.heap.size,0,none⟩) 1 1,[10])::Ir S Wt t dn vf:=by simp[Ir,Qe,QS,n8,n9]
 rw[e];exact hr
theorem ZX.app9(h:ZX w0 β S Wt t dn vf W)(d2:dn 2=true)(d5:dn 5=true)(d7:dn 7=true)(d8:dn 8=true)(n9:dn 9=false)(n11:dn 11=false)(ho:OwnB W' w0.heap.size v ((Wt++t)++[10]))(hg:W.grownBy W' (vf 7).ownBlock)(hat:v.ownBlock=(vf 7).ownBlock\/v.ownBlock=some W.heap.size):ZX w0 β S Wt t (Qe dn 9) (QS vf 9 v) W':=by
 have h7:=h.own7 d7 n9 n11;have e0:Ir S Wt t dn vf=[(vf 8,[10]),(vf 2,S)]++[(vf 7,Wt++t)]:=by simp[Ir,d2,d5,d7,d8,n9]
 have hr:=h.rows n11;rw[e0]at hr;have hr':=hr.grow hg ho hat;refine⟨λ_=>Qg.grown h7 (h.fr n11) hg (h.fr n11).size Znl,λ_=>by simp[Qe,d2],λ_=>by simp[Qe,d5],λ_=>by simp[Qe,d7],λ_=>?_,λe=>by simp[Qe,n11]at e⟩;have e:Ir S Wt t (Qe dn 9) (QS vf 9 v)=[(vf 2,S),(v,(Wt++t)++[10])]:=by simp[Ir,Qe,QS,d2,d5,d7,d8]
 rw[e];exact hr'.drop1
theorem ZX.fin11(h:ZX w0 β S Wt t dn vf W)(d9:dn 9=true)(n11:dn 11=false){c0 c1:Value}(hβ:w0.heap[β]?=some (.cells #[c0,c1] 25)):ZX w0 β S Wt t (Qe dn 11) (QS vf 11 v) ((W.setCell ⟨β,0,none⟩ (vf 2)).setCell ⟨β,1,none⟩ (vf 9)):=by
 have d7:=h.o3 d9;have d5:=h.o2 d7;have d2:=h.o1 d5;have hr:=h.rows n11;have h2:=hr.own (vf 2,S) (by simp[Ir,d2]);have h9:=hr.own (vf 9,(Wt++t)++[10]) (by simp[Ir,d9]);have hb:=h.fr n11;have hβl:=(Array.getElem?_eq_some_iff.1 hβ).1;have hg:W.grownBy ((W.setCell ⟨β,0,none⟩ (vf 2)).setCell ⟨β,1,none⟩ (vf 9)) (some β):=UW (UX _ _ _ _) (UX _ _ _ _);have kp:∀{u:Value} {l:List UInt8},OwnB W w0.heap.size u l->Qu ((W.setCell ⟨β,0,none⟩ (vf 2)).setCell ⟨β,1,none⟩ (vf 9)) (λb=>w0.heap.size<=b) u l:=λho=>Qu.keep (OwnB.read ho) (λ_ hx _=>hx) (λx hx hl=>hg.block x hl (λe=>by injection e with e;have h1:w0.heap.size<=x:=hx;omega)) hg.size;refine⟨λe=>by simp[Qe]at e,λ_=>by simp[Qe,d2],λ_=>by simp[Qe,d5],λ_=>by simp[Qe,d7],λe=>by simp[Qe]at e,λ_=>⟨?_,_,_,QJ (QJ (Qd hβ hb)),kp h2,kp h9⟩⟩;exact⟨hg.os.trans hb.os,hg.tape.trans hb.tape,hg.output.trans hb.output,Nat.le_trans hb.size hg.size,λk hk hn=>(hg.block k (Nat.lt_of_lt_of_le hk hb.size) hn).trans (hb.block k hk)⟩
end
theorem Qhe(u v ur:Value)(d:TDisk)(r:TRec)(D:Nat->Prop)(D':Nat->Prop)(w:World)(h:QB w D u v d)(hr:Qc w D' ur r.p.ru)(hL:Laid w):
  Calls prog 33 #[VH u v,Yg r ur] w λe w'=>∃u' v',e=.returned (.tuple #[VH u' v',.int .i64 (Gi d r).2])/\QB w' (λb=>w.heap.size<=b) u' v' (Gi d r).1/\Below w.heap.size w w':=by
 have HL:=Zh hL;have Hd:=Zh (QB.lt h);have Hr:=Zh hr;obtain⟨a1,c1,rfl,hc1⟩:=Sl.form h.1;obtain⟨a2,c2,rfl,hc2⟩:=Sl.form h.2;obtain⟨a3,c3,rfl,hc3⟩:=Sl.form hr;clear h hL hr hc1 hc2 hc3;go_enter func33,ntmps33;go_wp2_with fail
 have HB:=Zh (Bx.three (w:=w) (o:=.cells #[.slice a1 d.sa.length c1,.slice a2 d.wt.length c2] 25) (o':=.cells #[.int .i64 r.kind,.int .i64 r.cell,.int .i64 r.fm,.slice a3 r.p.ru.length c3,.int .i64 r.p.df] 56) (o2:=.cells #[.slice none 0 0,.slice none 0 0] 25));refine(Zf _ _ d _ _ (QB.below Hd.o HB.o.bel) (HL.o.below HB.o.bel)).mono ?_;rintro e w1⟨rfl,hb1⟩;have HB1:=Zh (HB.o.below hb1);clear hb1 HB;by_cases h0:UA d=0
 .have H0:=Zh h0;have Hsum:Hid (d.sa.length+d.wt.length<=60000):=(Zx h0).1;rw[h0];clear h0;have hq1:=HB1.o.cells1;go_wp2_with fail
  clear hq1;refine(Qe7 _ r _ _ (Qc.below Hr.o HB1.o.bel) (HL.o.below HB1.o.bel)).mono ?_;rintro e w2⟨rfl,hb2⟩;have HB2:=Zh (HB1.o.below hb2);clear hb2 HB1;by_cases h1:UJ r=0
  .have HN:Hid (Yl r=(Zc r,0)):=if_pos h1;have H1:=Zh h1;obtain⟨t,ht⟩:∃t,Zc r=t:=⟨_,rfl⟩;have Ht:=Zh ht;have Htl:Hid (t.length<=34100):=by show _<=_;rw[<-ht];exact Qeo h1
   have hts:(bsL t).size=t.length:=by simp[bsL,ByteArray.size]
   rw[HN.o];dsimp only;rw[ht];clear h1 ht;have htl:=Htl.o;have hsum:=Hsum.o;have w1':IntKind.i64.wrap ((t.length:Int)+1)=(t.length:Int)+1:=IntWalk.i64_in _ (by omega);have w2':IntKind.i64.wrap (60000-(d.sa.length:Int))=60000-(d.sa.length:Int):=IntWalk.i64_in _ (by omega);have w3':IntKind.i64.wrap (60000-(d.sa.length:Int)-(d.wt.length:Int))=60000-(d.sa.length:Int)-(d.wt.length:Int):=IntWalk.i64_in _ (by omega);have hb1:(d.sa.length:Int)<=60000:=by omega
   have hb2:(d.wt.length:Int)<=60000:=by omega
   have hb3:(t.length:Int)<=60000:=by omega
   have hq0:=HB2.o.cells0;by_cases h2:60000<d.sa.length+d.wt.length+t.length+1
   .have HE:Hid (Gi d r=(zeroDisk,2)):=by show _=_;unfold Gi;rw[if_neg (by rw[H0.o];simp),if_neg (by rw[H1.o];simp),Ht.o,if_pos h2]
    have h2':60000-(d.sa.length:Int)-(d.wt.length:Int)<(t.length:Int)+1:=by omega
    have hq2:=HB2.o.cells2;have hf2:=HB2.o.free2;have HS:=Zh ((HB2.o.set (i:=2) rfl 0 (.slice none 0 0)).set (i:=2) rfl 1 (.slice none 0 0));have hqs:=HS.o.cells2;have HBL:=Zh HS.o.bel;clear HS h2 hsum htl;go_wp2;refine bodyPost_ret (v:=.tuple #[VH (.slice none 0 0) (.slice none 0 0),.int .i64 2]) ?_ rfl (by rw[HE.o];exact⟨_,_,rfl,U7 _ _,HBL.o⟩);rw[results_cell_tmp rfl];go_simp
   have HE:Hid (Gi d r=(⟨d.sa,d.wt++U3 r⟩,0)):=by show _=_;unfold Gi;rw[if_neg (by rw[H0.o];simp),if_neg (by rw[H1.o];simp),Ht.o,if_neg h2]
   have h2':¬60000-(d.sa.length:Int)-(d.wt.length:Int)<(t.length:Int)+1:=by omega
   clear h2 hsum htl;go_wp2_with fail
   clear hq0 w1' w2' w3' hts hb1 hb2 hb3;have Hlens:Hid (d.sa.length+d.wt.length+t.length<=100000):=by show _<=_;have:=Hsum.o;have:=Htl.o;omega
   clear h2';obtain⟨w0,hw0⟩:∃w0:World,w0=w2:=⟨_,rfl⟩;subst hw0;have HR2:Hid (∀W,Below w0.heap.size w0 W->Qu W (λb=>b<w.heap.size) (.slice a1 d.sa.length c1) d.sa):=λW hW=>Qu.below (Qu.below Hd.o.1 HB2.o.bel) hW;have HR5:Hid (∀W,Below w0.heap.size w0 W->Qu W (λb=>b<w.heap.size) (.slice a2 d.wt.length c2) d.wt):=λW hW=>Qu.below (Qu.below Hd.o.2 HB2.o.bel) hW;have HBr:Hid (∀W,Below w0.heap.size w0 W->∀i,W.cell? ⟨w.heap.size,i,none⟩=(#[.slice a1 d.sa.length c1,.slice a2 d.wt.length c2]:Array Value)[i]?):=λW hW=>(HB2.o.below hW).cells0;have HBt:Hid (w0.heap[w.heap.size+1+1]?=some (.cells #[.slice none 0 0,.slice none 0 0] 25)):=HB2.o.at_ 2 _ rfl;have HBt0:Hid (∀W,Below w0.heap.size w0 W->∀i,W.cell? ⟨w.heap.size+1+1,i,none⟩=(#[.slice none 0 0,.slice none 0 0]:Array Value)[i]?):=λW hW=>(HB2.o.below hW).cells2;have HBt1:Hid (∀W,Below w0.heap.size w0 W->∀i,W.frozen? ⟨w.heap.size+1+1,i,none⟩=false):=λW hW=>(HB2.o.below hW).free2;have HBw:Hid (Below w.heap.size w w0):=HB2.o.bel;have Hsz:Hid (w.heap.size+3<=w0.heap.size):=HB2.o.top;obtain⟨i0,hi,hz0,hz1,hz2⟩:=info_parts infoByte;have Hi:=Zh hi;clear hi HB2;refine RV.Yu (ZX w0 (w.heap.size+1+1) d.sa d.wt t) (λ_ _ _ _=>True) (λ_ _ _ _=>True) (by kernel_rfl) (by kernel_rfl) _ rfl (λ_ _ _ _ _ _ _ _ _ _ _ _=>trivial) (λ_ _ _ _ _ _ _ _=>trivial) ZX.start ?_
   iterate 2 (refine RV.QU (λK hK=>?_);apply Exists.intro;refine⟨λdn vf W hI hd0 hd hn hf R hR=>?_,?_,?_⟩;(first|(clear hd0 hd hn hf;go_simp;exact hR _ _ (hI.same (by decide) (by decide) (by decide) (by decide) (by decide) (by decide)) trivial rfl trivial);exact(λ_ _ _=>rfl)|(have n11:dn 11=false:=hn 11 (by decide);have hqb:=(HBr.o W (hI.fr n11));clear hd0 hd hn hf;go_simp;exact hR _ _ (hI.same (by decide) (by decide) (by decide) (by decide) (by decide) (by decide)) trivial rfl trivial);exact(λ_ _ _=>rfl));(go_simp;refine hK _ ?_;clear hK K))
   (refine RV.VO λK hK=>⟨λdn vf W hI hd0 hd hn hf R hR=>?_,?_⟩;(have n5:dn 5=false:=hn 5 (by decide);have n7:dn 7=false:=hn 7 (by decide);have n9:dn 9=false:=hn 9 (by decide);have n11:dn 11=false:=hn 11 (by decide);have HRW:=Zh (HR2.o W (hI.fr n11));clear hd hn hf;go_simp;go_at_call 80;refine(Xa XH JC _ d.sa _ W HRW.o (by have:=Hlens.o;omega)).mono ?_;rintro e w9 ⟨v9,rfl,ho9,hb9⟩;exact⟨_,rfl,hR _ _ (hI.clone2 hd0 n5 n7 n9 n11 hb9 ho9) trivial trivial trivial⟩);(go_simp;refine hK _ ?_;clear hK K))
   iterate 2 (refine RV.QU (λK hK=>?_);apply Exists.intro;refine⟨λdn vf W hI hd0 hd hn hf R hR=>?_,?_,?_⟩;(first|(clear hd0 hd hn hf;go_simp;exact hR _ _ (hI.same (by decide) (by decide) (by decide) (by decide) (by decide) (by decide)) trivial rfl trivial);exact(λ_ _ _=>rfl)|(have n11:dn 11=false:=hn 11 (by decide);have hqb:=(HBr.o W (hI.fr n11));clear hd0 hd hn hf;go_simp;exact hR _ _ (hI.same (by decide) (by decide) (by decide) (by decide) (by decide) (by decide)) trivial rfl trivial);exact(λ_ _ _=>rfl));(go_simp;refine hK _ ?_;clear hK K))
   (refine RV.VO λK hK=>⟨λdn vf W hI hd0 hd hn hf R hR=>?_,?_⟩;(have d2:dn 2=true:=hd 2 (by decide);have n7:dn 7=false:=hn 7 (by decide);have n9:dn 9=false:=hn 9 (by decide);have n11:dn 11=false:=hn 11 (by decide);have HRW:=Zh (HR5.o W (hI.fr n11));clear hd hn hf;go_simp;go_at_call 80;refine(Xa XH JC _ d.wt _ W HRW.o (by have:=Hlens.o;omega)).mono ?_;rintro e w9 ⟨v9,rfl,ho9,hb9⟩;exact⟨_,rfl,hR _ _ (hI.clone5 hd0 d2 n7 n9 n11 hb9 ho9) trivial trivial trivial⟩);(go_simp;refine hK _ ?_;clear hK K))
   (refine RV.QU (λK hK=>?_);apply Exists.intro;refine⟨λdn vf W hI hd0 hd hn hf R hR=>?_,?_,?_⟩;(clear hd0 hd hn hf;go_simp;exact hR _ _ (hI.same (by decide) (by decide) (by decide) (by decide) (by decide) (by decide)) trivial rfl trivial);exact(λ_ _ _=>rfl);(go_simp;refine hK _ ?_;clear hK K))
   (refine RV.VO λK hK=>⟨λdn vf W hI hd0 hd hn hf R hR=>?_,?_⟩;(have d5:dn 5=true:=hd 5 (by decide);have n9:dn 9=false:=hn 9 (by decide);have n11:dn 11=false:=hn 11 (by decide);have d2:=hI.o1 d5;have hO:=hI.own5 d5 hd0 n11;have hsz:=(hI.fr n11).size;refine YT rfl ?_;refine J5 (.tmp 42) (.tmp 43) 23 9 rfl w0.heap.size 5 i0 underlying23 underlying9 Hi.o hz0 hz1 hz2 (vf 5) d.wt (by rfl) hO (bsL t) (by rfl) (by have:=Hlens.o;show _+t.toArray.size<=_;simp;omega) hsz (λv' w' h1 h2 h3=>hR _ _ (hI.app7 d2 d5 hd0 n9 n11 h1 h2 h3) trivial trivial trivial));(go_simp;refine hK _ ?_;clear hK K))
   (refine RV.VO λK hK=>⟨λdn vf W hI hd0 hd hn hf R hR=>?_,?_⟩;(have n9:dn 9=false:=hn 9 (by decide);have n11:dn 11=false:=hn 11 (by decide);clear hd hn hf;go_simp;exact hR _ _ (hI.new8 hd0 n9 n11) trivial trivial trivial);(go_simp;refine hK _ ?_;clear hK K))
   (refine RV.VO λK hK=>⟨λdn vf W hI hd0 hd hn hf R hR=>?_,?_⟩;(have d7:dn 7=true:=hd 7 (by decide);have d8:dn 8=true:=hd 8 (by decide);have n11:dn 11=false:=hn 11 (by decide);have d5:=hI.o2 d7;have d2:=hI.o1 d5;have hO:=hI.own7 d7 hd0 n11;have hN:=hI.own8 d8 hd0 n11;have hsz:=(hI.fr n11).size;refine YT rfl ?_;refine GN (.tmp 44) (.tmp 45) 23 rfl w0.heap.size 5 i0 underlying23 Hi.o hz0 hz1 hz2 (vf 7) (d.wt++t) (by rfl) hO (vf 8) [10] _ (by rfl) (OwnB.read hN) (by decide) (by have:=Hlens.o;simp;omega) hsz (λv' w' h1 h2 h3=>hR _ _ (hI.app9 d2 d5 d7 d8 hd0 n11 h1 h2 h3) trivial trivial trivial));(go_simp;refine hK _ ?_;clear hK K))
   (refine RV.QU (λK hK=>?_);refine⟨λvf=>Value.agg #[vf 2,vf 9],?_⟩;refine⟨λdn vf W hI hd0 hd hn hf R hR=>?_,?_,?_⟩;(have d9:dn 9=true:=hd 9 (by decide);have n11:dn 11=false:=hn 11 (by decide);obtain⟨x1,y1,h2⟩:=Qg.slice (hI.own2 d9 n11);obtain⟨x2,y2,h9⟩:=Qg.slice (hI.own9 d9 n11);obtain⟨N,hN⟩:∃N,((d.wt++t)++[10]).length=N:=⟨_,rfl⟩;rw[hN]at h9;clear hN;have HI:=Zh hI;clear hI;clear hd0 hd hn hf;go_simp;exact hR _ _ (HI.o.same (by decide) (by decide) (by decide) (by decide) (by decide) (by decide)) trivial (by show _=Value.agg #[vf 2,vf 9];rw[h2,h9]) trivial);exact(λf g h=>by show Value.agg #[f 2,f 9]=Value.agg #[g 2,g 9];rw[h 2 (by decide),h 9 (by decide)]);(go_simp;refine hK _ ?_;clear hK K))
   (refine RV.VO λK hK=>⟨λdn vf W hI hd0 hd hn hf R hR=>?_,?_⟩;(have d9:dn 9=true:=hd 9 (by decide);have hF:=hI.fin11 (v:=undef) d9 hd0 HBt.o;have hqt:=HBt0.o W (hI.fr hd0);have hft:=HBt1.o W (hI.fr hd0);obtain⟨x1,y1,h2⟩:=Qg.slice (hI.own2 d9 hd0);obtain⟨x2,y2,h9⟩:=Qg.slice (hI.own9 d9 hd0);obtain⟨N,hN⟩:∃N,((d.wt++t)++[10]).length=N:=⟨_,rfl⟩;rw[hN]at h9;clear hN;rw[h2,h9]at hF;have HF:=Zh hF;clear hd hn hf hF hI;go_simp;exact hR _ _ HF.o trivial trivial trivial);(go_simp;refine hK _ ?_;clear hK K))
   (refine RV.QU (λK hK=>?_);apply Exists.intro;refine⟨λdn vf W hI hd0 hd hn hf R hR=>?_,?_,?_⟩;(clear hd0 hd hn hf;go_simp;exact hR _ _ (hI.same (by decide) (by decide) (by decide) (by decide) (by decide) (by decide)) trivial rfl trivial);exact(λ_ _ _=>rfl);(go_simp;refine hK _ ?_;clear hK K))
   intro dn vf w5 hdone hI _;have hFin:=hI.fin (hdone 11 (by decide));clear hdone hI;obtain⟨v2,v9,hbx,hr2,hr9⟩:=hFin.box;have Hg:=Zh hFin.gr;have Hr2:=Zh hr2;have Hr9:=Zh hr9;obtain⟨x1,y1,rfl,_⟩:=Sl.form hr2;obtain⟨x2,y2,rfl,_⟩:=Sl.form hr9;have hqb:=Qb hbx;have HBL:Hid (Below w.heap.size w w5):=Below.grown HBw.o Hg.o HBw.o.size (λg e=>by injection e with e;omega)
   have HRD:Hid (QB w5 (λb=>w.heap.size<=b) (.slice x1 d.sa.length y1) (.slice x2 ((d.wt++t)++[10]).length y2) ⟨d.sa,d.wt++U3 r⟩):=⟨Hr2.o.keep (λb hb _=>by have h1:w0.heap.size<=b:=hb;have:=Hsz.o;show _<=_;omega) (λ_ _ _=>rfl) Znl,by
    have e:d.wt++U3 r=(d.wt++t)++[10]:=by unfold U3;rw[Ht.o,List.append_assoc]
    rw[e];exact Hr9.o.keep (λb hb _=>by have h1:w0.heap.size<=b:=hb;have:=Hsz.o;show _<=_;omega) (λ_ _ _=>rfl) Znl⟩
   clear hr2 hr9 hbx hFin;go_wp2;refine bodyPost_ret (v:=.tuple #[VH (.slice x1 d.sa.length y1) (.slice x2 ((d.wt++t)++[10]).length y2),.int .i64 0]) ?_ rfl (by rw[HE.o];exact⟨_,_,rfl,HRD.o,HBL.o⟩);rw[results_cell_tmp rfl];go_simp
  have HN:Hid (Yl r=([],UJ r)):=if_neg h1;have HE:Hid (Gi d r=(zeroDisk,UJ r)):=by show _=_;unfold Gi;rw[if_neg (by rw[H0.o];simp),if_pos h1]
  have hne:(UJ r != 0)=true:=bne_iff_ne.2 h1;rw[HN.o];dsimp only;generalize UJ r=E at *;clear h1 HN;have hq2:=HB2.o.cells2;have hf2:=HB2.o.free2;have HS:=Zh ((HB2.o.set (i:=2) rfl 0 (.slice none 0 0)).set (i:=2) rfl 1 (.slice none 0 0));have hqs:=HS.o.cells2;have HBL:=Zh HS.o.bel;clear HS;go_wp2;refine bodyPost_ret (v:=.tuple #[VH (.slice none 0 0) (.slice none 0 0),.int .i64 E]) ?_ rfl (by rw[HE.o];exact⟨_,_,rfl,U7 _ _,HBL.o⟩);rw[results_cell_tmp rfl];go_simp
 have HE:Hid (Gi d r=(zeroDisk,UA d)):=by show _=_;unfold Gi;rw[if_pos h0]
 have hne:(UA d != 0)=true:=bne_iff_ne.2 h0;generalize UA d=E at *;clear h0;have hq2:=HB1.o.cells2;have hf2:=HB1.o.free2;have HS:=Zh ((HB1.o.set (i:=2) rfl 0 (.slice none 0 0)).set (i:=2) rfl 1 (.slice none 0 0));have hqs:=HS.o.cells2;have HBL:=Zh HS.o.bel;clear HS;go_wp2;refine bodyPost_ret (v:=.tuple #[VH (.slice none 0 0) (.slice none 0 0),.int .i64 E]) ?_ rfl (by rw[HE.o];exact⟨_,_,rfl,U7 _ _,HBL.o⟩);rw[results_cell_tmp rfl];go_simp
end
section
open Go.RowKit
attribute [local go_sem] gives QG
theorem Oo{W:World}{D:Nat->Prop}{u v:Value}{l m:List UInt8}{b:Nat}{T:TypeId}{fr:Nat×Nat}(h1:Qu W D u l)(h2:Qu W D v m)(hb:W.heap[b]?=some (.cells #[u,v] T fr)):Sl W (λ_=>True) 1 (Nl W (λ_=>True)) (.slice (some ⟨b,0,none⟩) 2 2) [l,m]:=
 Ub (sz:=1) (xs:=[l,m]) (rows:=[[u],[v]]) (Qq.cons (Qq.cons Qq.nil ⟨_,rfl,Qu.true h2⟩ rfl) ⟨_,rfl,Qu.true h1⟩ rfl) hb rfl trivial (by simp[maxLen])
theorem Qd1{b B:Nat}{W W':World}{u v:Value}{d:TDisk}(h:QB W (λx=>b+1<=x) u v d)(hg:W.grownBy W' (some b))(hB:B<=b+1):QB W' (λx=>B<=x) u v d:=
 h.keep (λx hx _=>by have h1:b+1<=x:=hx;show B<=x;omega) (λx hx hl=>QC hg hl (by have h1:b+1<=x:=hx;omega)) hg.size
theorem V8.past{n k:Nat}{w0 W:World}{Fin:World->Prop}{dn:Nat->Bool}(h:V8 n w0 Fin dn W)(hd:dn n=true)(hk:n≠k):V8 n w0 Fin (Qe dn k) W:=by
 have h1:=h.after hd;unfold V8 Qe;rw[if_neg hk,hd,if_pos rfl];exact h1
def PBy(B:Nat)(l:List UInt8)(v:Value)(W:World):Prop:=Qu W (λb=>B<=b) v l
def PDk(B:Nat)(l m:List UInt8)(v:Value)(W:World):Prop:=∃x y,v=.agg #[x,y]/\PBy B l x W/\PBy B m y W
theorem UG{B:Nat}{l:List UInt8}:YF B (PBy B l):=λ_ _ _ hk h=>Qu.keep h (λ_ hx _=>hx) (λx hx hl=>hk.2 x hx hl) hk.1
theorem Qaf{B:Nat}{l m:List UInt8}:YF B (PDk B l m):=λ_ _ _ hk ⟨x,y,h1,h2,h3⟩=>⟨x,y,h1,UG _ _ _ hk h2,UG _ _ _ hk h3⟩
def Qi3(w0:World)(β:Nat)(l m:List UInt8)(W:World):Prop:=∃x y,W.heap[β]?=some (.cells #[x,y] 25)/\QB W (λb=>w0.heap.size<=b) x y ⟨l,m⟩/\w0.grownBy W (some β)
theorem XX{B β:Nat}{W:World}{x y:Value}(hβ:β<B):Qn B W ((W.setCell ⟨β,0,none⟩ x).setCell ⟨β,1,none⟩ y):=
 ⟨(UH (W:=W) (b:=β) x y).size,λk hk hl=>QC (UH x y) hl (by omega)⟩
theorem QM{w0 W W':World}{β:Nat}(hb:Below w0.heap.size w0 W)(hg:W.grownBy W' (some β)):w0.grownBy W' (some β):=
 ⟨hg.os.trans hb.os,hg.tape.trans hb.tape,hg.output.trans hb.output,Nat.le_trans hb.size hg.size,λk hk hn=>(hg.block k (Nat.lt_of_lt_of_le hk hb.size) hn).trans (hb.block k hk)⟩
theorem Qio{w0 W:World}{β:Nat}{l m:List UInt8}{x y c0 c1:Value}(hb:Below w0.heap.size w0 W)(_hs:w0.heap.size<=W.heap.size)(hβ:W.heap[β]?=some (.cells #[c0,c1] 25))(hlt:β<w0.heap.size)(hx:PBy w0.heap.size l x W)(hy:PBy w0.heap.size m y W):
  Qi3 w0 β l m ((W.setCell ⟨β,0,none⟩ x).setCell ⟨β,1,none⟩ y):=
 ⟨x,y,ZG x y hβ,⟨UG _ _ _ (XX hlt) hx,UG _ _ _ (XX hlt) hy⟩,QM hb (UH x y)⟩
theorem QfZ(u v:Value)(d:TDisk)(D:Nat->Prop)(w:World)(h:QB w D u v d)(hL:Laid w):
  Calls prog 34 #[VH u v] w λe w'=>∃u' v',e=.returned (.tuple #[VH u' v',.int .i64 (Y7 d).2])/\QB w' (λb=>w.heap.size<=b) u' v' (Y7 d).1/\Below w.heap.size w w':=by
 have HL:=Zh hL;have Hd:=Zh (QB.true h);obtain⟨a1,c1,rfl,hc1⟩:=Sl.form h.1;obtain⟨a2,c2,rfl,hc2⟩:=Sl.form h.2;clear h hL hc1 hc2;go_enter func34,ntmps34;go_wp2_with fail
 have HB:=Zh (Bx.two (w:=w) (o:=.cells #[.slice a1 d.sa.length c1,.slice a2 d.wt.length c2] 25) (o':=.cells #[.slice none 0 0,.slice none 0 0] 25));refine(Zf _ _ d _ _ (QB.below Hd.o HB.o.bel) (HL.o.below HB.o.bel)).mono ?_;rintro e w1⟨rfl,hb1⟩;have HB1:=Zh (HB.o.below hb1);clear hb1 HB;by_cases h0:UA d=0
 .have H0:=Zh h0;have Hsum:Hid (d.sa.length+d.wt.length<=60000):=(Zx h0).1;rw[h0];clear h0;have hq0:=HB1.o.cells0;go_wp2_with fail
  clear hq0;have HA:=Zh (Qa (Below.refl w1.heap.size w1) (.cells #[.slice a1 d.sa.length c1,.slice a2 d.wt.length c2] 23));have HB2:=Zh (HB1.o.below HA.o);have Hd2:=Zh (QB.below Hd.o HB2.o.bel);have HSL:=Zh (Oo Hd2.o.1 Hd2.o.2 (Qh w1 (.cells #[.slice a1 d.sa.length c1,.slice a2 d.wt.length c2] 23)));refine(Xm _ [d.sa,d.wt] _ _ HSL.o (by have:=Hsum.o;simp[Vy];omega)).mono ?_;rintro e w3⟨v3,rfl,ho3,hb3⟩;rw[show [d.sa,d.wt].flatten=d.sa++d.wt by simp]at ho3;obtain⟨J,hJ⟩:∃J,d.sa++d.wt=J:=⟨_,rfl⟩;have HJ:=Zh hJ;rw[hJ]at ho3;have HB3:=Zh (HB2.o.below hb3);have Hsz:Hid (w.heap.size+2<=(w1.alloc (.cells #[.slice a1 d.sa.length c1,.slice a2 d.wt.length c2] 23)).heap.size):=HB2.o.top;obtain⟨a3,c3,rfl⟩:=Qg.slice ho3;have HR3:Hid (Qu w3 (λb=>w.heap.size+2<=b) (.slice a3 J.length c3) J):=(OwnB.read ho3).keep (λb hb _=>by have h1:_<=b:=hb;have:=Hsz.o;show _<=_;omega) (λ_ _ _=>rfl) Znl;clear ho3 hb3 hJ HSL HA HB2 Hd2;have HA3:=Zh (Qa (Below.refl w3.heap.size w3) (.cells #[.slice a3 J.length c3,.slice none 0 0] 25));have HX3:=Zh (Qh w3 (.cells #[.slice a3 J.length c3,.slice none 0 0] 25));have HB4:=Zh (HB3.o.below HA3.o);have HR4:=Zh (Qu.below HR3.o HA3.o);have hqx:=Qb HX3.o;go_wp2_with fail
  clear hqx;refine(Zf _ _ ⟨J,[]⟩ _ _ ⟨HR4.o,Ye _ _⟩ (HL.o.below HB4.o.bel)).mono ?_;rintro e w5⟨rfl,hb5⟩;have HB5:=Zh (HB4.o.below hb5);have HR5:=Zh (Qu.below HR4.o hb5);have hqx:=Qb (Qd HX3.o hb5);clear hb5 HB4 HR4;by_cases h1:UA ⟨J,[]⟩=0
  .have HE:Hid (Y7 d=(⟨J,[]⟩,0)):=by show _=_;unfold Y7;rw[if_neg (by rw[H0.o];simp),HJ.o,if_neg (by rw[h1];simp)]
   rw[h1];clear h1;have hq1:=HB5.o.cells1;have hf1:=HB5.o.free1;have HS:=Zh ((HB5.o.set (i:=1) rfl 0 (.slice a3 J.length c3)).set (i:=1) rfl 1 (.slice none 0 0));have hqs:=HS.o.cells1;have HBL:=Zh HS.o.bel;have HRD:=Zh (Qd1 (b:=w.heap.size+1) (B:=w.heap.size) (d:=⟨J,[]⟩) ⟨HR5.o,Ye _ _⟩ (UH (.slice a3 J.length c3) (.slice none 0 0)) (by omega));clear HS;go_wp2;refine bodyPost_ret (v:=.tuple #[VH (.slice a3 J.length c3) (.slice none 0 0),.int .i64 0]) ?_ rfl (by rw[HE.o];exact⟨_,_,rfl,HRD.o,HBL.o⟩);rw[results_cell_tmp rfl];go_simp
  have HE:Hid (Y7 d=(zeroDisk,UA ⟨J,[]⟩)):=by show _=_;unfold Y7;rw[if_neg (by rw[H0.o];simp),HJ.o,if_pos h1]
  have hne:(UA ⟨J,[]⟩ != 0)=true:=bne_iff_ne.2 h1;generalize UA ⟨J,[]⟩=E at *;clear h1;have hq1:=HB5.o.cells1;have hf1:=HB5.o.free1;have HS:=Zh ((HB5.o.set (i:=1) rfl 0 (.slice none 0 0)).set (i:=1) rfl 1 (.slice none 0 0));have hqs:=HS.o.cells1;have HBL:=Zh HS.o.bel;clear HS;go_wp2;refine bodyPost_ret (v:=.tuple #[VH (.slice none 0 0) (.slice none 0 0),.int .i64 E]) ?_ rfl (by rw[HE.o];exact⟨_,_,rfl,U7 _ _,HBL.o⟩);rw[results_cell_tmp rfl];go_simp
 have HE:Hid (Y7 d=(zeroDisk,UA d)):=by show _=_;unfold Y7;rw[if_pos h0]
 have hne:(UA d != 0)=true:=bne_iff_ne.2 h0;generalize UA d=E at *;clear h0;have hq1:=HB1.o.cells1;have hf1:=HB1.o.free1;have HS:=Zh ((HB1.o.set (i:=1) rfl 0 (.slice none 0 0)).set (i:=1) rfl 1 (.slice none 0 0));have hqs:=HS.o.cells1;have HBL:=Zh HS.o.bel;clear HS;go_wp2;refine bodyPost_ret (v:=.tuple #[VH (.slice none 0 0) (.slice none 0 0),.int .i64 E]) ?_ rfl (by rw[HE.o];exact⟨_,_,rfl,U7 _ _,HBL.o⟩);rw[results_cell_tmp rfl];go_simp
theorem QeS(u v:Value)(d:TDisk)(n:Int)(D:Nat->Prop)(w:World)(h:QB w D u v d)(hL:Laid w):
  Calls prog 35 #[VH u v,.int .i64 n] w λe w'=>∃u' v',e=.returned (.tuple #[VH u' v',.int .i64 (Xn d n).2])/\QB w' (λb=>w.heap.size<=b) u' v' (Xn d n).1/\Below w.heap.size w w':=by
 have HL:=Zh hL;have Hd:=Zh (QB.true h);obtain⟨a1,c1,rfl,hc1⟩:=Sl.form h.1;obtain⟨a2,c2,rfl,hc2,hc3,hc4⟩:=Sl.form h.2;clear h hL hc1 hc4;go_enter func35,ntmps35;go_wp2_with fail
 have HB:=Zh (Bx.two (w:=w) (o:=.cells #[.slice a1 d.sa.length c1,.slice a2 d.wt.length c2] 25) (o':=.cells #[.slice none 0 0,.slice none 0 0] 25));refine(Zf _ _ d _ _ (QB.below Hd.o HB.o.bel) (HL.o.below HB.o.bel)).mono ?_;rintro e w1⟨rfl,hb1⟩;have HB1:=Zh (HB.o.below hb1);clear hb1 HB;by_cases h0:UA d=0
 .have H0:=Zh h0;have Hsum:Hid (d.sa.length+d.wt.length<=60000):=(Zx h0).1;rw[h0];clear h0;by_cases hn0:n<0
  .have HE:Hid (Xn d n=(zeroDisk,3)):=by show _=_;unfold Xn;rw[if_neg (by rw[H0.o];simp),if_pos (.inl hn0)]
   have hq1:=HB1.o.cells1;have hf1:=HB1.o.free1;have HS:=Zh ((HB1.o.set (i:=1) rfl 0 (.slice none 0 0)).set (i:=1) rfl 1 (.slice none 0 0));have hqs:=HS.o.cells1;have HBL:=Zh HS.o.bel;clear HS;go_wp2;refine bodyPost_ret (v:=.tuple #[VH (.slice none 0 0) (.slice none 0 0),.int .i64 3]) ?_ rfl (by rw[HE.o];exact⟨_,_,rfl,U7 _ _,HBL.o⟩);rw[results_cell_tmp rfl];go_simp
  by_cases hn1:(d.wt.length:Int)<n
  .have HE:Hid (Xn d n=(zeroDisk,3)):=by show _=_;unfold Xn;rw[if_neg (by rw[H0.o];simp),if_pos (.inr hn1)]
   have hq0:=HB1.o.cells0;have hq1:=HB1.o.cells1;have hf1:=HB1.o.free1;have HS:=Zh ((HB1.o.set (i:=1) rfl 0 (.slice none 0 0)).set (i:=1) rfl 1 (.slice none 0 0));have hqs:=HS.o.cells1;have HBL:=Zh HS.o.bel;clear HS;go_wp2;refine bodyPost_ret (v:=.tuple #[VH (.slice none 0 0) (.slice none 0 0),.int .i64 3]) ?_ rfl (by rw[HE.o];exact⟨_,_,rfl,U7 _ _,HBL.o⟩);rw[results_cell_tmp rfl];go_simp
  have HE:Hid (Xn d n=(⟨d.sa,d.wt.take n.toNat⟩,0)):=by show _=_;unfold Xn;rw[if_neg (by rw[H0.o];simp),if_neg (by omega)]
  obtain⟨k,rfl⟩:∃k:Nat,n=k:=⟨n.toNat,by omega⟩;rw[Int.toNat_natCast]at HE;have Hk:Hid (k<=d.wt.length):=by show _<=_;omega
  have hk0:(0:Int)<=(k:Int):=by omega
  have hkc:(k:Int)<=(c2:Int):=by omega
  have hq0:=HB1.o.cells0;go_wp2_with fail
  clear hq0;obtain⟨w0,rfl⟩:∃w0:World,w0=w1:=⟨_,rfl⟩;have HB2:=Zh HB1.o;have Hd2:=Zh (QB.below Hd.o HB2.o.bel);have Hsz:Hid (w.heap.size+1<w0.heap.size):=HB2.o.top;refine Un 9 w0.heap.size [ex (.pointer (some ⟨w.heap.size,0,none⟩)),ex (.slice a1 d.sa.length c1),pr (PBy w0.heap.size d.sa),ex (.pointer (some ⟨w.heap.size,1,none⟩)),ex (.slice a2 d.wt.length c2),ex (.int .i64 (k:Int)),ex (.slice a2 k c2),pr (PBy w0.heap.size (d.wt.take k)),pr (PDk w0.heap.size d.sa (d.wt.take k)),ex (undef),ex (.int .i64 0)] (Qi3 w0 (w.heap.size+1) d.sa (d.wt.take k)) (by kernel_rfl) (by kernel_rfl) ⟨.inl ⟨_,rfl⟩,.inl ⟨_,rfl⟩,.inr ⟨_,rfl,UG⟩,.inl ⟨_,rfl⟩,.inl ⟨_,rfl⟩,.inl ⟨_,rfl⟩,.inl ⟨_,rfl⟩,.inr ⟨_,rfl,UG⟩,.inr ⟨_,rfl,Qaf⟩,.inl ⟨_,rfl⟩,.inl ⟨_,rfl⟩,trivial⟩ _ rfl ?_
  iterate 2 (refine Qj λK hK=>⟨λdn W hI h0 hd hn hf R hR=>?_,?_⟩;(first|(have hno:dn 9=false:=hn 9 (by decide);have hC:=hI.before hno;clear h0 hd hn hf;go_simp;exact hR _ _ (hI.step hno (by decide) Zbr) (Qn.of_below Zbr) rfl)|(have hno:dn 9=false:=hn 9 (by decide);have hC:=hI.before hno;have hqb:=(HB2.o.below hC.2).cells0;clear h0 hd hn hf;go_simp;exact hR _ _ (hI.step hno (by decide) Zbr) (Qn.of_below Zbr) rfl));(go_simp;refine hK _ ?_;clear hK K))
  (refine QR λK hK=>⟨λdn W hI h0 hd hn hf R hR=>?_,λv2=>?_⟩;(have hno:dn 9=false:=hn 9 (by decide);have hC:=hI.before hno;have hsz0:w0.heap.size<=W.heap.size:=hC.1;have HSZ:=Zh hsz0;clear hsz0;have HRW:=Zh (Qu.below Hd2.o.1 hC.2);clear h0 hd hn hf;go_simp;go_at_call 80;refine(Xa XH JC _ d.sa _ W HRW.o (by have:=Hsum.o;omega)).mono ?_;rintro e w9 ⟨v9,rfl,ho9,hb9⟩;have hro:=OwnB.read ho9;have HRO:=Zh hro;clear hro ho9;exact⟨_,rfl,hR _ _ (hI.step hno (by decide) hb9) (Qn.of_below hb9) (HRO.o.keep (λb hb _=>by have h1:_<=b:=hb;have:=HSZ.o;show _<=_;omega) (λ_ _ _=>rfl) Znl)⟩);(go_simp;refine hK _ _ ?_;clear hK K))
  iterate 4 (refine Qj λK hK=>⟨λdn W hI h0 hd hn hf R hR=>?_,?_⟩;(first|(have hno:dn 9=false:=hn 9 (by decide);have hC:=hI.before hno;clear h0 hd hn hf;go_simp;exact hR _ _ (hI.step hno (by decide) Zbr) (Qn.of_below Zbr) rfl)|(have hno:dn 9=false:=hn 9 (by decide);have hC:=hI.before hno;have hqb:=(HB2.o.below hC.2).cells0;clear h0 hd hn hf;go_simp;exact hR _ _ (hI.step hno (by decide) Zbr) (Qn.of_below Zbr) rfl));(go_simp;refine hK _ ?_;clear hK K))
  (refine QR λK hK=>⟨λdn W hI h0 hd hn hf R hR=>?_,λv7=>?_⟩;(have hno:dn 9=false:=hn 9 (by decide);have hC:=hI.before hno;have hsz0:w0.heap.size<=W.heap.size:=hC.1;have HSZ:=Zh hsz0;clear hsz0;have HRW:=Zh (Sl.take (Qu.below Hd2.o.2 hC.2) Hk.o);clear h0 hd hn hf;go_simp;go_at_call 80;refine(Xa XH JC _ (d.wt.take k) _ W HRW.o (by have:=Hsum.o;have:=Hk.o;rw[List.length_take];omega)).mono ?_;rintro e w9 ⟨v9,rfl,ho9,hb9⟩;have hro:=OwnB.read ho9;have HRO:=Zh hro;clear hro ho9;exact⟨_,rfl,hR _ _ (hI.step hno (by decide) hb9) (Qn.of_below hb9) (HRO.o.keep (λb hb _=>by have h1:_<=b:=hb;have:=HSZ.o;show _<=_;omega) (λ_ _ _=>rfl) Znl)⟩);(go_simp;refine hK _ _ ?_;clear hK K))
  (refine QR λK hK=>⟨λdn W hI h0 hd hn hf R hR=>?_,λv8=>?_⟩;(have hno:dn 9=false:=hn 9 (by decide);have hC:=hI.before hno;have h2:PBy w0.heap.size d.sa v2 W:=hf 2 (by decide);have h7:PBy w0.heap.size (d.wt.take k) v7 W:=hf 7 (by decide);obtain⟨x1,y1,rfl,_⟩:=Sl.form h2;obtain⟨x2,y2,rfl,_⟩:=Sl.form h7;have H2:=Zh h2;have H7:=Zh h7;obtain⟨N,hN⟩:∃N,(d.wt.take k).length=N:=⟨_,rfl⟩;rw[hN]at H7⊢;clear h2 h7 hC hN;clear h0 hd hn hf;go_simp;exact hR _ _ (hI.step hno (by decide) Zbr) (Qn.of_below Zbr) ⟨_,_,rfl,H2.o,H7.o⟩);(go_simp;refine hK _ _ ?_;clear hK K))
  iterate 2 (refine Qj λK hK=>⟨λdn W hI h0 hd hn hf R hR=>?_,?_⟩;(first|(have hyes:dn 9=true:=hd 9 (by decide);clear h0 hd hn hf;go_simp;exact hR _ _ (hI.past hyes (by decide)) (Qn.of_below Zbr) rfl)|(have hno:dn 9=false:=h0;have hC:=hI.before hno;have h8:PDk w0.heap.size d.sa (d.wt.take k) v8 W:=hf 8 (by decide);obtain⟨x,y,rfl,hx,hy⟩:=h8;have HX:=Zh hx;have HY:=Zh hy;obtain⟨x1,y1,rfl,_⟩:=Sl.form hx;obtain⟨x2,y2,rfl,_⟩:=Sl.form hy;obtain⟨N,hN⟩:∃N,(d.wt.take k).length=N:=⟨_,rfl⟩;rw[hN]at HY⊢;have hBW:=HB2.o.below hC.2;have hq1:=hBW.cells1;have hf1:=hBW.free1;have HFn:=Zh (Qio (β:=w.heap.size+1) hC.2 hC.1 (hBW.at_ 1 _ rfl) Hsz.o HX.o HY.o);have HKF:Hid (Qn w0.heap.size W ((W.setCell ⟨w.heap.size+1,0,none⟩ (.slice x1 d.sa.length y1)).setCell ⟨w.heap.size+1,1,none⟩ (.slice x2 N y2))):=XX Hsz.o;clear hx hy hBW hC hN;clear h0 hd hn hf;go_simp;exact hR _ _ (V8.at_ HFn.o) HKF.o rfl));(go_simp;refine hK _ ?_;clear hK K))
  intro dn w5 hdone hI _;have hFin:=hI.after (hdone 9 (by decide));clear hdone hI;obtain⟨x,y,hbx,hrd,hg⟩:=hFin;have Hrd:=Zh hrd;obtain⟨x1,y1,rfl,_⟩:=Sl.form hrd.1;obtain⟨x2,y2,rfl,_⟩:=Sl.form hrd.2;have hqb:=Qb hbx;have HBL:Hid (Below w.heap.size w w5):=Below.grown HB2.o.bel hg HB2.o.bel.size (λg e=>by injection e with e;omega);have HRD:Hid (QB w5 (λb=>w.heap.size<=b) (.slice x1 d.sa.length y1) (.slice x2 (d.wt.take k).length y2) ⟨d.sa,d.wt.take k⟩):=Hrd.o.keep (λb hb _=>by have h1:w0.heap.size<=b:=hb;have:=Hsz.o;show _<=_;omega) (λ_ _ _=>rfl) Znl;clear hrd hbx hg;dsimp only at hqb;go_wp2;refine bodyPost_ret (v:=.tuple #[VH (.slice x1 d.sa.length y1) (.slice x2 (d.wt.take k).length y2),.int .i64 0]) ?_ rfl (by rw[HE.o];exact⟨_,_,rfl,HRD.o,HBL.o⟩);rw[results_cell_tmp rfl];go_simp
 have HE:Hid (Xn d n=(zeroDisk,UA d)):=by show _=_;unfold Xn;rw[if_pos h0]
 have hne:(UA d != 0)=true:=bne_iff_ne.2 h0;generalize UA d=E at *;clear h0;have hq1:=HB1.o.cells1;have hf1:=HB1.o.free1;have HS:=Zh ((HB1.o.set (i:=1) rfl 0 (.slice none 0 0)).set (i:=1) rfl 1 (.slice none 0 0));have hqs:=HS.o.cells1;have HBL:=Zh HS.o.bel;clear HS;go_wp2;refine bodyPost_ret (v:=.tuple #[VH (.slice none 0 0) (.slice none 0 0),.int .i64 E]) ?_ rfl (by rw[HE.o];exact⟨_,_,rfl,U7 _ _,HBL.o⟩);rw[results_cell_tmp rfl];go_simp
end
end Go.Proofs.YthkgjohhbdipcaaGreatDoor
