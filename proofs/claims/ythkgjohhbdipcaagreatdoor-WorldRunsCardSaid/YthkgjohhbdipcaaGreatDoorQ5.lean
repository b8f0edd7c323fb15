/- Texts laid one behind the other: App, ReadSt, Read. No condition beyond theirs. -/
import Derived.Test.YthkgjohhbdipcaaGreatDoorQ2
import Derived.Deep.AppendLies
import Derived.Test.YthkgjohhbdipcaaGreatDoorQ4
import Derived.Test.YthkgjohhbdipcaaGreatDoorQ3
import Derived.Laws.ResultCell
set_option linter.all false
set_option maxHeartbeats 64000000
set_option maxRecDepth 100000
namespace Go.Proofs.YthkgjohhbdipcaaGreatDoor
open Tryz
section
open Go.RowKit
section
variable{P:Program}{ops:Array Oper}{Inv:(Nat->Bool)->World->Prop}{T:Nat->World->World->Prop}{bs:List (List Nat)}{Q:Act->World->Prop}{n:Nat}{o:Oper}{l:List Oper}{ss:List Spec}{i:Nat}{a:Act}{fs:List (World->Prop)}{F:World->Prop}
def obP(P:Program)(ops:Array Oper)(Inv:(Nat->Bool)->World->Prop)(T:World->World->Prop)(s:Spec)(i:Nat)(bs:List (List Nat))(o:Oper)(a:Act)(fs:List (World->Prop)):Prop:=
 ∀(dn:Nat->Bool)(w:World),Inv dn w->dn i=false->(∀k∈(prune o).after.toList.map (λe=>e.on),dn k=true)->(∀k:Nat,i∈bs.getD k []->dn k=false)->Jt (prune o) fs w->∀R:Value->World->Prop,(∀(v:Value)(w':World),Inv (Qe dn i) w'->T w w'->s.holds v w'->R v w') ->
  if Region.wanted o (yielded ops a.tmps)then gives P o a w R else R undef w
def IE(P:Program)(ops:Array Oper)(Inv:(Nat->Bool)->World->Prop)(T:Nat->World->World->Prop)(bs:List (List Nat))(Q:Act->World->Prop)(n:Nat):
  List Oper->List Spec->Nat->Act->List (World->Prop)->(World->Prop)->Prop
 |[],_,_,a,_,F=>∀(dn:Nat->Bool)(w:World),(∀k,k<n->dn k=true)->Inv dn w->F w->Q a w
 |_::_,[],_,_,_,_=>False
 |o::l,s::ss,i,a,fs,F=>obP P ops Inv (T i) s i bs o a fs /\
   match s.exact? with
   |some x=>IE P ops Inv T bs Q n l ss (i+1) (a.put o.dst x) (fs++[λ_:World=>True]) F
   |none=>∀v:Value,IE P ops Inv T bs Q n l ss (i+1) (a.put o.dst v) (fs++[s.pred v]) (λw:World=>F w/\s.pred v w)
theorem O1{ops':List Oper}:∀(l:List Oper)(ss:List Spec)(i:Nat)(a:Act)(fs:List (World->Prop))(F:World->Prop),IE P ops'.toArray Inv T bs Q n l ss i a fs F->Zy P (ops'.map prune).toArray Inv T bs Q n (l.map prune) ss i a fs F
 |[],_,_,_,_,_,h=>h
 |_::_,[],_,_,_,_,h=>h.elim
 |o::l,s::ss,i,a,fs,F,h=>by
  obtain⟨h1,h2⟩:=h;refine⟨λdn w hI h0 hd hn hf R hR=>?_,?_⟩
  .have:=h1 dn w hI h0 hd hn hf R hR;rw[<-XO]at this;exact this
  revert h2;show(match s.exact? with|some x=>_|none=>_)->(match s.exact? with|some x=>_|none=>_)
  cases s.exact? with
  |some x=>exact λh2=>O1 l ss (i+1) _ _ _ h2
  |none=>exact λh2 v=>O1 l ss (i+1) _ _ _ (h2 v)
theorem Qj{x:Value}(h:∀K:Act->Prop,(∀a',IE P ops Inv T bs Q n l ss (i+1) a' (fs++[λ_:World=>True]) F->K a')->obP P ops Inv (T i) (ex x) i bs o a fs/\K (a.put o.dst x)):
  IE P ops Inv T bs Q n (o::l) (ex x::ss) i a fs F:=h _ (λ_ h=>h)
theorem QR{p:Value->World->Prop}(h:∀K:Value->Act->Prop,(∀v a',IE P ops Inv T bs Q n l ss (i+1) a' (fs++[p v]) (λw:World=>F w/\p v w)->K v a')->obP P ops Inv (T i) (pr p) i bs o a fs/\∀v,K v (a.put o.dst v)):
  IE P ops Inv T bs Q n (o::l) (pr p::ss) i a fs F:=h _ (λ_ _ h=>h)
end
theorem XN{P:Program}{l:List Oper}{Q:Exit->Act->World->Prop}{a:Act}{id:Nat}{w:World}(ss:List Spec)(Inv:(Nat->Bool)->World->Prop)(T:Nat->World->World->Prop)(hm:P.follows .mixedOrders=true)(hB:YD (l.map prune) a.tmps.size=true)
  (hst:∀(i k:Nat)(s:Spec),i≠k->ss[k]?=some s->∀v dn w w',Inv dn w->T i w w'->s.fact v w->s.fact v w') (hC:Inv (λ_=>false) w.drew)
  (bs:List (List Nat)) (hbs:befores (l.map prune) []=bs) (h:IE P l.toArray Inv T bs (Q .normal) l.length l ss 0 a [] (λ_=>True)):(Code.region id l.toArray true).wp P Q a w:=by
 subst hbs;have h':=O1 (ops':=l) l ss 0 a [] _ h;rw[show l.length=(l.map prune).length by simp]at h';refine wp_region_any hm (YI _ _ _ _ (wpAny_done hB hst h' _ _ (λ_=>undef) _ _ ?_ ⟨?_,?_,by simp,rfl,rfl,?_,λ_ _=>rfl⟩))
 .have:=List.length_filter_le (λi=>(Array.replicate l.toArray.size false)[i]? != some true) (List.range (l.map prune).length);simpa[undone]using this
 .refine(congrArg (λd=>Inv d _) ?_).mp hC;funext k
  rw[Array.getElem?_replicate];split<;>simp
 .intro j o hj hl;rw[Array.getElem?_replicate]at hl;split at hl<;>simp at hl
 intro j o s hj _ hl;rw[Array.getElem?_replicate]at hl;split at hl<;>simp at hl
theorem YT{o:Oper}{y:Nat->Option Bool}{A B:Prop}(h:o.guard=none)(hA:A):if Region.wanted o y then A else B:=by
 have:Region.wanted o y=true:=by simp[Region.wanted,h]
 rw[if_pos this];exact hA
theorem Qcf{P:Program}{w:World}{o:Oper}{a:Act}{R:Value->World->Prop}(s x:Operand)(t:TypeId)
  (ho:o.op=.call { callee:=.builtin .append,args:=#[s,x],argTypes:=#[t,t] })
  (base:Nat) (e:TypeId) (i:TypeInfo) (z:Value) (size bytes:Nat) (ht:P.underlying t=some (.slice e)) (hi:P.info? e=some i) (hz:i.zero=some z)
  (hsize:i.size=size) (hby:i.bytes=bytes) (hzs:z.cells.size=size) (hsz:0<size)
  (v:Value) (n:Nat) (xs:List Value) (hs:a.eval s=v) (hown:w.ownsRow base e size v n xs)
  (ad:Addr) (m c:Nat) (news:List Value) (hx:a.eval x=.slice (some ad) m c) (hl:news.length=m*size) (hnews:∀j u,news[j]?=some u->w.cell? (ad.add j)=some u) (h1:∀u∈news,u.oneCell'=true)
  (hm:0<m) (h63:n+m<=maxLen) (hbytes:(n+m)*bytes<=140737488355328) (hbase:base<=w.heap.size)
  (h:∀v' w',w'.ownsRow base e size v' (n+m) (xs++news)->w.grownBy w' v.ownBlock->R v' w'):gives P o a w R:=by
 obtain⟨g,cap,w',hr,h2,h3,_,_⟩:=run_append_lies (P:=P) w t o.type base e i z size bytes ht hi hz hsize hby hzs hsz v n xs hown ad m c news hl hnews h1 hm h63 hbytes hbase _ rfl;unfold gives execOp;simp only[ho,resolve,invoke,builtin,Sem.run_bind,Sem.run_pure,Result.andThen_ok,List.map_toArray,List.map_cons,List.map_nil,hs,hx,hr];exact h _ _ h2 h3
structure Yy(w0:World)(β:Nat)(T:TypeId)(box:Array Value)(off base:Nat)(E:TypeId)(sz:Nat)(cv:Value)(n:Nat)(cells:List Value)(m:Nat)(news:List Value)(ia is:Nat)(dn:Nat->Bool)(W:World):Prop where
 os:W.os=w0.os
 tape:W.tape=w0.tape
 output:W.output=w0.output
 size:w0.heap.size<=W.heap.size
 blk:∀b,b<w0.heap.size->b≠β->some b≠cv.ownBlock->W.heap[b]?=w0.heap[b]?
 before:dn is=false->W.heap[β]?=some (.cells box T)
 own:dn ia=false->W.ownsRow base E sz cv n cells
 after:dn is=true->∃v,W.heap[β]?=some (.cells (box.setIfInBounds off v) T)/\W.ownsRow base E sz v (n+m) (cells++news)
def II(β:Nat)(cv:Value)(ia:Nat)(i:Nat)(w w':World):Prop:=w.heap.size<=w'.heap.size/\∀b,b<w.heap.size->b≠β->(i=ia->some b≠cv.ownBlock)->w'.heap[b]?=w.heap[b]?
def Qh4(B:Nat)(E:TypeId)(m:Nat)(cs:Array Value)(v:Value)(W:World):Prop:=∃b,v=.slice (some ⟨b,0,none⟩) m m/\B<=b/\W.heap[b]?=some (.cells cs E)
def Qh5(base:Nat)(E:TypeId)(sz n:Nat)(cells:List Value)(v:Value)(W:World):Prop:=W.ownsRow base E sz v n cells
theorem Qh4.stable{B β m ia i:Nat}{E:TypeId}{cs:Array Value}{cv v:Value}{w w':World}(hβ:β<B)(hcv:∀g,cv.ownBlock=some g->g<B)(hT:II β cv ia i w w')(h:Qh4 B E m cs v w):Qh4 B E m cs v w':=by
 obtain⟨b,hv,hb,hc⟩:=h;have hlt:b<w.heap.size:=(Array.getElem?_eq_some_iff.1 hc).1;refine⟨b,hv,hb,?_⟩;rw[hT.2 b hlt (by omega) (λ_ e=>by have:=hcv b e.symm;omega)];exact hc
theorem Uh{w w':World}{base:Nat}{E:TypeId}{sz n:Nat}{v:Value}{cells:List Value}(h:w.ownsRow base E sz v n cells)(hb:∀b,base<=b->b<w.heap.size->v.ownBlock=some b->w'.heap[b]?=w.heap[b]?):w'.ownsRow base E sz v n cells:=by
 obtain⟨h1,h2⟩:=h;refine⟨h1,?_⟩;rcases h2 with h2|⟨g,cap,cur,hv,hg,hh,r⟩
 .exact .inl h2
 exact .inr ⟨g,cap,cur,hv,hg,by rw[hb g hg (Array.getElem?_eq_some_iff.1 hh).1 (by rw[hv];rfl)];exact hh,r⟩
theorem Qh5.stable{base β sz n ia i:Nat}{E:TypeId}{cells:List Value}{cv v:Value}{w w':World}(hβ:β<base)(hi:i≠ia)(hT:II β cv ia i w w')(h:Qh5 base E sz n cells v w):Qh5 base E sz n cells v w':=
 Uh h λb hb hlt _=>hT.2 b hlt (by omega) (λe=>absurd e hi)
section
variable{w0 W W':World}{β:Nat}{T:TypeId}{box:Array Value}{off base:Nat}{E:TypeId}{sz n m ia is i:Nat}{cv:Value}{cells news:List Value}{dn:Nat->Bool}
theorem Yy.start(h:w0.heap[β]?=some (.cells box T))(ho:w0.ownsRow base E sz cv n cells):Yy w0 β T box off base E sz cv n cells m news ia is (λ_=>false) w0.drew:=
 ⟨rfl,rfl,rfl,Nat.le_refl _,λ_ _ _ _=>rfl,λ_=>h,λ_=>by exact Uh ho λ_ _ _ _=>rfl,λh=>by cases h⟩
theorem Yy.step(h:Yy w0 β T box off base E sz cv n cells m news ia is dn W)(hb:Below W.heap.size W W')(h1:i≠ia)(h2:i≠is):Yy w0 β T box off base E sz cv n cells m news ia is (Qe dn i) W' where
 os:=hb.os.trans h.os
 tape:=hb.tape.trans h.tape
 output:=hb.output.trans h.output
 size:=Nat.le_trans h.size hb.size
 blk:=λb hlt hn ho=>(hb.block b (Nat.lt_of_lt_of_le hlt h.size)).trans (h.blk b hlt hn ho)
 before:=λhd=>by
  have:dn is=false:=by simpa[Qe,Ne.symm h2]using hd
  exact Qd (h.before this) hb
 own:=λhd=>by
  have:dn ia=false:=by simpa[Qe,Ne.symm h1]using hd
  exact Uh (h.own this) λb _ hlt _=>hb.block b hlt
 after:=λhd=>by
  have:dn is=true:=by simpa[Qe,Ne.symm h2]using hd
  obtain⟨v,h1,h2⟩:=h.after this;exact⟨v,Qd h1 hb,Uh h2 λb _ hlt _=>hb.block b hlt⟩
theorem II.of_below(hb:Below W.heap.size W W'):II β cv ia i W W':=⟨hb.size,λb hlt _ _=>hb.block b hlt⟩
theorem Yy.appended(h:Yy w0 β T box off base E sz cv n cells m news ia is dn W)(hd:dn is=false)(hne:ia≠is)(hcv:∀g,cv.ownBlock=some g->g≠β)(hg:W.grownBy W' cv.ownBlock)(hβ:β<w0.heap.size):Yy w0 β T box off base E sz cv n cells m news ia is (Qe dn ia) W' where
 os:=hg.os.trans h.os
 tape:=hg.tape.trans h.tape
 output:=hg.output.trans h.output
 size:=Nat.le_trans h.size hg.size
 blk:=λb hlt hn ho=>(hg.block b (Nat.lt_of_lt_of_le hlt h.size) ho).trans (h.blk b hlt hn ho)
 before:=λ_=>by rw[hg.block β (Nat.lt_of_lt_of_le hβ h.size) (λe=>hcv β e.symm rfl)];exact h.before hd
 own:=λhd=>by simp[Qe]at hd
 after:=λhd'=>by simp[Qe,Ne.symm hne,hd]at hd'
theorem II.of_grown(hg:W.grownBy W' cv.ownBlock):II β cv ia ia W W':=⟨hg.size,λb hlt _ h=>hg.block b hlt (h rfl)⟩
theorem Yy.stored{v:Value}(h:Yy w0 β T box off base E sz cv n cells m news ia is dn W)(hd:dn is=false)(hda:dn ia=true)(hne:is≠ia)(hv:W.ownsRow base E sz v (n+m) (cells++news))(hβ:β<base):
  Yy w0 β T box off base E sz cv n cells m news ia is (Qe dn is) (W.setCell ⟨β,off,none⟩ v) where
 os:=h.os
 tape:=h.tape
 output:=h.output
 size:=by show _<=(W.heap.modify _ _).size;rw[Array.size_modify];exact h.size
 blk:=λb hlt hn ho=>by
  have:(W.setCell ⟨β,off,none⟩ v).heap[b]?=W.heap[b]?:=by
   show(W.heap.modify β _)[b]?=_;rw[Array.getElem?_modify,if_neg (λe=>hn e.symm)]
  rw[this];exact h.blk b hlt hn ho
 before:=λhd=>by simp[Qe]at hd
 own:=λhd'=>by simp[Qe,Ne.symm hne,hda]at hd'
 after:=λ_=>by
  refine⟨v,?_,Uh hv λb hb _ _=>?_⟩
  .show(W.heap.modify β _)[β]?=_;rw[Array.getElem?_modify,if_pos rfl,h.before hd];rfl
  show(W.heap.modify β _)[b]?=_;rw[Array.getElem?_modify,if_neg (by omega)]
theorem II.of_store{v:Value}:II β cv ia i W (W.setCell ⟨β,off,none⟩ v):=
 ⟨by show _<=(W.heap.modify _ _).size;rw[Array.size_modify];exact Nat.le_refl _,λb _ hn _=>by
  show(W.heap.modify β _)[b]?=_;rw[Array.getElem?_modify,if_neg (λe=>hn e.symm)]⟩
theorem Yy.below{w:World}{B:Nat}(h:Yy w0 β T box off base E sz cv n cells m news ia is dn W)(hb:Below B w w0)(hβ:B<=β)(ho:∀g,cv.ownBlock=some g->B<=g)(hB:B<=w0.heap.size):Below B w W:=
 hb.trans ⟨h.os,h.tape,h.output,h.size,λb hlt=>h.blk b (by omega) (by omega) (λe=>by have:=ho b e.symm;omega)⟩
def EC(N O:Value->World->Prop)(ia:Nat):List Spec->Nat->Prop
 |[],_=>True
 |s::r,k=>((∃x,s=ex x)\/s=pr N\/(k=ia/\s=pr O))/\EC N O ia r (k+1)
theorem GR{N O:Value->World->Prop}{ia:Nat}:∀(ss:List Spec)(k0:Nat),EC N O ia ss k0->∀(k:Nat)(s:Spec),ss[k]?=some s->(∃x,s=ex x)\/s=pr N\/(k0+k=ia/\s=pr O)
 |[],_,_,_,_,h=>by simp at h
 |s0::r,k0,hg,0,s,h=>by simp at h;subst h;exact hg.1
 |s0::r,k0,hg,k+1,s,h=>by
  have:=GR r (k0+1) hg.2 k s (by simpa using h);rw[show k0+(k+1)=k0+1+k by omega];exact this
theorem QbO{P:Program}{l:List Oper}{Q:Exit->Act->World->Prop}{a:Act}{id:Nat}(β:Nat)(T:TypeId)(box:Array Value)(off base:Nat)(E:TypeId)(sz:Nat)(cv:Value)(n:Nat)(cells:List Value)(m:Nat)(news:List Value)(ia is:Nat)
  (hm:P.follows .mixedOrders=true) (hB:YD (l.map prune) a.tmps.size=true) (hbox:w0.heap[β]?=some (.cells box T)) (hown:w0.ownsRow base E sz cv n cells) (hβ:β<base) (hβ':β<w0.heap.size)
  (bs:List (List Nat)) (hbs:befores (l.map prune) []=bs) (ss:List Spec)
  (h:IE P l.toArray (Yy w0 β T box off base E sz cv n cells m news ia is) (II β cv ia) bs (Q .normal) l.length l ss 0 a [] (λ_=>True))
  (hss:EC (Qh4 w0.heap.size E m news.toArray) (Qh5 base E sz (n+m) (cells++news)) ia ss 0):(Code.region id l.toArray true).wp P Q a w0:=by
 refine XN ss _ (II β cv ia) hm hB (λi k s hik hk v dn w w' _ hT hf=>?_) (Yy.start hbox hown) bs hbs h;have hlt:∀g,cv.ownBlock=some g->g<w0.heap.size:=λg hg=>(hown.lt g hg).2;rcases GR ss 0 hss k s hk with⟨x,rfl⟩|rfl|⟨hka,rfl⟩
 .trivial
 .exact Qh4.stable hβ' hlt hT hf
 exact Qh5.stable hβ (by omega) hT hf
end
end
section
open Go.RowKit
open Go.MapKept (IsKey)
theorem Oy(e:Int)(w:World):Calls prog 121 #[.int .i64 e] w λen w'=>en=.returned (.tuple #[U8 (.slice none 0 0) 0,.int .i64 e])/\Below w.heap.size w w':=by
 go_enter func121,ntmps121;go_wp2;refine bodyPost_ret (v:=.tuple #[U8 (.slice none 0 0) 0,.int .i64 e]) ?_ rfl ⟨rfl,Qa Zbr _⟩;rw[results_cell_tmp rfl];go_simp
def But(B:Nat)(pv:Value)(b:Nat):Prop:=B+5<=b/\pv.ownBlock≠some b
structure Zv(w wr:World)(rs:List TRule)(pv:Value):Prop where
 bel:Below w.heap.size w wr
 sz:w.heap.size+5<=wr.heap.size
 res:wr.heap[w.heap.size]?=some (.cells #[.slice none 0 0,.int .i64 0] 38)
 vm:wr.heap[w.heap.size+1]?=some (.map vmap 5)
 fm:wr.heap[w.heap.size+2]?=some (.map fmap 5)
 om:wr.heap[w.heap.size+3]?=some (.map omap 4)
 pc:wr.heap[w.heap.size+4]?=some (.cells #[pv,.int .i64 0] 38)
 own:Qg wr (w.heap.size+5) 147 2 (VP wr (But w.heap.size pv)) pv rs
theorem Zv.below{w wr w1:World}{rs:List TRule}{pv:Value}(h:Zv w wr rs pv)(hb:Below wr.heap.size wr w1):Zv w w1 rs pv where
 bel:=Ql h.bel hb
 sz:=Nat.le_trans h.sz hb.size
 res:=Qd h.res hb
 vm:=Qd h.vm hb
 fm:=Qd h.fm hb
 om:=Qd h.om hb
 pc:=Qd h.pc hb
 own:=(h.own.below hb).monoR λ_ _ _ ⟨v,h1,h2⟩=>⟨v,h1,h2.below hb⟩
theorem Zv.ru{w wr:World}{rs:List TRule}{pv:Value}(h:Zv w wr rs pv):Qc wr (λb=>w.heap.size+5<=b) pv rs:=
 (h.own.monoR λ_ _ _ ⟨v,h1,h2⟩=>⟨v,h1,h2.keep (λ_ hb _=>hb.1) (λ_ _ _=>rfl) Znl⟩).sl λ_ h=>h
theorem QhA(w:World):Zv w (((((w.alloc (.cells #[.slice none 0 0,.int .i64 0] 38)).alloc (.map vmap 5)).alloc (.map fmap 5)).alloc (.map omap 4)).alloc (.cells #[.slice none 0 0,.int .i64 0] 38)) [] (.slice none 0 0) where
 bel:=Qa (Qa (Qa (Qa (Qa Zbr _) _) _) _) _
 sz:=by simp
 res:=QQ (QQ (QQ (QQ (UM rfl))))
 vm:=QQ (QQ (QQ (UM (by simp))))
 fm:=QQ (QQ (UM (by simp)))
 om:=QQ (UM (by simp))
 pc:=UM (by simp)
 own:=Qg.nil
theorem Qhi:(prog.info? 153).map (λi=>(i.zero,i.size,i.bytes))=some (some (.agg #[.int .i64 0,.int .i64 0,.int .i64 0]),3,24):=by kernel_rfl
theorem Qhj:(prog.info? 147).map (λi=>(i.zero,i.size,i.bytes))=some (some (.agg #[.slice none 0 0,.int .i64 0]),2,32):=by kernel_rfl
theorem Qip{w w2 wr w4:World}{rs:List TRule}{pv:Value}{cs:List TCond}{cv:Value}{vd:Int}{gg cap:Nat}{rows:List (List Value)}{O:Obj}(hst:Zv w w2 rs pv)(hbw:Below w2.heap.size w2 wr)
  (hown:Qg wr (w2.heap.size+1) 153 3 Ve cv cs) (hgrow:(wr.alloc O).grownBy w4 pv.ownBlock)
  (hown4:w4.ownsRow (w.heap.size+5) 147 2 (.slice (some ⟨gg,0,none⟩) (rs.length+1) cap) (rs.length+1) (rows.flatten++[cv,.int .i64 vd]))
  (hro:Qq 2 (VP wr (But w.heap.size pv)) rs rows) (hat:pv.ownBlock=some gg\/gg=wr.heap.size+1):
  Zv w (w4.setCell ⟨w.heap.size+4,0,none⟩ (.slice (some ⟨gg,0,none⟩) (rs.length+1) cap)) (rs++[⟨cs,vd⟩]) (.slice (some ⟨gg,0,none⟩) (rs.length+1) cap):=by
 have h1:=hst.below hbw;have hsz2:=hst.sz;have hsw:=hbw.size
 have hpo:∀g,pv.ownBlock=some g->w.heap.size+5<=g/\g<w2.heap.size:=λg hg=>by
  obtain⟨rows',_,hr'⟩:=hst.own;exact hr'.lt g hg
 have hal:(wr.alloc O).heap.size=wr.heap.size+1:=by simp
 have hg4:=hgrow.size
 -- a block that is neither the box nor the rules' row stays
 have keep:∀b,b<wr.heap.size->b≠w.heap.size+4->pv.ownBlock≠some b->(w4.setCell ⟨w.heap.size+4,0,none⟩ (.slice (some ⟨gg,0,none⟩) (rs.length+1) cap)).heap[b]?=wr.heap[b]?:=λb hb hn ho=>by
  rw[Qm (by exact hn),hgrow.block b (by omega) (λe=>ho e.symm)];show(wr.heap.push O)[b]?=_;rw[Array.getElem?_push,if_neg (by omega)]
 have small:∀b,b<w.heap.size+4->(w4.setCell ⟨w.heap.size+4,0,none⟩ (.slice (some ⟨gg,0,none⟩) (rs.length+1) cap)).heap[b]?=wr.heap[b]?:=λb hb=>
  keep b (by omega) (by omega) (λe=>by have:=(hpo b e).1;omega)
 have hss:wr.heap.size<=(w4.setCell ⟨w.heap.size+4,0,none⟩ (.slice (some ⟨gg,0,none⟩) (rs.length+1) cap)).heap.size:=by rw[Qr];omega
 exact {
  bel:=by
   refine Qw ?_ (by show w.heap.size<=w.heap.size+4;omega)
   exact h1.bel.trans ⟨hgrow.os,hgrow.tape,hgrow.output,by omega,λi hi=>by
    rw[hgrow.block i (by omega) (λe=>by have:=(hpo i e.symm).1;omega)];show(wr.heap.push O)[i]?=_;rw[Array.getElem?_push,if_neg (by omega)]⟩
  sz:=by omega
  res:=(small _ (by omega)).trans h1.res
  vm:=(small _ (by omega)).trans h1.vm
  fm:=(small _ (by omega)).trans h1.fm
  om:=(small _ (by omega)).trans h1.om
  pc:=by
   have:w4.heap[w.heap.size+4]?=some (.cells #[pv,.int .i64 0] 38):=by
    rw[hgrow.block _ (by omega) (λe=>by have:=(hpo _ e.symm).1;omega)];show(wr.heap.push O)[w.heap.size+4]?=_;rw[Array.getElem?_push,if_neg (by omega)];exact h1.pc
   exact QJ this
  own:=by
   refine⟨rows++[[cv,.int .i64 vd]],(hro.mono λx _ c hx=>?_).app (Qq.cons (sz:=2) (x:=(⟨cs,vd⟩:TRule)) (r:=[cv,.int .i64 vd]) Qq.nil ?_ rfl),?_⟩
   .obtain⟨v,e1,e2⟩:=hx
    exact⟨v,e1,e2.keep (λb hb hlt=>⟨hb.1,λe=>by
     have e':gg=b:=by simpa[Value.ownBlock]using e
     rcases hat with h|h
     .exact hb.2 (by rw[h,e'])
     omega⟩) (λb hb hlt=>keep b hlt (by have:=hb.1;omega) hb.2) hss⟩
   .refine⟨cv,rfl,?_⟩;have hs:QF wr (λb=>w2.heap.size+1<=b) cv cs:=hown.sl λ_ h=>h
    exact hs.keep (λb hb hlt=>⟨by have:w2.heap.size+1<=b:=hb;omega,λe=>by
     have e':gg=b:=by simpa[Value.ownBlock]using e
     have hb':w2.heap.size+1<=b:=hb;rcases hat with h|h
     .have:=(hpo gg h).2;omega
     omega⟩) (λb hb hlt=>keep b hlt (by have:w2.heap.size+1<=b:=hb;omega) (λe=>by have:w2.heap.size+1<=b:=hb;have:=(hpo b e).2;omega)) hss
   have:=Uh (w':=w4.setCell ⟨w.heap.size+4,0,none⟩ (.slice (some ⟨gg,0,none⟩) (rs.length+1) cap)) hown4 (λb hb _ _=>Qm (by show b≠w.heap.size+4;omega));simpa using this }
end
section
open Go.RowKit
open Go.MapKept (IsKey)
attribute [local go_sem] gives QG
attribute [-go_sem] run_slice_l
theorem G6(s:ByteArray)(w:World)(hL:Laid w)(hs:s.size<=281474976710656)(hs':s.size<4294967281):
  Calls prog 79 #[.string s] w λe w'=>∃v,e=.returned (.tuple #[U8 v (VE s.data.toList).1.df,.int .i64 (VE s.data.toList).2])/\Qc w' (λb=>w.heap.size<=b) v (VE s.data.toList).1.ru/\Below w.heap.size w w':=by
 have HL:=Zh hL;clear hL;have hmm:=@run_makeMap prog;have hb0:w.heap.size+1=(w.alloc (.cells #[.slice none 0 0,.int .i64 0] 38)).heap.size:=by simp
 have hv0:=Qx (P:=prog) (t:=117) (es:=#[]) (c:=0) (key:=bs [107,105,108,108]) (v:=.int .i64 0) hb0 underlying117 underlying9 (by first|exact trivial|rfl) (by kernel_rfl);have hv1:=Qx (P:=prog) (t:=117) (es:=#[⟨bs [107,105,108,108],.int .i64 0,0⟩]) (c:=1) (key:=bs [116,114,97,112]) (v:=.int .i64 1) hb0 underlying117 underlying9 (by first|exact trivial|rfl) (by kernel_rfl);have hv2:=Qx (P:=prog) (t:=117) (es:=#[⟨bs [107,105,108,108],.int .i64 0,0⟩,⟨bs [116,114,97,112],.int .i64 1,1⟩]) (c:=2) (key:=bs [102,97,105,108]) (v:=.int .i64 2) hb0 underlying117 underlying9 (by first|exact trivial|rfl) (by kernel_rfl);have hv3:=Qx (P:=prog) (t:=117) (es:=#[⟨bs [107,105,108,108],.int .i64 0,0⟩,⟨bs [116,114,97,112],.int .i64 1,1⟩,⟨bs [102,97,105,108],.int .i64 2,2⟩]) (c:=3) (key:=bs [108,111,103]) (v:=.int .i64 3) hb0 underlying117 underlying9 (by first|exact trivial|rfl) (by kernel_rfl);have hv4:=Qx (P:=prog) (t:=117) (es:=#[⟨bs [107,105,108,108],.int .i64 0,0⟩,⟨bs [116,114,97,112],.int .i64 1,1⟩,⟨bs [102,97,105,108],.int .i64 2,2⟩,⟨bs [108,111,103],.int .i64 3,3⟩]) (c:=4) (key:=bs [97,108,108,111,119]) (v:=.int .i64 4) hb0 underlying117 underlying9 (by first|exact trivial|rfl) (by kernel_rfl);have hb1:w.heap.size+2=((w.alloc (.cells #[.slice none 0 0,.int .i64 0] 38)).alloc (.map vmap 5)).heap.size:=by simp
 have hf0:=Qx (P:=prog) (t:=117) (es:=#[]) (c:=0) (key:=bs [110,114]) (v:=.int .i64 0) hb1 underlying117 underlying9 (by first|exact trivial|rfl) (by kernel_rfl);have hf1:=Qx (P:=prog) (t:=117) (es:=#[⟨bs [110,114],.int .i64 0,0⟩]) (c:=1) (key:=bs [107,105,110,100]) (v:=.int .i64 1) hb1 underlying117 underlying9 (by first|exact trivial|rfl) (by kernel_rfl);have hf2:=Qx (P:=prog) (t:=117) (es:=#[⟨bs [110,114],.int .i64 0,0⟩,⟨bs [107,105,110,100],.int .i64 1,1⟩]) (c:=2) (key:=bs [97]) (v:=.int .i64 2) hb1 underlying117 underlying9 (by first|exact trivial|rfl) (by kernel_rfl);have hf3:=Qx (P:=prog) (t:=117) (es:=#[⟨bs [110,114],.int .i64 0,0⟩,⟨bs [107,105,110,100],.int .i64 1,1⟩,⟨bs [97],.int .i64 2,2⟩]) (c:=3) (key:=bs [98]) (v:=.int .i64 3) hb1 underlying117 underlying9 (by first|exact trivial|rfl) (by kernel_rfl);have hf4:=Qx (P:=prog) (t:=117) (es:=#[⟨bs [110,114],.int .i64 0,0⟩,⟨bs [107,105,110,100],.int .i64 1,1⟩,⟨bs [97],.int .i64 2,2⟩,⟨bs [98],.int .i64 3,3⟩]) (c:=4) (key:=bs [99]) (v:=.int .i64 4) hb1 underlying117 underlying9 (by first|exact trivial|rfl) (by kernel_rfl);have hb2:w.heap.size+3=(((w.alloc (.cells #[.slice none 0 0,.int .i64 0] 38)).alloc (.map vmap 5)).alloc (.map fmap 5)).heap.size:=by simp
 have ho0:=Qx (P:=prog) (t:=169) (es:=#[]) (c:=0) (key:=.int .u8 61) (v:=.int .i64 1) hb2 underlying169 underlying5 (by first|exact trivial|rfl) (by kernel_rfl);have ho1:=Qx (P:=prog) (t:=169) (es:=#[⟨.int .u8 61,.int .i64 1,0⟩]) (c:=1) (key:=.int .u8 33) (v:=.int .i64 2) hb2 underlying169 underlying5 (by first|exact trivial|rfl) (by kernel_rfl);have ho2:=Qx (P:=prog) (t:=169) (es:=#[⟨.int .u8 61,.int .i64 1,0⟩,⟨.int .u8 33,.int .i64 2,1⟩]) (c:=2) (key:=.int .u8 60) (v:=.int .i64 3) hb2 underlying169 underlying5 (by first|exact trivial|rfl) (by kernel_rfl);have ho3:=Qx (P:=prog) (t:=169) (es:=#[⟨.int .u8 61,.int .i64 1,0⟩,⟨.int .u8 33,.int .i64 2,1⟩,⟨.int .u8 60,.int .i64 3,2⟩]) (c:=3) (key:=.int .u8 62) (v:=.int .i64 4) hb2 underlying169 underlying5 (by first|exact trivial|rfl) (by kernel_rfl);simp only[List.push_toArray,List.nil_append,List.cons_append,Nat.reduceAdd]at hv0 hv1 hv2 hv3 hv4 hf0 hf1 hf2 hf3 hf4 ho0 ho1 ho2 ho3;clear hb0 hb1 hb2;go_enter func79,ntmps79;go_wp2_with fail
 clear hv0 hv1 hv2 hv3 hv4 hf0 hf1 hf2 hf3 hf4 ho0 ho1 ho2 ho3 hmm
 go_loopw[0](λsv wr=>∃(n:Nat)(t:ByteArray)(rs:List TRule)(pv:Value),sv=.string t/\t.size<n/\rs.length+t.size<=s.size/\Hid (pread (s.data.toList.length+1) s.data.toList=(pread n t.data.toList).map λp=>⟨rs++p.ru,p.df⟩)/\Zv w wr rs pv) (λsv _=>(match sv with|.string t=>t.size|_=>0))
 case atStart=>exact⟨s.size+1,s,[],.slice none 0 0,rfl,by omega,by simp,by
  have e:s.data.toList.length=s.size:=rfl;rw[e];cases pread (s.size+1) s.data.toList<;>rfl,QhA w⟩
 case round=>
  obtain⟨n,t,rs,pv,rfl,hn,hts,hp,hst⟩:=hrel;obtain⟨pa,pcap,hpv,hpl,hpm,_⟩:=Sl.form hst.ru;have Hpv:=Zh hpv;have Hst:=Zh hst;clear hpv hpl hpm;have hsz:=hst.sz;have HLr:=Zh (HL.o.below hst.bel);clear hst;go_wp2_with fail
  refine(Qia t _ HLr.o (by omega)).mono ?_;rintro e w1⟨ta,tr,more,rfl,hta,htr,hmore,hsa,hsr,hb1⟩;have Hta:=Zh hta;have Htr:=Zh htr;have Hmore:=Zh hmore;clear hta htr hmore;have Hst1:=Zh (Hst.o.below hb1);have HL1:=Zh (HLr.o.below hb1);have hsz1:=Hst1.o.sz;clear Hst HLr hb1 hsz;go_wp2_with fail
  refine(QgN ta w1 HL1.o (by omega)).mono ?_;rintro e w2⟨ws,rfl,hw2,hws,hw0,hwl,hwu⟩
  obtain⟨u0,us,rfl⟩:∃u0 us,ws=u0::us:=by cases ws with
   |nil=>simp at hw0
   |cons u0 us=>exact⟨u0,us,rfl⟩
  have hb2:Below w1.heap.size w1 w2:=by rw[hw2];exact Qa Zbr _
  have hbl:w2.heap[w1.heap.size]?=some (.cells ((u0::us).map Value.string).toArray 9):=by rw[hw2];exact Qh _ _
  have hc0:w2.cell? ⟨w1.heap.size,0,none⟩=some (.string u0):=by rw[hw2];exact(World.cell?_alloc_at _ _ _ _ rfl).trans (by simp)
  have Hst2:=Zh (Hst1.o.below hb2);have HL2:=Zh (HL1.o.below hb2);have hsz2:=Hst2.o.sz;have Hbl:=Zh hbl
  have Hstep:Hid (∀k,pread (k+1) t.data.toList=match Q4 u0.data.toList with
    |none=>none
    |some v=>if more then(match Ue (us.map (·.data.toList))with
      |none=>none
      |some cs=>(pread k tr.data.toList).map λp=>⟨⟨cs,v⟩::p.ru,p.df⟩)else if 1<us.length+1 then none else some ⟨[],v⟩):=λk=>by
   rw[Zo (u0:=u0.data.toList) (us:=us.map (·.data.toList)) (by rw[<-Hta.o,<-hws];rfl),Hmore.o,Htr.o,List.length_map]<;>rfl
  obtain⟨k,rfl⟩:∃k,n=k+1:=⟨n-1,by omega⟩;have Hwu:=Zh hwu;clear hw2 hb2 hbl hws hwu Hst1 HL1 Hta Hmore;obtain⟨fv,hfv,hfv'⟩:=QiK u0;have hz:∀W:World,(zeroValue 3).run prog W=.ok (.int .i64 0) W:=λW=>by kernel_rfl
  have hlk:=ZL (P:=prog) (key:=.string u0) (t:=117) underlying117 underlying9 Hst2.o.vm (hz _) (by exact trivial) hfv
  have hfs:fv.isSome=(Q4 u0.data.toList).isSome:=by
   have:=congrArg Option.isSome hfv';simpa using this
  rw[hfs,hfv']at hlk;have h1l:(1:Nat)<=us.length+1:=by omega
  clear hfv hfv' hfs hz hw0
  cases hvd:Q4 u0.data.toList with
  |none=>
   rw[hvd]at hlk;simp only[Option.map_none,Option.getD_none,Option.isSome_none]at hlk;go_wp2_with fail
   refine(Oy 1 _).mono ?_;rintro e w3⟨rfl,hb3⟩;have hr3:=Qd Hst2.o.res hb3;have hc3:=Qb hr3;have hf3:=Qp hr3;have hr4:=QJ (o:=1) (v:=.int .i64 0) (QJ (o:=0) (v:=.slice none 0 0) hr3);have hc4:=Qb hr4;have Hb4:=Zh (Qw (a:=⟨w.heap.size,1,none⟩) (v:=.int .i64 0) (Qw (a:=⟨w.heap.size,0,none⟩) (v:=.slice none 0 0) (Ql Hst2.o.bel hb3) Znl) Znl);go_wp2;have hrd:VE s.data.toList=(⟨[],0⟩,1):=OI (by rw[hp.o,Hstep.o k,hvd];rfl);rw[hrd];refine bodyPost_ret (v:=.tuple #[U8 (.slice none 0 0) 0,.int .i64 1]) ?_ rfl ⟨_,rfl,⟨none,0,rfl,Nat.le_refl _,by unfold maxLen;omega,λ_=>rfl,λh=>by cases h⟩,Hb4.o⟩;rw[results_cell_tmp rfl];go_simp
  |some vd=>
   rw[hvd]at hlk;simp only[Option.map_some,Option.getD_some,Option.isSome_some]at hlk;have Hvd:=Zh hvd;clear hvd
   cases more with
   |false=>
    by_cases hus:us.length=0
    .have d1:¬(1:Int)<(us.length:Int)+1:=by omega
     have hpc:=Hst2.o.pc;have hcp:=Qb hpc;have hfp:=Qp hpc
     have hR4:Qc (w2.setCell ⟨w.heap.size+4,1,none⟩ (.int .i64 vd)) (λb=>w.heap.size+5<=b) pv rs:=
      Qc.keep Hst2.o.ru (λ_ h _=>h) (λb hb _=>Qm (by show b≠w.heap.size+4;have:w.heap.size+5<=b:=hb;omega)) (by rw[Qr];exact Nat.le_refl _)
     have hb4:Below w.heap.size w (w2.setCell ⟨w.heap.size+4,1,none⟩ (.int .i64 vd)):=Qw Hst2.o.bel (by show w.heap.size<=w.heap.size+4;omega);have hr4:(w2.setCell ⟨w.heap.size+4,1,none⟩ (.int .i64 vd)).heap[w.heap.size]?=some (.cells #[.slice none 0 0,.int .i64 0] 38):=(Qm (by show w.heap.size≠w.heap.size+4;omega)).trans Hst2.o.res;have hp4:=QJ (o:=1) (v:=.int .i64 vd) hpc
     have hre:Hid (VE s.data.toList=if UZ ⟨rs,vd⟩=0 then(⟨rs,vd⟩,0)else(⟨[],0⟩,UZ ⟨rs,vd⟩)):=Qa0 (by
      rw[hp.o,Hstep.o k,Hvd.o];simp only[Bool.false_eq_true,if_false];rw[if_neg (by omega)];simp only[Option.map_some,List.append_nil])
     have HR4:=Zh hR4;have Hb4:=Zh hb4;have Hr4:=Zh hr4;have Hp4:=Zh hp4;clear hR4 hb4 hr4 hp4;go_wp2_with fail
     refine(Vz pv ⟨rs,vd⟩ _ _ HR4.o).mono ?_;rintro e w5⟨rfl,hb5⟩;have hR5:=Qc.below HR4.o hb5;have hr5:=Qd Hr4.o hb5;have hp5:=Qd Hp4.o hb5;have hb5':=Ql Hb4.o hb5;have HR5:=Zh hR5;have Hb5:=Zh hb5';clear hR5 hb5' hb5 hpc hcp hfp HR4 Hb4 Hr4 Hp4;by_cases hpe:UZ ⟨rs,vd⟩=0
     .have d2:(UZ ⟨rs,vd⟩ != 0)=false:=bne_eq_false_iff_eq.2 hpe;have Hpe:=Zh hpe;have hcp:=Qb hp5;have hcr:=Qb hr5;have hfr:=Qp hr5;have hr6:=QJ (o:=1) (v:=.int .i64 vd) (QJ (o:=0) (v:=pv) hr5);have hc6:=Qb hr6;have Hb6:=Zh (Qw (a:=⟨w.heap.size,1,none⟩) (v:=.int .i64 vd) (Qw (a:=⟨w.heap.size,0,none⟩) (v:=pv) Hb5.o Znl) Znl)
      have hR6:Hid (Qc ((w5.setCell ⟨w.heap.size,0,none⟩ pv).setCell ⟨w.heap.size,1,none⟩ (.int .i64 vd)) (λb=>w.heap.size<=b) pv rs):=
       Qc.keep HR5.o (λb h _=>by have:w.heap.size+5<=b:=h;show w.heap.size<=b;omega) (λb hb _=>by
        have h1:w.heap.size+5<=b:=hb;rw[Qm (by show b≠w.heap.size;omega),Qm (by show b≠w.heap.size;omega)]) (by rw[Qr,Qr];exact Nat.le_refl _)
      clear hpe hp5;have Hre:=hre;clear hre;obtain rfl:=Hpv.o;go_wp2;rw[Hre.o,if_pos Hpe.o];refine bodyPost_ret (v:=.tuple #[U8 (.slice pa rs.length pcap) vd,.int .i64 0]) ?_ rfl ⟨_,rfl,hR6.o,Hb6.o⟩;rw[results_cell_tmp rfl];go_simp
     have d2:(UZ ⟨rs,vd⟩ != 0)=true:=bne_iff_ne.2 hpe;have Hpe:=Zh hpe;clear hpe hp5;go_wp2_with fail
     refine(Oy _ _).mono ?_;rintro e w6⟨rfl,hb6⟩;have hr6:=Qd hr5 hb6;have hc6:=Qb hr6;have hf6:=Qp hr6;have hr7:=QJ (o:=1) (v:=.int .i64 0) (QJ (o:=0) (v:=.slice none 0 0) hr6);have hc7:=Qb hr7;have Hb7:=Zh (Qw (a:=⟨w.heap.size,1,none⟩) (v:=.int .i64 0) (Qw (a:=⟨w.heap.size,0,none⟩) (v:=.slice none 0 0) (Ql Hb5.o hb6) Znl) Znl);clear hr5;go_wp2;rw[hre.o,if_neg Hpe.o];refine bodyPost_ret (v:=.tuple #[U8 (.slice none 0 0) 0,.int .i64 (UZ ⟨rs,vd⟩)]) ?_ rfl ⟨_,rfl,⟨none,0,rfl,Nat.le_refl _,by unfold maxLen;omega,λ_=>rfl,λh=>by cases h⟩,Hb7.o⟩;rw[results_cell_tmp rfl];go_simp
    have d1:(1:Int)<(us.length:Int)+1:=by omega
    go_wp2_with fail
    refine(Oy 1 _).mono ?_;rintro e w3⟨rfl,hb3⟩;have hr3:=Qd Hst2.o.res hb3;have hc3:=Qb hr3;have hf3:=Qp hr3;have hr4:=QJ (o:=1) (v:=.int .i64 0) (QJ (o:=0) (v:=.slice none 0 0) hr3);have hc4:=Qb hr4;have Hb4:=Zh (Qw (a:=⟨w.heap.size,1,none⟩) (v:=.int .i64 0) (Qw (a:=⟨w.heap.size,0,none⟩) (v:=.slice none 0 0) (Ql Hst2.o.bel hb3) Znl) Znl)
    have hrd:Hid (VE s.data.toList=(⟨[],0⟩,1)):=OI (by
     rw[hp.o,Hstep.o k,Hvd.o];simp only[Bool.false_eq_true,if_false];rw[if_pos (by omega)];rfl)
    go_wp2;rw[hrd.o];refine bodyPost_ret (v:=.tuple #[U8 (.slice none 0 0) 0,.int .i64 1]) ?_ rfl ⟨_,rfl,⟨none,0,rfl,Nat.le_refl _,by unfold maxLen;omega,λ_=>rfl,λh=>by cases h⟩,Hb4.o⟩;rw[results_cell_tmp rfl];go_simp
   |true=>
    have d1:(1:Int)<=(us.length:Int)+1:=by omega
    obtain⟨off,hoff,htl⟩:=Qfs w1.heap.size us.length;have Hoff:=Zh hoff;clear hoff;go_wp2_with fail
    all_goals
     clear htl
     go_loopw[70](λjv wr=>∃(j:Nat)(cs:List TCond)(cv:Value),jv=.int .i64 j/\j<=us.length/\cs.length=j/\Hid (Ue (us.map (·.data.toList))=(Ue ((us.map (·.data.toList)).drop j)).map (cs++ ·)) /\
      Below w2.heap.size w2 wr/\wr.heap[w2.heap.size]?=some (.cells #[cv,.int .i64 vd] 147)/\Qg wr (w2.heap.size+1) 153 3 Ve cv cs) (λjv _=>us.length-(intOf jv).toNat)
     case atStart=>exact⟨0,[],.slice none 0 0,rfl,by omega,rfl,by rw[List.drop_zero];cases Ue (us.map (·.data.toList))<;>rfl,Qa Zbr _,Qh _ _,Qg.nil⟩
     case round=>
      obtain⟨j,cs,cv,rfl,hj,hcl,hcs,hbw,hrb,hown⟩:=hrel;have hul:us.length<=4294967281:=by have:us.length+1<=ta.size+1:=hwl;omega
      have hjb:j<=4294967281:=by omega
      have hcb:cs.length<=4294967281:=by omega
      have Hcl:=Zh hcl;clear hcl;have Hown:=Zh hown;have Hbw:=Zh hbw;have hszw:=hbw.size;clear hown hbw;by_cases hlt:j<us.length
      .have hwd:wr.heap[w1.heap.size]?=some (.cells ((u0::us).map Value.string).toArray 9):=Qd Hbl.o Hbw.o;have hoff1:=Hoff.o (by omega)
       have hwc:wr.cell? ⟨w1.heap.size,off+j,none⟩=some (.string us[j]):=by
        rw[Qb hwd,hoff1,Nat.add_comm];simp[hlt]
       clear hwd hoff1;obtain⟨wo,rfl⟩:∃wo:World,wo=wr:=⟨_,rfl⟩;obtain⟨u,hu⟩:∃u:ByteArray,us[j]=u:=⟨_,rfl⟩;rw[hu]at hwc;have hus:u.size<=ta.size:=Hwu.o u (by rw[<-hu];exact List.mem_cons_of_mem _ (List.getElem_mem _));have Hu:=Zh hu;clear hu;have Hlt:Hid (j<us.length):=Zh hlt
       have hbad:Hid (Xh u.data.toList=none->VE s.data.toList=(⟨[],0⟩,1)):=λhc=>OI (by
        rw[hp.o,Hstep.o k,Hvd.o]
        have h1:Ue (us.map (·.data.toList))=none:=by
         rw[hcs.o,Ib (by simpa using hlt)];simp[Hu.o,hc]
        simp[h1])
       go_wp2_with fail
       go_loopw[18](λkv wr=>∃k:Nat,kv=.int .i64 k/\k<=u.size/\(∀i,i<k->∀b,u.data.toList[i]?=some b->Xc b=0)/\Below wo.heap.size wo wr) (λkv _=>u.size-(intOf kv).toNat)
       case atStart=>exact⟨0,rfl,by omega,λi h=>by omega,Below.refl _ _⟩
       case round=>
        obtain⟨k,rfl,hk,hop,hbo⟩:=hrel;have Hop:=Zh hop;have Hbo:=Zh hbo;have hszo:=hbo.size;clear hop hbo hwc;have hom:wr.heap[w.heap.size+3]?=some (.map omap 4):=Qd (Qd Hst2.o.om Hbw.o) Hbo.o;by_cases hkl:k<u.size
        .have hkz:(k:Int)<(u.size:Int):=by omega
         obtain⟨b,hb⟩:∃b:UInt8,u[k]=b:=⟨_,rfl⟩
         have hbl':u.data.toList[k]?=some b:=by
          rw[<-hb];exact Lib.data_getElem? u k hkl
         obtain⟨fo,hfo,hfo'⟩:=QhX b;have hz:∀W:World,(zeroValue 3).run prog W=.ok (.int .i64 0) W:=λW=>by kernel_rfl
         have hlo:=Vm (P:=prog) (key:=.int .u8 b.toNat) (t:=169) underlying169 underlying5 hom (hz _) rfl hfo;rw[hfo']at hlo;clear hz hfo hfo' hom;have Hbl':=Zh hbl';clear hbl';by_cases h0:Xc b=0
         .have d3:(Xc b==0)=true:=beq_iff_eq.2 h0;have H0:=Zh h0;clear h0;go_wp2_with fail
          go_roundw
          case rel=>exact⟨k+1,by go_num,by omega,λi hi c hc=>by
           by_cases hik:i=k
           .subst hik;rw[Hbl'.o]at hc;injection hc with hc;rw[<-hc];exact H0.o
           exact Hop.o i (by omega) c hc,Hbo.o⟩
          case measure=>simp[intOf];omega
         have d3:(Xc b==0)=false:=beq_eq_false_iff_ne.2 h0;have d4:(k==u.size)=false:=beq_eq_false_iff_ne.2 (by omega);have d5:((k:Int)==(u.size:Int))=false:=beq_eq_false_iff_ne.2 (by omega)
         have Hat:Hid (opAt u.data.toList=k):=EU _ k Hop.o (by show k<=u.size;omega) (λc hc=>by
          rw[Hbl'.o]at hc;injection hc with hc;rw[<-hc];exact h0)
         clear h0;have hfm:wr.heap[w.heap.size+2]?=some (.map fmap 5):=Qd (Qd Hst2.o.fm Hbw.o) Hbo.o;obtain⟨ff,hff,hff'⟩:=QiJ (u.extract 0 k);have hz:∀W:World,(zeroValue 3).run prog W=.ok (.int .i64 0) W:=λW=>by kernel_rfl
         have hlf:=ZL (P:=prog) (key:=.string (u.extract 0 k)) (t:=117) underlying117 underlying9 hfm (hz _) (by exact trivial) hff
         have hfs:ff.isSome=(VU (u.extract 0 k).data.toList).isSome:=by
          have:=congrArg Option.isSome hff';simpa using this
         rw[hfs,hff',Lib.extract_from_zero]at hlf;clear hfm hff hff' hfs hz;have HLr:=Zh ((HL2.o.below Hbw.o).below Hbo.o);have hkk:(k:Int)+1<=(u.size:Int):=by omega
         have hco:Hid (Xh u.data.toList=match VU (u.data.toList.take k)with
          |none=>none
          |some f=>if(Ug (u.data.toList.drop (k+1))).2 then some ⟨f,Xc b,(Ug (u.data.toList.drop (k+1))).1⟩else none):=by
          unfold Xh;rw[Hat.o,if_neg (by show k≠u.size;omega),List.getD_eq_getElem?_getD,Hbl'.o];rfl
         cases hfd:VU (u.data.toList.take k)with
         |none=>
          rw[hfd]at hlf;simp only[Option.map_none,Option.getD_none,Option.isSome_none]at hlf;have hrd:Hid (VE s.data.toList=(⟨[],0⟩,1)):=hbad.o (by rw[hco.o,hfd]);clear hfd hco;go_wp2_with fail
          refine(YG (u.extract (k+1) u.size) wr HLr.o (by rw[ByteArray.size_extract];omega)).mono ?_;rintro e w3⟨rfl,hb3⟩;have Hb3:=Zh hb3;clear hb3;go_wp2_with fail
          refine(Oy 1 _).mono ?_;rintro e w7⟨rfl,hb7⟩;have hr7:=Qd (Qd (Qd (Qd Hst2.o.res Hbw.o) Hbo.o) Hb3.o) hb7;have hc7:=Qb hr7;have hf7:=Qp hr7;have hr8:=QJ (o:=1) (v:=.int .i64 0) (QJ (o:=0) (v:=.slice none 0 0) hr7);have hc8:=Qb hr8;have Hb8:=Zh (Qw (a:=⟨w.heap.size,1,none⟩) (v:=.int .i64 0) (Qw (a:=⟨w.heap.size,0,none⟩) (v:=.slice none 0 0) (Ql (Ql (Ql (Ql Hst2.o.bel Hbw.o) Hbo.o) Hb3.o) hb7) Znl) Znl);go_wp2;rw[hrd.o];refine bodyPost_ret (v:=.tuple #[U8 (.slice none 0 0) 0,.int .i64 1]) ?_ rfl ⟨_,rfl,⟨none,0,rfl,Nat.le_refl _,by unfold maxLen;omega,λ_=>rfl,λh=>by cases h⟩,Hb8.o⟩;rw[results_cell_tmp rfl];go_simp
         |some fd=>
          rw[hfd]at hlf;simp only[Option.map_some,Option.getD_some,Option.isSome_some]at hlf;have Hfd:=Zh hfd;clear hfd;go_wp2_with fail
          refine(YG (u.extract (k+1) u.size) wr HLr.o (by rw[ByteArray.size_extract];omega)).mono ?_;rintro e w3⟨rfl,hb3⟩;have Hb3:=Zh hb3;clear hb3;rw[Lib.extract_to_end];rw[Hfd.o]at hco;obtain⟨nn,hnn⟩:∃nn:Int,(Ug (u.data.toList.drop (k+1))).1=nn:=⟨_,rfl⟩
          cases hgd:(Ug (u.data.toList.drop (k+1))).2 with
          |false=>
           have hrd:Hid (VE s.data.toList=(⟨[],0⟩,1)):=hbad.o (by rw[hco.o,hgd];rfl);clear hgd hco;go_wp2_with fail
           refine(Oy 1 _).mono ?_;rintro e w7⟨rfl,hb7⟩;have hr7:=Qd (Qd (Qd (Qd Hst2.o.res Hbw.o) Hbo.o) Hb3.o) hb7;have hc7:=Qb hr7;have hf7:=Qp hr7;have hr8:=QJ (o:=1) (v:=.int .i64 0) (QJ (o:=0) (v:=.slice none 0 0) hr7);have hc8:=Qb hr8;have Hb8:=Zh (Qw (a:=⟨w.heap.size,1,none⟩) (v:=.int .i64 0) (Qw (a:=⟨w.heap.size,0,none⟩) (v:=.slice none 0 0) (Ql (Ql (Ql (Ql Hst2.o.bel Hbw.o) Hbo.o) Hb3.o) hb7) Znl) Znl);go_wp2;rw[hrd.o];refine bodyPost_ret (v:=.tuple #[U8 (.slice none 0 0) 0,.int .i64 1]) ?_ rfl ⟨_,rfl,⟨none,0,rfl,Nat.le_refl _,by unfold maxLen;omega,λ_=>rfl,λh=>by cases h⟩,Hb8.o⟩;rw[results_cell_tmp rfl];go_simp
          |true=>
           have hc1:Hid (Xh u.data.toList=some ⟨fd,Xc b,nn⟩):=by
            have:=hco.o;rw[hgd,hnn]at this;exact this
           rw[hnn];clear hgd hnn hco;go_wp2_with fail
           have hk0:(0:Int)<=(k:Int):=by omega
           have hbx3:w3.cell? ⟨w2.heap.size,0,none⟩=some cv:=by rw[Qb (Qd (Qd hrb Hbo.o) Hb3.o)];rfl
           have hrb3:=Qd (Qd hrb Hbo.o) Hb3.o;have hom3:w3.heap[w.heap.size+3]?=some (.map omap 4):=Qd (Qd (Qd Hst2.o.om Hbw.o) Hbo.o) Hb3.o
           have hlk:∀W:World,W.heap[w.heap.size+3]?=some (.map omap 4)->(Instr.lookup 169 (.map (some (w.heap.size+3))) (.int .u8 b.toNat) false).run prog W=.ok (.int .i64 (Xc b)) W:=λW hW=>by
            obtain⟨fo,hfo,hfo'⟩:=QhX b;have:=Vm (P:=prog) (z:=.int .i64 0) (key:=.int .u8 b.toNat) (t:=169) underlying169 underlying5 hW (by kernel_rfl) rfl hfo;rw[hfo']at this;exact this
           have Hlk:=Zh hlk;clear hlk;obtain⟨rows,hro,hrw⟩:=(Hown.o.below Hbo.o).below Hb3.o;obtain⟨i0,hi0,hz0,hz1,hz2⟩:=info_parts Qhi;have hlt3:w2.heap.size<w3.heap.size:=(Array.getElem?_eq_some_iff.1 hrb3).1;have ho3:=Hown.o.block;have hs3:=Hb3.o.size;have hso:=Hbo.o.size;have hkl':(k:Int)<(u.size:Int):=by omega
           have hnb:∀g,cv.ownBlock=some g->g≠w2.heap.size:=λg e=>by have:=ho3 _ e;omega
           have hnm:some (w.heap.size+3)≠cv.ownBlock:=λe=>by have:=ho3 _ e.symm;omega
           have Hro:=Zh hro;have Hhi:=Zh hi0;have Hrw:=Zh hrw;have Hom3:=Zh hom3;have Hrb3:=Zh hrb3;clear hro hi0 hrw hom3 hrb3 hbx3 ho3
           refine QbO w2.heap.size 147 #[cv,.int .i64 vd] 0 (w2.heap.size+1) 153 3 cv cs.length rows.flatten 1 [.int .i64 fd,.int .i64 (Xc b),.int .i64 nn] 11 13 (by kernel_rfl) (by kernel_rfl) Hrb3.o Hrw.o (by omega) (Array.getElem?_eq_some_iff.1 Hrb3.o).1 _ rfl
            [ex (.pointer (some ⟨w2.heap.size,0,none⟩)),ex cv,ex (.int .i64 fd),ex (.map (some (w.heap.size+3))),ex (.string u),ex (.int .i64 k),ex (.int .u8 b.toNat),ex (.int .i64 (Xc b)),ex (.int .i64 nn),ex (.agg #[.int .i64 fd,.int .i64 (Xc b),.int .i64 nn]),pr (Qh4 w3.heap.size 153 1 #[.int .i64 fd,.int .i64 (Xc b),.int .i64 nn]),pr (Qh5 (w2.heap.size+1) 153 3 (cs.length+1) (rows.flatten++[.int .i64 fd,.int .i64 (Xc b),.int .i64 nn])),ex (.pointer (some ⟨w2.heap.size,0,none⟩)),ex undef] ?_
            ⟨.inl ⟨_,rfl⟩,.inl ⟨_,rfl⟩,.inl ⟨_,rfl⟩,.inl ⟨_,rfl⟩,.inl ⟨_,rfl⟩,.inl ⟨_,rfl⟩,.inl ⟨_,rfl⟩,.inl ⟨_,rfl⟩,.inl ⟨_,rfl⟩,.inl ⟨_,rfl⟩,.inr (.inl rfl),.inr (.inr ⟨rfl,rfl⟩),.inl ⟨_,rfl⟩,.inl ⟨_,rfl⟩,trivial⟩
           iterate 10 (refine Qj λK hK=>⟨λdn W hI h0 hd hn hf R hR=>?_,?_⟩;(first|(clear h0 hd hn hf;go_simp;exact hR _ _ (hI.step Zbr (by decide) (by decide)) (II.of_below Zbr) rfl)|(have hlw:=Hlk.o W ((hI.blk (w.heap.size+3) (by omega) (by omega) hnm).trans Hom3.o);clear h0 hd hn hf;go_simp;exact hR _ _ (hI.step Zbr (by decide) (by decide)) (II.of_below Zbr) rfl)|(have h13:dn 13=false:=hn 13 (by decide);have hcb:=Qb (hI.before h13);clear h0 hd hn hf;go_simp;exact hR _ _ (hI.step Zbr (by decide) (by decide)) (II.of_below Zbr) rfl));(go_simp;refine hK _ ?_;clear hK K))
           (refine QR λK hK=>⟨λdn W hI h0 hd hn hf R hR=>?_,λv10=>?_⟩;(clear h0 hd hn hf;go_simp;exact hR _ _ (hI.step (Qa Zbr _) (by decide) (by decide)) (II.of_below (Qa Zbr _)) ⟨_,rfl,hI.size,Qh _ _⟩);(go_simp;refine hK _ _ ?_;clear hK K))
           (refine QR λK hK=>⟨λdn W hI h0 hd hn hf R hR=>?_,λv11=>?_⟩;(have h10:Qh4 w3.heap.size 153 1 #[.int .i64 fd,.int .i64 (Xc b),.int .i64 nn] v10 W:=hf 10 (by decide);obtain⟨bn,rfl,hbn,hcn⟩:=h10;refine YT rfl ?_;refine Qcf (.tmp 123) (.tmp 132) 145 rfl (w2.heap.size+1) 153 i0 _ 3 24 underlying145 Hhi.o hz0 hz1 hz2 rfl (by omega) cv cs.length rows.flatten (by rfl) (hI.own h0) ⟨bn,0,none⟩ 1 1 [.int .i64 fd,.int .i64 (Xc b),.int .i64 nn] (by rfl) (by rfl) (World.news_of_block hcn) (by simp[Value.oneCell']) (by omega) (by unfold maxLen;omega) (by omega) (by have:=hI.size;omega) (λv' w' h1 h2=>hR _ _ (hI.appended (hn 13 (by decide)) (by decide) hnb h2 (by omega)) (II.of_grown h2) h1));(go_simp;refine hK _ _ ?_;clear hK K))
           iterate 2 (refine Qj λK hK=>⟨λdn W hI h0 hd hn hf R hR=>?_,?_⟩;(first|(clear h0 hd hn hf;go_simp;exact hR _ _ (hI.step Zbr (by decide) (by decide)) (II.of_below Zbr) rfl)|(have h11:Qh5 (w2.heap.size+1) 153 3 (cs.length+1) (rows.flatten++[.int .i64 fd,.int .i64 (Xc b),.int .i64 nn]) v11 W:=hf 11 (by decide);have hda:dn 11=true:=hd 11 (by decide);have hst:=hI.stored (v:=v11) h0 hda (by decide) h11 (by omega);obtain⟨gv,cpv,rfl,_,_⟩:=World.ownsRow.form h11 (by omega);have hcb:=Qb (hI.before h0);have hfb:=Qp (hI.before h0);clear hd hn hf;go_simp;exact hR _ _ hst II.of_store rfl));(go_simp;refine hK _ ?_;clear hK K))
           intro dn W hdone hI hF;obtain⟨v',hbv,hov⟩:=hI.after (hdone 13 (by decide));have hbW:Below w2.heap.size w2 W:=hI.below (Ql (Ql Hbw.o Hbo.o) Hb3.o) Znl (λg hg=>by have:=Hown.o.block g hg;omega) (by omega);have Hbv:=Zh hbv;have Hov:=Zh hov;have HbW:=Zh hbW;clear hI hF hdone hbv hov hbW;go_wp2
           go_roundw
           case rel=>exact⟨j+1,cs++[⟨fd,Xc b,nn⟩],v',by go_num,by have:=Hlt.o;omega,by simp[Hcl.o],by
             show Ue _=_;rw[hcs.o,Ib (by simpa using hlt)];simp only[List.getElem_map,Hu.o,hc1.o]
             cases Ue (List.drop (j+1) (us.map (·.data.toList)))<;>simp,HbW.o,Hbv.o,
            ⟨rows++[[.int .i64 fd,.int .i64 (Xc b),.int .i64 nn]],Hro.o.app (Qq.cons (sz:=3) (R:=Ve) (x:=(⟨fd,Xc b,nn⟩:TCond)) (r:=[.int .i64 fd,.int .i64 (Xc b),.int .i64 nn]) Qq.nil rfl rfl),by
             have:=Hov.o;simpa using this⟩⟩
           case measure=>have:=Hlt.o;simp[intOf];omega
        obtain rfl:k=u.size:=by omega
        have hrd:Hid (VE s.data.toList=(⟨[],0⟩,1)):=hbad.o (by
         unfold Xh;rw[if_pos (show opAt u.data.toList=u.data.toList.length from EU _ u.data.toList.length Hop.o Znl (λc hc=>by simp at hc))])
        clear hom;go_wp2_with fail
        refine(Oy 1 _).mono ?_;rintro e w7⟨rfl,hb7⟩;have hr7:=Qd (Qd (Qd Hst2.o.res Hbw.o) Hbo.o) hb7;have hc7:=Qb hr7;have hf7:=Qp hr7;have hr8:=QJ (o:=1) (v:=.int .i64 0) (QJ (o:=0) (v:=.slice none 0 0) hr7);have hc8:=Qb hr8;have Hb8:=Zh (Qw (a:=⟨w.heap.size,1,none⟩) (v:=.int .i64 0) (Qw (a:=⟨w.heap.size,0,none⟩) (v:=.slice none 0 0) (Ql (Ql (Ql Hst2.o.bel Hbw.o) Hbo.o) hb7) Znl) Znl);go_wp2;rw[hrd.o];refine bodyPost_ret (v:=.tuple #[U8 (.slice none 0 0) 0,.int .i64 1]) ?_ rfl ⟨_,rfl,⟨none,0,rfl,Nat.le_refl _,by unfold maxLen;omega,λ_=>rfl,λh=>by cases h⟩,Hb8.o⟩;rw[results_cell_tmp rfl];go_simp
      obtain rfl:j=us.length:=by omega
      have hcs1:Hid (Ue (us.map (·.data.toList))=some cs):=by
       show Ue _=_;rw[hcs.o,List.drop_of_length_le (by simp)];simp[Ue]
      have hpc:=Qd Hst2.o.pc Hbw.o;have hcp:=Qb hpc;have hfp:=Qp hpc;have hcr:=Qb hrb;obtain⟨ca,cc,hcv,_⟩:=Sl.form (Hown.o.sl (D:=λ_=>True) λ_ _=>trivial);obtain⟨rows,hro,hrw⟩:=(Hst2.o.below Hbw.o).own;obtain⟨i0,hi0,hz0,hz1,hz2⟩:=info_parts Qhj;have hpo:∀g,pv.ownBlock=some g->w.heap.size+5<=g:=λg hg=>(hrw.lt g hg).1;have hpn:some (w.heap.size+4)≠pv.ownBlock:=λe=>by have:=hpo _ e.symm;omega
      have h1:∀u∈[cv,Value.int .i64 vd],u.oneCell'=true:=by rw[hcv];simp[Value.oneCell']
      have hsr':tr.size<t.size:=hsr trivial;have Hro:=Zh hro;have Hrw:=Zh hrw;have Hpc:=Zh hpc;have Hhi:=Zh hi0;have H1:=Zh h1;have Hrb:=Zh hrb;clear hro hrw hpc hi0 h1 hcv hsr hrb;go_wp2_with(at_builtin;refine wpList_append_lies _ rfl _ _ _ rfl (w.heap.size+5) 147 i0 _ 2 32 underlying36 Hhi.o hz0 hz1 hz2 rfl (by decide) pv rs.length rows.flatten rfl (Hrw.o.alloc _) ⟨wr.heap.size,0,none⟩ 1 1 [cv,.int .i64 vd] rfl rfl (World.news_of_block (cs:=#[cv,.int .i64 vd]) (UM rfl)) H1.o (by omega) (by unfold maxLen;omega) (by omega) (by simp;omega) (wr.heap.size+1) (by simp) ?_;intro gg cap w4 hown4 hgrow hat hlt4;have hb4:=(hgrow.block (w.heap.size+4) (by simp;omega) hpn).trans (QQ Hpc.o);have hc4:=Qb hb4;have hf4:=Qp hb4;have Hown4:=Zh hown4;have Hgrow:=Zh hgrow;have Hat:=Zh hat;clear hown4 hgrow hat hb4)
      go_roundw
      case rel=>exact⟨k,tr,rs++[⟨cs,vd⟩],.slice (some ⟨gg,0,none⟩) (rs.length+1) cap,rfl,by omega,by simp;omega,by
        show pread _ _=_;rw[hp.o,Hstep.o k,Hvd.o,hcs1.o];cases pread k tr.data.toList<;>simp,Qip Hst2.o Hbw.o Hown.o Hgrow.o Hown4.o Hro.o Hat.o⟩
      case measure=>simp;omega
end
end Go.Proofs.YthkgjohhbdipcaaGreatDoor
