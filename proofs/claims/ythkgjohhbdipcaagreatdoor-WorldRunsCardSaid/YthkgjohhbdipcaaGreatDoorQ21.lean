/- Texts laid one behind the other: MWhole, ConcatCond, Pair, DelF. No condition beyond theirs. -/
import Derived.Test.YthkgjohhbdipcaaGreatDoorQ17
import Derived.Test.YthkgjohhbdipcaaGreatDoorQ20
import Derived.Test.YthkgjohhbdipcaaGreatDoorQ6
import Derived.Test.YthkgjohhbdipcaaGreatDoorQ4
import Derived.Test.YthkgjohhbdipcaaGreatDoorQ8
import Derived.Test.YthkgjohhbdipcaaGreatDoorProg
import Derived.Test.YthkgjohhbdipcaaGreatDoorQ3
import Derived.KernelRfl
import Derived.Deep.LoopGhost
import Derived.Laws.ResultCell
import Derived.Lib.SliceRun
import Derived.Deep.MidRow
set_option linter.all false
set_option maxHeartbeats 64000000
set_option maxRecDepth 100000
namespace Go.Proofs.YthkgjohhbdipcaaGreatDoor
open Tryz
section
open Go.RowKit
attribute [local go_sem] gives QG
theorem Qgj(w:World)(D:Nat->Prop):QF w D (.slice none 0 0) []:=⟨none,0,rfl,Nat.le_refl _,by unfold maxLen;simp,λ_=>rfl,λh=>by cases h⟩
theorem QaM(v:Value)(p:TPol)(D:Nat->Prop)(w:World)(h:Qc w D v p.ru)(hn:p.ru.length<=120):
  Calls prog 226 #[U8 v p.df] w λe w'=>∃u,e=.returned u/\Qg w' w.heap.size 147 2 (VP w D) u (QP p)/\Below w.heap.size w w':=by
 have H:=Zh h;obtain⟨a,c,rfl,_⟩:=Sl.form h;clear h;obtain⟨i0,hi,hz0,hz1,hz2⟩:=info_parts Zj;have Hi:=Zh hi;clear hi;have HS:Hid (∀W,Cls (w.heap.size+1) (w.alloc (.cells #[.slice a p.ru.length c,.int .i64 p.df] 38)) W->∀j,W.cell? ⟨w.heap.size,j,none⟩=(#[.slice a p.ru.length c,.int .i64 p.df]:Array Value)[j]?):=λW hW=>(Bx.one.lift hW.2 (by simp)).cells0;have HR:Hid (∀W,Cls (w.heap.size+1) (w.alloc (.cells #[.slice a p.ru.length c,.int .i64 p.df] 38)) W->Sl W D 2 (VP w D) (.slice a p.ru.length c) p.ru):=λW hW=>H.o.belowR ((Qa Zbr _).trans (hW.2.mono (by omega))) (λ_ _ _ h=>h);go_enter func226,ntmps226;go_wp2_with fail
 refine QbN (w.heap.size+1) (by simp) 2 6 7 (λv W=>Qg W (w.heap.size+1) 147 2 (VP w D) v p.ru) (Yn (w.heap.size+1) 147 1 #[.slice none 0 0,.int .i64 p.df]) (λv W=>Qg W (w.heap.size+1) 147 2 (VP w D) v (p.ru++[⟨[],p.df⟩])) (by kernel_rfl) (by kernel_rfl) _ rfl
  (λ_ _ _ hb h=>h.below hb) (λ_ _ _ hb h=>h.below hb) (λ_ _ _ hb h=>h.below hb) ?_
 iterate 2 (refine QU (λK hK=>?_);apply Exists.intro;refine⟨λdn vf W hI h0 hd hn hf R hR=>?_,?_,?_⟩;(have hcell:=HS.o W hI;clear h0 hd hn hf;go_simp;exact hR _ _ (Cls.step hI Zbr) (λ_=>Below.refl _ _) rfl trivial);exact(λ_ _ _=>rfl);(go_simp;refine hK _ ?_;clear hK K))
 (refine VO λK hK=>⟨λdn vf W hI h0 hd hn hf R hR=>?_,?_⟩;(have hsl:=HR.o W hI;clear h0 hd hn hf;go_simp;go_at_call 155;refine(GH (VP w D) (λy cs h=>Nw y cs h) _ p.ru D W hsl (by omega)).mono ?_;(rintro e w4 ⟨v4,rfl,hr4,hb4⟩;exact⟨_,rfl,hR _ _ (Cls.step hI hb4) (λ_=>hb4) trivial (λ_=>hr4.base hI.1)⟩));(go_simp;refine hK _ ?_;clear hK K))
 iterate 3 (refine QU (λK hK=>?_);apply Exists.intro;refine⟨λdn vf W hI h0 hd hn hf R hR=>?_,?_,?_⟩;(have hcell:=HS.o W hI;clear h0 hd hn hf;go_simp;exact hR _ _ (Cls.step hI Zbr) (λ_=>Below.refl _ _) rfl trivial);exact(λ_ _ _=>rfl);(go_simp;refine hK _ ?_;clear hK K))
 (refine VO λK hK=>⟨λdn vf W hI h0 hd hn hf R hR=>?_,?_⟩;(clear h0 hd hn hf;go_simp;exact hR _ _ (Cls.step hI (Qa Zbr _)) (λ_=>Qa Zbr _) trivial (λ_=>⟨_,rfl,hI.1,Qh _ _⟩));(go_simp;refine hK _ ?_;clear hK K))
 (refine VO λK hK=>⟨λdn vf W hI h0 hd hn hf R hR=>?_,?_⟩;(have h2:Qg W (w.heap.size+1) 147 2 (VP w D) (vf 2) p.ru:=hf 2 (hd 2 (by decide)) h0;have h6:Yn (w.heap.size+1) 147 1 #[.slice none 0 0,.int .i64 p.df] (vf 6) W:=hf 6 (hd 6 (by decide)) h0;obtain⟨bn,hbv,hbn,hcn⟩:=h6;have hblk:=h2.block;obtain⟨rows,hrows,hown⟩:=h2;refine YT rfl ?_;refine V5 (.tmp 5) (.tmp 9) 36 rfl (w.heap.size+1) 147 i0 _ 2 32 underlying36 Hi.o hz0 hz1 hz2 rfl (by omega) (vf 2) p.ru.length rows.flatten (by rfl) hown ⟨bn,0,none⟩ 1 1 [.slice none 0 0,.int .i64 p.df] (by exact hbv) (by rfl) (World.news_of_block hcn) (by simp[Value.oneCell']) (by omega) (by unfold maxLen;omega) (by omega) hI.1 (λv' w' h1 h2 _=>hR _ _ ⟨Nat.le_trans hI.1 h2.size,Below.grown hI.2 h2 hI.1 hblk⟩ (λh=>absurd rfl h) trivial (Qg.app1 hrows ⟨_,rfl,Qgj _ _⟩ rfl h1 rfl)));(go_simp;refine hK _ ?_;clear hK K))
 (refine QU (λK hK=>?_);apply Exists.intro;refine⟨λdn vf W hI h0 hd hn hf R hR=>?_,?_,?_⟩;(clear h0 hd hn hf;go_simp;exact hR _ _ (Cls.step hI Zbr) (λ_=>Below.refl _ _) rfl trivial);exact(λf g h=>h 7 (by decide));(go_simp;refine hK _ ?_;clear hK K))
 intro dn vf w3 hd hI hF;have h7:Qg w3 (w.heap.size+1) 147 2 (VP w D) (vf 7) (p.ru++[⟨[],p.df⟩]):=hF 7 (by decide);have H7:=Zh (h7.base (base':=w.heap.size) (by omega));have HB:=Zh ((Qa (Below.refl w.heap.size w) (.cells #[.slice a p.ru.length c,.int .i64 p.df] 38)).trans (hI.2.mono (by omega)));clear hd hI hF h7;go_wp2;go_ret;exact⟨_,rfl,H7.o,HB.o⟩
theorem QeT(a b:Int)(w:World):Calls prog 219 #[.int .i64 a,.int .i64 b] w λe w'=>e=.returned (.int .i64 (exceptOf a b))/\w=w':=by
 go_enter func219,ntmps219;by_cases h:a<b
 .go_wp2;go_ret;exact⟨Q3 (by unfold exceptOf;rw[if_pos h]),rfl⟩
 go_wp2;go_ret;exact⟨Q3 (by unfold exceptOf;rw[if_neg (by omega)]),rfl⟩
end
section
open Go.RowKit
theorem EG:(prog.info? 153).map (λi=>(i.zero,i.size,i.bytes))=some (some (.agg #[.int .i64 0,.int .i64 0,.int .i64 0]),3,24):=by kernel_rfl
theorem Qch(n:Nat)(w:World)(hn:n*24<=140737488355328):Calls prog 214 #[.slice none 0 0,.int .i64 n] w λe w'=>∃v,e=.returned v/\Qg w' w.heap.size 153 3 Ve v ([]:List TCond)/\Below w.heap.size w w':=by
 by_cases h0:n=0
 .subst h0;go_enter func214,ntmps214;go_wp2;go_ret;exact⟨_,rfl,Qg.nil,Below.refl _ _⟩
 obtain⟨i0,hi,hz0,hz1,hz2⟩:=info_parts EG;have hrun:=λ(W:World)(ty:TypeId)=>Lib.run_append_nil_zeros (P:=prog) W 145 3 ty 153 i0 (.agg #[.int .i64 0,.int .i64 0,.int .i64 0]) .i64 .i64 underlying145 underlying3 hi hz0 n (by omega) (by rw[hz1];omega) (by omega) (by rw[hz2];omega);have hgc:∀W:World,grownCap W n 0 153<=maxLen:=λW=>grownCap_le_maxLen W n 0 153 (by unfold maxLen;omega);have h1:0<(n:Int):=by omega
 have h2:(n:Int)<=9223372036854775807:=by omega
 have Hrun:=Zh hrun;have Hz:=Zh hz1;clear hrun hi hz0 hz1 hz2 h0 hn;go_enter func214,ntmps214;go_wp2_with(at_builtin;refine Lib.wpList_append_run _ rfl _ _ _ _ rfl _ _ rfl rfl _ _ (Hrun.o _ _) ?_)
 go_ret;refine⟨_,rfl,⟨[],Qq.nil,by simp,.inr ⟨w.heap.size,grownCap w n 0 153,_,rfl,Nat.le_refl _,UM rfl,by simp,hgc w,?_,by simp⟩⟩,(Qa Zbr _).drew⟩;have hge:=grownCap_ge w n 0 153;simp[size_zeroCells];omega
theorem Qgl(y:TCond)(cs:List Value)(h:Ve y cs):∀c∈cs,c.oneCell'=true:=by
 unfold Ve at h;subst h;simp[Value.oneCell']
def QcG(w:World)(D:Nat->Prop)(l:List TCond)(cs:List Value):Prop:=∃u,cs=[u]/\Sl w D 3 Ve u l
theorem JO(v:Value)(ls:List (List TCond))(D:Nat->Prop)(w:World)(h:Sl w D 1 (QcG w D) v ls)(hn:Vy ls ls.length*24<=140737488355328):
  Calls prog 191 #[v] w λe w'=>∃v',e=.returned v'/\Qg w' w.heap.size 153 3 Ve v' ls.flatten/\Below w.heap.size w w':=by
 obtain⟨a,c,rfl,hlc,hcm,hat⟩:=Sl.form h;obtain⟨i0,hi,hz0,hz1,hz2⟩:=info_parts EG;have H:=Zh h;clear h
 have hrow:∀k (hk:k<ls.length) b o,a=some ⟨b,o,none⟩->∃(u:Value)(cu:Option Addr×Nat),u=Value.slice cu.1 ls[k].length cu.2/\Sl w D 3 Ve u ls[k]/\∀wr,Below w.heap.size w wr->wr.cell? ⟨b,o+k,none⟩=some u:=λk hk b o e=>by
  subst e;obtain⟨cs,hcs,⟨u,hu,hs⟩,hcell⟩:=Sl.get H.o hk;obtain⟨a',c',hv,_⟩:=Sl.form hs;refine⟨u,(a',c'),hv,hs,λwr hb=>?_⟩;subst hu;have hc:=hcell 0 u rfl;rw[Nat.mul_one]at hc;exact(hb.cell (p:=⟨b,o+k,none⟩) (World.block_lt_of_cell? _ _ hc)).trans hc
 have Hrow:=Zh hrow;have Hn:=Zh hn;have hn':Vy ls ls.length<=140737488355328:=by omega
 clear hrow hn;go_enter func191,ntmps191;go_wp2_with fail
 go_loop [3,11](λs i=>∃k:Nat,k<=ls.length/\i=.int .i64 k/\s=.int .i64 (Vy ls k)) (λ_ i=>ls.length-(intOf i).toNat)
 case atStart=>exact⟨0,by omega,rfl,rfl⟩
 case round=>
  obtain⟨k,hk,rfl,rfl⟩:=hrel;by_cases hlt:k<ls.length
  .obtain⟨b,o,rfl,hDb,hb⟩:=hat (by omega);obtain⟨u,⟨a',c'⟩,rfl,hs,hc⟩:=Hrow.o k hlt b o rfl;have hcw:=hc w Zbr;have hle:=YQ ls (k+1) (by omega);have Hs:=Zh (XA ls k hlt);have hle':Vy ls k+ls[k].length<=140737488355328:=by have:=Hs.o;omega
   clear hs hc;go_wp2
   go_round
   case rel=>exact⟨k+1,by omega,by go_num,by rw[Hs.o];go_num⟩
   case measure=>simp[intOf];omega
  obtain rfl:k=ls.length:=by omega
  go_wp2_with fail
  refine(Qch (Vy ls ls.length) _ Hn.o).mono ?_;rintro e w1⟨vg,rfl,hown,hb1⟩;go_wp2_with fail
  go_loopw[6,27](λs i wr=>∃(k:Nat)(vs:Value),k<=ls.length/\i=.int .i64 k/\vs=s/\Qg wr w.heap.size 153 3 Ve vs (ls.take k).flatten/\Below w.heap.size w wr) (λ_ i _=>ls.length-(intOf i).toNat)
  case atStart=>exact⟨0,vg,by omega,rfl,rfl,by simpa using hown,hb1⟩
  case round=>
   obtain⟨k,vs,hk,rfl,rfl,hown,hbw⟩:=hrel;have Hown:=Zh hown;have hsz:=hbw.size;clear hown;by_cases hlt:k<ls.length
   .obtain⟨b,o,rfl,hDb,hb⟩:=hat (by omega);obtain⟨u,⟨a',c'⟩,rfl,hs,hc⟩:=Hrow.o k hlt b o rfl;have hcw:=hc wr hbw;have hle:=YQ ls (k+1) (by omega);have Hl:=Zh (XA ls k hlt);have hs':Sl wr D 3 Ve (.slice a' ls[k].length c') ls[k]:=Sl.mono hs (λ_ h _=>h) (λb _ hlt=>hbw.block b hlt) hbw.size (λ_ _ _ h=>h);have Hs':=Zh hs';have Hs:=Zh (U1 ls k hlt);clear hs hc hs';go_wp2_with(at_builtin;refine U6 rfl _ _ 145 rfl w.heap.size 153 i0 _ 3 24 underlying145 hi hz0 hz1 hz2 rfl (by decide) _ _ rfl Hown.o _ _ rfl Hs'.o (λy _ cs h=>Qgl y cs h) (by have:=Hl.o;unfold Vy at *;unfold maxLen;omega) (by have:=Hn.o;have:=Hl.o;unfold Vy at *;omega) hsz ?_;intro v' w2 hown' hg)
    go_roundw
    case rel=>exact⟨k+1,v',by omega,by go_num,rfl,by rw[<-U1 ls k hlt];exact hown',Hown.o.grown hbw hg hsz Znl⟩
    case measure=>simp[intOf];omega
   obtain rfl:k=ls.length:=by omega
   have Hf:Hid (Qg wr w.heap.size 153 3 Ve vs ls.flatten):=by have:=Hown.o;rwa [List.take_length]at this
   go_wp2;go_ret;exact⟨_,rfl,Hf.o,hbw⟩
end
section
open Go.RowKit
attribute [local go_sem] gives QG
theorem QbD:147≠153:=by decide
def QdB(w0:World)(ca cb:Value)(cs:List TCond)(vd:Int)(k:Nat)(vf:Nat->Value)(W:World):Prop:=
 if k=6 then Yn w0.heap.size 145 2 #[ca,cb] (vf 6) W else if k=7 then Qg W w0.heap.size 153 3 Ve (vf 7) cs else if k=14 then Qg W w0.heap.size 153 3 Ve (vf 7) cs else if k=15 then Yn w0.heap.size 147 1 #[vf 7,.int .i64 vd] (vf 15) W/\Qg W w0.heap.size 153 3 Ve (vf 7) cs else True
theorem QaS{w0 w w':World}{ca cb:Value}{cs:List TCond}{vd:Int}{k:Nat}{vf:Nat->Value}(hb:∀b,w0.heap.size<=b->b<w.heap.size->w'.heap[b]?=w.heap[b]?)(h:QdB w0 ca cb cs vd k vf w):QdB w0 ca cb cs vd k vf w':=by
 unfold QdB at h⊢;split
 .rename_i e;rw[if_pos e]at h;exact h.keep hb
 rename_i e;rw[if_neg e]at h;split
 .rename_i e2;rw[if_pos e2]at h;exact h.keepFrom hb
 rename_i e2;rw[if_neg e2]at h;split
 .rename_i e3;rw[if_pos e3]at h;exact h.keepFrom hb
 rename_i e3;rw[if_neg e3]at h;split
 .rename_i e4;rw[if_pos e4]at h;exact⟨h.1.keep hb,h.2.keepFrom hb⟩
 trivial
theorem Qc0{W:World}{b:Nat}{T:TypeId}{u v:Value}{p q:List TCond}(hb:W.heap[b]?=some (.cells #[u,v] T))(hp:QF W (λ_=>True) u p)(hq:QF W (λ_=>True) v q):Sl W (λ_=>True) 1 (QcG W (λ_=>True)) (.slice (some ⟨b,0,none⟩) 2 2) [p,q]:=
 Ub (xs:=[p,q]) (rows:=[[u],[v]]) (Qq.cons (Qq.cons Qq.nil ⟨_,rfl,hq⟩ rfl) ⟨_,rfl,hp⟩ rfl) hb rfl trivial (by simp[maxLen])
theorem Qcr{α:Type}(p q:List α):Vy [p,q] [p,q].length=p.length+q.length:=by simp[Vy]
theorem VF(w:World)(D:Nat->Prop):Qc w D (.slice none 0 0) []:=⟨none,0,rfl,Nat.le_refl _,by unfold maxLen;simp,λ_=>rfl,λh=>by cases h⟩
theorem Qfb{of:Int->Int->Int}{l m:List TRule}{k:Nat}(h:k<l.length):pairs of (l.take (k+1)) m=pairs of (l.take k) m++m.map (Ui of l[k]):=by
 unfold pairs;rw[List.take_succ_eq_append_getElem h,List.flatMap_append];simp
theorem Zn(p q:TPol):VD [p,q]=if UZ p=0 then UZ q else UZ p:=by
 simp only[VD];split
 .rename_i h;split
  .rename_i h2;exact h2.symm
  rfl
 rfl
theorem Qfa{of:Int->Int->Int}{p q:TPol}(hp:UT p)(hq:UT q)(k:Nat):(pairs of ((QP p).take k) (QP q)).length+(QP q).length<=20000:=by
 rw[Qcw,List.length_take,X6,X6];have h1:=hp.len;have h2:=hq.len;have h3:min k (p.ru.length+1)*(q.ru.length+1)<=121*121:=Nat.mul_le_mul (by omega) (by omega);omega
theorem Ot{p:TPol}(h:UT p){r:TRule}(hr:r∈QP p):r.cd.length<=10:=by
 unfold QP at hr;rcases List.mem_append.1 hr with hr|hr
 .exact(h.ru r hr).len
 simp at hr;subst hr;simp
theorem Qhu(of:Int->Int->Int)(fn:FuncId)(hcf:∀(args:Array Value)(W:World),Sem.run prog (callFunc fn args) W=.ok (.enter fn args) W)(hof:∀(a b:Int)(w:World),Calls prog fn #[.int .i64 a,.int .i64 b] w λe w'=>e=.returned (.int .i64 (of a b))/\w=w')(u v:Value)(p q:TPol)(w:World)
  (hp:Qc w (λ_=>True) u p.ru) (hq:Qc w (λ_=>True) v q.ru):
  Calls prog 218 #[U8 u p.df,U8 v q.df,.func (.func fn) #[] #[]] w λe w'=>∃r,e=.returned (.tuple #[U8 r (VI of p q).1.df,.int .i64 (VI of p q).2])/\Qc w' (λb=>w.heap.size<=b/\VN w' b) r (VI of p q).1.ru/\Below w.heap.size w w':=by
 have Hof:=Zh hof;have Hcf:=Zh hcf;have Hp:=Zh hp;have Hq:=Zh hq;obtain⟨ap,cp,rfl,_⟩:=Sl.form hp;obtain⟨aq,cq,rfl,_⟩:=Sl.form hq;clear hp hq hof hcf;have hx0:∀W:World,(Instr.index 288 (.agg #[.slice ap p.ru.length cp,.int .i64 p.df,.slice aq q.ru.length cq,.int .i64 q.df]) (.int .i64 0)).run prog W=.ok (.agg #[.slice ap p.ru.length cp,.int .i64 p.df]) W:=λW=>by kernel_rfl
 have hx1:∀W:World,(Instr.index 288 (.agg #[.slice ap p.ru.length cp,.int .i64 p.df,.slice aq q.ru.length cq,.int .i64 q.df]) (.int .i64 1)).run prog W=.ok (.agg #[.slice aq q.ru.length cq,.int .i64 q.df]) W:=λW=>by kernel_rfl
 go_enter func218,ntmps218;go_wp2_with fail
 go_loopw[21](λiv wr=>∃i:Nat,iv=.int .i64 i/\i<=2/\(0<i->UZ p=0)/\(1<i->UZ q=0)/\Bx w [.cells #[.slice ap p.ru.length cp,.int .i64 p.df] 38,.cells #[.slice aq q.ru.length cq,.int .i64 q.df] 38,.cells #[.slice none 0 0,.int .i64 0] 38] wr) (λiv _=>2-(intOf iv).toNat)
 case atStart=>exact⟨0,rfl,by omega,λh=>absurd h (by omega),λh=>absurd h (by omega),Bx.three⟩
 case round=>
  obtain⟨i,rfl,hi,hpe,hqe,hB⟩:=hrel;have HB:=Zh hB;have Hpe:=Zh hpe;have Hqe:=Zh hqe;clear hB hpe hqe;by_cases hlt:i<2
  .rcases(by omega:i=0\/i=1)with rfl|rfl
   .go_wp2_with fail
    refine(UO _ p (λ_=>True) _ (Hp.o.below (HB.o.alloc _).bel)).mono ?_;rintro e w1⟨rfl,hb1⟩;have HB1:=Zh ((HB.o.alloc _).below hb1);clear hb1;by_cases h0:UZ p=0
    .have H0:=Zh h0;rw[h0];clear h0;go_wp2
     go_roundw
     case rel=>exact⟨1,rfl,by omega,λ_=>H0.o,λh=>absurd h (by omega),HB1.o⟩
     case measure=>simp[intOf]
    have hb0:(UZ p != 0)=true:=bne_iff_ne.2 h0;have HE:Hid (VI of p q=(zeroPol,UZ p)):=by show VI of p q=_;unfold VI;rw[Zn,if_neg h0,if_pos h0]
    have hc2:=HB1.o.cells2;have hf2:=HB1.o.free2;have HB2:=Zh (HB1.o.set (i:=2) rfl 0 (.slice none 0 0));have HB3:=Zh (HB2.o.set (i:=2) rfl 1 (.int .i64 0));have hc3:=HB3.o.cells2;clear h0;go_wp2;refine bodyPost_ret (v:=.tuple #[U8 (.slice none 0 0) 0,.int .i64 (UZ p)]) ?_ rfl (by rw[HE.o];exact⟨_,rfl,VF _ _,HB3.o.bel⟩);rw[results_cell_tmp rfl];go_simp
   have H0:=Hpe.o (by omega);have H0:=Zh H0;go_wp2_with fail
   refine(UO _ q (λ_=>True) _ (Hq.o.below (HB.o.alloc _).bel)).mono ?_;rintro e w1⟨rfl,hb1⟩;have HB1:=Zh ((HB.o.alloc _).below hb1);clear hb1;by_cases h0:UZ q=0
   .have H1:=Zh h0;rw[h0];clear h0;go_wp2
    go_roundw
    case rel=>exact⟨2,rfl,by omega,λ_=>H0.o,λ_=>H1.o,HB1.o⟩
    case measure=>simp[intOf]
   have hb0:(UZ q != 0)=true:=bne_iff_ne.2 h0;have HE:Hid (VI of p q=(zeroPol,UZ q)):=by show VI of p q=_;unfold VI;rw[Zn,if_pos H0.o,if_pos h0]
   have hc2:=HB1.o.cells2;have hf2:=HB1.o.free2;have HB2:=Zh (HB1.o.set (i:=2) rfl 0 (.slice none 0 0));have HB3:=Zh (HB2.o.set (i:=2) rfl 1 (.int .i64 0));have hc3:=HB3.o.cells2;clear h0;go_wp2;refine bodyPost_ret (v:=.tuple #[U8 (.slice none 0 0) 0,.int .i64 (UZ q)]) ?_ rfl (by rw[HE.o];exact⟨_,rfl,VF _ _,HB3.o.bel⟩);rw[results_cell_tmp rfl];go_simp
  obtain rfl:i=2:=by omega
  obtain⟨wo,rfl⟩:∃wo:World,wo=wr:=⟨_,rfl⟩;have hokp:=(UN p).1 (Hpe.o (by omega));have hokq:=(UN q).1 (Hqe.o (by omega));have Hokp:=Zh hokp;have Hokq:=Zh hokq;have hlp:=hokp.len;have hlq:=hokq.len;have HBa:=Zh (HB.o.alloc (.cells #[.slice none 0 0,.int .i64 0] 38));have hbox:=Zh (Qh wo (.cells #[.slice none 0 0,.int .i64 0] 38));have hc0:=HBa.o.cells0;have htop:=HB.o.top;have htop':w.heap.size+3<=wo.heap.size:=htop;clear hokp hokq htop;go_wp2_with fail
  clear hc0;refine(QaM _ p (λb=>b<w.heap.size) _ ((Og Hp.o).below HBa.o.bel) hlp).mono ?_;rintro e wA⟨vA,rfl,hoA,hbA⟩;have HBA:=Zh (HBa.o.below hbA);have HboxA:=Zh (Qd hbox.o hbA);have HA:Hid (Qc wA (λb=>b≠wo.heap.size/\b<wA.heap.size) vA (QP p)):=(QhH (B:=wo.heap.size+1) (β:=wo.heap.size) (by have:=hoA;simpa using this) hbA (by omega) (λb hb=>by omega)).keep (λ_ h hl=>⟨h,hl⟩) (λ_ _ _=>rfl) Znl;have hszA:wo.heap.size+1<=wA.heap.size:=by have:=hbA.size;simpa using this
  obtain⟨aA,cA,rfl⟩:=hoA.slice;obtain⟨i0,hi,hz0,hz1,hz2⟩:=info_parts Zj;have Hi:=Zh hi;have hlA:(QP p).length=p.ru.length+1:=X6 p;have hlB:(QP q).length=q.ru.length+1:=X6 q;clear hoA hbA hi;go_wp2_with fail
  go_loopw[34](λkv wk=>∃(k:Nat)(pk:Value),kv=.int .i64 k/\k<=(QP p).length/\UD wA.heap.size wo.heap.size (.int .i64 0) wA (.slice none 0 0) wk pk (pairs of ((QP p).take k) (QP q))) (λkv _=>(QP p).length-(intOf kv).toNat)
  case atStart=>exact⟨0,_,rfl,by omega,UD.start HboxA.o Qg.nil⟩
  case round=>
   obtain⟨k,pk,rfl,hk,hG⟩:=hrel;obtain⟨wk,rfl⟩:∃wk:World,wk=wr:=⟨_,rfl⟩;have HG:=Zh hG;clear hG;have HAk:Hid (Qc wk (λb=>b≠wo.heap.size/\b<wA.heap.size) (.slice aA (QP p).length cA) (QP p)):=HA.o.keep (λ_ h _=>h) (λb hb hl=>HG.o.blk b hl hb.1 (by simp[Value.ownBlock])) HG.o.size;have HBk:Hid (Bx w [.cells #[.slice ap p.ru.length cp,.int .i64 p.df] 38,.cells #[.slice aq q.ru.length cq,.int .i64 q.df] 38,.cells #[.slice none 0 0,.int .i64 0] 38] wk):=HBA.o.lift (B:=w.heap.size+3) (HG.o.belowB Zbr (by omega) (by omega) (λg hg=>by simp[Value.ownBlock]at hg)) (by simp);have hszk:=HG.o.size;by_cases hlt:k<(QP p).length
   .obtain⟨ba,oa,rfl,hDa,hba⟩:=Sl.at_ HAk.o (by omega);obtain⟨ca,cca,hca0,hca1,hra,hla,hma,_⟩:=Qc.cells HAk.o hlt;have Hmem:=Zh (List.getElem_mem hlt);have Htk:=Zh (Qfb (of:=of) (m:=QP q) hlt);obtain⟨ra,hrae⟩:∃ra,(QP p)[k]=ra:=⟨_,rfl⟩;rw[hrae]at hca0 hca1 hra hla Hmem Htk;have Hra:=Zh hra;have hcl:=Ot Hokp.o Hmem.o;have HBx:=Zh (HBk.o.alloc (.cells #[.slice ca ra.cd.length cca,.int .i64 ra.vd] 147));have hc1:=HBx.o.cells1;clear hra hrae;go_wp2_with fail
    clear hc1 hca0 hca1;refine(QaM _ q (λb=>b<w.heap.size) _ ((Og Hq.o).below HBx.o.bel) hlq).mono ?_;rintro e wB⟨vB,rfl,hoB,hbB⟩;have HGB:=Zh ((HG.o.below (Qa Zbr (.cells #[.slice ca ra.cd.length cca,.int .i64 ra.vd] 147))).below hbB);have H13B:Hid (wB.heap[wk.heap.size]?=some (.cells #[.slice ca ra.cd.length cca,.int .i64 ra.vd] 147)):=Qd (Qh _ _) hbB;have HraB:Hid (QF wB (λb=>b≠wo.heap.size/\b<wA.heap.size) (.slice ca ra.cd.length cca) ra.cd):=Hra.o.below (Ql (Qa Zbr _) hbB)
    have HBv:Hid (Qc wB (λb=>b≠wo.heap.size/\(b<w.heap.size\/wk.heap.size+1<=b)) vB (QP q)):=by
     have h1:=hoB;simp only[World.size_alloc]at h1;exact(h1.monoR λ_ _ _ ⟨u,e1,e2⟩=>⟨u,e1,e2.keep (λb hd _=>⟨by omega,.inl hd⟩) (λb _ hl=>hbB.block b hl) hbB.size⟩).sl λb hb'=>⟨by omega,.inr hb'⟩
    have hszB:wk.heap.size+1<=wB.heap.size:=by have:=hbB.size;simpa using this
    obtain⟨aB,cB,rfl⟩:=hoB.slice
    have Hpk:Hid (∀g,pk.ownBlock=some g->g<wk.heap.size/\wA.heap.size<=g):=λg hg=>by
     obtain⟨rows,_,ho⟩:=HG.o.own;exact⟨(ho.lt g hg).2,(ho.lt g hg).1⟩
    clear hoB hbB;go_wp2_with fail
    go_loopw[41](λjv wj=>∃(j:Nat)(pj:Value),jv=.int .i64 j/\j<=(QP q).length/\UD wA.heap.size wo.heap.size (.int .i64 0) wB pk wj pj (pairs of ((QP p).take k) (QP q)++((QP q).take j).map (Ui of ra))) (λjv _=>(QP q).length-(intOf jv).toNat)
    case atStart=>exact⟨0,_,rfl,by omega,by simpa using UD.start HGB.o.box HGB.o.own⟩
    case round=>
     obtain⟨j,pv,rfl,hj,hJ⟩:=hrel;obtain⟨wj,rfl⟩:∃wj:World,wj=wr:=⟨_,rfl⟩;have HJ:=Zh hJ;clear hJ;have hszj:=HJ.o.size;by_cases hjt:j<(QP q).length
     .have HBj:Hid (Qc wj (λb=>b≠wo.heap.size/\(b<w.heap.size\/wk.heap.size+1<=b)) (.slice aB (QP q).length cB) (QP q)):=HBv.o.keep (λ_ h _=>h) (λb hb hl=>HJ.o.blk b hl hb.1 (λe=>by have:=Hpk.o b e.symm;omega)) HJ.o.size;obtain⟨bb,ob,rfl,hDb,hbb⟩:=Sl.at_ HBj.o (by omega);obtain⟨cb,ccb,hcb0,hcb1,hrb,hlb,hmb,_⟩:=Qc.cells HBj.o hjt;have Hmemb:=Zh (List.getElem_mem hjt);have Htj:=Zh (List.take_succ_eq_append_getElem hjt);obtain⟨rb,hrbe⟩:∃rb,(QP q)[j]=rb:=⟨_,rfl⟩;rw[hrbe]at hcb0 hcb1 hrb hlb Hmemb Htj;have hcm:=Ot Hokq.o Hmemb.o;have Hlen:=Zh (Qfa (of:=of) Hokp.o Hokq.o k);obtain⟨rs,hrs⟩:∃rs,pairs of ((QP p).take k) (QP q)++((QP q).take j).map (Ui of ra)=rs:=⟨_,rfl⟩;have hrl:rs.length<=20000:=by rw[<-hrs,List.length_append,List.length_map,List.length_take];have:=Hlen.o;omega
      have Hrs:=Zh hrs;rw[hrs]at HJ;have H15:Hid ((wj.alloc (.cells #[.slice cb rb.cd.length ccb,.int .i64 rb.vd] 147)).heap[wj.heap.size]?=some (.cells #[.slice cb rb.cd.length ccb,.int .i64 rb.vd] 147)):=Qh _ _;have H13:Hid ((wj.alloc (.cells #[.slice cb rb.cd.length ccb,.int .i64 rb.vd] 147)).heap[wk.heap.size]?=some (.cells #[.slice ca ra.cd.length cca,.int .i64 ra.vd] 147)):=QQ ((HJ.o.blk wk.heap.size (by omega) (by omega) (λe=>by have:=Hpk.o _ e.symm;omega)).trans H13B.o);have Hra0:Hid (QF (wj.alloc (.cells #[.slice cb rb.cd.length ccb,.int .i64 rb.vd] 147)) (λb=>b≠wo.heap.size) (.slice ca ra.cd.length cca) ra.cd):=(HraB.o.keep (D':=λb=>b≠wo.heap.size) (λ_ h _=>h.1) (λb hb hl=>HJ.o.blk b hl hb.1 (λe=>by have:=Hpk.o b e.symm;omega)) HJ.o.size).below (Qa Zbr _);have Hrb0:Hid (QF (wj.alloc (.cells #[.slice cb rb.cd.length ccb,.int .i64 rb.vd] 147)) (λb=>b≠wo.heap.size) (.slice cb rb.cd.length ccb) rb.cd):=(hrb.keep (D':=λb=>b≠wo.heap.size) (λ_ h _=>h.1) (λ_ _ _=>rfl) Znl).below (Qa Zbr _);have Hbox0:Hid ((wj.alloc (.cells #[.slice cb rb.cd.length ccb,.int .i64 rb.vd] 147)).heap[wo.heap.size]?=some (.cells #[pv,.int .i64 0] 38)):=QQ HJ.o.box;obtain⟨rows,hro,hrow⟩:=HJ.o.own;have Hcv:Hid (∀g,pv.ownBlock=some g->g≠wo.heap.size):=λg hg=>by have:=(hrow.lt g hg).1;omega
      have Hro:=Zh hro;have Hrow:Hid ((wj.alloc (.cells #[.slice cb rb.cd.length ccb,.int .i64 rb.vd] 147)).ownsRow wA.heap.size 147 2 pv rs.length rows.flatten):=Uh hrow λb _ hl _=>(Qa (Below.refl wj.heap.size wj) _).block b hl;have Hβ0:Hid (wo.heap.size<(wj.alloc (.cells #[.slice cb rb.cd.length ccb,.int .i64 rb.vd] 147)).heap.size):=by show _<_;simp;omega
      have H13lt:Hid (wk.heap.size<(wj.alloc (.cells #[.slice cb rb.cd.length ccb,.int .i64 rb.vd] 147)).heap.size):=by show _<_;simp;omega
      have H13ne:Hid (wk.heap.size≠wo.heap.size):=by show _≠_;omega
      have H15lt:Hid (wj.heap.size<(wj.alloc (.cells #[.slice cb rb.cd.length ccb,.int .i64 rb.vd] 147)).heap.size):=by show _<_;simp
      have H15ne:Hid (wj.heap.size≠wo.heap.size):=by show _≠_;omega
      have HwA:Hid (wA.heap.size<=(wj.alloc (.cells #[.slice cb rb.cd.length ccb,.int .i64 rb.vd] 147)).heap.size):=by show _<=_;simp;omega
      obtain⟨vd,hvd⟩:∃vd,of ra.vd rb.vd=vd:=⟨_,rfl⟩;have Hvd:=Zh hvd;clear hrs hrbe hro hrow hvd hrb;go_wp2_with fail
      clear hcb0 hcb1;revert H15 H13 Hra0 Hrb0 Hbox0 Hrow Hβ0 H13lt H15lt HwA;obtain⟨w0,hw0⟩:∃w0,wj.alloc (.cells #[.slice cb rb.cd.length ccb,.int .i64 rb.vd] 147)=w0:=⟨_,rfl⟩;have HbJ:Hid (Below wj.heap.size wj w0):=by show Below _ _ _;rw[<-hw0];exact Qa Zbr _
      rw[hw0];clear hw0;intro H15 H13 Hra0 Hrb0 Hbox0 Hrow Hβ0 H13lt H15lt HwA
      refine ZO wo.heap.size 38 #[pv,.int .i64 0] 0 wA.heap.size 147 2 pv rs.length rows.flatten 1 (λvf=>[vf 7,.int .i64 vd]) 16 18 (QdB w0 (.slice ca ra.cd.length cca) (.slice cb rb.cd.length ccb) (ra.cd++rb.cd) vd) (by kernel_rfl) (by kernel_rfl) _ rfl Hbox0.o Hrow.o (by omega) Hcv.o (by decide) (by decide) (λk vf w1 w2 hb _ h=>QaS hb h)
       (λk f g w1 hfg hk h=>by
        unfold QdB at h⊢;split
        .rename_i e;subst e;rw[if_pos rfl,hk]at h;exact h
        rename_i e;rw[if_neg e]at h;split
        .rename_i e2;subst e2;rw[if_pos rfl,hk]at h;exact h
        rename_i e2;rw[if_neg e2]at h;split
        .rename_i e3;subst e3;rw[if_pos rfl,hfg 7 (by decide)]at h;exact h
        rename_i e3;rw[if_neg e3]at h;split
        .rename_i e4;subst e4;rw[if_pos rfl,hk,hfg 7 (by decide)]at h;exact h
        trivial) (λf g h=>by show [f 7,_]=[g 7,_];rw[h 7 (by decide)]) ?_
      iterate 6 (refine QU (λK hK=>?_);apply Exists.intro;refine⟨λdn vf W hI h0 hd hn hf R hR=>?_,?_,?_⟩;(first|(clear h0 hd hn hf;go_simp;exact hR _ _ (hI.step Zbr (by decide) (by decide) Hβ0.o) (ApT.of_below Zbr) rfl trivial);exact(λ_ _ _=>rfl)|(have hcell:=Qb (hI.before (hn 18 (by decide)));clear h0 hd hn hf;go_simp;exact hR _ _ (hI.step Zbr (by decide) (by decide) Hβ0.o) (ApT.of_below Zbr) rfl trivial);exact(λ_ _ _=>rfl)|(have hcell:=Qb ((hI.old (hn 16 (by decide)) _ H13lt.o H13ne.o).trans H13.o);clear h0 hd hn hf;go_simp;exact hR _ _ (hI.step Zbr (by decide) (by decide) Hβ0.o) (ApT.of_below Zbr) rfl trivial);exact(λ_ _ _=>rfl)|(have hcell:=Qb ((hI.old (hn 16 (by decide)) _ H15lt.o H15ne.o).trans H15.o);clear h0 hd hn hf;go_simp;exact hR _ _ (hI.step Zbr (by decide) (by decide) Hβ0.o) (ApT.of_below Zbr) rfl trivial);exact(λ_ _ _=>rfl));(go_simp;refine hK _ ?_;clear hK K))
      (refine VO λK hK=>⟨λdn vf W hI h0 hd hn hf R hR=>?_,?_⟩;(clear h0 hd hn hf;go_simp;exact hR _ _ (hI.step (Qa Zbr _) (by decide) (by decide) Hβ0.o) (ApT.of_below (Qa Zbr _)) trivial ⟨_,rfl,hI.size,Qh _ _⟩);(go_simp;refine hK _ ?_;clear hK K))
      (refine VO λK hK=>⟨λdn vf W hI h0 hd hn hf R hR=>?_,?_⟩;(have h6:Yn w0.heap.size 145 2 #[.slice ca ra.cd.length cca,.slice cb rb.cd.length ccb] (vf 6) W:=hf 6 (hd 6 (by decide));obtain⟨b6,h6,hb6,hc6⟩:=h6;have Hc6:=Zh hc6;have HW:=Zh (hI.old (hn 16 (by decide)));have Hsz:=Zh hI.size;clear h0 hd hn hf hc6;go_simp;go_at_call 191;refine(JO (.slice (some ⟨b6,0,none⟩) 2 2) [ra.cd,rb.cd] (λ_=>True) W (Qc0 Hc6.o (Hra0.o.keep (λ_ _ _=>trivial) (λb hb hl=>HW.o b hl hb) Hsz.o) (Hrb0.o.keep (λ_ _ _=>trivial) (λb hb hl=>HW.o b hl hb) Hsz.o)) (by rw[Qcr];omega)).mono ?_;(rintro e w5 ⟨v5,rfl,ho5,hb5⟩;exact⟨_,rfl,hR _ _ (hI.step hb5 (by decide) (by decide) Hβ0.o) (ApT.of_below hb5) trivial (show Qg w5 w0.heap.size 153 3 Ve v5 (ra.cd++rb.cd) by have:=ho5.base Hsz.o;simpa using this)⟩));(go_simp;refine hK _ ?_;clear hK K))
      iterate 6 (refine QU (λK hK=>?_);apply Exists.intro;refine⟨λdn vf W hI h0 hd hn hf R hR=>?_,?_,?_⟩;(first|(clear h0 hd hn hf;go_simp;exact hR _ _ (hI.step Zbr (by decide) (by decide) Hβ0.o) (ApT.of_below Zbr) rfl trivial);exact(λ_ _ _=>rfl)|(have hcf:=Hcf.o;clear h0 hd hn hf;go_simp;refine(Hof.o _ _ _).mono ?_;rintro e w5 ⟨rfl,rfl⟩;exact⟨_,rfl,hR _ _ (hI.step Zbr (by decide) (by decide) Hβ0.o) (ApT.of_below Zbr) rfl trivial⟩);exact(λ_ _ _=>rfl)|(have hcell:=Qb ((hI.old (hn 16 (by decide)) _ H13lt.o H13ne.o).trans H13.o);clear h0 hd hn hf;go_simp;exact hR _ _ (hI.step Zbr (by decide) (by decide) Hβ0.o) (ApT.of_below Zbr) rfl trivial);exact(λ_ _ _=>rfl)|(have hcell:=Qb ((hI.old (hn 16 (by decide)) _ H15lt.o H15ne.o).trans H15.o);clear h0 hd hn hf;go_simp;exact hR _ _ (hI.step Zbr (by decide) (by decide) Hβ0.o) (ApT.of_below Zbr) rfl trivial);exact(λ_ _ _=>rfl));(go_simp;refine hK _ ?_;clear hK K))
      (refine QU λK hK=>⟨λvf=>.agg #[vf 7,.int .i64 vd],λdn vf W hI h0 hd hn hf R hR=>?_,?_,?_⟩;(have h7:Qg W w0.heap.size 153 3 Ve (vf 7) (ra.cd++rb.cd):=hf 7 (hd 7 (by decide));have h7k:=h7;obtain⟨a7,c7,h7⟩:=h7.slice;generalize(ra.cd++rb.cd).length=n7 at h7;clear h0 hd hn hf;go_simp;exact hR _ _ (hI.step Zbr (by decide) (by decide) Hβ0.o) (ApT.of_below Zbr) (by show _=Value.agg #[vf 7,.int .i64 vd];rw[h7,<-Hvd.o]) h7k);exact(λf g h=>by show Value.agg #[f 7,_]=Value.agg #[g 7,_];rw[h 7 (by decide)]);(go_simp;refine hK _ ?_;clear hK K))
      (refine VO λK hK=>⟨λdn vf W hI h0 hd hn hf R hR=>?_,?_⟩;(have h7:Qg W w0.heap.size 153 3 Ve (vf 7) (ra.cd++rb.cd):=hf 14 (hd 14 (by decide));have H7k:=Zh h7;obtain⟨a7,c7,h7⟩:=h7.slice;generalize(ra.cd++rb.cd).length=n7 at h7;have H7:=Zh h7;clear h0 hd hn hf;go_simp;exact hR _ _ (hI.step (Qa Zbr _) (by decide) (by decide) Hβ0.o) (ApT.of_below (Qa Zbr _)) trivial ⟨⟨_,rfl,hI.size,by rw[Qh];show some (Obj.cells #[.slice a7 n7 c7,.int .i64 vd] _)=some (Obj.cells #[vf 7,.int .i64 vd] _);rw[H7.o]⟩,H7k.o.below (Qa Zbr _)⟩);(go_simp;refine hK _ ?_;clear hK K))
      (refine VO λK hK=>⟨λdn vf W hI h0 hd hn hf R hR=>?_,?_⟩;(have h15:Yn w0.heap.size 147 1 #[vf 7,.int .i64 vd] (vf 15) W/\Qg W w0.heap.size 153 3 Ve (vf 7) (ra.cd++rb.cd):=hf 15 (hd 15 (by decide));obtain⟨⟨bn,hbv,hbn,hcn⟩,h7⟩:=h15;obtain⟨a7,c7,h7⟩:=h7.slice;refine YT rfl ?_;refine V5 (.tmp 46) (.tmp 60) 36 rfl wA.heap.size 147 i0 _ 2 32 underlying36 Hi.o hz0 hz1 hz2 rfl (by omega) pv rs.length rows.flatten (by rfl) (hI.own h0) ⟨bn,0,none⟩ 1 1 [vf 7,.int .i64 vd] (by exact hbv) (by rfl) (World.news_of_block hcn) (by rw[h7];simp[Value.oneCell']) (by omega) (by unfold maxLen;omega) (by omega) (by have:=hI.size;have:=HwA.o;omega) (λv' w' h1 h2 h3=>hR _ _ (hI.appended (hn 18 (by decide)) Hcv.o h2 Hβ0.o) (ApT.of_grown h2) trivial ⟨by exact h1,by rcases h3 with h3|h3;exact .inl h3;exact .inr (λg hg=>by have h9:v'.ownBlock=some g:=hg;rw[h3]at h9;injection h9 with h9;have:=hI.size;omega)⟩));(go_simp;refine hK _ ?_;clear hK K))
      iterate 2 (refine QU (λK hK=>?_);apply Exists.intro;refine⟨λdn vf W hI h0 hd hn hf R hR=>?_,?_,?_⟩;(first|(clear h0 hd hn hf;go_simp;exact hR _ _ (hI.step Zbr (by decide) (by decide) Hβ0.o) (ApT.of_below Zbr) rfl trivial);exact(λ_ _ _=>rfl)|(have h16:W.ownsRow wA.heap.size 147 2 (vf 16) (rs.length+1) (rows.flatten++[vf 7,.int .i64 vd])/\_:=hf 16 (hd 16 (by decide));obtain⟨gv,cpv,hv16,_,_⟩:=World.ownsRow.form h16.1 (by omega);have hst:=hI.stored (off:=0) (v:=vf 16) (hd 16 (by decide)) (by decide);have hbf:=hI.before h0;have hcb:=Qb hbf;have hfb:=Qp hbf;have Hst:=Zh hst;have Hset:=Zh (QJ (o:=0) (v:=vf 16) hbf);have H16:=Zh hv16;clear hd hn hf h16 hst hbf;go_simp;rw[<-H16.o];exact hR _ _ Hst.o ApT.of_store rfl Hset.o);exact(λ_ _ _=>rfl));(go_simp;refine hK _ ?_;clear hK K))
      intro dn vf W hd hI hF;have h7:Qg W w0.heap.size 153 3 Ve (vf 7) (ra.cd++rb.cd):=hF 7 (by decide);have h16:W.ownsRow wA.heap.size 147 2 (vf 16) (rs.length+1) (rows.flatten++[vf 7,.int .i64 vd])/\((vf 16).ownBlock=pv.ownBlock\/∀g,(vf 16).ownBlock=some g->w0.heap.size<=g):=hF 16 (by decide);have h18:W.heap[wo.heap.size]?=some (.cells (#[pv,.int .i64 0].setIfInBounds 0 (vf 16)) 38):=hF 18 (by decide);have HN:=Zh (UD.step HJ.o HbJ.o (by omega) HwA.o hI Hro.o h16.1 h16.2 h18 h7 QbD);clear hd hI hF h7 h16 h18;go_wp2
      go_roundw
      case rel=>exact⟨j+1,vf 16,by go_num,by omega,by rw[Htj.o,List.map_append,<-List.append_assoc,Hrs.o];have:=HN.o;rw[<-Hvd.o]at this;exact this⟩
      case measure=>simp[intOf];omega
     obtain rfl:j=(QP q).length:=by omega
     have HN:=Zh (HGB.o.trans HJ.o);go_wp2
     go_roundw
     case rel=>exact⟨k+1,pv,by go_num,by omega,by rw[Htk.o];have:=HN.o;rw[List.take_length]at this;exact this⟩
     case measure=>simp[intOf];omega
   obtain rfl:k=(QP p).length:=by omega
   obtain⟨P,hP⟩:∃P,VK of p q=P:=⟨_,rfl⟩;obtain⟨vD,hvD⟩:∃vD,of p.df q.df=vD:=⟨_,rfl⟩;have hPd:P.df=vD:=by rw[<-hP,<-hvD];rfl
   have HL:Hid (Qc wk (λb=>wA.heap.size<=b/\VN wk b) pk (P.ru++[⟨[],vD⟩])):=by
    have:=HG.o.ru;rw[List.take_length,QaT,hP,hvD]at this;exact this
   have HPl:=Zh (QdC of p q);rw[hP]at HPl
   have HPE:Hid (VI of p q=if UZ P=0 then(P,0)else(zeroPol,UZ P)):=by
    show VI of p q=_;unfold VI;rw[Zn,if_pos (Hpe.o (by omega)),Hqe.o (by omega),if_neg (by simp),hP];by_cases h:UZ P=0
    .rw[if_neg (by simp[h]),if_pos h]
    rw[if_pos h,if_neg h]
   obtain⟨n,hn⟩:∃n,P.ru.length=n:=⟨_,rfl⟩;have hlen:(P.ru++[(⟨[],vD⟩:TRule)]).length=n+1:=by simp[hn]
   obtain⟨aP,cP,hpk,hcP,hcM,_⟩:=Sl.form HL.o;rw[hlen]at hpk hcP;subst hpk;obtain⟨bP,oP,rfl,hDP,hbP⟩:=Sl.at_ HL.o (by rw[hlen];omega);obtain⟨cx,ccx,_,hv1,_⟩:=Qc.cells HL.o (i:=n) (by rw[hlen];omega)
   have hget:(P.ru++[(⟨[],vD⟩:TRule)])[n]'(by rw[hlen];omega)=⟨[],vD⟩:=by
    rw[List.getElem_append_right (by omega)];simp
   rw[hget]at hv1;have hcb:=Qb HG.o.box;have hfb:=Qp HG.o.box;have hs1:=Qb (QJ (o:=1) (v:=.int .i64 vD) HG.o.box);have hfb1:=Qp (QJ (o:=1) (v:=.int .i64 vD) HG.o.box);have Hst:Hid (((wk.setCell ⟨wo.heap.size,1,none⟩ (.int .i64 vD)).setCell ⟨wo.heap.size,0,none⟩ (.slice (some ⟨bP,oP,none⟩) n cP)).heap[wo.heap.size]?=some (.cells #[.slice (some ⟨bP,oP,none⟩) n cP,.int .i64 vD] 38)):=QJ (QJ HG.o.box);have hs2:=Qb Hst.o;have Hbs:Hid (Below wo.heap.size wk ((wk.setCell ⟨wo.heap.size,1,none⟩ (.int .i64 vD)).setCell ⟨wo.heap.size,0,none⟩ (.slice (some ⟨bP,oP,none⟩) n cP))):=Qw (Qw Zbr Znl) Znl
   have HR2:Hid (Qc ((wk.setCell ⟨wo.heap.size,1,none⟩ (.int .i64 vD)).setCell ⟨wo.heap.size,0,none⟩ (.slice (some ⟨bP,oP,none⟩) n cP)) (λb=>wA.heap.size<=b/\VN ((wk.setCell ⟨wo.heap.size,1,none⟩ (.int .i64 vD)).setCell ⟨wo.heap.size,0,none⟩ (.slice (some ⟨bP,oP,none⟩) n cP)) b) (.slice (some ⟨bP,oP,none⟩) n cP) P.ru):=by
    have h1:Qc wk (λb=>wA.heap.size<=b/\VN wk b) (.slice (some ⟨bP,oP,none⟩) n cP) ((P.ru++[(⟨[],vD⟩:TRule)]).take n):=Sl.take HL.o (by omega);rw[<-hn,List.take_left' rfl,hn]at h1;have hsame:∀b,wA.heap.size<=b->((wk.setCell ⟨wo.heap.size,1,none⟩ (.int .i64 vD)).setCell ⟨wo.heap.size,0,none⟩ (.slice (some ⟨bP,oP,none⟩) n cP)).heap[b]?=wk.heap[b]?:=λb hb=>by rw[Qm (by show b≠wo.heap.size;omega),Qm (by show b≠wo.heap.size;omega)]
    exact h1.keep (λb h _=>⟨h.1,h.2.keep (hsame b h.1)⟩) (λb hb _=>hsame b hb.1) (by rw[Qr,Qr];exact Nat.le_refl _)
   have HB2:=Zh (HBk.o.lift (B:=w.heap.size+3) (Hbs.o.mono (by omega)) (by simp));have Hn:=Zh hn;have Hpd:=Zh hPd;have Hsz2:Hid (wo.heap.size<((wk.setCell ⟨wo.heap.size,1,none⟩ (.int .i64 vD)).setCell ⟨wo.heap.size,0,none⟩ (.slice (some ⟨bP,oP,none⟩) n cP)).heap.size):=by show _<_;rw[Qr,Qr];omega
   clear hget hP hvD hPd;go_wp2_with fail
   clear hcb hfb hs1 hfb1 hs2 hv1;revert Hst Hbs HR2 HB2 Hsz2;generalize((wk.setCell ⟨wo.heap.size,1,none⟩ (.int .i64 vD)).setCell ⟨wo.heap.size,0,none⟩ (.slice (some ⟨bP,oP,none⟩) n cP))=wz;intro Hst Hbs HR2 HB2 Hsz2
   have HC:Hid (Calls prog 74 #[U8 (.slice (some ⟨bP,oP,none⟩) n cP) vD] wz λe w'=>e=.returned (.int .i64 (UZ P))/\Below wz.heap.size wz w'):=by
    have:=UO (.slice (some ⟨bP,oP,none⟩) n cP) P _ wz HR2.o;rw[Hpd.o]at this;exact this
   refine HC.o.mono ?_;rintro e w6⟨rfl,hb6⟩;have HB6:=Zh (HB2.o.below hb6);have Hst6:=Zh (Qd Hst.o hb6);have HR6:Hid (Qc w6 (λb=>wA.heap.size<=b/\VN w6 b) (.slice (some ⟨bP,oP,none⟩) n cP) P.ru):=HR2.o.keep (λb h hl=>⟨h.1,h.2.keep (hb6.block b hl)⟩) (λb _ hl=>hb6.block b hl) hb6.size;clear hb6;have hc2:=HB6.o.cells2;have hf2:=HB6.o.free2;by_cases h0:UZ P=0
   .have HE:Hid (VI of p q=(P,0)):=by show VI of p q=_;rw[HPE.o,if_pos h0]
    rw[h0];have hcb:=Qb Hst6.o;have HB7:=Zh (HB6.o.set (i:=2) rfl 0 (.slice (some ⟨bP,oP,none⟩) n cP));have HB8:=Zh (HB7.o.set (i:=2) rfl 1 (.int .i64 vD));have hc3:=HB8.o.cells2
    have HR8:Hid (Qc ((w6.setCell ⟨w.heap.size+2,0,none⟩ (.slice (some ⟨bP,oP,none⟩) n cP)).setCell ⟨w.heap.size+2,1,none⟩ (.int .i64 vD)) (λb=>w.heap.size<=b/\VN ((w6.setCell ⟨w.heap.size+2,0,none⟩ (.slice (some ⟨bP,oP,none⟩) n cP)).setCell ⟨w.heap.size+2,1,none⟩ (.int .i64 vD)) b) (.slice (some ⟨bP,oP,none⟩) n cP) P.ru):=by
     have hsame:∀b,wA.heap.size<=b->((w6.setCell ⟨w.heap.size+2,0,none⟩ (.slice (some ⟨bP,oP,none⟩) n cP)).setCell ⟨w.heap.size+2,1,none⟩ (.int .i64 vD)).heap[b]?=w6.heap[b]?:=λb hb=>by rw[Qm (by show b≠w.heap.size+2;omega),Qm (by show b≠w.heap.size+2;omega)]
     exact HR6.o.keep (λb h _=>⟨by have:=h.1;omega,h.2.keep (hsame b h.1)⟩) (λb hb _=>hsame b hb.1) (by rw[Qr,Qr];exact Nat.le_refl _)
    clear h0;go_wp2;refine bodyPost_ret (v:=.tuple #[U8 (.slice (some ⟨bP,oP,none⟩) n cP) vD,.int .i64 0]) ?_ rfl (by rw[HE.o];exact⟨_,by rw[Hpd.o],HR8.o,HB8.o.bel⟩);rw[results_cell_tmp rfl];go_simp
   have hb0:(UZ P != 0)=true:=bne_iff_ne.2 h0;have HE:Hid (VI of p q=(zeroPol,UZ P)):=by show VI of p q=_;rw[HPE.o,if_neg h0]
   have HB7:=Zh (HB6.o.set (i:=2) rfl 0 (.slice none 0 0));have HB8:=Zh (HB7.o.set (i:=2) rfl 1 (.int .i64 0));have hc3:=HB8.o.cells2;clear h0;go_wp2;refine bodyPost_ret (v:=.tuple #[U8 (.slice none 0 0) 0,.int .i64 (UZ P)]) ?_ rfl (by rw[HE.o];exact⟨_,rfl,VF _ _,HB8.o.bel⟩);rw[results_cell_tmp rfl];go_simp
end
section
open Go.RowKit
theorem En(n f:Int)(bf:Nat)(w:World)(hx:w.cell? ⟨bf,0,none⟩=some (.int .i64 f)):
  Calls prog 245 #[.int .i64 n,.pointer (some ⟨bf,0,none⟩)] w λe w'=>e=.returned (.bool (decide (QY f<n)))/\w=w':=by
 go_enter func245,ntmps245;go_wp2_with(go_at_call 135;refine(Jz _ _).mono ?_;rintro e w1 ⟨rfl,rfl⟩)
 go_ret;exact⟨rfl,rfl⟩
@[reducible] def QiI(bf:Nat):Value:=.func (.func 245) #[] #[.pointer (some ⟨bf,0,none⟩)]
theorem NZ(v:Value)(l:List Int)(f:Int)(bf:Nat)(D:Nat->Prop)(w:World)(h:UR w D v l)(hx:w.cell? ⟨bf,0,none⟩=some (.int .i64 f)):
  Calls prog 253 #[v,QiI bf] w λe w'=>
   ∃n:Int,e=.returned (.int .i64 n)/\((n = -1/\∀x∈l,x<=QY f)\/∃(i:Nat)(h:i<l.length),n=i/\QY f<l[i]/\∀x∈l.take i,x<=QY f)/\w=w':=by
 obtain⟨a,c,rfl,hlc,hcm,hat⟩:=Sl.form h;have H:=Zh h;clear h;go_enter func253,ntmps253;go_wp2_with fail
 go_loop [8] (λi=>∃k:Nat,k<=l.length/\i=.int .i64 k/\∀x∈l.take k,x<=QY f) (λi=>l.length-(intOf i).toNat)
 case atStart=>exact⟨0,by omega,rfl,by simp⟩
 case round=>
  obtain⟨k,hk,rfl,hall⟩:=hrel;have Hall:=Zh hall;clear hall;by_cases hlt:k<l.length
  .obtain⟨b,o,rfl,hDb,hb⟩:=hat (by omega);have c0:=UR.cell H.o hlt;have Hta:=Zh (List.take_succ_eq_append_getElem hlt);obtain⟨x,hx'⟩:∃x,l[k]=x:=⟨_,rfl⟩;rw[hx']at c0 Hta;have Hxk:=Zh hx';clear hx';by_cases hgt:QY f<x
   .have hd:decide (QY f<x)=true:=decide_eq_true hgt;have Hgt:=Zh hgt;clear hgt;go_wp2_with fail
    refine(En x f bf _ hx).mono ?_;rintro e w1⟨rfl,rfl⟩;go_wp2;go_ret;exact⟨_,rfl,.inr ⟨k,hlt,rfl,by rw[Hxk.o];exact Hgt.o,Hall.o⟩,rfl⟩
   have hd:decide (QY f<x)=false:=decide_eq_false hgt;have Hgt:=Zh hgt;clear hgt;go_wp2_with fail
   refine(En x f bf _ hx).mono ?_;rintro e w1⟨rfl,rfl⟩;go_wp2
   go_round
   case rel=>exact⟨k+1,by omega,by go_num,λy hy=>by
    rw[Hta.o]at hy;rcases List.mem_append.1 hy with hy|hy
    .exact Hall.o y hy
    simp at hy;rw[hy];have:=Hgt.o;omega⟩
   case measure=>simp[intOf];omega
  obtain rfl:k=l.length:=by omega
  go_wp2;go_ret;exact⟨_,rfl,.inl ⟨rfl,by have:=Hall.o;rwa [List.take_length]at this⟩,rfl⟩
theorem Qa4{l:List Int}(h:XP l){i j:Nat}(hi:i<l.length)(hj:j<l.length)(hij:i<=j):l[i]<=l[j]:=by
 rcases Nat.lt_or_ge i j with hlt|hge
 .have:=List.pairwise_iff_getElem.1 h i j hi hj hlt;omega
 obtain rfl:i=j:=by omega
 exact Int.le_refl _
theorem Qdp{l:List Int}(hr:XP l){m:Int}{i:Nat}(hi:i<l.length)(hgt:m<l[i])(hle:∀x∈l.take i,x<=m):l.filter (λn=>decide (n<=m))=l.take i:=by
 have e:l=l.take i++l.drop i:=(List.take_append_drop i l).symm;have h1:(l.take i).filter (λn=>decide (n<=m))=l.take i:=List.filter_eq_self.2 λx hx=>by simpa using hle x hx
 have h2:(l.drop i).filter (λn=>decide (n<=m))=[]:=List.filter_eq_nil_iff.2 λx hx=>by
  obtain⟨k,hk⟩:=List.getElem?_of_mem hx;rw[List.getElem?_drop]at hk;obtain⟨hlt,he⟩:=List.getElem?_eq_some_iff.1 hk;have:=Qa4 hr hi hlt (by omega);simp;omega
 conv=>lhs;rw[e]
 rw[List.filter_append,h1,h2,List.append_nil]
theorem Eo(v:Value)(l:List Int)(f:Int)(bf base:Nat)(w:World)(hown:Qg w base 3 1 JI v l)(hr:XP l)(hx:w.cell? ⟨bf,0,none⟩=some (.int .i64 f))(hbf:v.ownBlock≠some bf):
  Calls prog 244 #[v,QiI bf] w λe w'=>∃v',e=.returned v'/\Qg w' base 3 1 JI v' (l.filter λn=>decide (n<=QY f))/\w.grownBy w' v.ownBlock/\v'.ownBlock=v.ownBlock:=by
 have H:Hid (UR w (λ_=>True) v l):=hown.sl (λ_ _=>trivial);have Hown:=Zh hown;obtain⟨a,c,rfl,hlc,hcm,hat⟩:=Sl.form H.o;have Hr:=Zh hr;clear hown hr;go_enter func244,ntmps244;go_wp2_with fail
 refine(NZ _ l f bf _ _ H.o hx).mono ?_;rintro e w1⟨n,rfl,hn,rfl⟩;rcases hn with⟨rfl,hall⟩|⟨i,hi,rfl,hgt,hle⟩
 .have hf:Hid (l.filter (λn=>decide (n<=QY f))=l):=List.filter_eq_self.2 λx hx=>by simpa using hall x hx
  clear hall;go_wp2;go_ret;rw[hf.o];exact⟨_,rfl,Hown.o,⟨rfl,rfl,rfl,Nat.le_refl _,λ_ _ _=>rfl⟩,rfl⟩
 have hf:Hid (l.filter (λn=>decide (n<=QY f))=l.take i):=Qdp Hr.o hi hgt hle;have Hgt:Hid (∀j (h:j<l.length),i<=j->QY f<l[j]):=λj h hij=>by have:=Qa4 Hr.o hi h hij;omega
 have hb0:((i:Int) == -1)=false:=beq_eq_false_iff_ne.2 (by omega);obtain⟨rows,hrr,h1,h2⟩:=Hown.o;rcases h2 with⟨_,h0⟩|⟨g,cap,cur,hv,hg,hh,hnc,hcm',hcs,htk⟩
 .omega
 injection hv with ha _ hc;subst ha hc;have hw1:IntKind.i64.wrap ((i:Int)+1)=(i:Int)+1:=by rw[IntKind.wrap_i64];omega
 clear hgt hle;go_wp2_with fail
 go_loop [5,6] (λiv jv=>∃j:Nat,iv=.int .i64 i/\jv=.int .i64 j/\i<j/\j<=l.length) (λ_ jv=>l.length-(intOf jv).toNat)
 case atStart=>exact⟨i+1,rfl,by go_num,by omega,by omega⟩
 case round=>
  obtain⟨j,rfl,rfl,hij,hj⟩:=hrel;by_cases hlt:j<l.length
  .have c0:=UR.cell H.o hlt;rw[Nat.zero_add]at c0;have Hgj:=Zh (Hgt.o j hlt (by omega));obtain⟨x,hx'⟩:∃x,l[j]=x:=⟨_,rfl⟩;rw[hx']at c0 Hgj;have hd:decide (QY f<x)=true:=decide_eq_true Hgj.o;clear hx';go_wp2_with fail
   refine(En x f bf _ hx).mono ?_;rintro e w1⟨rfl,rfl⟩;go_wp2
   go_round
   case rel=>exact⟨j+1,rfl,by go_num,by omega,by omega⟩
   case measure=>simp[intOf];omega
  obtain rfl:j=l.length:=by omega
  have hne:¬(c=i):=by omega
  have hcl:=λty=>Lib.run_clear_slice (P:=prog) w 231 3 ty (.int .i64 0) underlying231 (λw=>by kernel_rfl) rfl rfl g i (l.length-i) (c-i) (by omega) (λj hj=>by rw[Qb hh,Array.getElem?_eq_getElem (by omega)];rfl) (λj hj=>Qp hh _);have Hh:=Zh hh;have Htk:=Zh htk;have Hrr:=Zh hrr;have H1:=Zh h1;clear hh htk hrr h1;go_wp2;go_ret;rw[hf.o];obtain⟨c2,hs2,hb2⟩:=O8 (List.replicate (l.length-i) (.int .i64 0)) i w cur Hh.o;obtain⟨k1,k2,k3,k4,k5⟩:=GV g (List.replicate (l.length-i) (.int .i64 0)) i w;have hli:(l.take i).length=i:=by simp;omega
  have hri:(rows.take i).flatten.length=i:=by rw[YP _ (λr hr=>Hrr.o.size r (List.mem_of_mem_take hr)),List.length_take,Hrr.o.len];omega
  refine⟨.slice (some ⟨g,0,none⟩) i c,rfl,⟨rows.take i,⟨by simp[Hrr.o.len],λr hr=>Hrr.o.size r (List.mem_of_mem_take hr),λk x r hx hr=>?_⟩,by rw[hli,hri,Nat.mul_one],.inr ⟨g,c,c2,by rw[hli],hg,hb2,by rw[hli];omega,hcm',by rw[hs2,hcs],?_⟩⟩,⟨k1,k2,k3,by rw[k4];exact Nat.le_refl _,λk _ hk=>k5 k (λe=>hk (by rw[e];rfl))⟩,rfl⟩
  .have hk:k<i:=by have:=(List.getElem?_eq_some_iff.1 hx).1;omega
   rw[List.getElem?_take_of_lt hk]at hx hr;exact Hrr.o.rel k x r hx hr
  rw[hli,Nat.mul_one];have hsp:rows.flatten=(rows.take i).flatten++(rows.drop i).flatten:=by rw[<-List.flatten_append,List.take_append_drop]
  apply List.ext_getElem?;intro t;by_cases ht:t<i
  .have e1:(w.setCells g i (List.replicate (l.length-i) (.int .i64 0))).cell? ⟨g,t,none⟩=w.cell? ⟨g,t,none⟩:=World.cell?_setCells_out g _ _ _ _ (λ_ _=>.inl ht);rw[Qb hb2,Qb Hh.o]at e1;have e2:rows.flatten[t]?=(rows.take i).flatten[t]?:=by rw[hsp,List.getElem?_append_left (by omega)]
   rw[List.getElem?_take_of_lt ht,Array.getElem?_toList,e1,<-e2,<-Htk.o,List.getElem?_take_of_lt (by omega),Array.getElem?_toList]
  rw[List.getElem?_eq_none (by rw[List.length_take];omega),List.getElem?_eq_none (by omega)]
end
end Go.Proofs.YthkgjohhbdipcaaGreatDoor
