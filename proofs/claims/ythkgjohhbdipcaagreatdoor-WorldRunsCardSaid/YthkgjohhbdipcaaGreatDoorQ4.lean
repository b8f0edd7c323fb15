/- Texts laid one behind the other: PolRd, Bx, PText, SplitN, ReadMaps, Call, Policy, RPolCheck. No condition beyond theirs. -/
import Derived.Test.YthkgjohhbdipcaaGreatDoorQ3
import Derived.Test.YthkgjohhbdipcaaGreatDoorQ2
import Derived.Lib.ItoaLen
import Derived.Test.YthkgjohhbdipcaaGreatDoorProg
import Derived.KernelRfl
set_option linter.all false
set_option maxHeartbeats 64000000
set_option maxRecDepth 100000
namespace Go.Proofs.YthkgjohhbdipcaaGreatDoor
open Tryz
section
open Go.RowKit
def Ve(x:TCond)(cs:List Value):Prop:=cs=[.int .i64 x.f,.int .i64 x.op,.int .i64 x.v]
def QF(w:World)(D:Nat->Prop)(v:Value)(l:List TCond):Prop:=Sl w D 3 Ve v l
theorem QF.keep{w w':World}{D D':Nat->Prop}{v:Value}{l:List TCond}(h:QF w D v l)(hD:∀b,D b->b<w.heap.size->D' b)
  (hw:∀b,D b->b<w.heap.size->w'.heap[b]?=w.heap[b]?) (hs:w.heap.size<=w'.heap.size):QF w' D' v l:=Sl.mono h hD hw hs (λ_ _ _ h=>h)
theorem QF.below{w w':World}{D:Nat->Prop}{v:Value}{l:List TCond}(h:QF w D v l)(hb:Below w.heap.size w w'):QF w' D v l:=
 h.keep (λ_ h _=>h) (λb _ hlt=>hb.block b hlt) hb.size
theorem QF.cells{w:World}{D:Nat->Prop}{b o n c:Nat}{s:Option Nat}{l:List TCond}(h:QF w D (.slice (some ⟨b,o,s⟩) n c) l){i:Nat}(hi:i<l.length):
  w.cell? ⟨b,o+i*3,none⟩=some (.int .i64 l[i].f)/\w.cell? ⟨b,o+i*3+1,none⟩=some (.int .i64 l[i].op)/\w.cell? ⟨b,o+i*3+2,none⟩=some (.int .i64 l[i].v):=by
 obtain⟨cs,hcs,hr,hcell⟩:=Sl.get h hi;unfold Ve at hr;subst hr;exact⟨hcell 0 _ rfl,hcell 1 _ rfl,hcell 2 _ rfl⟩
def VP(w:World)(D:Nat->Prop)(r:TRule)(cs:List Value):Prop:=∃v,cs=[v,.int .i64 r.vd]/\QF w D v r.cd
def Qc(w:World)(D:Nat->Prop)(v:Value)(l:List TRule):Prop:=Sl w D 2 (VP w D) v l
theorem Qc.keep{w w':World}{D D':Nat->Prop}{v:Value}{l:List TRule}(h:Qc w D v l)(hD:∀b,D b->b<w.heap.size->D' b)
  (hw:∀b,D b->b<w.heap.size->w'.heap[b]?=w.heap[b]?) (hs:w.heap.size<=w'.heap.size):Qc w' D' v l:=
 Sl.mono h hD hw hs (λ_ _ _ ⟨u,h1,h2⟩=>⟨u,h1,h2.keep hD hw hs⟩)
theorem Qc.below{w w':World}{D:Nat->Prop}{v:Value}{l:List TRule}(h:Qc w D v l)(hb:Below w.heap.size w w'):Qc w' D v l:=
 h.keep (λ_ h _=>h) (λb _ hlt=>hb.block b hlt) hb.size
theorem Qc.cells{w:World}{D:Nat->Prop}{b o n c:Nat}{s:Option Nat}{l:List TRule}(h:Qc w D (.slice (some ⟨b,o,s⟩) n c) l){i:Nat}(hi:i<l.length):
  ∃(a':Option Addr)(c':Nat),w.cell? ⟨b,o+i*2,none⟩=some (.slice a' l[i].cd.length c')/\w.cell? ⟨b,o+i*2+1,none⟩=some (.int .i64 l[i].vd)/\QF w D (.slice a' l[i].cd.length c') l[i].cd /\
   l[i].cd.length<=c'/\c'<=9223372036854775807/\(0<l[i].cd.length->∃b o,a'=some ⟨b,o,none⟩/\D b/\b<w.heap.size):=by
 obtain⟨cs,hcs,⟨u,hu,hr⟩,hcell⟩:=Sl.get h hi;obtain⟨a',c',hv,h1,h2,h3⟩:=Sl.form hr;subst hu hv;exact⟨a',c',hcell 0 _ rfl,hcell 1 _ rfl,hr,h1,h2,h3⟩
theorem VT{w:World}{D:Nat->Prop}{v:Value}{l:List TRule}(h:Qc w D v l):Qc w (λ_=>True) v l:=h.keep (λ_ _ _=>trivial) (λ_ _ _=>rfl) Znl
@[reducible] def U8(v:Value)(d:Int):Value:=.agg #[v,.int .i64 d]
def Qi5(w:World)(D:Nat->Prop)(p:TPol)(cs:List Value):Prop:=∃v,cs=[v,.int .i64 p.df]/\Qc w D v p.ru
def Xy(w:World)(D:Nat->Prop)(v:Value)(l:List TPol):Prop:=Sl w D 2 (Qi5 w D) v l
theorem Xy.below{w w':World}{D:Nat->Prop}{v:Value}{l:List TPol}(h:Xy w D v l)(hb:Below w.heap.size w w'):Xy w' D v l:=
 Sl.mono h (λ_ h _=>h) (λb _ hlt=>hb.block b hlt) hb.size (λ_ _ _ ⟨u,h1,h2⟩=>⟨u,h1,h2.below hb⟩)
end
section
open Go.RowKit
structure Bx(w:World)(bs:List Obj)(W:World):Prop where
 bel:Below w.heap.size w W
 at_:∀(i:Nat)(o:Obj),bs[i]?=some o->W.heap[w.heap.size+i]?=some o
section
variable{w W W':World}{bs:List Obj}
theorem Bx.nil:Bx w [] w:=⟨Below.refl _ _,λi o h=>by simp at h⟩
theorem Bx.push(h:Bx w bs W)(hs:W.heap.size=w.heap.size+bs.length)(o:Obj):Bx w (bs++[o]) (W.alloc o):=by
 refine⟨Qa h.bel o,λi x hx=>?_⟩;rw[List.getElem?_append]at hx;split at hx
 .exact QQ (h.at_ i x hx)
 rename_i hge
 have hi:i-bs.length=0:=by
  have:=(List.getElem?_eq_some_iff.1 hx).1;simp at this;exact this
 rw[hi]at hx;simp at hx;subst hx;exact UM (by omega)
theorem Bx.two{o o':Obj}:Bx w [o,o'] ((w.alloc o).alloc o'):=(Bx.nil.push (by simp) o).push (by simp) o'
theorem Bx.one{o:Obj}:Bx w [o] (w.alloc o):=Bx.nil.push (by simp) o
theorem Bx.three{o o' o2:Obj}:Bx w [o,o',o2] (((w.alloc o).alloc o').alloc o2):=Bx.two.push (by simp) o2
theorem Bx.below(h:Bx w bs W)(hb:Below W.heap.size W W'):Bx w bs W':=⟨Ql h.bel hb,λi o ho=>Qd (h.at_ i o ho) hb⟩
theorem Bx.alloc(h:Bx w bs W)(o:Obj):Bx w bs (W.alloc o):=h.below (Qa Zbr o)
theorem Bx.lift{B:Nat}(h:Bx w bs W)(hb:Below B W W')(hB:w.heap.size+bs.length<=B):Bx w bs W':=⟨h.bel.trans (hb.mono (by omega)),λi o ho=>(hb.block _ (by have:=(List.getElem?_eq_some_iff.1 ho).1;omega)).trans (h.at_ i o ho)⟩
theorem Bx.top(h:Bx w bs W):w.heap.size+bs.length<=W.heap.size:=by
 rcases Nat.eq_zero_or_pos bs.length with h0|h0
 .have:=h.bel.size;omega
 have hl:bs.length-1<bs.length:=by omega
 have:=(Array.getElem?_eq_some_iff.1 (h.at_ (bs.length-1) _ (List.getElem?_eq_getElem hl))).1;omega
theorem Bx.drew(h:Bx w bs W):Bx w bs W.drew:=h.below Zbr.drew
theorem Bx.cells(h:Bx w bs W){i:Nat}{cs:Array Value}{T:TypeId}(hi:bs[i]?=some (.cells cs T))(j:Nat):W.cell? ⟨w.heap.size+i,j,none⟩=cs[j]?:=Qb (h.at_ i _ hi) j
theorem Bx.free(h:Bx w bs W){i:Nat}{cs:Array Value}{T:TypeId}(hi:bs[i]?=some (.cells cs T))(j:Nat):W.frozen? ⟨w.heap.size+i,j,none⟩=false:=Qp (h.at_ i _ hi) j
theorem Bx.cells0{cs:Array Value}{T:TypeId}{r:List Obj}(h:Bx w (.cells cs T::r) W)(j:Nat):W.cell? ⟨w.heap.size,j,none⟩=cs[j]?:=h.cells (i:=0) rfl j
theorem Bx.cells1{o:Obj}{cs:Array Value}{T:TypeId}{r:List Obj}(h:Bx w (o :: .cells cs T::r) W)(j:Nat):W.cell? ⟨w.heap.size+1,j,none⟩=cs[j]?:=h.cells (i:=1) rfl j
theorem Bx.cells2{o o':Obj}{cs:Array Value}{T:TypeId}{r:List Obj}(h:Bx w (o::o' :: .cells cs T::r) W)(j:Nat):W.cell? ⟨w.heap.size+1+1,j,none⟩=cs[j]?:=h.cells (i:=2) rfl j
theorem Bx.free0{cs:Array Value}{T:TypeId}{r:List Obj}(h:Bx w (.cells cs T::r) W)(j:Nat):W.frozen? ⟨w.heap.size,j,none⟩=false:=h.free (i:=0) rfl j
theorem Bx.free1{o:Obj}{cs:Array Value}{T:TypeId}{r:List Obj}(h:Bx w (o :: .cells cs T::r) W)(j:Nat):W.frozen? ⟨w.heap.size+1,j,none⟩=false:=h.free (i:=1) rfl j
theorem Bx.size(h:Bx w bs W){i:Nat}(hi:i<bs.length):w.heap.size+i<W.heap.size:=
 (Array.getElem?_eq_some_iff.1 (h.at_ i _ (List.getElem?_eq_getElem hi))).1
theorem Bx.set(h:Bx w bs W){i:Nat}{cs:Array Value}{T:TypeId}(hi:bs[i]?=some (.cells cs T))(j:Nat)(v:Value):Bx w (bs.set i (.cells (cs.setIfInBounds j v) T)) (W.setCell ⟨w.heap.size+i,j,none⟩ v):=by
 refine⟨Qw h.bel (by show w.heap.size<=w.heap.size+i;omega),λk o ho=>?_⟩;by_cases e:k=i
 .subst e;have hlt:=(List.getElem?_eq_some_iff.1 hi).1;rw[List.getElem?_set_self hlt]at ho;injection ho with ho;subst ho;exact QJ (h.at_ k _ hi)
 rw[List.getElem?_set_ne (Ne.symm e)]at ho;rw[Qm (by show w.heap.size+k≠w.heap.size+i;omega)];exact h.at_ k o ho
end
theorem Bx.setCall2{w W:World}{x y:TCall}{T:TypeId}{o o':Obj}{r:List Obj}(h:Bx w (o::o' :: .cells #[.int .i64 x.a0,.int .i64 x.a1,.int .i64 x.a2,.int .i64 x.a3,.int .i64 x.a4] T::r) W):
  Bx w (o::o' :: .cells #[.int .i64 y.a0,.int .i64 y.a1,.int .i64 y.a2,.int .i64 y.a3,.int .i64 y.a4] T::r) (((((W.setCell ⟨w.heap.size+1+1,0,none⟩ (.int .i64 y.a0)).setCell ⟨w.heap.size+1+1,1,none⟩ (.int .i64 y.a1)).setCell ⟨w.heap.size+1+1,2,none⟩ (.int .i64 y.a2)).setCell ⟨w.heap.size+1+1,3,none⟩ (.int .i64 y.a3)).setCell ⟨w.heap.size+1+1,4,none⟩ (.int .i64 y.a4)):=
 ((((h.set (i:=2) rfl 0 (.int .i64 y.a0)).set (i:=2) rfl 1 (.int .i64 y.a1)).set (i:=2) rfl 2 (.int .i64 y.a2)).set (i:=2) rfl 3 (.int .i64 y.a3)).set (i:=2) rfl 4 (.int .i64 y.a4)
theorem Bx.free2{o o':Obj}{cs:Array Value}{T:TypeId}{r:List Obj}{w W:World}(h:Bx w (o::o' :: .cells cs T::r) W)(j:Nat):W.frozen? ⟨w.heap.size+1+1,j,none⟩=false:=h.free (i:=2) rfl j
end
section
open Go.RowKit Go.Shelf
attribute [local go_sem] gives QG
structure Ov(w:World):Prop where
 base:Laid w
 sp:Lib.TabIs prog w "strings.asciiSpace" .u8 Lib.asciiSpaceTab
theorem Ov.below{w w':World}(h:Ov w)(hb:Below w.heap.size w w'):Ov w':=⟨h.base.below hb,Go.Joins.tab_stays (g:=0) (by kernel_rfl) h.sp hb Znl⟩
def bsL(l:List UInt8):ByteArray:=⟨l.toArray⟩
theorem X8(n:Int)(h0: -9223372036854775808<=n)(h1:n<=9223372036854775807)(w:World)(hL:Laid w):
  Calls prog 65 #[.int .i64 n] w λe w'=>e=.returned (.string (bsL (Lib.itoa n)))/\Below w.heap.size w w':=
 (Tryz.strconv_Itoa n h0 h1 w hL.pow).mono λ_ _ ⟨he,_,_,hw⟩=>⟨he,Ea hw⟩
theorem QbK:Lib.fields [107,105,108,108,32,116,114,97,112,32,102,97,105,108,32,108,111,103,32,97,108,108,111,119]=[[107,105,108,108],[116,114,97,112],[102,97,105,108],[108,111,103],[97,108,108,111,119]]:=by decide +kernel
theorem Qdo:Lib.fields [110,114,32,107,105,110,100,32,97,32,98,32,99]=[[110,114],[107,105,110,100],[97],[98],[99]]:=by decide +kernel
theorem fields_of(l:List UInt8)(ws:List (List UInt8))(h0:(l.all λb=>decide (b.toNat<128))=true)(h1:l.length<4294967281)(hf:Lib.fields l=ws)(w:World)(ht:Lib.TabIs prog w "strings.asciiSpace" .u8 Lib.asciiSpaceTab):
  Calls prog 113 #[.string ⟨l.toArray⟩] w λe w'=>e=.returned (.slice (some ⟨w.heap.size,0,none⟩) ws.length ws.length)/\w'=w.alloc (.cells (ws.map λl=>Value.string (bsL l)).toArray 9):=by
 subst hf;exact Tryz.strings_Fields ⟨l.toArray⟩ w h1 (λj b hb=>of_decide_eq_true (List.all_eq_true.1 h0 b (List.mem_of_getElem? hb))) ht
theorem Qh8(l m:List UInt8):bsL l++bsL m=bsL (l++m):=by
 unfold bsL;apply ByteArray.ext;simp[ByteArray.data_append]
theorem YZ{v:Int}(h0:0<=v)(h1:v<=4):(#[Value.string (bsL [107,105,108,108]),.string (bsL [116,114,97,112]),.string (bsL [102,97,105,108]),.string (bsL [108,111,103]),.string (bsL [97,108,108,111,119])]:Array Value)[v.toNat]?=some (.string (bsL (QO v))):=by
 rcases(by omega:v=0\/v=1\/v=2\/v=3\/v=4)with rfl|rfl|rfl|rfl|rfl<;>rfl
theorem Qar{v:Int}(h0:0<=v)(h1:v<=4):(#[Value.string (bsL [110,114]),.string (bsL [107,105,110,100]),.string (bsL [97]),.string (bsL [98]),.string (bsL [99])]:Array Value)[v.toNat]?=some (.string (bsL (Xo v))):=by
 rcases(by omega:v=0\/v=1\/v=2\/v=3\/v=4)with rfl|rfl|rfl|rfl|rfl<;>rfl
theorem Xg{P:Program}(x y:List UInt8)(h:x.length+y.length<=1000000)(W:World):(Op.stringOp .add (bsL x) (bsL y)).run P W=.ok (.string (bsL (x++y))) W:=by
 rw[run_string_add_sum W (bsL x) (bsL y) (by show x.toArray.size+y.toArray.size<=_;simp;omega),Qh8]
theorem Qhs{o:Int}(h0:1<=o)(h1:o<=4)(W:World):(Instr.slice 9 (.string ⟨#[63,61,33,60,62]⟩) (some (.int .i64 o)) (some (.int .i64 (o+1))) none).run prog W=.ok (.string (bsL [opW o])) W:=by
 rcases(by omega:o=1\/o=2\/o=3\/o=4)with rfl|rfl|rfl|rfl<;>kernel_rfl
def IC(l:List TRule):List UInt8:=l.flatMap λr=>ZW r++[59]
theorem Qay{l:List TRule}{k:Nat}(h:k<l.length):IC (l.take (k+1))=IC (l.take k)++(ZW l[k]++[59]):=by
 unfold IC;rw[List.take_succ_eq_append_getElem h,List.flatMap_append];simp
def Z9(l:List TCond):List UInt8:=l.flatMap λc=>32::condW c
theorem Qax{l:List TCond}{k:Nat}(h:k<l.length):Z9 (l.take (k+1))=Z9 (l.take k)++32::condW l[k]:=by
 unfold Z9;rw[List.take_succ_eq_append_getElem h,List.flatMap_append];simp
theorem XC(v:Int):(QO v).length<=5:=by unfold QO;split<;>(try split)<;>(try split)<;>(try split)<;>simp
theorem OC(v:Int):(Xo v).length<=4:=by unfold Xo;split<;>(try split)<;>(try split)<;>(try split)<;>simp
theorem QfS{c:TCond}(h:YL c):(32::condW c).length<=27:=by
 have h1:=OC c.f;have h2:=Lib.itoa_length_le c.v (by have:=h.v0;omega) (by have:=h.v1;have:QY c.f<=65535:=(by unfold QY;split<;>(try split)<;>omega);omega);unfold condW;simp only[List.length_cons,List.length_append];omega
theorem Ja:∀(l:List TCond),(∀c∈l,YL c)->(Z9 l).length<=27*l.length
 |[],_=>by simp[Z9]
 |c::l,h=>by
  have h1:=QfS (h c (List.mem_cons_self ..));have h2:=Ja l (λx hx=>h x (List.mem_cons_of_mem _ hx));unfold Z9 at h2⊢;rw[List.flatMap_cons,List.length_append];have h3:(c::l).length=l.length+1:=rfl;omega
theorem QgG{r:TRule}(h:JM r):(ZW r++[59]).length<=280:=by
 have h1:=Ja r.cd h.cd;have h2:=XC r.vd;have h3:=h.len;unfold Z9 at h1;unfold ZW;simp only[List.length_append,List.length_singleton];omega
theorem Jb:∀(l:List TRule),(∀r∈l,JM r)->(IC l).length<=280*l.length
 |[],_=>by simp[IC]
 |r::l,h=>by
  have h1:=QgG (h r (List.mem_cons_self ..));have h2:=Jb l (λx hx=>h x (List.mem_cons_of_mem _ hx));unfold IC at h2⊢;rw[List.flatMap_cons,List.length_append,List.length_cons];omega
attribute [-go_sem] run_string_add_if run_slice_string_if run_slice_string
theorem Qcz(v:Value)(p:TPol)(D:Nat->Prop)(w:World)(h:Qc w D v p.ru)(hok:UT p)(hL:Ov w):
  Calls prog 72 #[U8 v p.df] w λe w'=>e=.returned (.string (bsL (Vo p)))/\Below w.heap.size w w':=by
 have H:=Zh h;have Hok:=Zh hok;have HL:=Zh hL;obtain⟨a,c,rfl,hlc,hcm,hat⟩:=Sl.form h;clear h hok hL;go_enter func72,ntmps72;go_wp2_with fail
 have HB:=Zh (Bx.one (w:=w) (o:=.cells #[.slice a p.ru.length c,.int .i64 p.df] 38));refine(fields_of [107,105,108,108,32,116,114,97,112,32,102,97,105,108,32,108,111,103,32,97,108,108,111,119] _ (by decide +kernel) (by decide) QbK _ (HL.o.below HB.o.bel).sp).mono ?_;rintro e w1⟨rfl,rfl⟩;have HB1:=Zh (HB.o.push (by simp) (.cells (([[107,105,108,108],[116,114,97,112],[102,97,105,108],[108,111,103],[97,108,108,111,119]]:List (List UInt8)).map λl=>Value.string (bsL l)).toArray 9));go_wp2_with fail
 refine(fields_of [110,114,32,107,105,110,100,32,97,32,98,32,99] _ (by decide +kernel) (by decide) Qdo _ (HL.o.below HB1.o.bel).sp).mono ?_;rintro e w2⟨rfl,rfl⟩;have HB2:=Zh (HB1.o.push (by simp) (.cells (([[110,114],[107,105,110,100],[97],[98],[99]]:List (List UInt8)).map λl=>Value.string (bsL l)).toArray 9));have HW:Hid (Bx w [.cells #[.slice a p.ru.length c,.int .i64 p.df] 38,.cells #[Value.string (bsL [107,105,108,108]),.string (bsL [116,114,97,112]),.string (bsL [102,97,105,108]),.string (bsL [108,111,103]),.string (bsL [97,108,108,111,119])] 9,.cells #[Value.string (bsL [110,114]),.string (bsL [107,105,110,100]),.string (bsL [97]),.string (bsL [98]),.string (bsL [99])] 9] (((w.alloc (.cells #[.slice a p.ru.length c,.int .i64 p.df] 38)).alloc (.cells (([[107,105,108,108],[116,114,97,112],[102,97,105,108],[108,111,103],[97,108,108,111,119]]:List (List UInt8)).map λl=>Value.string (bsL l)).toArray 9)).alloc (.cells (([[110,114],[107,105,110,100],[97],[98],[99]]:List (List UInt8)).map λl=>Value.string (bsL l)).toArray 9))):=HB2.o;clear HB1 HB2;revert HW;generalize(((w.alloc (.cells #[.slice a p.ru.length c,.int .i64 p.df] 38)).alloc (.cells (([[107,105,108,108],[116,114,97,112],[102,97,105,108],[108,111,103],[97,108,108,111,119]]:List (List UInt8)).map λl=>Value.string (bsL l)).toArray 9)).alloc (.cells (([[110,114],[107,105,110,100],[97],[98],[99]]:List (List UInt8)).map λl=>Value.string (bsL l)).toArray 9))=w2;intro HW;have hc0:=HW.o.cells0;have hbo:=Zh (HL.o.below HW.o.bel);have htop:w.heap.size+3<=w2.heap.size:=HW.o.top;go_wp2_with fail
 clear hc0
 go_loopw[5,15](λsv kv wr=>∃(k:Nat)(t:List UInt8),kv=.int .i64 k/\sv=.string (bsL t)/\t=IC (p.ru.take k)/\k<=p.ru.length/\Below w2.heap.size w2 wr) (λ_ kv _=>p.ru.length-(intOf kv).toNat)
 case atStart=>exact⟨0,[],rfl,rfl,rfl,by omega,Below.refl _ _⟩
 case round=>
  obtain⟨k,t,rfl,rfl,ht,hk,hb⟩:=hrel;have Ht:=Zh ht;have Hb:=Zh hb;have hszr:=hb.size;have HWr:=Zh (HW.o.below hb);clear ht hb;by_cases hlt:k<p.ru.length
  .obtain⟨b,o,rfl,hDb,hblt⟩:=hat (by omega);obtain⟨ca,cc,hc0w,hc1w,hrd,hcl,hcmx,hcat⟩:=Qc.cells (H.o.below HWr.o.bel) hlt;have Hkr:=Zh (Hok.o.ru p.ru[k] (List.getElem_mem hlt));have Htk:=Zh (Qay hlt);obtain⟨r,hr⟩:∃r,p.ru[k]=r:=⟨_,rfl⟩;rw[hr]at hc0w hc1w hrd hcl hcat Hkr Htk;have Hrd:=Zh hrd;have hv0:=Hkr.o.v0;have hv1:=Hkr.o.v1;have hvc:(wr.alloc (.cells #[.slice ca r.cd.length cc,.int .i64 r.vd] 147)).cell? ⟨w.heap.size+1,r.vd.toNat,none⟩=some (.string (bsL (QO r.vd))):=((HWr.o.alloc _).cells1 _).trans (YZ hv0 hv1);obtain⟨wo,rfl⟩:∃wo:World,wo=wr:=⟨_,rfl⟩
   have htl:t.length<=33600:=by
    rw[Ht.o];have:=Jb (p.ru.take k) (λx hx=>Hok.o.ru x (List.mem_of_mem_take hx));rw[List.length_take]at this;have:=Hok.o.len;omega
   have hvl:=XC r.vd;have ha1:=λW=>Xg (P:=prog) t (QO r.vd) (by omega) W;clear hrd hr;go_wp2_with fail
   clear hc0w hc1w hvc ha1;have hbo1:Below w2.heap.size w2 (wo.alloc (.cells #[.slice ca r.cd.length cc,.int .i64 r.vd] 147)):=Hb.o.alloc hszr _;have Hbo1:=Zh hbo1;have hbx1:(wo.alloc (.cells #[.slice ca r.cd.length cc,.int .i64 r.vd] 147)).heap[wo.heap.size]?=some (.cells #[.slice ca r.cd.length cc,.int .i64 r.vd] 147):=Qh _ _;have Hrd1:=Zh (Hrd.o.below (Qa Zbr (.cells #[.slice ca r.cd.length cc,.int .i64 r.vd] 147)));clear hbo1 hbx1
   go_loopw[5,29](λsv jv wr=>∃(j:Nat)(u:List UInt8),jv=.int .i64 j/\sv=.string (bsL u)/\u=t++QO r.vd++Z9 (r.cd.take j)/\j<=r.cd.length/\Below (wo.heap.size+1) (wo.alloc (.cells #[.slice ca r.cd.length cc,.int .i64 r.vd] 147)) wr) (λ_ jv _=>r.cd.length-(intOf jv).toNat)
   case atStart=>exact⟨0,_,rfl,rfl,by simp[Z9],by omega,Below.refl _ _⟩
   case round=>
    obtain⟨j,u,rfl,rfl,hu,hj,hbj⟩:=hrel;have Hu:=Zh hu;have Hbj:=Zh hbj;have hszj:=hbj.size;simp only[World.size_alloc]at hszj;have HWj:=Zh (HW.o.below (Hbo1.o.trans (hbj.mono (by omega))));have HLj:=Zh (hbo.o.below (Hbo1.o.trans (hbj.mono (by omega))));clear hu hbj;by_cases hjl:j<r.cd.length
    .obtain⟨b2,o2,rfl,hDb2,hblt2⟩:=hcat (by omega);obtain⟨hd0,hd1,hd2⟩:=QF.cells (Hrd1.o.below (Hbj.o.mono (by simp))) hjl;have Hoc:=Zh (Hkr.o.cd r.cd[j] (List.getElem_mem hjl));have Hcj:=Zh (Qax hjl);obtain⟨⟨cf,cop,cv⟩,hcj⟩:∃y:TCond,r.cd[j]=y:=⟨_,rfl⟩;rw[hcj]at hd0 hd1 hd2 Hoc Hcj;obtain⟨hf0,hf1,ho0,ho1,hcv0,hcv1⟩:=(show(0<=cf/\cf<=4/\1<=cop/\cop<=4/\0<=cv/\cv<=65535)from⟨Hoc.o.f0,by have h:cf<5:=Hoc.o.f1;omega,Hoc.o.o0,Hoc.o.o1,Hoc.o.v0,by have h1:=Hoc.o.v1;have:QY cf<=65535:=(by unfold QY;split<;>(try split)<;>omega);exact Int.le_trans h1 this⟩)
     have hul:u.length<=34000:=by
      rw[Hu.o];have h1:=Ja (r.cd.take j) (λx hx=>Hkr.o.cd x (List.mem_of_mem_take hx));rw[List.length_take]at h1;have h2:=Hkr.o.len;simp only[List.length_append];omega
     have hfl:=OC cf;have hil:=Lib.itoa_length_le cv (by omega) (by omega)
     have HX:Hid (∀W,Cls (wr.heap.size+1) (wr.alloc (.cells #[.int .i64 cf,.int .i64 cop,.int .i64 cv] 153)) W->(∀i,W.cell? ⟨wr.heap.size,i,none⟩=(#[.int .i64 cf,.int .i64 cop,.int .i64 cv]:Array Value)[i]?)/\W.cell? ⟨w.heap.size+1+1,cf.toNat,none⟩=some (.string (bsL (Xo cf)))/\Laid W):=λW hW=>
      ⟨Qb (Qd (Qh wr (.cells #[.int .i64 cf,.int .i64 cop,.int .i64 cv] 153)) (hW.2.mono (by simp))),((HWj.o.below ((Qa Zbr _).trans (hW.2.mono (by omega)))).cells2 _).trans (Qar hf0 hf1),(HLj.o.below ((Qa Zbr _).trans (hW.2.mono (by omega)))).base⟩
     obtain⟨s1,hs1⟩:∃s1,32::Xo cf=s1:=⟨_,rfl⟩;obtain⟨s2,hs2⟩:∃s2,s1++[opW cop]=s2:=⟨_,rfl⟩;obtain⟨s3,hs3⟩:∃s3,s2++Lib.itoa cv=s3:=⟨_,rfl⟩;obtain⟨s4,hs4⟩:∃s4,u++s3=s4:=⟨_,rfl⟩;have hl1:s1.length<=5:=by rw[<-hs1];simp;omega
     have hl2:s2.length<=6:=by rw[<-hs2];simp;omega
     have hl3:s3.length<=27:=by rw[<-hs3];simp;omega
     have hb1:∀W:World,(Op.stringOp .add ⟨#[32]⟩ (bsL (Xo cf))).run prog W=.ok (.string (bsL s1)) W:=λW=>by rw[<-hs1];exact Xg [32] (Xo cf) (by simp;omega) W
     have hb2:∀W:World,(Op.stringOp .add (bsL s1) (bsL [opW cop])).run prog W=.ok (.string (bsL s2)) W:=λW=>by rw[<-hs2];exact Xg s1 [opW cop] (by simp;omega) W
     have hb3:∀W:World,(Op.stringOp .add (bsL s2) (bsL (Lib.itoa cv))).run prog W=.ok (.string (bsL s3)) W:=λW=>by rw[<-hs3];exact Xg s2 (Lib.itoa cv) (by omega) W
     have hb4:∀W:World,(Op.stringOp .add (bsL u) (bsL s3)).run prog W=.ok (.string (bsL s4)) W:=λW=>by rw[<-hs4];exact Xg u s3 (by omega) W
     have hsl:=λW=>Qhs ho0 ho1 W;have hf5:cf<5:=by omega
     have hfw:IntKind.i64.wrap (cop+1)=cop+1:=IntWalk.i64_in _ (by omega)
     have HF:Hid (s4=t++QO r.vd++Z9 (r.cd.take (j+1))):=by
      show _=_;rw[Hcj.o,<-hs4,<-hs3,<-hs2,<-hs1,Hu.o];unfold condW;simp
     clear hs1 hs2 hs3 hs4 hl1 hl2 hl3;obtain⟨wj,rfl⟩:∃wj:World,wj=wr:=⟨_,rfl⟩;clear hcj;go_wp2_with fail
     clear hd0 hd1 hd2;refine Qy (wj.heap.size+1) (by simp) (by kernel_rfl) (by kernel_rfl) ?_
     repeat(refine QL (λK hK=>?_);apply Exists.intro;refine⟨λW hC R hR=>?_,?_⟩;(first
      |(have hcc:=(HX.o W hC).1;have hcd:=(HX.o W hC).2.1;go_simp;exact hR _ _ Zbr rfl)
      |(have hLW:=(HX.o W hC).2.2;go_simp;go_at_call 65;refine(X8 cv (by omega) (by omega) _ hLW).mono ?_;rintro e w5 ⟨rfl,hb5⟩;exact⟨_,rfl,hR _ _ hb5 rfl⟩));(go_simp;refine hK _ ?_;clear hK K))
     intro w5 hC5;have Hb5:=Zh (Hbj.o.trans (((Qa (Below.refl wj.heap.size wj) (.cells #[.int .i64 cf,.int .i64 cop,.int .i64 cv] 153)).mono hszj).trans (hC5.2.mono (by omega))));clear hC5 hb1 hb2 hb3 hb4 hsl;go_wp2
     go_roundw
     case rel=>exact⟨j+1,_,by go_num,rfl,HF.o,by omega,Hb5.o⟩
     case measure=>simp[intOf];omega
    obtain rfl:j=r.cd.length:=by omega
    have hul:u.length<=34000:=by
     rw[Hu.o,List.take_length];have h1:=Ja r.cd Hkr.o.cd;have h2:=Hkr.o.len;simp only[List.length_append];omega
    have ha2:∀W:World,(Op.stringOp .add (bsL u) ⟨#[59]⟩).run prog W=.ok (.string (bsL (u++[59]))) W:=λW=>Xg u [59] (by simp;omega) W
    have HF:Hid (u++[59]=IC (p.ru.take (k+1))):=by
     show _=_;rw[Htk.o,Hu.o,List.take_length,Ht.o];unfold ZW Z9;simp
    have HB3:=Zh (Hbo1.o.trans (Hbj.o.mono (by omega)));go_wp2
    go_roundw
    case rel=>exact⟨k+1,_,by go_num,rfl,HF.o,by omega,HB3.o⟩
    case measure=>simp[intOf];omega
  obtain rfl:k=p.ru.length:=by omega
  have htl:t.length<=33600:=by
   rw[Ht.o,List.take_length];have:=Jb p.ru Hok.o.ru;have:=Hok.o.len;omega
  have hvl:=XC p.df;have hd0:=Hok.o.d0;have hd1:=Hok.o.d1;have ha1:=λW=>Xg (P:=prog) t (QO p.df) (by omega) W;have hc0:=HWr.o.cells0;have hvc:wr.cell? ⟨w.heap.size+1,p.df.toNat,none⟩=some (.string (bsL (QO p.df))):=(HWr.o.cells1 _).trans (YZ hd0 hd1)
  have HF:Hid (t++QO p.df=Vo p):=by
   show _=_;rw[Ht.o,List.take_length];rfl
  have HBf:=Zh HWr.o.bel;go_wp2;go_ret;exact⟨by rw[HF.o];rfl,HBf.o⟩
end
section
open Go.RowKit
theorem Gn(k:Nat)(l:List UInt8):Lib.splitK [32] 0 (k+1) l=if(Lib.cut l [32]).2.2 then(Lib.cut l [32]).1::Lib.splitK [32] 0 k (Lib.cut l [32]).2.1 else[l]:=by
 have hg:=Lib.index_ge l [32]
 conv=>lhs;unfold Lib.splitK
 by_cases h:Lib.index l [32] = -1
 .have hc:Lib.cut l [32]=(l,[],false):=by unfold Lib.cut;rw[if_neg (by omega)]
  rw[hc,if_pos (beq_iff_eq.2 h)];rfl
 have hc:Lib.cut l [32]=(l.take (Lib.index l [32]).toNat,l.drop ((Lib.index l [32]).toNat+1),true):=by unfold Lib.cut;rw[if_pos (by omega)];rfl
 rw[hc,if_neg (by simpa using h)];rfl
def parts3(l:List UInt8):List (List UInt8):=if(Lib.cut l [32]).2.2 then(Lib.cut l [32]).1::(if(Lib.cut (Lib.cut l [32]).2.1 [32]).2.2 then[(Lib.cut (Lib.cut l [32]).2.1 [32]).1,(Lib.cut (Lib.cut l [32]).2.1 [32]).2.1]else[(Lib.cut l [32]).2.1])else[l]
theorem QfU(l:List UInt8)(h:(Lib.cut l [32]).2.2=true):(Lib.cut l [32]).2.1.length<l.length:=by
 unfold Lib.cut at h⊢;split
 .rename_i h0;have hne:l≠[]:=λe=>by rw[e]at h0;simp[Lib.index]at h0
  have:0<l.length:=List.length_pos_iff.2 hne;simp;omega
 rename_i h0;rw[if_neg h0]at h;cases h
theorem Qiv(l:List UInt8):Lib.splitK [32] 0 (min 3 (l.length+1)-1) l=parts3 l:=by
 have hz:∀s,Lib.splitK [32] 0 0 s=[s]:=λs=>rfl;rcases Nat.lt_or_ge l.length 2 with h|h
 .rcases Nat.eq_zero_or_pos l.length with h0|h0
  .obtain rfl:l=[]:=List.length_eq_zero_iff.1 h0
   decide
  have e:min 3 (l.length+1)-1=0+1:=by omega
  rw[e,Gn,hz];unfold parts3;by_cases hc:(Lib.cut l [32]).2.2=true
  .have hs:=QfU l hc;have e2:(Lib.cut l [32]).2.1=[]:=List.length_eq_zero_iff.1 (by omega);rw[if_pos hc,if_pos hc,e2];rfl
  rw[if_neg hc,if_neg hc]
 have e:min 3 (l.length+1)-1=1+1:=by omega
 rw[e,Gn,Gn 0,hz];rfl
theorem Eg{ws:List ByteArray}{c k:Nat}(h:k<ws.length):(Lib.cellsOf ws c)[k]?=some (.string ws[k]):=by
 unfold Lib.cellsOf;rw[List.getElem?_toArray,List.getElem?_append_left (by simpa using h),List.getElem?_map,List.getElem?_eq_getElem h];rfl
theorem Qgf(l:List ByteArray):(l.map (·.data.toList)).map bsL=l:=by
 rw[List.map_map]
 conv=>rhs;rw[<-List.map_id l]
 exact List.map_congr_left λx _=>by cases x;simp[bsL]
theorem OX(L:List UInt8)(w:World)(hL:Laid w)(hs:L.length<4294967281):Calls prog 77 #[.string (bsL L),.string ⟨#[32]⟩,.int .i64 3] w λe w'=>
  ∃(cap:Nat)(cs:Array Value),e=.returned (.slice (some ⟨w.heap.size,0,none⟩) (parts3 L).length cap)/\(parts3 L).length<=cap/\w'=w.alloc (.cells cs 9)/\∀k (h:k<(parts3 L).length),cs[k]?=some (.string (bsL (parts3 L)[k])):=by
 obtain⟨m,hm⟩:=hL.ml;have hsz:(bsL L).size=L.length:=by simp[bsL,ByteArray.size]
 have hN:((min 3 ((bsL L).size+1):Nat):Int)=min (if(3:Int)<0 then(Lib.countB (bsL L) ⟨#[32]⟩:Int)+1 else 3) (((bsL L).size:Int)+1):=by
  rw[if_neg (by decide)];omega
 have hd:Lib.splitB ⟨#[32]⟩ 0 (min 3 ((bsL L).size+1)-1) (bsL L)=(parts3 L).map bsL:=by
  rw[<-Qgf (Lib.splitB ⟨#[32]⟩ 0 (min 3 ((bsL L).size+1)-1) (bsL L)),Lib.splitB_data,hsz];exact congrArg _ (Qiv L)
 have hl:=Lib.splitB_length_le ⟨#[32]⟩ 0 (min 3 ((bsL L).size+1)-1) (bsL L);rw[hd,List.length_map]at hl;have Hd:=Zh hd;have HN:=Zh hN;have Hl:=Zh hl;have Hm:=Zh hm;clear hd hN hl hm;go_enter func77,ntmps77;go_wp2_with fail
 refine(Tryz.strings_genSplit (bsL L) ⟨#[32]⟩ 0 3 (min 3 ((bsL L).size+1)) m w (by omega) Hm.o (by decide) (by decide) (by decide) (by decide) HN.o).mono ?_;rw[Hd.o,List.length_map];rintro e w1⟨rfl,rfl⟩;go_wp2;go_ret
 exact⟨_,_,rfl,by have:=Hl.o;omega,rfl,λk h=>by
  rw[Eg (by simpa using h)];simp⟩
end
section
open Go.RowKit
@[reducible] def bs(l:List UInt8):Value:=.string ⟨l.toArray⟩
@[reducible] def vmap:Array MapEntry:=#[⟨bs [107,105,108,108],.int .i64 0,0⟩,⟨bs [116,114,97,112],.int .i64 1,1⟩,⟨bs [102,97,105,108],.int .i64 2,2⟩,⟨bs [108,111,103],.int .i64 3,3⟩,⟨bs [97,108,108,111,119],.int .i64 4,4⟩]
@[reducible] def fmap:Array MapEntry:=#[⟨bs [110,114],.int .i64 0,0⟩,⟨bs [107,105,110,100],.int .i64 1,1⟩,⟨bs [97],.int .i64 2,2⟩,⟨bs [98],.int .i64 3,3⟩,⟨bs [99],.int .i64 4,4⟩]
@[reducible] def omap:Array MapEntry:=#[⟨.int .u8 61,.int .i64 1,0⟩,⟨.int .u8 33,.int .i64 2,1⟩,⟨.int .u8 60,.int .i64 3,2⟩,⟨.int .u8 62,.int .i64 4,3⟩]
theorem QbE(u:ByteArray)(l:List UInt8):Instr.sameNow .string (.string u) (bs l)=some (decide (u.data.toList=l)):=by
 have:(u==(⟨l.toArray⟩:ByteArray))=decide (u.data.toList=l):=by
  rw[beq_toListBytes,ByteArray.toList_eq,ByteArray.toList_eq,Bool.eq_iff_iff];simp
 rw[<-this];rfl
theorem Qit(n m:Int):Instr.sameNow (.int .u8) (.int .u8 n) (.int .u8 m)=some (decide (n=m)):=by
 have:(n==m)=decide (n=m):=by rw[Bool.eq_iff_iff];simp
 rw[<-this];rfl
theorem Z8{kd:TypeDesc}{k key v:Value}{born:Nat}{es:List MapEntry}{i:Nat}{b:Bool}(h:Instr.sameNow kd k key=some b):Instr.findNow kd k (⟨key,v,born⟩::es) i=if b then some (some (i,v))else Instr.findNow kd k es (i+1):=by
 cases b<;>simp[Instr.findNow,h]
theorem QiK(u:ByteArray):∃f,Instr.findNow .string (.string u) vmap.toList 0=some f/\f.map (·.2)=(Q4 u.data.toList).map λn=>Value.int .i64 n:=by
 simp only[Z8 (QbE _ _),Q4,decide_eq_true_eq]
 repeat(split;· exact⟨_,rfl,rfl⟩)
 exact⟨none,rfl,rfl⟩
theorem QiJ(u:ByteArray):∃f,Instr.findNow .string (.string u) fmap.toList 0=some f/\f.map (·.2)=(VU u.data.toList).map λn=>Value.int .i64 n:=by
 simp only[Z8 (QbE _ _),VU,decide_eq_true_eq]
 repeat(split;· exact⟨_,rfl,rfl⟩)
 exact⟨none,rfl,rfl⟩
theorem QhX(b:UInt8):∃f,Instr.findNow (.int .u8) (.int .u8 b.toNat) omap.toList 0=some f/\(f.map (·.2)).getD (.int .i64 0)=Value.int .i64 (Xc b):=by
 have e:∀n:UInt8,((b.toNat:Int)=(n.toNat:Int))=(b=n):=λn=>by
  rw[eq_iff_iff];constructor
  .intro h;exact UInt8.toNat_inj.1 (by omega)
  rintro rfl;rfl
 have e1:=e 61;have e2:=e 33;have e3:=e 60;have e4:=e 62;simp only[show((61:UInt8).toNat:Int)=61 from rfl,show((33:UInt8).toNat:Int)=33 from rfl,show((60:UInt8).toNat:Int)=60 from rfl,show((62:UInt8).toNat:Int)=62 from rfl]at e1 e2 e3 e4;simp only[Z8 (Qit _ _),Xc,decide_eq_true_eq,e1,e2,e3,e4]
 repeat(split;· exact⟨_,rfl,rfl⟩)
 exact⟨none,rfl,rfl⟩
theorem Qfs(b n:Nat):∃off:Nat,(0<n->off=1)/\∀W:World,(Instr.slice 101 (.slice (some ⟨b,0,none⟩) (n+1) (n+1)) (some (.int .i64 1)) none none).run prog W=.ok (.slice (some ⟨b,off,none⟩) n n) W:=by
 by_cases h:n=0
 .subst h;exact⟨0,λh=>by omega,λW=>by kernel_rfl⟩
 refine⟨1,λ_=>rfl,λW=>?_⟩;go_simp;intro h';omega
end
section
open Go.RowKit
theorem index5(x:TCall)(k:Nat)(h:k<5)(w:World):(Instr.index 46 (Yk x) (.int .i64 (k:Int))).run prog w=.ok (.int .i64 (x.get k)) w:=by
 have hk:k=0\/k=1\/k=2\/k=3\/k=4:=by omega
 rcases hk with rfl|rfl|rfl|rfl|rfl<;>(change _=_;kernel_rfl)
theorem cell5(x:TCall)(k:Nat)(h:k<5):(#[Value.int .i64 x.a0,.int .i64 x.a1,.int .i64 x.a2,.int .i64 x.a3,.int .i64 x.a4]:Array Value)[k]?=some (.int .i64 (x.get k)):=by
 match k,h with
 |0,_=>rfl
 |1,_=>rfl
 |2,_=>rfl
 |3,_=>rfl
 |4,_=>rfl
theorem Jz(k:Int)(w:World):Calls prog 135 #[.int .i64 k] w λe w'=>e=.returned (.int .i64 (QY k))/\w=w':=by
 by_cases h0:k=0
 .have b0:(k==0)=true:=by simpa using h0
  have e:QY k=63:=by simp[QY,h0]
  rw[e];clear h0 e;go_enter func135,ntmps135;go_wp2;go_ret;exact⟨rfl,rfl⟩
 have b0:(k==0)=false:=by simpa using h0
 by_cases h1:k=1
 .have b1:(k==1)=true:=by simpa using h1
  have e:QY k=3:=by simp[QY,h1]
  rw[e];clear h0 h1 e;go_enter func135,ntmps135;go_wp2;go_ret;exact⟨rfl,rfl⟩
 have b1:(k==1)=false:=by simpa using h1
 have e:QY k=65535:=by simp[QY,h0,h1]
 rw[e];clear h0 h1 e;go_enter func135,ntmps135;go_wp2;go_ret;exact⟨rfl,rfl⟩
def QiZ(x:TCall)(k:Nat):Prop:=∀j:Nat,j<k->0<=x.get j/\x.get j<=QY j
theorem Qei{x:TCall}(h:QiZ x 5):JZ x=0:=if_pos (TCall.ok_of h)
theorem Qbv{x:TCall}{k:Nat}(hk:k<5)(h:¬(0<=x.get k/\x.get k<=QY k)):JZ x=3:=if_neg λhx=>h (TCall.ok_get hx hk)
theorem XI(x:TCall)(w:World):Calls prog 96 #[Yk x] w λe w'=>e=.returned (.int .i64 (JZ x))/\Below w.heap.size w w':=by
 go_enter func96,ntmps96;go_wp2_with fail
 go_loop [6] (λi=>∃k:Nat,k<=5/\i=.int .i64 k/\Hid (QiZ x k)) (λi=>5-(intOf i).toNat)
 case atStart=>exact⟨0,by omega,rfl,λj hj=>absurd hj (by omega)⟩
 case round=>
  obtain⟨k,hk,rfl,hok⟩:=hrel;by_cases hlt:k<5
  .have hi:=λW=>index5 x k hlt W;by_cases h1:x.get k<0
   .have he:=Zh (Qbv hlt (x:=x) (by omega));go_wp2_with(go_at_call 135;refine(Jz _ _).mono ?_;rintro e w1 ⟨rfl,rfl⟩)
    go_ret;exact⟨Q3 he.o.symm,Qa Zbr _⟩
   by_cases h2:QY k<x.get k
   .have he:=Zh (Qbv hlt (x:=x) (by omega));go_wp2_with(go_at_call 135;refine(Jz _ _).mono ?_;rintro e w1 ⟨rfl,rfl⟩)
    go_ret;exact⟨Q3 he.o.symm,Qa Zbr _⟩
   go_wp2_with(go_at_call 135;refine(Jz _ _).mono ?_;rintro e w1 ⟨rfl,rfl⟩)
   go_round
   case rel=>
    refine⟨k+1,by omega,by go_num,λj hj=>?_⟩;by_cases e:j=k
    .subst e;omega
    exact hok.o j (by omega)
   case measure=>simp[intOf];omega
  obtain rfl:k=5:=by omega
  go_wp2;go_ret;exact⟨Q3 (Qei hok.o).symm,Qa Zbr _⟩
def inB(n a b:Int):Bool:=decide (a<=n/\n<=b)
theorem XW{n a b:Int}(h:a<=n)(h':n<=b):inB n a b=true:=by simp[inB,h,h']
theorem Zi{n a b:Int}(h:¬(a<=n/\n<=b)):inB n a b=false:=by unfold inB;exact decide_eq_false h
theorem Vx(n a b:Int)(w:World):Calls prog 56 #[.int .i64 n,.int .i64 a,.int .i64 b] w λe w'=>e=.returned (.bool (inB n a b))/\w=w':=by
 go_enter func56,ntmps56;go_wp2
 all_goals go_ret
 all_goals refine⟨VM ?_,rfl⟩
 .rename_i h1;simp[inB,h1]
 rename_i h1;have h2:¬a<=n:=by omega
 simp[inB,h2]
def ZF:Array MapEntry:=#[⟨.int .i64 0,.int .i64 63,0⟩,⟨.int .i64 1,.int .i64 3,1⟩]
theorem Qe3:Instr.findNow (.int .i64) (.int .i64 0) ZF.toList 0=some (some (0,.int .i64 63)):=rfl
theorem Qe4:Instr.findNow (.int .i64) (.int .i64 1) ZF.toList 0=some (some (1,.int .i64 3)):=rfl
theorem Qe5{k:Int}(h0:k≠0)(h1:k≠1):Instr.findNow (.int .i64) (.int .i64 k) ZF.toList 0=some none:=by
 have b0:(k==0)=false:=beq_eq_false_iff_ne.2 h0;have b1:(k==1)=false:=beq_eq_false_iff_ne.2 h1;simp[ZF,Instr.findNow,Instr.sameNow,b0,b1]
theorem Qdx(k:Int):∃f,Instr.findNow (.int .i64) (.int .i64 k) ZF.toList 0=some f/\((f=none/\QY k=65535)\/∃j,f=some (j,.int .i64 (QY k))):=by
 by_cases h0:k=0
 .subst h0;exact⟨_,Qe3,.inr ⟨_,rfl⟩⟩
 by_cases h1:k=1
 .subst h1;exact⟨_,Qe4,.inr ⟨_,rfl⟩⟩
 exact⟨_,Qe5 h0 h1,.inl ⟨rfl,by simp[QY,h0,h1]⟩⟩
theorem JA(k:Int)(w:World):Calls prog 62 #[.int .i64 k] w λe w'=>e=.returned (.int .i64 (QY k))/\Below w.heap.size w w':=by
 have hmm:=@run_makeMap prog;have h1:=Y6 (P:=prog) (w:=w) (t:=139) (es:=#[]) (c:=0) (key:=.int .i64 0) (v:=.int .i64 63) underlying139 underlying3 rfl rfl;have h2:=Y6 (P:=prog) (w:=w) (t:=139) (es:=#[⟨.int .i64 0,.int .i64 63,0⟩]) (c:=1) (key:=.int .i64 1) (v:=.int .i64 3) underlying139 underlying3 rfl rfl;have hz:(zeroValue 3).run prog (w.alloc (.map ZF 2))=.ok (.int .i64 0) (w.alloc (.map ZF 2)):=by kernel_rfl
 simp only[List.push_toArray,List.nil_append,List.cons_append,Nat.reduceAdd]at h1 h2;obtain⟨f,hf,hv⟩:=Qdx k;have h3:=ZL (key:=.int .i64 k) (t:=139) underlying139 underlying3 (Qh w (.map ZF 2)) hz rfl hf;unfold ZF at h3;clear hz hf;rcases hv with⟨rfl,hv⟩|⟨j,rfl⟩
 .rw[hv];clear hv;simp only[Option.map_none,Option.getD_none,Option.isSome_none]at h3;go_enter func62,ntmps62;go_wp2;go_ret;exact⟨rfl,Qa Zbr _⟩
 simp only[Option.map_some,Option.getD_some,Option.isSome_some]at h3;go_enter func62,ntmps62;go_wp2;go_ret;exact⟨rfl,Qa Zbr _⟩
end
section
open Go.RowKit
attribute [local go_sem] gives QG
theorem Qg9(c:TCond)(w:World):Calls prog 117 #[.agg #[.int .i64 c.f,.int .i64 c.op,.int .i64 c.v]] w λe w'=>e=.returned (.int .i64 (Zd c))/\Below w.heap.size w w':=by
 obtain⟨f,op,v⟩:=c;dsimp only;by_cases h1:f<0\/5<=f
 .have he:Zd ⟨f,op,v⟩=5:=by unfold Zd;rw[if_pos h1]
  rw[he];clear he;rcases h1 with h1|h1
  .go_enter func117,ntmps117;go_wp2;go_ret;exact⟨rfl,Qa Zbr _⟩
  have h0:¬f<0:=by omega
  go_enter func117,ntmps117;go_wp2;go_ret;exact⟨rfl,Qa Zbr _⟩
 by_cases h2:op<1\/4<op
 .have he:Zd ⟨f,op,v⟩=4:=by unfold Zd;rw[if_neg h1,if_pos h2]
  rw[he];clear he;have g0:¬f<0:=by omega
  have g1:¬5<=f:=by omega
  clear h1;rcases h2 with h2|h2
  .go_enter func117,ntmps117;go_wp2;go_ret;exact⟨rfl,Qa Zbr _⟩
  have h0:¬op<1:=by omega
  go_enter func117,ntmps117;go_wp2;go_ret;exact⟨rfl,Qa Zbr _⟩
 have g0:¬f<0:=by omega
 have g1:¬5<=f:=by omega
 have g2:¬op<1:=by omega
 have g3:¬4<op:=by omega
 have hc:∀W,Cls (w.heap.size+1) (w.alloc (.cells #[.int .i64 f,.int .i64 op,.int .i64 v] 153)) W->∀j:Nat,W.cell? ⟨w.heap.size,j,none⟩=(#[Value.int .i64 f,.int .i64 op,.int .i64 v]:Array Value)[j]?:=λW hW j=>UU hW.2 j;have Hc:=Zh hc;have He:Hid (Zd ⟨f,op,v⟩=if v<0\/QY f<v then 3 else 0):=by show Zd _=_;unfold Zd;rw[if_neg h1,if_neg h2]
 clear hc h1 h2;by_cases h3:v<0
 .have hv:decide (v<0)=true:=decide_eq_true h3;rw[He.o,if_pos (.inl h3)];go_enter func117,ntmps117;go_wp2_with fail
  refine VG (w.heap.size+1) (by simp) (by kernel_rfl) (by kernel_rfl) ?_
  repeat(refine QL (λK hK=>?_);apply Exists.intro;refine⟨λW hC R hR=>?_,?_⟩;(have hcell:=Hc.o W hC;go_simp;exact hR _ _ Zbr rfl);(go_simp;refine hK _ ?_;clear hK K))
  intro w2 hC2;go_wp2;go_ret;exact⟨rfl,UL hC2.2⟩
 have hv:decide (v<0)=false:=decide_eq_false h3;by_cases h4:QY f<v
 .have hv4:decide (QY f<v)=true:=decide_eq_true h4;rw[He.o,if_pos (.inr h4)];go_enter func117,ntmps117;go_wp2_with fail
  refine VG (w.heap.size+1) (by simp) (by kernel_rfl) (by kernel_rfl) ?_
  repeat(refine QL (λK hK=>?_);apply Exists.intro;refine⟨λW hC R hR=>?_,?_⟩;(first
   |(have hcell:=Hc.o W hC;go_simp;refine hR _ _ Zbr rfl)
   |(go_simp;go_at_call 135;refine(Jz _ _).mono ?_;rintro e w1 ⟨rfl,rfl⟩;exact⟨_,rfl,hR _ _ Zbr rfl⟩));(go_simp;refine hK _ ?_;clear hK K))
  intro w2 hC2;go_wp2;go_ret;exact⟨rfl,UL hC2.2⟩
 have hv4:decide (QY f<v)=false:=decide_eq_false h4;rw[He.o,if_neg (by omega)];go_enter func117,ntmps117;go_wp2_with fail
 refine VG (w.heap.size+1) (by simp) (by kernel_rfl) (by kernel_rfl) ?_
 repeat(refine QL (λK hK=>?_);apply Exists.intro;refine⟨λW hC R hR=>?_,?_⟩;(first
  |(have hcell:=Hc.o W hC;go_simp;refine hR _ _ Zbr rfl)
  |(go_simp;go_at_call 135;refine(Jz _ _).mono ?_;rintro e w1 ⟨rfl,rfl⟩;exact⟨_,rfl,hR _ _ Zbr rfl⟩));(go_simp;refine hK _ ?_;clear hK K))
 intro w2 hC2;go_wp2;go_ret;exact⟨rfl,UL hC2.2⟩
end
section
open Go.RowKit
attribute [local go_sem] gives QG
theorem Vz(v:Value)(p:TPol)(D:Nat->Prop)(w:World)(h:Qc w D v p.ru):Calls prog 112 #[U8 v p.df] w λe w'=>e=.returned (.int .i64 (UZ p))/\Below w.heap.size w w':=by
 obtain⟨rs,d⟩:=p;dsimp only at h⊢;obtain⟨a,c,rfl,hlc,hcm,hat⟩:=Sl.form h;have H:=Zh h;clear h;by_cases h1:120<rs.length
 .have he:UZ ⟨rs,d⟩=2:=by unfold UZ;rw[if_pos h1]
  have hz:120<(rs.length:Int):=by omega
  rw[he];clear he h1 hat H;go_enter func112,ntmps112;go_wp2;go_ret;exact⟨rfl,Qa Zbr _⟩
 have hz:¬120<(rs.length:Int):=by omega
 by_cases h2:0<=d/\d<=4
 .have hd:=XW h2.1 h2.2;have He:=Zh (show UZ ⟨rs,d⟩=V7 rs by unfold UZ;rw[if_neg h1,if_neg (by simp only;omega)]);clear h1 h2;go_enter func112,ntmps112;go_wp2_with(go_at_call 56;refine(Vx _ _ _ _).mono ?_;rintro e w1 ⟨rfl,rfl⟩)
  go_loopw[18](λi wr=>∃k:Nat,k<=rs.length/\i=.int .i64 k/\V7 rs=V7 (rs.drop k)/\Below w.heap.size w wr) (λi _=>rs.length-(intOf i).toNat)
  case atStart=>exact⟨0,by omega,rfl,rfl,Qa Zbr _⟩
  case round=>
   obtain⟨k,hk,rfl,hgo,hbw⟩:=hrel;have Hgo:=Zh hgo;have hsz:=hbw.size;clear hgo hd;by_cases hlt:k<rs.length
   .obtain⟨b,o,rfl,hDb,hb⟩:=hat (by omega);obtain⟨a',c',k0,k1,hr,hlc',hcm',hat'⟩:=Qc.cells (Qc.below H.o hbw) hlt;have Hr:=Zh hr
    have bad:∀e:Int,ZJ rs[k]=e->e≠0->∀wz,Below w.heap.size w wz->Ending.returned (.int .i64 e)=.returned (.int .i64 (UZ ⟨rs,d⟩))/\Below w.heap.size w wz:=λe he h0 wz hz=>by
     refine⟨Q3 ?_,hz⟩;rw[He.o,Hgo.o,YX rs k hlt,he,if_neg h0]
    have good:ZJ rs[k]=0->V7 rs=V7 (rs.drop (k+1)):=λhe=>by rw[Hgo.o,YX rs k hlt,if_pos he]
    have Hbad:=Zh bad;have Hgood:=Zh good;clear bad good hr;generalize hX:rs[k]=X at *;clear hX;obtain⟨cs,vd⟩:=X;dsimp only at k0 k1 hlc' hat';have Hr':Hid (QF wr D (.slice a' cs.length c') cs):=Hr;clear Hr;by_cases h3:10<cs.length
    .have Hb:=Zh (Hbad.o 2 (by unfold ZJ;rw[if_pos h3]) (by decide));have hz3:10<(cs.length:Int):=by omega
     clear Hbad Hgood hat' h3;go_wp2;go_ret;exact Hb.o _ (Qa hbw _)
    have hz3:¬10<(cs.length:Int):=by omega
    by_cases h4:0<=vd/\vd<=4
    .have hvd:=XW h4.1 h4.2;have Hre:=Zh (show ZJ ⟨cs,vd⟩=Xt cs by unfold ZJ;rw[if_neg h3,if_neg (by simp only;omega)]);clear h3 h4;go_wp2_with(go_at_call 56;refine(Vx _ _ _ _).mono ?_;rintro e w1 ⟨rfl,rfl⟩)
     obtain⟨wo,rfl⟩:∃wo:World,wo=wr:=⟨_,rfl⟩
     go_loopw[35](λi wi=>∃j:Nat,j<=cs.length/\i=.int .i64 j/\Xt cs=Xt (cs.drop j)/\Below w.heap.size w wi/\Below wo.heap.size wo wi) (λi _=>cs.length-(intOf i).toNat)
     case atStart=>exact⟨0,by omega,rfl,rfl,Qa hbw _,Qa Zbr _⟩
     case round=>
      obtain⟨j,hj,rfl,hgo,hbi,hbi'⟩:=hrel;have Hgi:=Zh hgo;have hszi:=hbi.size;clear hgo hvd;by_cases hlj:j<cs.length
      .obtain⟨b',o',rfl,hDb',hb'⟩:=hat' (by omega);obtain⟨c0,c1,c2⟩:=QF.cells (QF.below Hr'.o hbi') hlj;have badc:∀e:Int,Zd cs[j]=e->e≠0->ZJ ⟨cs,vd⟩=e:=λe he h0=>by rw[Hre.o,Hgi.o,ZZ cs j hlj,he,if_neg h0]
       have goodc:Zd cs[j]=0->Xt cs=Xt (cs.drop (j+1)):=λhe=>by rw[Hgi.o,ZZ cs j hlj,if_pos he]
       have Hbadc:=Zh badc;have Hgoodc:=Zh goodc;clear badc goodc;generalize hY:cs[j]=Y at *;clear hY;obtain⟨cf,co,cv⟩:=Y;dsimp only at c0 c1 c2;by_cases q1:0<=cf/\cf<=4
       .have d1:=XW q1.1 q1.2;by_cases q2:1<=co/\co<=4
        .have d2:=XW q2.1 q2.2;have hcl:∀W,Cls (wr.heap.size+1) (wr.alloc (.cells #[.int .i64 cf,.int .i64 co,.int .i64 cv] 153)) W->∀j:Nat,W.cell? ⟨wr.heap.size,j,none⟩=(#[Value.int .i64 cf,.int .i64 co,.int .i64 cv]:Array Value)[j]?:=λW hW j=>UU hW.2 j;have Hcl:=Zh hcl;clear hcl;by_cases q3:0<=cv/\cv<=QY cf
         .have d3:=XW q3.1 q3.2;have Hg:=Zh (Hgoodc.o (by unfold Zd;rw[if_neg (by simp only;omega),if_neg (by simp only;omega),if_neg (by simp only;omega)]));clear q1 q2 q3;go_wp2_with(go_at_call 56;refine(Vx _ _ _ _).mono ?_;rintro e w1 ⟨rfl,rfl⟩)
          refine VG (wr.heap.size+1) (by simp) (by kernel_rfl) (by kernel_rfl) ?_
          repeat(refine QL (λK hK=>?_);apply Exists.intro;refine⟨λW hC R hR=>?_,?_⟩;(first
           |(have hcell:=Hcl.o W hC;go_simp;refine hR _ _ Zbr rfl)
           |(go_simp;go_at_call 62;refine(JA _ _).mono ?_;rintro e w1 ⟨rfl,hb1⟩;exact⟨_,rfl,hR _ _ hb1 rfl⟩)
           |(go_simp;go_at_call 56;refine(Vx _ _ _ _).mono ?_;rintro e w1 ⟨rfl,rfl⟩;exact⟨_,rfl,hR _ _ Zbr rfl⟩));(go_simp;refine hK _ ?_;clear hK K))
          intro w2 hC2;go_wp2
          go_roundw
          case rel=>exact⟨j+1,by omega,by go_num,Hg.o,hbi.trans ((UL hC2.2).mono hszi),hbi'.trans ((UL hC2.2).mono hbi'.size)⟩
          case measure=>simp[intOf];omega
         have d3:=Zi q3;have Hb:=Zh (Hbad.o 3 (Hbadc.o 3 (by unfold Zd;rw[if_neg (by simp only;omega),if_neg (by simp only;omega),if_pos (by simp only;omega)]) (by decide)) (by decide));clear q1 q2 q3;go_wp2_with(go_at_call 56;refine(Vx _ _ _ _).mono ?_;rintro e w1 ⟨rfl,rfl⟩)
         refine VG (wr.heap.size+1) (by simp) (by kernel_rfl) (by kernel_rfl) ?_
         repeat(refine QL (λK hK=>?_);apply Exists.intro;refine⟨λW hC R hR=>?_,?_⟩;(first
          |(have hcell:=Hcl.o W hC;go_simp;refine hR _ _ Zbr rfl)
          |(go_simp;go_at_call 62;refine(JA _ _).mono ?_;rintro e w1 ⟨rfl,hb1⟩;exact⟨_,rfl,hR _ _ hb1 rfl⟩)
          |(go_simp;go_at_call 56;refine(Vx _ _ _ _).mono ?_;rintro e w1 ⟨rfl,rfl⟩;exact⟨_,rfl,hR _ _ Zbr rfl⟩));(go_simp;refine hK _ ?_;clear hK K))
         intro w2 hC2;go_wp2;go_ret;exact Hb.o _ (hbi.trans ((UL hC2.2).mono hszi))
        have d2:=Zi q2;have Hb:=Zh (Hbad.o 4 (Hbadc.o 4 (by unfold Zd;rw[if_neg (by simp only;omega),if_pos (by simp only;omega)]) (by decide)) (by decide));clear q1 q2;go_wp2_with(go_at_call 56;refine(Vx _ _ _ _).mono ?_;rintro e w1 ⟨rfl,rfl⟩)
        go_ret;exact Hb.o _ (Qa hbi _)
       have d1:=Zi q1;have Hb:=Zh (Hbad.o 5 (Hbadc.o 5 (by unfold Zd;rw[if_pos (by simp only;omega)]) (by decide)) (by decide));clear q1;go_wp2_with(go_at_call 56;refine(Vx _ _ _ _).mono ?_;rintro e w1 ⟨rfl,rfl⟩)
       go_ret;exact Hb.o _ (Qa hbi _)
      obtain rfl:j=cs.length:=by omega
      have Hg:=Zh (Hgood.o (by rw[Hre.o,Hgi.o,List.drop_length];rfl));go_wp2
      go_roundw
      case rel=>exact⟨k+1,by omega,by go_num,Hg.o,hbi⟩
      case measure=>simp[intOf];omega
    have hvd:=Zi h4;have Hb:=Zh (Hbad.o 3 (by unfold ZJ;rw[if_neg h3,if_pos (by simp only;omega)]) (by decide));clear Hbad Hgood hat' h3 h4;go_wp2_with(go_at_call 56;refine(Vx _ _ _ _).mono ?_;rintro e w1 ⟨rfl,rfl⟩)
    go_ret;exact Hb.o _ (Qa hbw _)
   obtain rfl:k=rs.length:=by omega
   go_wp2;go_ret;exact⟨Q3 (by rw[He.o,Hgo.o,List.drop_length];rfl),hbw⟩
 have hd:=Zi h2;have he:UZ ⟨rs,d⟩=3:=by unfold UZ;rw[if_neg h1,if_pos (by simp only;omega)]
 rw[he];clear he hat H h1 h2;go_enter func112,ntmps112;go_wp2_with(go_at_call 56;refine(Vx _ _ _ _).mono ?_;rintro e w1 ⟨rfl,rfl⟩)
 go_ret;exact⟨rfl,Qa Zbr _⟩
end
end Go.Proofs.YthkgjohhbdipcaaGreatDoor
