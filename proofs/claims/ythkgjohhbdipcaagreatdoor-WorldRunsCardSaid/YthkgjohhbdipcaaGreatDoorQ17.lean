/- Texts laid one behind the other: Lines, RLines, Bytes, DiskRd, RDCheck, DCheck, ConcatByte, CloneByte, AppR. No condition beyond theirs. -/
import Derived.Test.YthkgjohhbdipcaaGreatDoorQ15
import Derived.Test.YthkgjohhbdipcaaGreatDoorQ13
import Derived.Test.YthkgjohhbdipcaaGreatDoorQ16
import Derived.Test.YthkgjohhbdipcaaGreatDoorProg
import Derived.Test.YthkgjohhbdipcaaGreatDoorQ3
import Derived.Laws.IdiomStrings
import Derived.Laws.BytesArg
import Derived.KernelRfl
import Derived.Test.YthkgjohhbdipcaaGreatDoorQ11
import Derived.Deep.LoopGhost
import Derived.Test.YthkgjohhbdipcaaGreatDoorQ7
import Derived.Test.YthkgjohhbdipcaaGreatDoorQ8
set_option linter.all false
set_option maxHeartbeats 64000000
set_option maxRecDepth 100000
namespace Go.Proofs.YthkgjohhbdipcaaGreatDoor
open Tryz
section
open Go.RowKit
theorem Qbp:(prog.info? 56).map (λi=>(i.zero,i.size,i.bytes))=some (some (.agg #[.int .i64 0,.int .i64 0,.int .i64 0,.slice none 0 0,.int .i64 0]),5,56):=by kernel_rfl
def strLen:Value->Nat
 |.string b=>b.size
 |_=>0
def Q9(W:World)(B:Nat)(v:Value)(l:List TRec):Prop:=Qg W B 56 5 (QbR W (λb=>B<=b/\v.ownBlock≠some b)) v l
theorem Q9.nil{W:World}{B:Nat}:Q9 W B (.slice none 0 0) []:=Qg.nil
theorem Q9.below{W W':World}{B:Nat}{v:Value}{l:List TRec}(h:Q9 W B v l)(hb:Below W.heap.size W W'):Q9 W' B v l:=
 (Qg.below h hb).monoR λ_ _ _ hr=>hr.keep (λ_ hx _=>hx) (λx _ hl=>hb.block x hl) hb.size
theorem Q9.read{W:World}{B:Nat}{v:Value}{l:List TRec}(h:Q9 W B v l):Vg W (λb=>B<=b) v l:=
 Qg.sl (Qg.monoR h λ_ _ _ hr=>hr.keep (λ_ hx _=>hx.1) (λ_ _ _=>rfl) Znl) (λ_ hb=>hb)
theorem Q9.app{W W':World}{B:Nat}{v v':Value}{l:List TRec}(h:Qg W' B 56 5 (QbR W (λb=>B<=b/\v.ownBlock≠some b)) v' l)(hg:W.grownBy W' v.ownBlock)(hat:v'.ownBlock=v.ownBlock\/v'.ownBlock=some W.heap.size):Q9 W' B v' l:=
 h.monoR λ_ _ _ hr=>hr.keep (λx hx hl=>⟨hx.1,λe=>by
  rcases hat with h9|h9
  .exact hx.2 (h9.symm.trans e)
  rw[h9]at e;injection e with e;omega⟩) (λx hx hl=>hg.block x hl (λe=>hx.2 e.symm)) hg.size
theorem Q9.lt{W:World}{B:Nat}{v:Value}{l:List TRec}(h:Q9 W B v l):∀g,v.ownBlock=some g->g<W.heap.size:=λg hg=>by
 obtain⟨o,h1,_⟩:=Qg.typed h g hg;exact(Array.getElem?_eq_some_iff.1 h1).1
theorem lines_any(S:List UInt8)(most:Nat)(w:World)(hL:Laid w)(hs:S.length<=60000)(hm:most<=40):
  Calls prog 82 #[.string (bsL S),.int .i64 most] w λe w'=>∃v,e=.returned (.tuple #[v,.int .i64 ((Qv S most).2.1:Nat),.int .i64 (Qv S most).2.2])/\Q9 w' w.heap.size v (Qv S most).1/\Below w.heap.size w w':=by
 have HL:=Zh hL;have hsz:(bsL S).size=S.length:=by simp[bsL,ByteArray.size]
 obtain⟨i0,hi,hz0,hz1,hz2⟩:=info_parts Qbp;have Hi:=Zh hi;clear hL hi;go_enter func82,ntmps82;go_wp2_with fail
 clear hsz
 go_loopw[0,7](λsv lv wr=>∃(T:List UInt8)(rs:List TRec),sv=.string (bsL T)/\T.length<=S.length/\rs.length<=most/\Qv S most=(rs++(Qv T (most-rs.length)).1,(S.length-T.length)+(Qv T (most-rs.length)).2.1,(Qv T (most-rs.length)).2.2)/\Q9 wr w.heap.size lv rs/\Below w.heap.size w wr) (λsv _ _=>strLen sv)
 case atStart=>exact⟨S,[],rfl,Nat.le_refl _,Nat.zero_le _,by simp,Q9.nil,Below.refl _ _⟩
 case round=>
  obtain⟨T,rs,rfl,hT,hrs,hspec,hown,hbel⟩:=hrel;have HS:=Zh hspec;have Ho:=Zh hown;have Hb:=Zh hbel;have hszr:=hbel.size;obtain⟨al,cl,rfl⟩:=Qg.slice hown;clear hspec hown hbel;by_cases h0:T=[]
  .subst h0;have HF:Hid (Qv S most=(rs,S.length,0)):=by show _=_;rw[HS.o,Xp];simp
   have hs1:(bsL []).toList=[]:=by rw[ByteArray.toList_eq];rfl
   clear HS;go_wp2
   (try simp only[Exit.inBlock,Exit.then])
   refine bodyPost_ret (v:=.tuple #[.slice al rs.length cl,.int .i64 S.length,.int .i64 0]) ?_ rfl (by rw[HF.o];exact⟨_,rfl,Ho.o,Hb.o⟩);simp[results,results82,go_sem]
   try omega
  obtain⟨hca,hcb⟩:=Qdl T 10;rcases Yd T 10 with⟨hno,hc⟩|⟨a,t,hTe,ha,hc⟩
  .have HF:Hid (Qv S most=(rs,S.length-T.length,8)):=by show _=_;rw[HS.o,Jw hno h0];simp
   have Hc:=Zh hc;have Hne:Hid (T≠[]):=h0;have hsz:(bsL T).size=T.length:=by simp[bsL,ByteArray.size]
   have hs1:(bsL T).toList=T:=by rw[ByteArray.toList_eq];rfl
   have hsub:IntKind.i64.wrap ((S.length:Int)-(T.length:Int))=((S.length-T.length:Nat):Int):=by rw[show((S.length-T.length:Nat):Int)=(S.length:Int)-(T.length:Int) by omega];exact IntWalk.i64_in _ (by omega)
   have hb1:(T==[])=false:=by cases T with
    |nil=>exact absurd rfl h0
    |cons _ _=>rfl
   clear HS hno hc h0 hca hcb;go_wp2_with fail
   refine(IL 10 T _ (HL.o.below Hb.o) (by omega)).mono ?_;rw[Hc.o];rintro e w1⟨rfl,hb2⟩;have Ho1:=Zh (Q9.below Ho.o hb2);have Hb1:=Zh (Ql Hb.o hb2);clear hb2;dsimp only;go_wp2
   (try simp only[Exit.inBlock,Exit.then])
   refine bodyPost_ret (v:=.tuple #[.slice al rs.length cl,.int .i64 ((S.length-T.length:Nat):Int),.int .i64 8]) ?_ rfl (by rw[HF.o];exact⟨_,rfl,Ho1.o,Hb1.o⟩);simp[results,results82,go_sem]
   try omega
  subst hTe;have Hc:=Zh hc;have HLC:=Zh (XY ha (most-rs.length) (t:=t));have hlt:a.length+t.length+1<=S.length:=by simp at hT;omega
  clear hT;have hal:a.length<=60000:=by omega
  have hTl:(a++10::t).length=a.length+t.length+1:=by simp;omega
  obtain⟨TT,hTT⟩:∃TT,a++10::t=TT:=⟨_,rfl⟩;have HTT:=Zh hTT;rw[hTT]at HS Hc HLC hTl h0⊢;have hsz:(bsL TT).size=TT.length:=by simp[bsL,ByteArray.size]
  have hs1:(bsL TT).toList=TT:=by rw[ByteArray.toList_eq];rfl
  have hsub:IntKind.i64.wrap ((S.length:Int)-(TT.length:Int))=((S.length-TT.length:Nat):Int):=by rw[show((S.length-TT.length:Nat):Int)=(S.length:Int)-(TT.length:Int) by omega];exact IntWalk.i64_in _ (by omega)
  have hb1:(TT==[])=false:=by cases TT with
   |nil=>exact absurd rfl h0
   |cons _ _=>rfl
  have hTn:TT≠[]:=h0;have hTl2:TT.length<=S.length:=by omega
  have HTl:=Zh hTl;clear hTl;clear hc h0 hca hcb ha hTT;go_wp2_with fail
  refine(IL 10 TT _ (HL.o.below Hb.o) (by omega)).mono ?_;rw[Hc.o];rintro e w1⟨rfl,hb2⟩;have Ho1:=Zh (Q9.below Ho.o hb2);have Hb1:=Zh (Ql Hb.o hb2);clear hb2 Ho Hb;dsimp only;go_wp2_with fail
  refine(Qe6 a _ (HL.o.below Hb1.o)).mono ?_;obtain⟨⟨x,xe⟩,hx⟩:∃E,QZ a=E:=⟨_,rfl⟩;have Hx:=Zh hx;rw[Qcu hal,hx];rintro e w2⟨ux,rfl,hrx,hb3⟩;dsimp only at hrx;obtain⟨ax,cx,rfl,_⟩:=Sl.form hrx;dsimp only;have HA:=Zh (Qa (Below.refl w2.heap.size w2) (.cells #[.int .i64 x.kind,.int .i64 x.cell,.int .i64 x.fm,.slice ax x.p.ru.length cx,.int .i64 x.p.df] 56));have Ho2:=Zh (Q9.below (Q9.below Ho1.o hb3) HA.o);have Hb2:=Zh (Ql (Ql Hb1.o hb3) HA.o);have Hx2:=Zh (Qh w2 (.cells #[.int .i64 x.kind,.int .i64 x.cell,.int .i64 x.fm,.slice ax x.p.ru.length cx,.int .i64 x.p.df] 56));have Hrx:=Zh (Qc.below hrx HA.o);have Hown1:Hid (∀g,(Value.slice al rs.length cl).ownBlock=some g->g<w1.heap.size):=Q9.lt Ho1.o;have Hw1:Hid (w.heap.size<=w1.heap.size):=Hb1.o.size;clear hx hrx hb3 Ho1 Hb1;by_cases hxe:xe=0
  .subst hxe;by_cases hmo:rs.length=most
   .have HF:Hid (Qv S most=(rs,S.length-TT.length,2)):=by show _=_;rw[HS.o,HLC.o,Hx.o,if_neg (by simp),if_pos (by omega)];simp
    have hmo':((rs.length:Int)==(most:Int))=true:=beq_iff_eq.2 (by omega);clear hmo HS HLC;go_wp2
    (try simp only[Exit.inBlock,Exit.then])
    refine bodyPost_ret (v:=.tuple #[.slice al rs.length cl,.int .i64 ((S.length-TT.length:Nat):Int),.int .i64 2]) ?_ rfl (by rw[HF.o];exact⟨_,rfl,Ho2.o,Hb2.o⟩);simp[results,results82,go_sem]
    try omega
   have hmo':((rs.length:Int)==(most:Int))=false:=beq_eq_false_iff_ne.2 (by omega)
   have HF:Hid (Qv S most=((rs++[x])++(Qv t (most-(rs++[x]).length)).1,(S.length-t.length)+(Qv t (most-(rs++[x]).length)).2.1,(Qv t (most-(rs++[x]).length)).2.2)):=by
    show _=_;have e1:most-rs.length-1=most-(rs++[x]).length:=by simp;omega
    rw[HS.o,HLC.o,Hx.o,if_neg (by simp),if_neg (by omega),e1];refine Prod.ext (by simp) (Prod.ext ?_ rfl);dsimp only;have:=HTl.o;clear hsub Hown1;omega
   have hrs40:rs.length<=40:=by omega
   have hrsl:(rs++[x]).length<=most:=by simp;omega
   clear hmo HS HLC;have hqx:=Qb Hx2.o;have HA3:=Zh (Qa (Below.refl (w2.alloc (.cells #[.int .i64 x.kind,.int .i64 x.cell,.int .i64 x.fm,.slice ax x.p.ru.length cx,.int .i64 x.p.df] 56)).heap.size (w2.alloc (.cells #[.int .i64 x.kind,.int .i64 x.cell,.int .i64 x.fm,.slice ax x.p.ru.length cx,.int .i64 x.p.df] 56))) (.cells #[.int .i64 x.kind,.int .i64 x.cell,.int .i64 x.fm,.slice ax x.p.ru.length cx,.int .i64 x.p.df] 56));have Ho3:=Zh (Q9.below Ho2.o HA3.o);have Hb3:=Zh (Ql Hb2.o HA3.o)
   have HR1:Hid (Sl ((w2.alloc (.cells #[.int .i64 x.kind,.int .i64 x.cell,.int .i64 x.fm,.slice ax x.p.ru.length cx,.int .i64 x.p.df] 56)).alloc (.cells #[.int .i64 x.kind,.int .i64 x.cell,.int .i64 x.fm,.slice ax x.p.ru.length cx,.int .i64 x.p.df] 56)) (λ_=>True) 5 (QbR ((w2.alloc (.cells #[.int .i64 x.kind,.int .i64 x.cell,.int .i64 x.fm,.slice ax x.p.ru.length cx,.int .i64 x.p.df] 56)).alloc (.cells #[.int .i64 x.kind,.int .i64 x.cell,.int .i64 x.fm,.slice ax x.p.ru.length cx,.int .i64 x.p.df] 56)) (λb=>w.heap.size<=b/\(Value.slice al rs.length cl).ownBlock≠some b)) (.slice (some ⟨w2.heap.size+1,0,none⟩) 1 1) [x]):=
    Ub (sz:=5) (xs:=[x]) (rows:=[[.int .i64 x.kind,.int .i64 x.cell,.int .i64 x.fm,.slice ax x.p.ru.length cx,.int .i64 x.p.df]]) (Qq.cons Qq.nil ⟨_,rfl,Hrx.o.keep (λb hb _=>by
     have h1:w1.heap.size<=b:=hb;exact⟨by have:=Hw1.o;omega,λe=>by have:=Hown1.o b e;omega⟩) (λb _ hl=>HA3.o.block b hl) HA3.o.size⟩ rfl) (UM (by simp)) rfl trivial (by simp[maxLen])
   go_wp2_with(at_builtin;(
    refine QK rfl _ _ 68 rfl w.heap.size 56 i0 _ 5 56 underlying68 Hi.o hz0 hz1 hz2 rfl (by decide) _ _ rfl Ho3.o _ _ rfl HR1.o (λy _ cs h=>IX y cs h) (by show _+1<=maxLen;unfold maxLen;omega) (by show(_+1)*56<=_;omega) Hb3.o.size ?_;intro v8 w8 hown8 hg8 hat8;have Ho8:=Zh (Q9.app hown8 hg8 hat8);have Hb8:=Zh (Qg.grown Ho3.o Hb3.o hg8 Hb3.o.size Znl);clear hown8 hg8 hat8))
   go_roundw
   case rel=>first|exact⟨t,rs++[x],rfl,by have:=HTl.o;omega,hrsl,HF.o,Ho8.o,Hb8.o⟩|((repeat apply Exists.intro);exact⟨⟨t,rs++[x],rfl,by have:=HTl.o;omega,hrsl,HF.o,Ho8.o,Hb8.o⟩,rfl⟩)
   case measure=>simp[strLen,bsL,ByteArray.size];have:=HTl.o;omega
  have hne:(xe != 0)=true:=bne_iff_ne.2 hxe;have HF:Hid (Qv S most=(rs,S.length-TT.length,xe)):=by show _=_;rw[HS.o,HLC.o,Hx.o,if_pos hxe];simp
  clear hxe HS HLC;go_wp2
  (try simp only[Exit.inBlock,Exit.then])
  refine bodyPost_ret (v:=.tuple #[.slice al rs.length cl,.int .i64 ((S.length-TT.length:Nat):Int),.int .i64 xe]) ?_ rfl (by rw[HF.o];exact⟨_,rfl,Ho2.o,Hb2.o⟩);simp[results,results82,go_sem]
  try omega
end
section
open Go.RowKit
theorem QbA{w1 W:World}{n:Nat}{v:Value}{l:List TRec}(h:Vg W (λb=>w1.heap.size<=b) v l)(hn:n<w1.heap.size):Vg W (λb=>n<=b) v l:=
 h.keep (λb hb _=>by have h1:w1.heap.size<=b:=hb;show n<=b;omega) (λ_ _ _=>rfl) Znl
theorem Qbc{w w1 W:World}(h:Below w.heap.size w w1)(h':Below w1.heap.size w1 W):Below w.heap.size w W:=Ql h h'
theorem QiH(a:List UInt8):(bsL (a++[10])).extract 0 a.length=bsL a:=by
 have h:=Lib.extract_from_zero (bsL (a++[10])) a.length;have e:∀x:ByteArray,bsL x.data.toList=x:=λx=>by cases x;simp[bsL]
 rw[<-e ((bsL (a++[10])).extract 0 a.length),h];congr 1
 show(a++[10]).take a.length=a;simp
theorem drop_at{α:Type}{l m:List α}{i:Nat}{x:α}{y:List α}(h:l.drop i=m)(hm:m=x::y):i<l.length/\l[i]?=some x/\l.drop (i+1)=y:=by
 subst hm
 have hi:i<l.length:=by
  rcases Nat.lt_or_ge i l.length with h1|h1
  .exact h1
  rw[List.drop_of_length_le h1]at h;cases h
 rw[List.drop_eq_getElem_cons hi]at h;injection h with h1 h2;exact⟨hi,by rw[List.getElem?_eq_getElem hi,h1],h2⟩
theorem OD{α:Type}{l:List α}{i:Nat}{x:α}(h:l[i]?=some x)(hi:i<l.length):l[i]=x:=by
 rw[List.getElem?_eq_getElem hi]at h;injection h
theorem OL(S:List UInt8)(most:Nat)(w:World)(hL:Laid w)(hs:S.length<=60000)(hm:most<=40):
  Calls prog 83 #[.string (bsL S),.int .i64 most] w λe w'=>∃v,e=.returned (.tuple #[v,.int .i64 ((Qv S most).2.1:Nat),.int .i64 (Qv S most).2.2])/\Vg w' (λb=>w.heap.size<=b) v (Qv S most).1/\Below w.heap.size w w':=by
 have HL:=Zh hL;obtain⟨i0,hi,hz0,hz1,hz2⟩:=info_parts Qbp;have Hi:=Zh hi;have hal:=QfM S;have HalS:Hid ((after S).length<=60001):=by show _<=_;omega
 clear hL hi hal;go_enter func83,ntmps83;go_wp2_with fail
 refine(Qaa S w HL.o (by omega)).mono ?_;rintro e w1'⟨cap,cs,rfl,hcap,hw1,hcs⟩;have Hpb:Hid (w1'.heap[w.heap.size]?=some (.cells cs 9)):=by show _=_;rw[hw1];exact Qh _ _
 have Hb1:Hid (Below w.heap.size w w1'):=by show Below _ _ _;rw[hw1];exact Qa Zbr _
 have Hcs:=Zh hcs;have Hcap:=Zh hcap;clear hw1 hcs hcap;obtain⟨w1,rfl⟩:∃w1:World,w1=w1':=⟨_,rfl⟩;have Hpl:Hid (w.heap.size<w1.heap.size):=(Array.getElem?_eq_some_iff.1 Hpb.o).1;obtain⟨na,hna⟩:∃na,(after S).length=na:=⟨_,rfl⟩;have Hna:=Zh hna;rw[hna]at HalS Hcap⊢;have hna6:=HalS.o;clear hna;go_wp2_with fail
 go_loopw[7,8,16](λlv nv iv wr=>∃(i:Nat)(T:List UInt8)(rs:List TRec),iv=.int .i64 i/\nv=.int .i64 ((S.length-T.length:Nat):Int)/\(after S).drop i=after T/\T.length<=S.length/\rs.length<=most/\Qv S most=(rs++(Qv T (most-rs.length)).1,(S.length-T.length)+(Qv T (most-rs.length)).2.1,(Qv T (most-rs.length)).2.2)/\Q9 wr w1.heap.size lv rs/\Below w1.heap.size w1 wr) (λ_ _ iv _=>na-(intOf iv).toNat)
 case atStart=>first|exact⟨0,S,[],rfl,by simp,rfl,Nat.le_refl _,Nat.zero_le _,by simp,Q9.nil,Below.refl _ _⟩|((repeat apply Exists.intro);exact⟨⟨0,S,[],rfl,by simp,rfl,Nat.le_refl _,Nat.zero_le _,by simp,Q9.nil,Below.refl _ _⟩,rfl⟩)
 case round=>
  obtain⟨i,T,rs,rfl,rfl,hdrop,hT,hrs,hspec,hown,hbel⟩:=hrel;have HS:=Zh hspec;have Ho:=Zh hown;have Hb:=Zh hbel;have Hd:=Zh hdrop;have hszr:=hbel.size;have hblr:=Qd Hpb.o hbel;have hcpr:=Qb hblr;obtain⟨al,cl,rfl⟩:=Qg.slice hown;clear hspec hown hbel hdrop hblr;have hn0:(0:Int)<=((S.length-T.length:Nat):Int)/\((S.length-T.length:Nat):Int)<=60000:=by omega
  obtain⟨nn,hnn⟩:∃nn:Int,((S.length-T.length:Nat):Int)=nn:=⟨_,rfl⟩;have Hnn:=Zh hnn;rw[hnn]at hn0⊢;clear hnn;by_cases h0:T=[]
  .subst h0;have HF:Hid (Qv S most=(rs,S.length,0)):=by show _=_;rw[HS.o,Xp];simp
   obtain⟨hil,hpt,_⟩:=drop_at Hd.o (Qai (l:=[]) (by simp));have hpc:=Hcs.o i hil;rw[OD hpt hil]at hpc;rw[Hna.o]at hil;have hs1:(bsL []).toList=[]:=by rw[ByteArray.toList_eq];rfl
   have hcpi:=(hcpr i).trans hpc;clear HS hpt hpc hcpr;go_wp2
   (try simp only[Exit.inBlock,Exit.then])
   refine bodyPost_ret (v:=.tuple #[.slice al rs.length cl,.int .i64 S.length,.int .i64 0]) ?_ rfl (by rw[HF.o];exact⟨_,rfl,QbA (Q9.read Ho.o) Hpl.o,Qbc Hb1.o Hb.o⟩);have e1:nn=(S.length:Int):=by have:=Hnn.o;simp at this;omega
   simp[results,results83,go_sem,e1]
  rcases Yd T 10 with⟨hno,_⟩|⟨a,t,hTe,ha,_⟩
  .have HF:Hid (Qv S most=(rs,S.length-T.length,8)):=by show _=_;rw[HS.o,Jw hno h0];simp
   obtain⟨hil,hpt,_⟩:=drop_at Hd.o (Qai hno);have hpc:=Hcs.o i hil;rw[OD hpt hil]at hpc;rw[Hna.o]at hil;have hcpi:=(hcpr i).trans hpc;have hs1:(bsL T).toList=T:=by rw[ByteArray.toList_eq];rfl
   have hb1:(T==[])=false:=by cases T with
    |nil=>exact absurd rfl h0
    |cons _ _=>rfl
   have Hno:=Zh hno;have Hne:Hid (T≠[]):=h0;clear HS hpt hpc hcpr hno h0;go_wp2_with fail
   refine(QgO T _ (by have:=hT;omega) Hno.o).mono ?_;rintro e w2⟨rfl,hb2⟩;have Ho1:=Zh (Q9.below Ho.o hb2);have Hb2:=Zh (Ql Hb.o hb2);clear hb2;go_wp2
   (try simp only[Exit.inBlock,Exit.then])
   refine bodyPost_ret (v:=.tuple #[.slice al rs.length cl,.int .i64 ((S.length-T.length:Nat):Int),.int .i64 8]) ?_ rfl (by rw[HF.o];exact⟨_,rfl,QbA (Q9.read Ho1.o) Hpl.o,Qbc Hb1.o Hb2.o⟩);have e1:=Hnn.o;simp[results,results83,go_sem,e1]
  subst hTe;have HLC:=Zh (XY ha (most-rs.length) (t:=t));have hlt:a.length+t.length+1<=S.length:=by simp at hT;omega
  have hal:a.length<=60000:=by omega
  have hTl:(a++10::t).length=a.length+t.length+1:=by simp;omega
  obtain⟨hil,hpt,hnext⟩:=drop_at Hd.o (QfL ha);have hpc:=Hcs.o i hil;rw[OD hpt hil]at hpc;rw[Hna.o]at hil;have hcpi:=(hcpr i).trans hpc;have Hnext:=Zh hnext;have HTl:=Zh hTl;have Hlt:=Zh hlt
  have hnew:IntKind.i64.wrap (nn+((a.length:Int)+1))=((S.length-t.length:Nat):Int):=by
   have h1:=Hnn.o;rw[hTl]at h1;rw[show nn+((a.length:Int)+1)=((S.length-t.length:Nat):Int) by omega];exact IntWalk.i64_in _ (by omega)
  clear hpt hpc hcpr h0 hnext hT hTl;obtain⟨PA,hPA⟩:∃PA,a++[10]=PA:=⟨_,rfl⟩;have hPl:PA.length=a.length+1:=by rw[<-hPA];simp
  rw[hPA]at hcpi;have hs1:(bsL PA).toList=PA:=by rw[ByteArray.toList_eq];rfl
  have hps:(bsL PA).size=a.length+1:=by simp[bsL,ByteArray.size];omega
  have hb1:(PA==[])=false:=by rw[<-hPA];cases a<;>rfl
  have hwl:IntKind.i64.wrap ((a.length:Int)+1-1)=(a.length:Int):=by rw[show(a.length:Int)+1-1=(a.length:Int) by omega];exact IntWalk.i64_in _ (by omega)
  have hcut:(bsL PA).extract 0 a.length=bsL a:=by rw[<-hPA];exact QiH a
  have HPA:=Zh hPA;have HPl:=Zh hPl;have hPn:PA≠[]:=by rw[<-hPA];simp
  clear hPA hPl hlt ha;go_wp2_with fail
  refine(Qfx a _ (by omega)).mono ?_ |> (λh=>by rw[HPA.o]at h;exact h);rintro e w9⟨rfl,hb9⟩;have Ho0:=Zh (Q9.below Ho.o hb9);have Hb0:=Zh (Ql Hb.o hb9);clear hb9 Ho Hb;go_wp2_with fail
  refine(QcH a _ ((HL.o.below Hb1.o).below Hb0.o) (by omega)).mono ?_;obtain⟨⟨x,xe⟩,hx⟩:∃E,QZ a=E:=⟨_,rfl⟩;have Hx:=Zh hx;rw[hx];rintro e w2⟨ux,rfl,hrx,hb3⟩;dsimp only at hrx;obtain⟨ax,cx,rfl,_⟩:=Sl.form hrx;dsimp only;have HA:=Zh (Qa (Below.refl w2.heap.size w2) (.cells #[.int .i64 x.kind,.int .i64 x.cell,.int .i64 x.fm,.slice ax x.p.ru.length cx,.int .i64 x.p.df] 56));have Ho2:=Zh (Q9.below (Q9.below Ho0.o hb3) HA.o);have Hb2:=Zh (Ql (Ql Hb0.o hb3) HA.o);have Hx2:=Zh (Qh w2 (.cells #[.int .i64 x.kind,.int .i64 x.cell,.int .i64 x.fm,.slice ax x.p.ru.length cx,.int .i64 x.p.df] 56));have Hrx:=Zh (Qc.below hrx HA.o);have Hown1:Hid (∀g,(Value.slice al rs.length cl).ownBlock=some g->g<w9.heap.size):=Q9.lt Ho0.o;have Hw1:Hid (w1.heap.size<=w9.heap.size):=Hb0.o.size;clear hx hrx hb3 Ho0 Hb0;by_cases hxe:xe=0
  .subst hxe;by_cases hmo:most<=rs.length
   .have HF:Hid (Qv S most=(rs,S.length-(a++10::t).length,2)):=by show _=_;rw[HS.o,HLC.o,Hx.o,if_neg (by simp),if_pos (by omega)];simp
    have hmo':(most:Int)<=(rs.length:Int):=by omega
    clear hmo HS HLC;go_wp2
    (try simp only[Exit.inBlock,Exit.then])
    refine bodyPost_ret (v:=.tuple #[.slice al rs.length cl,.int .i64 ((S.length-(a++10::t).length:Nat):Int),.int .i64 2]) ?_ rfl (by rw[HF.o];exact⟨_,rfl,QbA (Q9.read Ho2.o) Hpl.o,Qbc Hb1.o Hb2.o⟩);have e1:=Hnn.o;simp only[e1];simp[results,results83,go_sem]
   have hmo':¬(most:Int)<=(rs.length:Int):=by omega
   have HF:Hid (Qv S most=((rs++[x])++(Qv t (most-(rs++[x]).length)).1,(S.length-t.length)+(Qv t (most-(rs++[x]).length)).2.1,(Qv t (most-(rs++[x]).length)).2.2)):=by
    show _=_;have e1:most-rs.length-1=most-(rs++[x]).length:=by simp;omega
    rw[HS.o,HLC.o,Hx.o,if_neg (by simp),if_neg (by omega),e1];refine Prod.ext (by simp) (Prod.ext ?_ rfl);dsimp only;have:=HTl.o;have:=Hlt.o;clear hnew hwl Hown1 hcpi;omega
   have hrs40:rs.length<=40:=by omega
   have hrsl:(rs++[x]).length<=most:=by simp;omega
   clear hmo HS HLC;have hqx:=Qb Hx2.o;have HA3:=Zh (Qa (Below.refl (w2.alloc (.cells #[.int .i64 x.kind,.int .i64 x.cell,.int .i64 x.fm,.slice ax x.p.ru.length cx,.int .i64 x.p.df] 56)).heap.size (w2.alloc (.cells #[.int .i64 x.kind,.int .i64 x.cell,.int .i64 x.fm,.slice ax x.p.ru.length cx,.int .i64 x.p.df] 56))) (.cells #[.int .i64 x.kind,.int .i64 x.cell,.int .i64 x.fm,.slice ax x.p.ru.length cx,.int .i64 x.p.df] 56));have Ho3:=Zh (Q9.below Ho2.o HA3.o);have Hb3:=Zh (Ql Hb2.o HA3.o)
   have HR1:Hid (Sl ((w2.alloc (.cells #[.int .i64 x.kind,.int .i64 x.cell,.int .i64 x.fm,.slice ax x.p.ru.length cx,.int .i64 x.p.df] 56)).alloc (.cells #[.int .i64 x.kind,.int .i64 x.cell,.int .i64 x.fm,.slice ax x.p.ru.length cx,.int .i64 x.p.df] 56)) (λ_=>True) 5 (QbR ((w2.alloc (.cells #[.int .i64 x.kind,.int .i64 x.cell,.int .i64 x.fm,.slice ax x.p.ru.length cx,.int .i64 x.p.df] 56)).alloc (.cells #[.int .i64 x.kind,.int .i64 x.cell,.int .i64 x.fm,.slice ax x.p.ru.length cx,.int .i64 x.p.df] 56)) (λb=>w1.heap.size<=b/\(Value.slice al rs.length cl).ownBlock≠some b)) (.slice (some ⟨w2.heap.size+1,0,none⟩) 1 1) [x]):=
    Ub (sz:=5) (xs:=[x]) (rows:=[[.int .i64 x.kind,.int .i64 x.cell,.int .i64 x.fm,.slice ax x.p.ru.length cx,.int .i64 x.p.df]]) (Qq.cons Qq.nil ⟨_,rfl,Hrx.o.keep (λb hb _=>by
     have h1:w9.heap.size<=b:=hb;exact⟨by have:=Hw1.o;omega,λe=>by have:=Hown1.o b e;omega⟩) (λb _ hl=>HA3.o.block b hl) HA3.o.size⟩ rfl) (UM (by simp)) rfl trivial (by simp[maxLen])
   go_wp2_with(at_builtin;(
    refine QK rfl _ _ 68 rfl w1.heap.size 56 i0 _ 5 56 underlying68 Hi.o hz0 hz1 hz2 rfl (by decide) _ _ rfl Ho3.o _ _ rfl HR1.o (λy _ cs h=>IX y cs h) (by show _+1<=maxLen;unfold maxLen;omega) (by show(_+1)*56<=_;omega) Hb3.o.size ?_;intro v8 w8 hown8 hg8 hat8;have Ho8:=Zh (Q9.app hown8 hg8 hat8);have Hb8:=Zh (Qg.grown Ho3.o Hb3.o hg8 Hb3.o.size Znl);clear hown8 hg8 hat8))
   go_roundw
   case rel=>first|exact⟨i+1,t,rs++[x],by go_num,rfl,Hnext.o,by have:=Hlt.o;omega,hrsl,HF.o,Ho8.o,Hb8.o⟩|((repeat apply Exists.intro);exact⟨⟨i+1,t,rs++[x],by go_num,rfl,Hnext.o,by have:=Hlt.o;omega,hrsl,HF.o,Ho8.o,Hb8.o⟩,rfl⟩)
   case measure=>simp[intOf];omega
  have hne:(xe != 0)=true:=bne_iff_ne.2 hxe;have hne2:(xe==0)=false:=beq_eq_false_iff_ne.2 hxe;have HF:Hid (Qv S most=(rs,S.length-(a++10::t).length,xe)):=by show _=_;rw[HS.o,HLC.o,Hx.o,if_pos hxe];simp
  clear hxe HS HLC;go_wp2
  (try simp only[Exit.inBlock,Exit.then])
  refine bodyPost_ret (v:=.tuple #[.slice al rs.length cl,.int .i64 ((S.length-(a++10::t).length:Nat):Int),.int .i64 xe]) ?_ rfl (by rw[HF.o];exact⟨_,rfl,QbA (Q9.read Ho2.o) Hpl.o,Qbc Hb1.o Hb2.o⟩);have e1:=Hnn.o;simp only[e1];simp[results,results83,go_sem]
end
section
open Go.RowKit
def XH(x:UInt8)(cs:List Value):Prop:=cs=[.int .u8 x.toNat]
def Qu(w:World)(D:Nat->Prop)(v:Value)(l:List UInt8):Prop:=Sl w D 1 XH v l
theorem Qu.keep{w w':World}{D D':Nat->Prop}{v:Value}{l:List UInt8}(h:Qu w D v l)(hD:∀b,D b->b<w.heap.size->D' b)
  (hw:∀b,D b->b<w.heap.size->w'.heap[b]?=w.heap[b]?) (hs:w.heap.size<=w'.heap.size):Qu w' D' v l:=Sl.mono h hD hw hs (λ_ _ _ h=>h)
theorem Qu.below{w w':World}{D:Nat->Prop}{v:Value}{l:List UInt8}(h:Qu w D v l)(hb:Below w.heap.size w w'):Qu w' D v l:=
 h.keep (λ_ h _=>h) (λb _ hlt=>hb.block b hlt) hb.size
theorem Qu.cell{w:World}{D:Nat->Prop}{b o n c:Nat}{s:Option Nat}{l:List UInt8}(h:Qu w D (.slice (some ⟨b,o,s⟩) n c) l){i:Nat}(hi:i<l.length):
  w.cell? ⟨b,o+i,none⟩=some (.int .u8 l[i].toNat):=by
 obtain⟨cs,hcs,hr,hcell⟩:=Sl.get h hi;unfold XH at hr;subst hr;have:=hcell 0 _ rfl
 rwa [Nat.mul_one]at this
theorem Ye(w:World)(D:Nat->Prop):Qu w D (.slice none 0 0) []:=⟨none,0,rfl,Nat.le_refl _,by decide,λ_=>rfl,λh=>by cases h⟩
theorem Qu.true{w:World}{D:Nat->Prop}{v:Value}{l:List UInt8}(h:Qu w D v l):Qu w (λ_=>True) v l:=h.keep (λ_ _ _=>trivial) (λ_ _ _=>rfl) Znl
theorem Qu.lt{w:World}{D:Nat->Prop}{v:Value}{l:List UInt8}(h:Qu w D v l):Qu w (λb=>b<w.heap.size) v l:=h.keep (λ_ _ hl=>hl) (λ_ _ _=>rfl) Znl
theorem Xz{w:World}{D:Nat->Prop}{v:Value}{l:List UInt8}(h:Qu w D v l):(convert 23 9 v).run prog w=.ok (.string ⟨l.toArray⟩) w:=by
 obtain⟨a,c,hv,hl,hm,hn,hat⟩:=h;subst hv;by_cases h0:0<l.length
 .obtain⟨b,o,rfl,_,_,hcells⟩:=hat h0;refine run_convert_bytes_back w _ _ 5 ⟨b,o,none⟩ c l underlying23 underlying5 underlying9 (λj hj=>?_);obtain⟨cs,_,hr,hc⟩:=hcells j _ (List.getElem?_eq_getElem hj);unfold XH at hr;subst hr;have:=hc 0 _ rfl;have e:(⟨b,o,none⟩:Addr).add j=⟨b,o+(j*1+0),none⟩:=by unfold Addr.add;split<;>simp_all
  rw[e];exact this
 obtain rfl:l=[]:=List.length_eq_zero_iff.1 (by omega)
 cases a with
 |none=>exact run_convert_bytes_nil w _ 5 underlying23 underlying5 _ _ _ underlying9
 |some a=>exact run_convert_bytes_back w _ _ 5 a c [] underlying23 underlying5 underlying9 (λj hj=>by simp at hj)
end
section
open Go.RowKit
@[reducible] def VH(u v:Value):Value:=.agg #[u,v]
def QB(w:World)(D:Nat->Prop)(u v:Value)(d:TDisk):Prop:=Qu w D u d.sa/\Qu w D v d.wt
theorem QB.keep{w w':World}{D D':Nat->Prop}{u v:Value}{d:TDisk}(h:QB w D u v d)(hD:∀b,D b->b<w.heap.size->D' b)
  (hw:∀b,D b->b<w.heap.size->w'.heap[b]?=w.heap[b]?) (hs:w.heap.size<=w'.heap.size):QB w' D' u v d:=⟨Qu.keep h.1 hD hw hs,Qu.keep h.2 hD hw hs⟩
theorem QB.below{w w':World}{D:Nat->Prop}{u v:Value}{d:TDisk}(h:QB w D u v d)(hb:Below w.heap.size w w'):QB w' D u v d:=⟨Qu.below h.1 hb,Qu.below h.2 hb⟩
theorem QB.true{w:World}{D:Nat->Prop}{u v:Value}{d:TDisk}(h:QB w D u v d):QB w (λ_=>True) u v d:=⟨Qu.true h.1,Qu.true h.2⟩
theorem QB.lt{w:World}{D:Nat->Prop}{u v:Value}{d:TDisk}(h:QB w D u v d):QB w (λb=>b<w.heap.size) u v d:=⟨Qu.lt h.1,Qu.lt h.2⟩
theorem U7(w:World)(D:Nat->Prop):QB w D (.slice none 0 0) (.slice none 0 0) zeroDisk:=⟨Ye w D,Ye w D⟩
end
section
open Go.RowKit
theorem EZ(u v:Value)(d:TDisk)(D:Nat->Prop)(w:World)(h:QB w D u v d)(hL:Laid w):
  Calls prog 37 #[VH u v] w λe w'=>e=.returned (.int .i64 (UA d))/\Below w.heap.size w w':=by
 have HL:=Zh hL;have H1:=Zh h.1;obtain⟨a1,c1,rfl,hc1,_⟩:=Sl.form h.1;obtain⟨a2,c2,rfl,hc2,_⟩:=Sl.form h.2;have hm1:d.sa.length<=9223372036854775807:=by omega
 have hm2:d.wt.length<=9223372036854775807:=by omega
 clear h hL hc1 hc2;have HB:=Zh (Bx.one (w:=w) (o:=.cells #[.slice a1 d.sa.length c1,.slice a2 d.wt.length c2] 25));have hcv:(convert 23 9 (.slice a1 d.sa.length c1)).run prog (w.alloc (.cells #[.slice a1 d.sa.length c1,.slice a2 d.wt.length c2] 25))=.ok (.string (bsL d.sa)) (w.alloc (.cells #[.slice a1 d.sa.length c1,.slice a2 d.wt.length c2] 25)):=Xz (Qu.below H1.o HB.o.bel);by_cases h1:60000<d.sa.length
 .have HE:Hid (UA d=2):=if_pos (by omega);have h1':(60000:Int)<(d.sa.length:Int):=by omega
  have HBL:=Zh HB.o.bel;clear hcv;go_enter func37,ntmps37;go_wp2;go_ret;exact⟨by rw[HE.o];rfl,HBL.o⟩
 have h1':¬(60000:Int)<(d.sa.length:Int):=by omega
 have hsub:IntKind.i64.wrap (60000-(d.sa.length:Int))=60000-(d.sa.length:Int):=IntWalk.i64_in _ (by omega);by_cases h2:60000<d.sa.length+d.wt.length
 .have HE:Hid (UA d=2):=if_pos h2;have h2':60000-(d.sa.length:Int)<(d.wt.length:Int):=by omega
  have HBL:=Zh HB.o.bel;clear hcv;go_enter func37,ntmps37;go_wp2;go_ret;exact⟨by rw[HE.o];rfl,HBL.o⟩
 have HE:Hid (UA d=(Qv d.sa 40).2.2):=if_neg h2;have h2':¬60000-(d.sa.length:Int)<(d.wt.length:Int):=by omega
 have Hs:Hid (d.sa.length<=60000):=by show _<=_;omega
 go_enter func37,ntmps37;go_wp2_with fail
 clear hcv;refine(OL d.sa 40 _ (HL.o.below HB.o.bel) Hs.o (by decide)).mono ?_;rintro e w1⟨v1,rfl,_,hb1⟩;have HBf:=Zh (HB.o.below hb1).bel;clear hb1;go_wp2;go_ret;exact⟨by rw[HE.o];rfl,HBf.o⟩
end
section
open Go.RowKit
theorem Zf(u v:Value)(d:TDisk)(D:Nat->Prop)(w:World)(h:QB w D u v d)(hL:Laid w):
  Calls prog 39 #[VH u v] w λe w'=>e=.returned (.int .i64 (UA d))/\Below w.heap.size w w':=by
 have HL:=Zh hL;have H1:=Zh h.1;obtain⟨a1,c1,rfl,hc1,_⟩:=Sl.form h.1;obtain⟨a2,c2,rfl,hc2,_⟩:=Sl.form h.2;have hm1:d.sa.length<=9223372036854775807:=by omega
 have hm2:d.wt.length<=9223372036854775807:=by omega
 clear h hL hc1 hc2;have HB:=Zh (Bx.one (w:=w) (o:=.cells #[.slice a1 d.sa.length c1,.slice a2 d.wt.length c2] 25));have hcv:(convert 23 9 (.slice a1 d.sa.length c1)).run prog (w.alloc (.cells #[.slice a1 d.sa.length c1,.slice a2 d.wt.length c2] 25))=.ok (.string (bsL d.sa)) (w.alloc (.cells #[.slice a1 d.sa.length c1,.slice a2 d.wt.length c2] 25)):=Xz (Qu.below H1.o HB.o.bel);by_cases h1:60000<d.sa.length
 .have HE:Hid (UA d=2):=if_pos (by omega);have h1':(60000:Int)<(d.sa.length:Int):=by omega
  have HBL:=Zh HB.o.bel;clear hcv;go_enter func39,ntmps39;go_wp2;go_ret;exact⟨by rw[HE.o];rfl,HBL.o⟩
 have h1':¬(60000:Int)<(d.sa.length:Int):=by omega
 have hsub:IntKind.i64.wrap (60000-(d.sa.length:Int))=60000-(d.sa.length:Int):=IntWalk.i64_in _ (by omega);by_cases h2:60000<d.sa.length+d.wt.length
 .have HE:Hid (UA d=2):=if_pos h2;have h2':60000-(d.sa.length:Int)<(d.wt.length:Int):=by omega
  have HBL:=Zh HB.o.bel;clear hcv;go_enter func39,ntmps39;go_wp2;go_ret;exact⟨by rw[HE.o];rfl,HBL.o⟩
 have HE:Hid (UA d=(Qv d.sa 40).2.2):=if_neg h2;have h2':¬60000-(d.sa.length:Int)<(d.wt.length:Int):=by omega
 have Hs:Hid (d.sa.length<=60000):=by show _<=_;omega
 go_enter func39,ntmps39;go_wp2_with fail
 clear hcv;refine(lines_any d.sa 40 _ (HL.o.below HB.o.bel) Hs.o (by decide)).mono ?_;rintro e w1⟨v1,rfl,_,hb1⟩;have HBf:=Zh (HB.o.below hb1).bel;clear hb1;go_wp2;go_ret;exact⟨by rw[HE.o];rfl,HBf.o⟩
end
section
open Go.RowKit
theorem infoByte:(prog.info? 5).map (λi=>(i.zero,i.size,i.bytes))=some (some (.int .u8 0),1,1):=by kernel_rfl
theorem Qcg(n:Nat)(w:World)(hn:n*1<=140737488355328):Calls prog 122 #[.slice none 0 0,.int .i64 n] w λe w'=>∃v,e=.returned v/\Qg w' w.heap.size 5 1 XH v ([]:List UInt8)/\Below w.heap.size w w':=by
 by_cases h0:n=0
 .subst h0;go_enter func122,ntmps122;go_wp2;go_ret;exact⟨_,rfl,Qg.nil,Below.refl _ _⟩
 obtain⟨i0,hi,hz0,hz1,hz2⟩:=info_parts infoByte;have hrun:=λ(W:World)(ty:TypeId)=>Lib.run_append_nil_zeros (P:=prog) W 23 3 ty 5 i0 (.int .u8 0) .i64 .i64 underlying23 underlying3 hi hz0 n (by omega) (by rw[hz1];omega) (by omega) (by rw[hz2];omega);have hgc:∀W:World,grownCap W n 0 5<=maxLen:=λW=>grownCap_le_maxLen W n 0 5 (by unfold maxLen;omega);have h1:0<(n:Int):=by omega
 have h2:(n:Int)<=9223372036854775807:=by omega
 have Hrun:=Zh hrun;have Hz:=Zh hz1;clear hrun hi hz0 hz1 hz2 h0 hn;go_enter func122,ntmps122;go_wp2_with(at_builtin;refine Lib.wpList_append_run _ rfl _ _ _ _ rfl _ _ rfl rfl _ _ (Hrun.o _ _) ?_)
 go_ret;refine⟨_,rfl,⟨[],Qq.nil,by simp,.inr ⟨w.heap.size,grownCap w n 0 5,_,rfl,Nat.le_refl _,UM rfl,by simp,hgc w,?_,by simp⟩⟩,(Qa Zbr _).drew⟩;have hge:=grownCap_ge w n 0 5;simp[size_zeroCells];omega
theorem Qim(y:UInt8)(cs:List Value)(h:XH y cs):∀c∈cs,c.oneCell'=true:=by
 unfold XH at h;subst h;simp[Value.oneCell']
def Nl(w:World)(D:Nat->Prop)(l:List UInt8)(cs:List Value):Prop:=∃u,cs=[u]/\Sl w D 1 XH u l
theorem Xm(v:Value)(ls:List (List UInt8))(D:Nat->Prop)(w:World)(h:Sl w D 1 (Nl w D) v ls)(hn:Vy ls ls.length*1<=140737488355328):
  Calls prog 81 #[v] w λe w'=>∃v',e=.returned v'/\Qg w' w.heap.size 5 1 XH v' ls.flatten/\Below w.heap.size w w':=by
 obtain⟨a,c,rfl,hlc,hcm,hat⟩:=Sl.form h;obtain⟨i0,hi,hz0,hz1,hz2⟩:=info_parts infoByte;have H:=Zh h;clear h
 have hrow:∀k (hk:k<ls.length) b o,a=some ⟨b,o,none⟩->∃(u:Value)(cu:Option Addr×Nat),u=Value.slice cu.1 ls[k].length cu.2/\Sl w D 1 XH u ls[k]/\∀wr,Below w.heap.size w wr->wr.cell? ⟨b,o+k,none⟩=some u:=λk hk b o e=>by
  subst e;obtain⟨cs,hcs,⟨u,hu,hs⟩,hcell⟩:=Sl.get H.o hk;obtain⟨a',c',hv,_⟩:=Sl.form hs;refine⟨u,(a',c'),hv,hs,λwr hb=>?_⟩;subst hu;have hc:=hcell 0 u rfl;rw[Nat.mul_one]at hc;exact(hb.cell (p:=⟨b,o+k,none⟩) (World.block_lt_of_cell? _ _ hc)).trans hc
 have Hrow:=Zh hrow;have Hn:=Zh hn;have hn':Vy ls ls.length<=140737488355328:=by omega
 clear hrow hn;go_enter func81,ntmps81;go_wp2_with fail
 go_loop [3,11](λs i=>∃k:Nat,k<=ls.length/\i=.int .i64 k/\s=.int .i64 (Vy ls k)) (λ_ i=>ls.length-(intOf i).toNat)
 case atStart=>exact⟨0,by omega,rfl,rfl⟩
 case round=>
  obtain⟨k,hk,rfl,rfl⟩:=hrel;by_cases hlt:k<ls.length
  .obtain⟨b,o,rfl,hDb,hb⟩:=hat (by omega);obtain⟨u,⟨a',c'⟩,rfl,hs,hc⟩:=Hrow.o k hlt b o rfl;have hcw:=hc w Zbr;have hle:=YQ ls (k+1) (by omega);have Hs:=Zh (XA ls k hlt);have hle':Vy ls k+ls[k].length<=140737488355328:=by have:=Hs.o;omega
   clear hs hc;go_wp2
   go_round
   case rel=>exact⟨k+1,by omega,by go_num,by rw[Hs.o];go_num⟩
   case measure=>simp[intOf];omega
  obtain rfl:k=ls.length:=by omega
  go_wp2_with fail
  refine(Qcg (Vy ls ls.length) _ Hn.o).mono ?_;rintro e w1⟨vg,rfl,hown,hb1⟩;go_wp2_with fail
  go_loopw[6,27](λs i wr=>∃(k:Nat)(vs:Value),k<=ls.length/\i=.int .i64 k/\vs=s/\Qg wr w.heap.size 5 1 XH vs (ls.take k).flatten/\Below w.heap.size w wr) (λ_ i _=>ls.length-(intOf i).toNat)
  case atStart=>exact⟨0,vg,by omega,rfl,rfl,by simpa using hown,hb1⟩
  case round=>
   obtain⟨k,vs,hk,rfl,rfl,hown,hbw⟩:=hrel;have Hown:=Zh hown;have hsz:=hbw.size;clear hown;by_cases hlt:k<ls.length
   .obtain⟨b,o,rfl,hDb,hb⟩:=hat (by omega);obtain⟨u,⟨a',c'⟩,rfl,hs,hc⟩:=Hrow.o k hlt b o rfl;have hcw:=hc wr hbw;have hle:=YQ ls (k+1) (by omega);have Hl:=Zh (XA ls k hlt);have hs':Sl wr D 1 XH (.slice a' ls[k].length c') ls[k]:=Sl.mono hs (λ_ h _=>h) (λb _ hlt=>hbw.block b hlt) hbw.size (λ_ _ _ h=>h);have Hs':=Zh hs';have Hs:=Zh (U1 ls k hlt);clear hs hc hs';go_wp2_with(at_builtin;refine U6 rfl _ _ 23 rfl w.heap.size 5 i0 _ 1 1 underlying23 hi hz0 hz1 hz2 rfl (by decide) _ _ rfl Hown.o _ _ rfl Hs'.o (λy _ cs h=>Qim y cs h) (by have:=Hl.o;unfold Vy at *;unfold maxLen;omega) (by have:=Hn.o;have:=Hl.o;unfold Vy at *;omega) hsz ?_;intro v' w2 hown' hg)
    go_roundw
    case rel=>exact⟨k+1,v',by omega,by go_num,rfl,by rw[<-U1 ls k hlt];exact hown',Hown.o.grown hbw hg hsz Znl⟩
    case measure=>simp[intOf];omega
   obtain rfl:k=ls.length:=by omega
   have Hf:Hid (Qg wr w.heap.size 5 1 XH vs ls.flatten):=by have:=Hown.o;rwa [List.take_length]at this
   go_wp2;go_ret;exact⟨_,rfl,Hf.o,hbw⟩
end
section
open Go.RowKit
theorem Xa{α:Type}(R:α->List Value->Prop)(h1R:∀(y:α)(cs:List Value),R y cs->∀c∈cs,c.oneCell'=true)(v:Value)(xs:List α)(D:Nat->Prop)(w:World)(h:Sl w D 1 R v xs)(hn:xs.length*1<=140737488355328):
  Calls prog 80 #[v] w λe w'=>∃v',e=.returned v'/\Qg w' w.heap.size 5 1 R v' xs/\Below w.heap.size w w':=by
 obtain⟨i0,hi,hz0,hz1,hz2⟩:=info_parts infoByte;have H:=Zh h;obtain⟨a,c,rfl,hlc,hcm,hnil,hat⟩:=h;have Hi:=Zh hi;clear hi
 cases a with
 |none=>
  have hc:=hnil rfl;subst hc;have hx:xs=[]:=List.length_eq_zero_iff.1 (by omega);subst hx;have hq:=λ(a:Option Addr)(n c:Nat)(W:World)=>Lib.run_eql_slice_nil (P:=prog) W 23 5 a n c 0 0 underlying23;go_enter func80,ntmps80;go_wp2;go_ret;exact⟨_,rfl,Qg.nil,Below.refl _ _⟩
 |some ad=>
  have H2:=Zh (H.o.belowR (Qa (Below.refl _ w) (.cells #[] 5)) (λ_ _ _ h=>h))
  have Hown:Hid (Qg (w.alloc (.cells #[] 5)) w.heap.size 5 1 R (.slice (some ⟨w.heap.size,0,none⟩) 0 0) ([]:List α)):=
   ⟨[],Qq.nil,by simp,.inr ⟨w.heap.size,0,#[],rfl,Nat.le_refl _,Qh _ _,by simp,by simp,by simp,by simp⟩⟩
  clear hat hnil;have hq:=λ(a:Option Addr)(n c:Nat)(W:World)=>Lib.run_eql_slice_nil (P:=prog) W 23 5 a n c 0 0 underlying23;go_enter func80,ntmps80;go_wp2_with(at_builtin;refine U6 rfl _ _ 23 rfl w.heap.size 5 i0 _ 1 1 underlying23 Hi.o hz0 hz1 hz2 rfl (by decide) _ _ rfl Hown.o _ _ rfl H2.o (λy _ cs h=>h1R y cs h) (by show 0+_<=maxLen;unfold maxLen;omega) (by show(0+_)*1<=_;omega) (by simp) ?_;intro v' w3 hown' hg)
  go_ret;exact⟨_,rfl,hown',Hown.o.grown (Qa Zbr _) hg (by simp) Znl⟩
end
section
open Go.RowKit
theorem V5{P:Program}{w:World}{o:Oper}{a:Act}{R:Value->World->Prop}(s x:Operand)(t:TypeId)
  (ho:o.op=.call { callee:=.builtin .append,args:=#[s,x],argTypes:=#[t,t] })
  (base:Nat) (e:TypeId) (i:TypeInfo) (z:Value) (size bytes:Nat) (ht:P.underlying t=some (.slice e)) (hi:P.info? e=some i) (hz:i.zero=some z)
  (hsize:i.size=size) (hby:i.bytes=bytes) (hzs:z.cells.size=size) (hsz:0<size)
  (v:Value) (n:Nat) (xs:List Value) (hs:a.eval s=v) (hown:w.ownsRow base e size v n xs)
  (ad:Addr) (m c:Nat) (news:List Value) (hx:a.eval x=.slice (some ad) m c) (hl:news.length=m*size) (hnews:∀j u,news[j]?=some u->w.cell? (ad.add j)=some u) (h1:∀u∈news,u.oneCell'=true)
  (hm:0<m) (h63:n+m<=maxLen) (hbytes:(n+m)*bytes<=140737488355328) (hbase:base<=w.heap.size)
  (h:∀v' w',w'.ownsRow base e size v' (n+m) (xs++news)->w.grownBy w' v.ownBlock->(v'.ownBlock=v.ownBlock\/v'.ownBlock=some w.heap.size)->R v' w'):gives P o a w R:=by
 obtain⟨g,cap,w',hr,h2,h3,h4,_⟩:=run_append_lies (P:=P) w t o.type base e i z size bytes ht hi hz hsize hby hzs hsz v n xs hown ad m c news hl hnews h1 hm h63 hbytes hbase _ rfl;unfold gives execOp;simp only[ho,resolve,invoke,builtin,Sem.run_bind,Sem.run_pure,Result.andThen_ok,List.map_toArray,List.map_cons,List.map_nil,hs,hx,hr];refine h _ _ h2 h3 ?_;rcases h4 with h4|h4
 .left;rw[h4];rfl
 right;rw[h4];rfl
structure I4(w0:World)(β:Nat)(T:TypeId)(box:Array Value)(base:Nat)(E:TypeId)(sz:Nat)(cv:Value)(n:Nat)(cells:List Value)(ia is:Nat)(dn:Nat->Bool)(W:World):Prop where
 os:W.os=w0.os
 tape:W.tape=w0.tape
 output:W.output=w0.output
 size:w0.heap.size<=W.heap.size
 blk:∀b,b<w0.heap.size->b≠β->some b≠cv.ownBlock->W.heap[b]?=w0.heap[b]?
 before:dn is=false->W.heap[β]?=some (.cells box T)
 old:dn ia=false->∀b,b<w0.heap.size->b≠β->W.heap[b]?=w0.heap[b]?
 own:dn ia=false->W.ownsRow base E sz cv n cells
def ApT(β:Nat)(cv:Value)(ia is:Nat)(i:Nat)(_:Nat->Value)(w w':World):Prop:=w.heap.size<=w'.heap.size/\∀b,b<w.heap.size->(i=is->b≠β)->(i=ia->some b≠cv.ownBlock)->w'.heap[b]?=w.heap[b]?
def apF(w0:World)(β:Nat)(T:TypeId)(box:Array Value)(off base:Nat)(E:TypeId)(sz:Nat)(cv:Value)(n:Nat)(cells:List Value)(m:Nat)(news:(Nat->Value)->List Value)(ia is:Nat)(G:Nat->(Nat->Value)->World->Prop)(k:Nat)(_:Nat->Bool)(vf:Nat->Value)(W:World):Prop:=
 if k=ia then W.ownsRow base E sz (vf ia) (n+m) (cells++news vf)/\((vf ia).ownBlock=cv.ownBlock\/∀g,(vf ia).ownBlock=some g->w0.heap.size<=g)
 else if k=is then W.heap[β]?=some (.cells (box.setIfInBounds off (vf ia)) T)else G k vf W
section
variable{w0 W W':World}{β:Nat}{T:TypeId}{box:Array Value}{off base:Nat}{E:TypeId}{sz n m ia is i:Nat}{cv:Value}{cells:List Value}{dn:Nat->Bool}{vf:Nat->Value}
theorem I4.step(h:I4 w0 β T box base E sz cv n cells ia is dn W)(hb:Below W.heap.size W W')(h1:i≠ia)(h2:i≠is)(hβ:β<w0.heap.size):I4 w0 β T box base E sz cv n cells ia is (Qe dn i) W' where
 os:=hb.os.trans h.os
 tape:=hb.tape.trans h.tape
 output:=hb.output.trans h.output
 size:=Nat.le_trans h.size hb.size
 blk:=λb hlt hn ho=>(hb.block b (Nat.lt_of_lt_of_le hlt h.size)).trans (h.blk b hlt hn ho)
 before:=λhd=>by
  have:dn is=false:=by simpa[Qe,Ne.symm h2]using hd
  rw[hb.block β (Nat.lt_of_lt_of_le hβ h.size)];exact h.before this
 old:=λhd b hlt hn=>by
  have:dn ia=false:=by simpa[Qe,Ne.symm h1]using hd
  exact(hb.block b (Nat.lt_of_lt_of_le hlt h.size)).trans (h.old this b hlt hn)
 own:=λhd=>by
  have:dn ia=false:=by simpa[Qe,Ne.symm h1]using hd
  exact Uh (h.own this) λb _ hlt _=>hb.block b hlt
theorem ApT.of_below(hb:Below W.heap.size W W'):ApT β cv ia is i vf W W':=⟨hb.size,λb hlt _ _=>hb.block b hlt⟩
theorem I4.appended(h:I4 w0 β T box base E sz cv n cells ia is dn W)(hd:dn is=false)(hcv:∀g,cv.ownBlock=some g->g≠β)(hg:W.grownBy W' cv.ownBlock)(hβ:β<w0.heap.size):I4 w0 β T box base E sz cv n cells ia is (Qe dn ia) W' where
 os:=hg.os.trans h.os
 tape:=hg.tape.trans h.tape
 output:=hg.output.trans h.output
 size:=Nat.le_trans h.size hg.size
 blk:=λb hlt hn ho=>(hg.block b (Nat.lt_of_lt_of_le hlt h.size) ho).trans (h.blk b hlt hn ho)
 before:=λ_=>by rw[hg.block β (Nat.lt_of_lt_of_le hβ h.size) (λe=>hcv β e.symm rfl)];exact h.before hd
 old:=λhd=>by simp[Qe]at hd
 own:=λhd=>by simp[Qe]at hd
theorem ApT.of_grown(hg:W.grownBy W' cv.ownBlock):ApT β cv ia is ia vf W W':=⟨hg.size,λb hlt _ h=>hg.block b hlt (h rfl)⟩
theorem I4.stored{v:Value}(h:I4 w0 β T box base E sz cv n cells ia is dn W)(hda:dn ia=true)(hne:is≠ia):
  I4 w0 β T box base E sz cv n cells ia is (Qe dn is) (W.setCell ⟨β,off,none⟩ v) where
 os:=h.os
 tape:=h.tape
 output:=h.output
 size:=by rw[Qr];exact h.size
 blk:=λb hlt hn ho=>by rw[Qm (by exact hn)];exact h.blk b hlt hn ho
 before:=λhd=>by simp[Qe]at hd
 old:=λhd=>by simp[Qe,Ne.symm hne,hda]at hd
 own:=λhd=>by simp[Qe,Ne.symm hne,hda]at hd
theorem ApT.of_store{v:Value}:ApT β cv ia is is vf W (W.setCell ⟨β,off,none⟩ v):=⟨by rw[Qr];exact Nat.le_refl _,λb _ hn _=>Qm (by exact hn rfl)⟩
end
theorem ZO{P:Program}{l:List Oper}{Q:Exit->Act->World->Prop}{a:Act}{id:Nat}{w0:World}(β:Nat)(T:TypeId)(box:Array Value)(off base:Nat)(E:TypeId)(sz:Nat)(cv:Value)(n:Nat)(cells:List Value)(m:Nat)(news:(Nat->Value)->List Value)(ia is:Nat)(G:Nat->(Nat->Value)->World->Prop)
  (hm:P.follows .mixedOrders=true) (hB:YD (l.map prune) a.tmps.size=true) (bs:List (List Nat)) (hbs:befores (l.map prune) []=bs)
  (hbox:w0.heap[β]?=some (.cells box T)) (hown:w0.ownsRow base E sz cv n cells) (hβ:β<base) (hcv:∀g,cv.ownBlock=some g->g≠β) (his:ia≠is) (hia:ia∈bs.getD is [])
  (hG:∀(k:Nat)(vf:Nat->Value)(w w':World),(∀b,w0.heap.size<=b->b<w.heap.size->w'.heap[b]?=w.heap[b]?)->w.heap.size<=w'.heap.size->G k vf w->G k vf w')
  (hGp:∀(k:Nat)(f g:Nat->Value)(w:World),(∀m∈bs.getD k [],f m=g m)->f k=g k->G k f w->G k g w) (hN:∀f g:Nat->Value,(∀m∈bs.getD ia [],f m=g m)->news f=news g)
  (h:Vl P l.toArray (I4 w0 β T box base E sz cv n cells ia is) (ApT β cv ia is) (apF w0 β T box off base E sz cv n cells m news ia is G) bs (Q .normal) l.length l 0 (λ_=>a)):(Code.region id l.toArray true).wp P Q a w0:=by
 have hβ':β<w0.heap.size:=(Array.getElem?_eq_some_iff.1 hbox).1;have hlt:∀g,cv.ownBlock=some g->g<w0.heap.size:=λg hg=>(hown.lt g hg).2;refine Yu _ _ _ hm hB bs hbs (λi dn vf w1 w2 _ hd hbf hf hT k hk=>?_) (λk dn f g w1 hfg hk hF=>?_) ⟨rfl,rfl,rfl,Nat.le_refl _,λ_ _ _ _=>rfl,λ_=>hbox,λ_ _ _ _=>rfl,λ_=>Uh hown λ_ _ _ _=>rfl⟩ h
 .have hki:k≠i:=λe=>by rw[e,hd]at hk;cases hk
  have hF:=hf k hk;unfold apF at hF⊢;split
  .rename_i e;rw[if_pos e]at hF;refine⟨Uh hF.1 λb hb hl ho=>hT.2 b hl (λ_=>by omega) (λe'=>absurd (e.trans e'.symm) hki),hF.2⟩
  rename_i e;rw[if_neg e]at hF;split
  .rename_i e2;rw[if_pos e2]at hF;rw[hT.2 β (Array.getElem?_eq_some_iff.1 hF).1 (λe'=>absurd (e2.trans e'.symm) hki) (λ_ e'=>hcv β e'.symm rfl)];exact hF
  rename_i e2;rw[if_neg e2]at hF;exact hG k vf _ _ (λb hb hl=>hT.2 b hl (λ_=>by omega) (λ_ e'=>by have:=hlt b e'.symm;omega)) hT.1 hF
 unfold apF at hF⊢;split
 .rename_i e;subst e;rw[if_pos rfl,hk,hN f g hfg]at hF;exact hF
 rename_i e;rw[if_neg e]at hF;split
 .rename_i e2;subst e2;rw[if_pos rfl,hfg ia hia]at hF;exact hF
 rename_i e2;rw[if_neg e2]at hF;exact hGp k f g w1 hfg hk hF
def Yn(B:Nat)(E:TypeId)(m:Nat)(cs:Array Value)(v:Value)(W:World):Prop:=∃b,v=.slice (some ⟨b,0,none⟩) m m/\B<=b/\W.heap[b]?=some (.cells cs E)
theorem Yn.keep{B:Nat}{E:TypeId}{m:Nat}{cs:Array Value}{v:Value}{w w':World}(h:Yn B E m cs v w)(hb:∀b,B<=b->b<w.heap.size->w'.heap[b]?=w.heap[b]?):Yn B E m cs v w':=by
 obtain⟨b,hv,hB,hc⟩:=h;refine⟨b,hv,hB,?_⟩;rw[hb b hB (Array.getElem?_eq_some_iff.1 hc).1];exact hc
theorem Qg.keepFrom{α:Type}{w w':World}{base:Nat}{e:TypeId}{sz:Nat}{R:α->List Value->Prop}{v:Value}{xs:List α}(h:Qg w base e sz R v xs)(hb:∀b,base<=b->b<w.heap.size->w'.heap[b]?=w.heap[b]?):Qg w' base e sz R v xs:=by
 obtain⟨rows,hr,ho⟩:=h;exact⟨rows,hr,Uh ho λb hbb hl _=>hb b hbb hl⟩
def Qi2(io ib ia:Nat)(O N A:Value->World->Prop)(k:Nat)(dn:Nat->Bool)(vf:Nat->Value)(W:World):Prop:=
 if k=ia then A (vf ia) W else if k=io then(dn ia=false->O (vf io) W)else if k=ib then(dn ia=false->N (vf ib) W)else True
def Qi6(ia:Nat)(i:Nat)(_:Nat->Value)(w w':World):Prop:=i≠ia->Below w.heap.size w w'
theorem QbN{P:Program}{l:List Oper}{Q:Exit->Act->World->Prop}{a:Act}{id:Nat}{w0:World}(B:Nat)(hBw:B<=w0.heap.size)(io ib ia:Nat)(O N A:Value->World->Prop)
  (hm:P.follows .mixedOrders=true) (hB:YD (l.map prune) a.tmps.size=true) (bs:List (List Nat)) (hbs:befores (l.map prune) []=bs)
  (hO:∀v w w',Below w.heap.size w w'->O v w->O v w') (hN:∀v w w',Below w.heap.size w w'->N v w->N v w') (hA:∀v w w',Below w.heap.size w w'->A v w->A v w')
  (h:Vl P l.toArray (QiO B w0) (Qi6 ia) (Qi2 io ib ia O N A) bs (Q .normal) l.length l 0 (λ_=>a)):(Code.region id l.toArray true).wp P Q a w0:=by
 refine Yu _ _ _ hm hB bs hbs (λi dn vf w1 w2 _ hd hbf hf hT k hk=>?_) (λk dn f g w1 hfg hk hF=>?_) ⟨hBw,Zbr.drew⟩ h
 .have hki:k≠i:=λe=>by rw[e,hd]at hk;cases hk
  have hF:=hf k hk;unfold Qi2 at hF⊢;split
  .rename_i e;rw[if_pos e]at hF;exact hA _ _ _ (hT (λe'=>hki (e.trans e'.symm))) hF
  rename_i e;rw[if_neg e]at hF;split
  .rename_i e2;rw[if_pos e2]at hF;intro hx;unfold Qe at hx;split at hx
   .cases hx
   rename_i hia;exact hO _ _ _ (hT (λe'=>hia e'.symm)) (hF hx)
  rename_i e2;rw[if_neg e2]at hF;split
  .rename_i e3;rw[if_pos e3]at hF;intro hx;unfold Qe at hx;split at hx
   .cases hx
   rename_i hia;exact hN _ _ _ (hT (λe'=>hia e'.symm)) (hF hx)
  trivial
 unfold Qi2 at hF⊢;split
 .rename_i e;subst e;rw[if_pos rfl,hk]at hF;exact hF
 rename_i e;rw[if_neg e]at hF;split
 .rename_i e2;subst e2;rw[if_pos rfl,hk]at hF;exact hF
 rename_i e2;rw[if_neg e2]at hF;split
 .rename_i e3;subst e3;rw[if_pos rfl,hk]at hF;exact hF
 trivial
theorem Yn.below{B:Nat}{E:TypeId}{m:Nat}{cs:Array Value}{v:Value}{w w':World}(h:Yn B E m cs v w)(hb:Below w.heap.size w w'):Yn B E m cs v w':=h.keep λb _ hl=>hb.block b hl
end
end Go.Proofs.YthkgjohhbdipcaaGreatDoor
