/- Texts laid one behind the other: NParse. No condition beyond theirs. -/
import Derived.Test.YthkgjohhbdipcaaGreatDoorQ12
import Derived.Test.YthkgjohhbdipcaaGreatDoorQ14
set_option linter.all false
set_option maxHeartbeats 64000000
set_option maxRecDepth 100000
namespace Go.Proofs.YthkgjohhbdipcaaGreatDoor
open Tryz
section
open Go.RowKit Go.Shelf
def Vq(s:List UInt8):TRec×Int:=if 60000<s.length then(X7,2)else QZ s
theorem Qcu{s:List UInt8}(h:s.length<=60000):Vq s=QZ s:=if_neg (by omega)
theorem U4{k:Int}{B R:List UInt8}{m:Bool}(h:k=0\/(Ug B).2=false\/m≠decide (k≠4)):ZT k (B,R,m)=(X7,1):=if_pos h
theorem E5{B R:List UInt8}{n f:Int}{ok:Bool}(h:Ug B=(n,true))(h':Ug R=(f,ok)):ZT 3 (B,R,true)=if ok then Uc ⟨3,n,f,⟨[],0⟩⟩else(X7,1):=by
 unfold ZT;dsimp only;rw[h,h'];rw[if_neg (by simp),if_pos rfl];rfl
theorem E8{B R:List UInt8}{n:Int}(h:Ug B=(n,true)):ZT 4 (B,R,false)=Uc ⟨4,n,0,⟨[],0⟩⟩:=by
 unfold ZT;dsimp only;rw[h];rw[if_neg (by simp),if_neg (by decide),if_pos rfl];rfl
theorem JE{B R:List UInt8}{k n:Int}(hk:k=1\/k=2)(h:Ug B=(n,true)):ZT k (B,R,true)=if(VE R).2≠0 then(X7,(VE R).2)else Uc ⟨k,n,0,(VE R).1⟩:=by
 unfold ZT;dsimp only;rw[h];rw[if_neg (by rcases hk with rfl|rfl<;>simp),if_neg (by omega),if_neg (by omega)]
theorem Yi{b:Nat}{W W':World}{v:Value}{l:List TRule}(h:Qc W (λx=>b+1<=x) v l)(hg:W.grownBy W' (some b)):Qc W' (λx=>b<=x) v l:=
 h.keep (λx hx _=>by have h1:b+1<=x:=hx;show b<=x;omega) (λx hx hl=>QC hg hl (by have h1:b+1<=x:=hx;omega)) hg.size
theorem Qhn(x:List UInt8):∃K:Int,Lib.idxOfS [bsL [],bsL [111,112,101,110],bsL [116,105,103,104,116],bsL [102,111,114,107],bsL [115,104,117,116]] (bsL x)=K/\(kindOf x=0->K<1)/\(kindOf x≠0->K=kindOf x):=by
 refine⟨_,rfl,?_,?_⟩<;>rw[idx5]<;>unfold kindOf
 .repeat' split
  all_goals simp_all
 repeat' split
 all_goals simp_all
theorem Qe6(L:List UInt8)(w:World)(hL:Laid w):
  Calls prog 26 #[.string (bsL L)] w λe w'=>∃v,e=.returned (.tuple #[Yg (Vq L).1 v,.int .i64 (Vq L).2])/\Qc w' (λb=>w.heap.size<=b) v (Vq L).1.p.ru/\Below w.heap.size w w':=by
 have HL:=Zh hL;have hsz:(bsL L).size=L.length:=by simp[bsL,ByteArray.size]
 clear hL;have HB:=Zh (Bx.one (w:=w) (o:=.cells #[.int .i64 0,.int .i64 0,.int .i64 0,.slice none 0 0,.int .i64 0] 56));by_cases hlen:60000<L.length
 .have HE:Hid (Vq L=(⟨0,0,0,⟨[],0⟩⟩,2)):=if_pos hlen;have hlz:(60000:Int)<(L.length:Int):=by omega
  clear hlen;go_enter func26,ntmps26;go_wp2;refine bodyPost_ret (v:=.tuple #[Yg ⟨0,0,0,⟨[],0⟩⟩ (.slice none 0 0),.int .i64 2]) ?_ rfl (by rw[HE.o];exact⟨_,rfl,QE _ _,HB.o.bel⟩);rw[results_cell_tmp rfl];go_simp
 have hlz:¬(60000:Int)<(L.length:Int):=by omega
 have Hlen:Hid (L.length<=60000):=by show _<=_;omega
 have HE0:Hid (Vq L=ZT (kindOf (Lib.cut L [32]).1) (Lib.cut (Lib.cut L [32]).2.1 [32])):=if_neg hlen;obtain⟨hla,hlb⟩:=Qdl L 32;obtain⟨⟨A,S,m0⟩,hA⟩:∃E,Lib.cut L [32]=E:=⟨_,rfl⟩;have HA:=Zh hA;rw[hA]at HE0 hla hlb;obtain⟨hlc,hld⟩:=Qdl S 32;obtain⟨⟨B,R,m⟩,hB⟩:∃E,Lib.cut S [32]=E:=⟨_,rfl⟩;have HB2:=Zh hB;dsimp only at HE0 hla hlb;rw[hB]at HE0 hlc hld;dsimp only at hlc hld;have Hlb:Hid (S.length<=60000/\B.length<=60000/\R.length<=60000):=⟨by omega,by omega,by omega⟩;obtain⟨⟨n,okb⟩,hn⟩:∃E,Ug B=E:=⟨_,rfl⟩;have Hn:=Zh hn;obtain⟨K,hK,hK0,hK1⟩:=Qhn A;have HKi:=Zh hK;clear hA hB hn hlen hla hlb hlc hld hK;go_enter func26,ntmps26;go_wp2_with fail
 refine(IL 32 L _ (HL.o.below HB.o.bel) (by have:=Hlen.o;omega)).mono ?_;rw[HA.o];rintro e w1⟨rfl,hb1⟩;have HB1:=Zh (HB.o.below hb1);clear hb1;dsimp only;go_wp2_with fail
 refine(IL 32 S _ (HL.o.below HB1.o.bel) (by have:=Hlb.o.1;omega)).mono ?_;rw[HB2.o];rintro e w2⟨rfl,hb2⟩;have HBb:=Zh (HB1.o.below hb2);clear hb2;dsimp only;go_wp2_with fail
 refine(QaQ (bsL B) _ (HL.o.below HBb.o.bel) (by have:=Hlb.o.2.1;simp[bsL,ByteArray.size];omega)).mono ?_;rw[Vd,Hn.o];rintro e w3⟨rfl,hb3⟩;have HB3:=Zh (HBb.o.below hb3);clear hb3;dsimp only;go_wp2_with fail
 refine(Qc5 _).mono ?_;rintro e w4'⟨rfl,hw4⟩;have Hwr:Hid (w4'.heap[w3.heap.size]?=some (.cells Gq 9)):=by show _=_;rw[hw4];exact Qh _ _
 have HB4:Hid (Bx w [.cells #[.int .i64 0,.int .i64 0,.int .i64 0,.slice none 0 0,.int .i64 0] 56] w4'):=by rw[hw4];exact HB3.o.alloc _
 clear hw4;obtain⟨w4,rfl⟩:∃w4:World,w4=w4':=⟨_,rfl⟩;go_wp2_with fail
 refine(Zp [] [111,112,101,110] [116,105,103,104,116] [102,111,114,107] [115,104,117,116] A w3.heap.size w4 Hwr.o).mono ?_;rw[HKi.o];rintro e w5⟨rfl,rfl⟩;obtain⟨w4,rfl⟩:∃w4:World,w4=w5:=⟨_,rfl⟩;have HBx:=Zh (HB4.o.alloc (.cells #[.int .i64 K,.int .i64 n,.int .i64 0,.slice none 0 0,.int .i64 0] 56));have HXx:Hid (_=some _):=Qh w4 (.cells #[.int .i64 K,.int .i64 n,.int .i64 0,.slice none 0 0,.int .i64 0] 56);have Hbx:Hid (w.heap.size+1<=w4.heap.size):=HB4.o.top;by_cases hk0:kindOf A=0
 .have HE1:Hid (Vq L=(⟨0,0,0,⟨[],0⟩⟩,1)):=by show _=_;rw[HE0.o];exact U4 (.inl hk0)
  have hKlt:=hK0 hk0;clear hk0 hK0 hK1;have hq0:=HBx.o.cells0;have hf0:=HBx.o.free0;have HS:=Zh (HBx.o.put5 (.int .i64 0) (.int .i64 0) (.int .i64 0) (.slice none 0 0) (.int .i64 0) rfl);have hqs:=HS.o.cells0;have HBL:=Zh HS.o.bel;clear HS;go_wp2;refine bodyPost_ret (v:=.tuple #[Yg ⟨0,0,0,⟨[],0⟩⟩ (.slice none 0 0),.int .i64 1]) ?_ rfl (by rw[HE1.o];exact⟨_,rfl,QE _ _,HBL.o⟩);rw[results_cell_tmp rfl];go_simp
 have hKe:=hK1 hk0;obtain⟨k,hk⟩:∃k,kindOf A=k:=⟨_,rfl⟩
 have hkr:k=1\/k=2\/k=3\/k=4:=by
  rw[<-hk];obtain⟨_,h1,h2⟩:=Qea hk0;omega
 rw[hk]at hKe HE0;subst hKe;clear hk0 hK0 hK1 HKi hk
 cases okb with
 |false=>
  have HE1:Hid (Vq L=(⟨0,0,0,⟨[],0⟩⟩,1)):=by show _=_;rw[HE0.o];exact U4 (.inr (.inl (by rw[Hn.o])))
  rcases hkr with rfl|rfl|rfl|rfl
  .have hq0:=HBx.o.cells0;have hf0:=HBx.o.free0;have HS:=Zh (HBx.o.put5 (.int .i64 0) (.int .i64 0) (.int .i64 0) (.slice none 0 0) (.int .i64 0) rfl);have hqs:=HS.o.cells0;have HBL:=Zh HS.o.bel;clear HS;go_wp2;refine bodyPost_ret (v:=.tuple #[Yg ⟨0,0,0,⟨[],0⟩⟩ (.slice none 0 0),.int .i64 1]) ?_ rfl (by rw[HE1.o];exact⟨_,rfl,QE _ _,HBL.o⟩);rw[results_cell_tmp rfl];go_simp
  .have hq0:=HBx.o.cells0;have hf0:=HBx.o.free0;have HS:=Zh (HBx.o.put5 (.int .i64 0) (.int .i64 0) (.int .i64 0) (.slice none 0 0) (.int .i64 0) rfl);have hqs:=HS.o.cells0;have HBL:=Zh HS.o.bel;clear HS;go_wp2;refine bodyPost_ret (v:=.tuple #[Yg ⟨0,0,0,⟨[],0⟩⟩ (.slice none 0 0),.int .i64 1]) ?_ rfl (by rw[HE1.o];exact⟨_,rfl,QE _ _,HBL.o⟩);rw[results_cell_tmp rfl];go_simp
  .have hq0:=HBx.o.cells0;have hf0:=HBx.o.free0;have HS:=Zh (HBx.o.put5 (.int .i64 0) (.int .i64 0) (.int .i64 0) (.slice none 0 0) (.int .i64 0) rfl);have hqs:=HS.o.cells0;have HBL:=Zh HS.o.bel;clear HS;go_wp2;refine bodyPost_ret (v:=.tuple #[Yg ⟨0,0,0,⟨[],0⟩⟩ (.slice none 0 0),.int .i64 1]) ?_ rfl (by rw[HE1.o];exact⟨_,rfl,QE _ _,HBL.o⟩);rw[results_cell_tmp rfl];go_simp
  have hq0:=HBx.o.cells0;have hf0:=HBx.o.free0;have HS:=Zh (HBx.o.put5 (.int .i64 0) (.int .i64 0) (.int .i64 0) (.slice none 0 0) (.int .i64 0) rfl);have hqs:=HS.o.cells0;have HBL:=Zh HS.o.bel;clear HS;go_wp2;refine bodyPost_ret (v:=.tuple #[Yg ⟨0,0,0,⟨[],0⟩⟩ (.slice none 0 0),.int .i64 1]) ?_ rfl (by rw[HE1.o];exact⟨_,rfl,QE _ _,HBL.o⟩);rw[results_cell_tmp rfl];go_simp
 |true=>
  cases m with
  |false=>
   rcases hkr with rfl|rfl|rfl|rfl
   .have HE1:Hid (Vq L=(⟨0,0,0,⟨[],0⟩⟩,1)):=by show _=_;rw[HE0.o];exact U4 (.inr (.inr (by decide)))
    have hq0:=HBx.o.cells0;have hf0:=HBx.o.free0;have HS:=Zh (HBx.o.put5 (.int .i64 0) (.int .i64 0) (.int .i64 0) (.slice none 0 0) (.int .i64 0) rfl);have hqs:=HS.o.cells0;have HBL:=Zh HS.o.bel;clear HS;go_wp2;refine bodyPost_ret (v:=.tuple #[Yg ⟨0,0,0,⟨[],0⟩⟩ (.slice none 0 0),.int .i64 1]) ?_ rfl (by rw[HE1.o];exact⟨_,rfl,QE _ _,HBL.o⟩);rw[results_cell_tmp rfl];go_simp
   .have HE1:Hid (Vq L=(⟨0,0,0,⟨[],0⟩⟩,1)):=by show _=_;rw[HE0.o];exact U4 (.inr (.inr (by decide)))
    have hq0:=HBx.o.cells0;have hf0:=HBx.o.free0;have HS:=Zh (HBx.o.put5 (.int .i64 0) (.int .i64 0) (.int .i64 0) (.slice none 0 0) (.int .i64 0) rfl);have hqs:=HS.o.cells0;have HBL:=Zh HS.o.bel;clear HS;go_wp2;refine bodyPost_ret (v:=.tuple #[Yg ⟨0,0,0,⟨[],0⟩⟩ (.slice none 0 0),.int .i64 1]) ?_ rfl (by rw[HE1.o];exact⟨_,rfl,QE _ _,HBL.o⟩);rw[results_cell_tmp rfl];go_simp
   .have HE1:Hid (Vq L=(⟨0,0,0,⟨[],0⟩⟩,1)):=by show _=_;rw[HE0.o];exact U4 (.inr (.inr (by decide)))
    have hq0:=HBx.o.cells0;have hf0:=HBx.o.free0;have HS:=Zh (HBx.o.put5 (.int .i64 0) (.int .i64 0) (.int .i64 0) (.slice none 0 0) (.int .i64 0) rfl);have hqs:=HS.o.cells0;have HBL:=Zh HS.o.bel;clear HS;go_wp2;refine bodyPost_ret (v:=.tuple #[Yg ⟨0,0,0,⟨[],0⟩⟩ (.slice none 0 0),.int .i64 1]) ?_ rfl (by rw[HE1.o];exact⟨_,rfl,QE _ _,HBL.o⟩);rw[results_cell_tmp rfl];go_simp
   have HE1:Hid (Vq L=Uc ⟨4,n,0,⟨[],0⟩⟩):=by show _=_;rw[HE0.o];exact E8 Hn.o
   have hqx:=Qb HXx.o;go_wp2_with fail
   clear hqx;have HRx:=Zh (QE (w4.alloc (.cells #[.int .i64 4,.int .i64 n,.int .i64 0,.slice none 0 0,.int .i64 0] 56)) (λx=>w.heap.size+1<=x));refine(Xb _ ⟨4,n,0,⟨[],0⟩⟩ _ _ HRx.o).mono ?_;rintro e w8⟨rfl,hb8⟩;have HB8:=Zh (HBx.o.below hb8);have HR8:=Zh (Qc.below HRx.o hb8);have hqx:=Qb (Qd HXx.o hb8);have hq0:=HB8.o.cells0;have hf0:=HB8.o.free0;clear hb8;by_cases h0:UJ ⟨4,n,0,⟨[],0⟩⟩=0
   .have HE':Hid (Vq L=(⟨4,n,0,⟨[],0⟩⟩,0)):=by show _=_;rw[HE1.o];exact if_pos h0
    have HS:=Zh (HB8.o.put5 (.int .i64 4) (.int .i64 n) (.int .i64 0) (.slice none 0 0) (.int .i64 0) rfl);have hqs:=HS.o.cells0;have HBL:=Zh HS.o.bel;have HRF:=Zh (Yi HR8.o (XB (b:=w.heap.size) (.int .i64 4) (.int .i64 n) (.int .i64 0) (.slice none 0 0) (.int .i64 0)));rw[h0];clear h0 HS;go_wp2;refine bodyPost_ret (v:=.tuple #[Yg ⟨4,n,0,⟨[],0⟩⟩ (.slice none 0 0),.int .i64 0]) ?_ rfl (by rw[HE'.o];exact⟨_,rfl,HRF.o,HBL.o⟩);rw[results_cell_tmp rfl];go_simp
   have HE':Hid (Vq L=(⟨0,0,0,⟨[],0⟩⟩,UJ ⟨4,n,0,⟨[],0⟩⟩)):=by show _=_;rw[HE1.o];exact if_neg h0
   have hne:(UJ ⟨4,n,0,⟨[],0⟩⟩ != 0)=true:=bne_iff_ne.2 h0;generalize UJ ⟨4,n,0,⟨[],0⟩⟩=pe at *;clear h0;have HS:=Zh (HB8.o.put5 (.int .i64 0) (.int .i64 0) (.int .i64 0) (.slice none 0 0) (.int .i64 0) rfl);have hqs:=HS.o.cells0;have HBL:=Zh HS.o.bel;clear HS;go_wp2;refine bodyPost_ret (v:=.tuple #[Yg ⟨0,0,0,⟨[],0⟩⟩ (.slice none 0 0),.int .i64 pe]) ?_ rfl (by rw[HE'.o];exact⟨_,rfl,QE _ _,HBL.o⟩);rw[results_cell_tmp rfl];go_simp
  |true=>
   rcases hkr with rfl|rfl|rfl|rfl
   .have HEp:Hid (Vq L=if(VE R).2≠0 then(X7,(VE R).2)else Uc ⟨1,n,0,(VE R).1⟩):=by show _=_;rw[HE0.o];exact JE (.inl rfl) Hn.o
    obtain⟨⟨P,pe⟩,hP⟩:∃E,VE R=E:=⟨_,rfl⟩;have HP:Hid (textE R=(P,pe)):=by show _=_;rw[ND Hlb.o.2.2];exact hP
    rw[hP]at HEp;clear hP;have hqx:=Qb HXx.o;go_wp2_with fail
    clear hqx;refine(parse_any R _ (HL.o.below HBx.o.bel)).mono ?_;rw[HP.o];rintro e w6⟨v6,rfl,hr6,hb6⟩;have HX6:=Zh (Qd HXx.o hb6);have HB6:=Zh (HBx.o.below hb6);obtain⟨a6,c6,rfl,_⟩:=Sl.form hr6;have HR6:Hid (Qc w6 (λx=>w4.heap.size+1<=x) (.slice a6 P.ru.length c6) P.ru):=hr6.keep (λx hx _=>by have h1:_<=x:=hx;simp at h1;exact h1) (λ_ _ _=>rfl) Znl;clear hb6 hr6 HXx HBx;dsimp only;have hqx:=Qb HX6.o;have hfx:=Qp HX6.o;have HXs:=Zh (QJ (o:=4) (v:=.int .i64 P.df) (QJ (o:=3) (v:=.slice a6 P.ru.length c6) HX6.o));have HBs:=Zh (HB6.o.lift (Qw (a:=⟨w4.heap.size,4,none⟩) (v:=.int .i64 P.df) (Qw (a:=⟨w4.heap.size,3,none⟩) (v:=.slice a6 P.ru.length c6) (Below.refl (w.heap.size+1) w6) Hbx.o) Hbx.o) (by simp));have hqs0:=Qb HXs.o
    have HRx:=Zh (Qc.keep (w':=(w6.setCell ⟨w4.heap.size,3,none⟩ (.slice a6 P.ru.length c6)).setCell ⟨w4.heap.size,4,none⟩ (.int .i64 P.df)) (D':=λx=>w.heap.size+1<=x) HR6.o (λx hx _=>by have h1:w4.heap.size+1<=x:=hx;have:=Hbx.o;show _<=_;omega) (λx hx _=>by
     have h1:w4.heap.size+1<=x:=hx;rw[Qm (by show x≠w4.heap.size;omega),Qm (by show x≠w4.heap.size;omega)]) (by rw[Qr,Qr];exact Nat.le_refl _))
    by_cases hpe:pe=0
    .subst hpe;have HE1:Hid (Vq L=Uc ⟨1,n,0,P⟩):=by show _=_;rw[HEp.o];exact if_neg (by simp)
     go_wp2_with fail
     clear hqx hfx hqs0;refine(Xb _ ⟨1,n,0,P⟩ _ _ HRx.o).mono ?_;rintro e w8⟨rfl,hb8⟩;have HB8:=Zh (HBs.o.below hb8);have HR8:=Zh (Qc.below HRx.o hb8);have hqx:=Qb (Qd HXs.o hb8);have hq0:=HB8.o.cells0;have hf0:=HB8.o.free0;clear hb8;by_cases h0:UJ ⟨1,n,0,P⟩=0
     .have HE':Hid (Vq L=(⟨1,n,0,P⟩,0)):=by show _=_;rw[HE1.o];exact if_pos h0
      have HS:=Zh (HB8.o.put5 (.int .i64 1) (.int .i64 n) (.int .i64 0) (.slice a6 P.ru.length c6) (.int .i64 P.df) rfl);have hqs:=HS.o.cells0;have HBL:=Zh HS.o.bel;have HRF:=Zh (Yi HR8.o (XB (b:=w.heap.size) (.int .i64 1) (.int .i64 n) (.int .i64 0) (.slice a6 P.ru.length c6) (.int .i64 P.df)));rw[h0];clear h0 HS;go_wp2;refine bodyPost_ret (v:=.tuple #[Yg ⟨1,n,0,P⟩ (.slice a6 P.ru.length c6),.int .i64 0]) ?_ rfl (by rw[HE'.o];exact⟨_,rfl,HRF.o,HBL.o⟩);rw[results_cell_tmp rfl];go_simp
     have HE':Hid (Vq L=(⟨0,0,0,⟨[],0⟩⟩,UJ ⟨1,n,0,P⟩)):=by show _=_;rw[HE1.o];exact if_neg h0
     have hne:(UJ ⟨1,n,0,P⟩ != 0)=true:=bne_iff_ne.2 h0;generalize UJ ⟨1,n,0,P⟩=pe at *;clear h0;have HS:=Zh (HB8.o.put5 (.int .i64 0) (.int .i64 0) (.int .i64 0) (.slice none 0 0) (.int .i64 0) rfl);have hqs:=HS.o.cells0;have HBL:=Zh HS.o.bel;clear HS;go_wp2;refine bodyPost_ret (v:=.tuple #[Yg ⟨0,0,0,⟨[],0⟩⟩ (.slice none 0 0),.int .i64 pe]) ?_ rfl (by rw[HE'.o];exact⟨_,rfl,QE _ _,HBL.o⟩);rw[results_cell_tmp rfl];go_simp
    have HE1:Hid (Vq L=(⟨0,0,0,⟨[],0⟩⟩,pe)):=by show _=_;rw[HEp.o];exact if_pos hpe
    have hne:(pe != 0)=true:=bne_iff_ne.2 hpe;clear hpe;have hq0:=HBs.o.cells0;have hf0:=HBs.o.free0;have HS:=Zh (HBs.o.put5 (.int .i64 0) (.int .i64 0) (.int .i64 0) (.slice none 0 0) (.int .i64 0) rfl);have hqs:=HS.o.cells0;have HBL:=Zh HS.o.bel;clear HS;go_wp2;refine bodyPost_ret (v:=.tuple #[Yg ⟨0,0,0,⟨[],0⟩⟩ (.slice none 0 0),.int .i64 pe]) ?_ rfl (by rw[HE1.o];exact⟨_,rfl,QE _ _,HBL.o⟩);rw[results_cell_tmp rfl];go_simp
   .have HEp:Hid (Vq L=if(VE R).2≠0 then(X7,(VE R).2)else Uc ⟨2,n,0,(VE R).1⟩):=by show _=_;rw[HE0.o];exact JE (.inr rfl) Hn.o
    obtain⟨⟨P,pe⟩,hP⟩:∃E,VE R=E:=⟨_,rfl⟩;have HP:Hid (textE R=(P,pe)):=by show _=_;rw[ND Hlb.o.2.2];exact hP
    rw[hP]at HEp;clear hP;have hqx:=Qb HXx.o;go_wp2_with fail
    clear hqx;refine(parse_any R _ (HL.o.below HBx.o.bel)).mono ?_;rw[HP.o];rintro e w6⟨v6,rfl,hr6,hb6⟩;have HX6:=Zh (Qd HXx.o hb6);have HB6:=Zh (HBx.o.below hb6);obtain⟨a6,c6,rfl,_⟩:=Sl.form hr6;have HR6:Hid (Qc w6 (λx=>w4.heap.size+1<=x) (.slice a6 P.ru.length c6) P.ru):=hr6.keep (λx hx _=>by have h1:_<=x:=hx;simp at h1;exact h1) (λ_ _ _=>rfl) Znl;clear hb6 hr6 HXx HBx;dsimp only;have hqx:=Qb HX6.o;have hfx:=Qp HX6.o;have HXs:=Zh (QJ (o:=4) (v:=.int .i64 P.df) (QJ (o:=3) (v:=.slice a6 P.ru.length c6) HX6.o));have HBs:=Zh (HB6.o.lift (Qw (a:=⟨w4.heap.size,4,none⟩) (v:=.int .i64 P.df) (Qw (a:=⟨w4.heap.size,3,none⟩) (v:=.slice a6 P.ru.length c6) (Below.refl (w.heap.size+1) w6) Hbx.o) Hbx.o) (by simp));have hqs0:=Qb HXs.o
    have HRx:=Zh (Qc.keep (w':=(w6.setCell ⟨w4.heap.size,3,none⟩ (.slice a6 P.ru.length c6)).setCell ⟨w4.heap.size,4,none⟩ (.int .i64 P.df)) (D':=λx=>w.heap.size+1<=x) HR6.o (λx hx _=>by have h1:w4.heap.size+1<=x:=hx;have:=Hbx.o;show _<=_;omega) (λx hx _=>by
     have h1:w4.heap.size+1<=x:=hx;rw[Qm (by show x≠w4.heap.size;omega),Qm (by show x≠w4.heap.size;omega)]) (by rw[Qr,Qr];exact Nat.le_refl _))
    by_cases hpe:pe=0
    .subst hpe;have HE1:Hid (Vq L=Uc ⟨2,n,0,P⟩):=by show _=_;rw[HEp.o];exact if_neg (by simp)
     go_wp2_with fail
     clear hqx hfx hqs0;refine(Xb _ ⟨2,n,0,P⟩ _ _ HRx.o).mono ?_;rintro e w8⟨rfl,hb8⟩;have HB8:=Zh (HBs.o.below hb8);have HR8:=Zh (Qc.below HRx.o hb8);have hqx:=Qb (Qd HXs.o hb8);have hq0:=HB8.o.cells0;have hf0:=HB8.o.free0;clear hb8;by_cases h0:UJ ⟨2,n,0,P⟩=0
     .have HE':Hid (Vq L=(⟨2,n,0,P⟩,0)):=by show _=_;rw[HE1.o];exact if_pos h0
      have HS:=Zh (HB8.o.put5 (.int .i64 2) (.int .i64 n) (.int .i64 0) (.slice a6 P.ru.length c6) (.int .i64 P.df) rfl);have hqs:=HS.o.cells0;have HBL:=Zh HS.o.bel;have HRF:=Zh (Yi HR8.o (XB (b:=w.heap.size) (.int .i64 2) (.int .i64 n) (.int .i64 0) (.slice a6 P.ru.length c6) (.int .i64 P.df)));rw[h0];clear h0 HS;go_wp2;refine bodyPost_ret (v:=.tuple #[Yg ⟨2,n,0,P⟩ (.slice a6 P.ru.length c6),.int .i64 0]) ?_ rfl (by rw[HE'.o];exact⟨_,rfl,HRF.o,HBL.o⟩);rw[results_cell_tmp rfl];go_simp
     have HE':Hid (Vq L=(⟨0,0,0,⟨[],0⟩⟩,UJ ⟨2,n,0,P⟩)):=by show _=_;rw[HE1.o];exact if_neg h0
     have hne:(UJ ⟨2,n,0,P⟩ != 0)=true:=bne_iff_ne.2 h0;generalize UJ ⟨2,n,0,P⟩=pe at *;clear h0;have HS:=Zh (HB8.o.put5 (.int .i64 0) (.int .i64 0) (.int .i64 0) (.slice none 0 0) (.int .i64 0) rfl);have hqs:=HS.o.cells0;have HBL:=Zh HS.o.bel;clear HS;go_wp2;refine bodyPost_ret (v:=.tuple #[Yg ⟨0,0,0,⟨[],0⟩⟩ (.slice none 0 0),.int .i64 pe]) ?_ rfl (by rw[HE'.o];exact⟨_,rfl,QE _ _,HBL.o⟩);rw[results_cell_tmp rfl];go_simp
    have HE1:Hid (Vq L=(⟨0,0,0,⟨[],0⟩⟩,pe)):=by show _=_;rw[HEp.o];exact if_pos hpe
    have hne:(pe != 0)=true:=bne_iff_ne.2 hpe;clear hpe;have hq0:=HBs.o.cells0;have hf0:=HBs.o.free0;have HS:=Zh (HBs.o.put5 (.int .i64 0) (.int .i64 0) (.int .i64 0) (.slice none 0 0) (.int .i64 0) rfl);have hqs:=HS.o.cells0;have HBL:=Zh HS.o.bel;clear HS;go_wp2;refine bodyPost_ret (v:=.tuple #[Yg ⟨0,0,0,⟨[],0⟩⟩ (.slice none 0 0),.int .i64 pe]) ?_ rfl (by rw[HE1.o];exact⟨_,rfl,QE _ _,HBL.o⟩);rw[results_cell_tmp rfl];go_simp
   .obtain⟨⟨f,okf⟩,hf⟩:∃E,Ug R=E:=⟨_,rfl⟩;have HEf:Hid (Vq L=if okf then Uc ⟨3,n,f,⟨[],0⟩⟩else(X7,1)):=by show _=_;rw[HE0.o];exact E5 Hn.o hf
    have Hf:=Zh hf;clear hf;have hqx:=Qb HXx.o;go_wp2_with fail
    clear hqx;refine(QaQ (bsL R) _ (HL.o.below HBx.o.bel) (by have:=Hlb.o.2.2;simp[bsL,ByteArray.size];omega)).mono ?_;rw[Vd,Hf.o];rintro e w6⟨rfl,hb6⟩;have HX6:=Zh (Qd HXx.o hb6);have HB6:=Zh (HBx.o.below hb6);clear hb6 HXx HBx;have hqx:=Qb HX6.o;have hfx:=Qp HX6.o;have HXs:=Zh (QJ (o:=2) (v:=.int .i64 f) HX6.o);have HBs:=Zh (HB6.o.lift (Qw (a:=⟨w4.heap.size,2,none⟩) (v:=.int .i64 f) (Below.refl (w.heap.size+1) w6) Hbx.o) (by simp));have hqs0:=Qb HXs.o
    cases okf with
    |false=>
     have HE1:Hid (Vq L=(⟨0,0,0,⟨[],0⟩⟩,1)):=by show _=_;rw[HEf.o];rfl
     have hq0:=HBs.o.cells0;have hf0:=HBs.o.free0;have HS:=Zh (HBs.o.put5 (.int .i64 0) (.int .i64 0) (.int .i64 0) (.slice none 0 0) (.int .i64 0) rfl);have hqs:=HS.o.cells0;have HBL:=Zh HS.o.bel;clear HS;go_wp2;refine bodyPost_ret (v:=.tuple #[Yg ⟨0,0,0,⟨[],0⟩⟩ (.slice none 0 0),.int .i64 1]) ?_ rfl (by rw[HE1.o];exact⟨_,rfl,QE _ _,HBL.o⟩);rw[results_cell_tmp rfl];go_simp
    |true=>
     have HE1:Hid (Vq L=Uc ⟨3,n,f,⟨[],0⟩⟩):=by show _=_;rw[HEf.o];rfl
     go_wp2_with fail
     clear hqx hfx hqs0;have HRx:=Zh (QE (w6.setCell ⟨w4.heap.size,2,none⟩ (.int .i64 f)) (λx=>w.heap.size+1<=x));refine(Xb _ ⟨3,n,f,⟨[],0⟩⟩ _ _ HRx.o).mono ?_;rintro e w8⟨rfl,hb8⟩;have HB8:=Zh (HBs.o.below hb8);have HR8:=Zh (Qc.below HRx.o hb8);have hqx:=Qb (Qd HXs.o hb8);have hq0:=HB8.o.cells0;have hf0:=HB8.o.free0;clear hb8;by_cases h0:UJ ⟨3,n,f,⟨[],0⟩⟩=0
     .have HE':Hid (Vq L=(⟨3,n,f,⟨[],0⟩⟩,0)):=by show _=_;rw[HE1.o];exact if_pos h0
      have HS:=Zh (HB8.o.put5 (.int .i64 3) (.int .i64 n) (.int .i64 f) (.slice none 0 0) (.int .i64 0) rfl);have hqs:=HS.o.cells0;have HBL:=Zh HS.o.bel;have HRF:=Zh (Yi HR8.o (XB (b:=w.heap.size) (.int .i64 3) (.int .i64 n) (.int .i64 f) (.slice none 0 0) (.int .i64 0)));rw[h0];clear h0 HS;go_wp2;refine bodyPost_ret (v:=.tuple #[Yg ⟨3,n,f,⟨[],0⟩⟩ (.slice none 0 0),.int .i64 0]) ?_ rfl (by rw[HE'.o];exact⟨_,rfl,HRF.o,HBL.o⟩);rw[results_cell_tmp rfl];go_simp
     have HE':Hid (Vq L=(⟨0,0,0,⟨[],0⟩⟩,UJ ⟨3,n,f,⟨[],0⟩⟩)):=by show _=_;rw[HE1.o];exact if_neg h0
     have hne:(UJ ⟨3,n,f,⟨[],0⟩⟩ != 0)=true:=bne_iff_ne.2 h0;generalize UJ ⟨3,n,f,⟨[],0⟩⟩=pe at *;clear h0;have HS:=Zh (HB8.o.put5 (.int .i64 0) (.int .i64 0) (.int .i64 0) (.slice none 0 0) (.int .i64 0) rfl);have hqs:=HS.o.cells0;have HBL:=Zh HS.o.bel;clear HS;go_wp2;refine bodyPost_ret (v:=.tuple #[Yg ⟨0,0,0,⟨[],0⟩⟩ (.slice none 0 0),.int .i64 pe]) ?_ rfl (by rw[HE'.o];exact⟨_,rfl,QE _ _,HBL.o⟩);rw[results_cell_tmp rfl];go_simp
   have HE1:Hid (Vq L=(⟨0,0,0,⟨[],0⟩⟩,1)):=by show _=_;rw[HE0.o];exact U4 (.inr (.inr (by decide)))
   have hq0:=HBx.o.cells0;have hf0:=HBx.o.free0;have HS:=Zh (HBx.o.put5 (.int .i64 0) (.int .i64 0) (.int .i64 0) (.slice none 0 0) (.int .i64 0) rfl);have hqs:=HS.o.cells0;have HBL:=Zh HS.o.bel;clear HS;go_wp2;refine bodyPost_ret (v:=.tuple #[Yg ⟨0,0,0,⟨[],0⟩⟩ (.slice none 0 0),.int .i64 1]) ?_ rfl (by rw[HE1.o];exact⟨_,rfl,QE _ _,HBL.o⟩);rw[results_cell_tmp rfl];go_simp
end
end Go.Proofs.YthkgjohhbdipcaaGreatDoor
