/- Texts laid one behind the other: NPrint, CutC, IndexAny, WordIdx, Number, Prune3. No condition beyond theirs. -/
import Derived.Test.YthkgjohhbdipcaaGreatDoorQ11
import Derived.Test.YthkgjohhbdipcaaGreatDoorQ3
import Derived.Test.YthkgjohhbdipcaaGreatDoorQ4
import Derived.Test.YthkgjohhbdipcaaGreatDoorQ2
import Derived.Test.YthkgjohhbdipcaaGreatDoorProg
import Derived.Lib.OthersKept
import Derived.Lib.MapLaws
import Derived.Lib.TrimUEq
import Derived.Lib.IndexAny
import Derived.Deep.LoopGhost
import Derived.Stop.FmtQuoteTie
import Derived.KernelRfl
import Derived.Laws.Runes
import Derived.WalkMore
import Derived.Lib.ParseIntBTie
set_option linter.all false
set_option maxHeartbeats 64000000
set_option maxRecDepth 100000
namespace Go.Proofs.YthkgjohhbdipcaaGreatDoor
open Tryz
section
open Go.RowKit Go.Shelf
attribute [local go_sem] gives QG
attribute [-go_sem] run_string_add_if run_slice_string_if run_slice_string
def QfJ(cells:Array Value)(T:TypeId)(n:Nat)(v:Value)(W:World):Prop:=∃b,v=.slice (some ⟨b,0,none⟩) n n/\W.heap[b]?=some (.cells cells T)
def QiE(cells:Array Value)(T:TypeId)(k:Nat)(v:Value)(W:World):Prop:=∃b,v=.pointer (some ⟨b,k,none⟩)/\W.heap[b]?=some (.cells cells T)
theorem O6{cells:Array Value}{T:TypeId}{n:Nat}:OY (QfJ cells T n):=λ_ _ _ hb ⟨b,h1,h2⟩=>⟨b,h1,Qd h2 hb⟩
theorem I5{cells:Array Value}{T:TypeId}{n:Nat}:OY (QiE cells T n):=λ_ _ _ hb ⟨b,h1,h2⟩=>⟨b,h1,Qd h2 hb⟩
@[reducible] def Gq:Array Value:=#[Value.string (bsL []),.string (bsL [111,112,101,110]),.string (bsL [116,105,103,104,116]),.string (bsL [102,111,114,107]),.string (bsL [115,104,117,116])]
theorem Qg0{v:Int}(h0:1<=v)(h1:v<=4):Gq[v.toNat]?=some (.string (bsL (Je v))):=by
 rcases(by omega:v=1\/v=2\/v=3\/v=4)with rfl|rfl|rfl|rfl<;>rfl
theorem Qc5(w:World):Calls prog 64 #[] w λe w'=>e=.returned (.slice (some ⟨w.heap.size,0,none⟩) 5 5)/\w'=w.alloc (.cells Gq 9):=by
 go_enter func64,ntmps64;go_wp2;go_ret;exact⟨rfl,rfl⟩
theorem EK(k:Int):(Je k).length<=5:=by unfold Je;split<;>(try split)<;>(try split)<;>simp
theorem Jm{p:TPol}(h:UT p):(Vo p).length<=34000:=by
 have h1:=Jb p.ru h.ru;have h2:=XC p.df;have h3:=h.len;have e:Vo p=IC p.ru++QO p.df:=rfl;rw[e,List.length_append];omega
theorem Qeo{r:TRec}(h:UJ r=0):(Zc r).length<=34100:=by
 obtain⟨_,_,hc0,hc1,hf0,hf1,_,_,hp⟩:=Y5 h;have h1:=EK r.kind;have h2:=Lib.itoa_length_le r.cell (by omega) (by omega)
 have h3:(tailW r).length<=34001:=by
  unfold tailW;split
  .have:=Lib.itoa_length_le r.fm (by omega) (by omega);simp;omega
  split
  .simp
  have:=Jm (hp (by obtain⟨_,h4,_⟩:=Y5 h;omega));simp;omega
 unfold Zc;simp;omega
def Yl(r:TRec):List UInt8×Int:=if UJ r=0 then(Zc r,0)else([],UJ r)
theorem Qe7(v:Value)(r:TRec)(D:Nat->Prop)(w:World)(h:Qc w D v r.p.ru)(hL:Laid w):
  Calls prog 25 #[Yg r v] w λe w'=>e=.returned (.tuple #[.string (bsL (Yl r).1),.int .i64 (Yl r).2])/\Below w.heap.size w w':=by
 have H:=Zh (Qc.keep h (D':=λb=>b<w.heap.size) (λ_ _ hl=>hl) (λ_ _ _=>rfl) Znl);have HL0:=Zh hL;obtain⟨kd,cl,fr,p⟩:=r;dsimp only at H h⊢;obtain⟨a,c,rfl,hlc,hcm,hat⟩:=Sl.form H.o;clear h hL hlc hcm hat;go_enter func25,ntmps25;go_wp2_with fail
 have HB0:=Zh (Bx.one (w:=w) (o:=.cells #[.int .i64 kd,.int .i64 cl,.int .i64 fr,.slice a p.ru.length c,.int .i64 p.df] 56));refine(Xb _ ⟨kd,cl,fr,p⟩ _ _ (Qc.below H.o HB0.o.bel)).mono ?_;rintro e w1⟨rfl,hb1⟩;have HB:=Zh (HB0.o.below hb1);clear hb1 HB0;by_cases h0:UJ ⟨kd,cl,fr,p⟩=0
 .have HE:Hid (Yl ⟨kd,cl,fr,p⟩=(Zc ⟨kd,cl,fr,p⟩,0)):=if_pos h0;obtain⟨hk1,hk2,hc0,hc1,hf0,hf1,_,_,hp⟩:=Y5 h0;dsimp only at hk1 hk2 hc0 hc1 hf0 hf1 hp;have Hp:=Zh hp;have HL:=Zh (HL0.o.below HB.o.bel);rw[h0];clear h0 hp;have hkl:=EK kd;have hil:=Lib.itoa_length_le cl (by omega) (by omega);obtain⟨s1,hs1⟩:∃s1,Je kd++[32]=s1:=⟨_,rfl⟩;obtain⟨s2,hs2⟩:∃s2,s1++Lib.itoa cl=s2:=⟨_,rfl⟩;have hl1:s1.length<=6:=by rw[<-hs1];simp;omega
  have hl2:s2.length<=27:=by rw[<-hs2];simp;omega
  have hb1:∀W:World,(Op.stringOp .add (bsL (Je kd)) ⟨#[32]⟩).run prog W=.ok (.string (bsL s1)) W:=λW=>by rw[<-hs1];exact Xg (Je kd) [32] (by simp;omega) W
  have hb2:∀W:World,(Op.stringOp .add (bsL s1) (bsL (Lib.itoa cl))).run prog W=.ok (.string (bsL s2)) W:=λW=>by rw[<-hs2];exact Xg s1 (Lib.itoa cl) (by omega) W
  have HS:Hid (s2=Je kd++32::Lib.itoa cl):=by show _=_;rw[<-hs2,<-hs1];simp
  have Hl2:=Zh hl2;clear hs1 hs2 hl1;have hk5:kd<5:=by omega
  have hk0:0<=kd:=by omega
  have hq0:=HB.o.cells0;go_wp2_with fail
  clear hq0;refine Xx [pr (QfJ Gq 9 5),ex (.pointer (some ⟨w.heap.size,0,none⟩)),ex (.int .i64 kd),pr (QiE Gq 9 kd.toNat),ex (.string (bsL (Je kd))),ex (.string (bsL s1)),ex (.pointer (some ⟨w.heap.size,1,none⟩)),ex (.int .i64 cl),ex (.string (bsL (Lib.itoa cl))),ex (.string (bsL s2)),ex (.string (bsL s2))] _ Znl (by kernel_rfl) (by kernel_rfl) ⟨.inr ⟨_,rfl,O6⟩,.inl ⟨_,rfl⟩,.inl ⟨_,rfl⟩,.inr ⟨_,rfl,I5⟩,.inl ⟨_,rfl⟩,.inl ⟨_,rfl⟩,.inl ⟨_,rfl⟩,.inl ⟨_,rfl⟩,.inl ⟨_,rfl⟩,.inl ⟨_,rfl⟩,.inl ⟨_,rfl⟩,trivial⟩ ?_
  (refine Ya λK hK=>⟨λW hC hd R hR=>?_,λv0=>?_⟩;(clear hd;go_simp;go_at_call 64;refine(Qc5 W).mono ?_;rintro e w9 ⟨rfl,rfl⟩;exact⟨_,rfl,hR _ _ (Qa Zbr _) ⟨_,rfl,Qh _ _⟩⟩);(go_simp;refine hK _ _ ?_;clear hK K))
  iterate 2 (refine Qs λK hK=>⟨λW hC hd R hR=>?_,?_⟩;(first|(clear hd;go_simp;exact hR _ _ Zbr rfl)|(have hqb:=(HB.o.below hC.2).cells0;clear hd;go_simp;exact hR _ _ Zbr rfl));(go_simp;refine hK _ ?_;clear hK K))
  (refine Ya λK hK=>⟨λW hC hd R hR=>?_,λv3=>?_⟩;(have hv:QfJ Gq 9 5 v0 W:=hd 0 (by decide);obtain⟨b0,rfl,hc0⟩:=hv;have Hc0:=Zh hc0;clear hc0;clear hd;go_simp;exact hR _ _ Zbr ⟨b0,rfl,Hc0.o⟩);(go_simp;refine hK _ _ ?_;clear hK K))
  iterate 7 (refine Qs λK hK=>⟨λW hC hd R hR=>?_,?_⟩;(first|(clear hd;go_simp;exact hR _ _ Zbr rfl)|(have hqb:=(HB.o.below hC.2).cells0;clear hd;go_simp;exact hR _ _ Zbr rfl)|(have HLW:=Zh (HL.o.below hC.2);clear hd;go_simp;go_at_call 65;refine(X8 cl (by omega) (by omega) _ HLW.o).mono ?_;rintro e w9 ⟨rfl,hb9⟩;exact⟨_,rfl,hR _ _ hb9 rfl⟩)|(have hv:QiE Gq 9 kd.toNat v3 W:=hd 3 (by decide);obtain⟨b0,rfl,hc0⟩:=hv;have hcell:=(Qb hc0 _).trans (Qg0 hk1 hk2);clear hc0;clear hd;go_simp;exact hR _ _ Zbr rfl));(go_simp;refine hK _ ?_;clear hK K))
  intro w2 hC2 _;have HB2:=Zh (HB.o.below hC2.2);have HL2:=Zh (HL.o.below hC2.2);clear hC2 hb1 hb2 HB HL hkl hil hl2;have hq0:=HB2.o.cells0;have hkd:kd=1\/kd=2\/kd=3\/kd=4:=by omega
  have hs32:∀(t:List UInt8),t.length<=34100->∀W:World,(Op.stringOp .add (bsL s2) (bsL t)).run prog W=.ok (.string (bsL (s2++t))) W:=λt ht W=>Xg s2 t (by have:=Hl2.o;omega) W;have h32:∀W:World,(Op.stringOp .add (bsL s2) ⟨#[32]⟩).run prog W=.ok (.string (bsL (s2++[32]))) W:=hs32 [32] (by decide);clear hk1 hk2 hk5 hk0;rcases hkd with rfl|rfl|rfl|rfl
  .have Hok:=Zh (Hp.o (by decide));have HPE:Hid (QaY p=(Vo p,0)):=if_pos ((UN p).2 Hok.o);have htl:=Jm Hok.o;have hadd2:∀W:World,(Op.stringOp .add (bsL (s2++[32])) (bsL (Vo p))).run prog W=.ok (.string (bsL ((s2++[32])++Vo p))) W:=λW=>Xg (s2++[32]) (Vo p) (by have:=Hl2.o;simp;omega) W;clear hs32;go_wp2_with fail
   refine(Qa8 _ p _ _ (Qc.below H.o HB2.o.bel) HL2.o).mono ?_;rw[HPE.o];rintro e w3⟨rfl,hb3⟩;have HB3:=Zh (HB2.o.below hb3);clear hb3 hq0;dsimp only;go_wp2;go_ret2;exact⟨by rw[HE.o,HS.o];simp[Zc,tailW],HB3.o.bel⟩
  .have Hok:=Zh (Hp.o (by decide));have HPE:Hid (QaY p=(Vo p,0)):=if_pos ((UN p).2 Hok.o);have htl:=Jm Hok.o;have hadd2:∀W:World,(Op.stringOp .add (bsL (s2++[32])) (bsL (Vo p))).run prog W=.ok (.string (bsL ((s2++[32])++Vo p))) W:=λW=>Xg (s2++[32]) (Vo p) (by have:=Hl2.o;simp;omega) W;clear hs32;go_wp2_with fail
   refine(Qa8 _ p _ _ (Qc.below H.o HB2.o.bel) HL2.o).mono ?_;rw[HPE.o];rintro e w3⟨rfl,hb3⟩;have HB3:=Zh (HB2.o.below hb3);clear hb3 hq0;dsimp only;go_wp2;go_ret2;exact⟨by rw[HE.o,HS.o];simp[Zc,tailW],HB3.o.bel⟩
  .have hfl:=Lib.itoa_length_le fr (by omega) (by omega);have hadd:∀W:World,(Op.stringOp .add ⟨#[32]⟩ (bsL (Lib.itoa fr))).run prog W=.ok (.string (bsL (32::Lib.itoa fr))) W:=λW=>Xg [32] (Lib.itoa fr) (by simp;omega) W;have hadd2:=hs32 (32::Lib.itoa fr) (by simp;omega);clear hs32;go_wp2_with fail
   refine(X8 fr (by omega) (by omega) _ HL2.o).mono ?_;rintro e w3⟨rfl,hb3⟩;have HB3:=Zh (HB2.o.below hb3);clear hb3 hq0;go_wp2;go_ret2;exact⟨by rw[HE.o,HS.o];simp[Zc,tailW],HB3.o.bel⟩
  clear hs32;go_wp2;go_ret2;exact⟨by rw[HE.o,HS.o];simp[Zc,tailW],HB2.o.bel⟩
 have HE:Hid (Yl ⟨kd,cl,fr,p⟩=([],UJ ⟨kd,cl,fr,p⟩)):=if_neg h0;have hne:(UJ ⟨kd,cl,fr,p⟩ != 0)=true:=bne_iff_ne.2 h0;have HBf:=Zh HB.o.bel;generalize UJ ⟨kd,cl,fr,p⟩=E at *;clear h0;go_wp2;go_ret2;exact⟨by rw[HE.o];rfl,HBf.o⟩
end
section
open Go.RowKit
theorem IL(c:UInt8)(t:List UInt8)(w:World)(hL:Laid w)(hs:t.length<4294967281):Calls prog 67 #[.string (bsL t),.string ⟨#[c]⟩] w λe w'=>
  e=.returned (.tuple #[.string (bsL (Lib.cut t [c]).1),.string (bsL (Lib.cut t [c]).2.1),.bool (Lib.cut t [c]).2.2])/\Below w.heap.size w w':=by
 obtain⟨m,hm⟩:=hL.ml;refine(Tryz.strings_Cut (bsL t) ⟨#[c]⟩ m w (by simpa[bsL,ByteArray.size]using hs) hm).mono ?_;rintro e w1⟨rfl,n,rfl⟩;exact⟨rfl,Go.Joins.below_draws _ _ _⟩
theorem Qdl(t:List UInt8)(c:UInt8):(Lib.cut t [c]).1.length<=t.length/\(Lib.cut t [c]).2.1.length<=t.length:=by
 unfold Lib.cut;split
 .simp;omega
 simp
end
section
open Go.RowKit
attribute [local go_sem] gives QG
theorem IK{b:ByteArray}{l:List UInt8}(h:b.data.toList=l):b=⟨⟨l⟩⟩:=by
 obtain⟨⟨d⟩⟩:=b;simp at h;subst h;rfl
theorem Em(n:Nat):128<=(UInt8.ofNat (128+n % 64)).toNat:=by
 rw[UInt8.toNat_ofNat'];have:=Nat.mod_lt n (show 0<64 by decide);rw[Nat.mod_eq_of_lt (by omega)];omega
theorem Qbn(r:Nat)(h1:128<=r)(h2:r<=1114111)(hv:r<55296\/57344<=r)(w:World):
  Calls prog 177 #[.string ⟨#[61,33,60,62]⟩,.int .i32 r] w λe w'=>e=.returned (.int .i64 (-1))/\Below w.heap.size w w':=by
 by_cases hr:r=65533
 .subst hr;go_enter func177,ntmps177;go_wp2_with fail
  go_loopg [5,6] 4 (λg _ _ wx=>∃i:Nat,i+g=4/\wx=w.iter ⟨#[61,33,60,62]⟩ i)
  case atStart=>exact⟨0,by omega,rfl⟩
  case round=>
   obtain⟨i,hig,rfl⟩:=hrel
   cases gk with
   |zero=>
    obtain rfl:i=4:=by omega
    have hnx:=λty=>run_next_end (P:=prog) w ⟨#[61,33,60,62]⟩ 4 ty (by decide);go_wp2;go_ret;exact⟨rfl,Qa Zbr _⟩
   |succ g=>
    have hi:i=0\/i=1\/i=2\/i=3:=by omega
    rcases hi with rfl|rfl|rfl|rfl
    .have hnx:=λty=>run_next_ascii (P:=prog) w ⟨#[61,33,60,62]⟩ 0 ty (by decide) (by decide);rw[show((⟨#[61,33,60,62]⟩:ByteArray)[0]'(by decide))=61 from rfl]at hnx;go_wp2
     go_roundg g
     case measure=>omega
     case rel=>exact⟨1,by omega,rfl⟩
    .have hnx:=λty=>run_next_ascii (P:=prog) w ⟨#[61,33,60,62]⟩ 1 ty (by decide) (by decide);rw[show((⟨#[61,33,60,62]⟩:ByteArray)[1]'(by decide))=33 from rfl]at hnx;go_wp2
     go_roundg g
     case measure=>omega
     case rel=>exact⟨2,by omega,rfl⟩
    .have hnx:=λty=>run_next_ascii (P:=prog) w ⟨#[61,33,60,62]⟩ 2 ty (by decide) (by decide);rw[show((⟨#[61,33,60,62]⟩:ByteArray)[2]'(by decide))=60 from rfl]at hnx;go_wp2
     go_roundg g
     case measure=>omega
     case rel=>exact⟨3,by omega,rfl⟩
    have hnx:=λty=>run_next_ascii (P:=prog) w ⟨#[61,33,60,62]⟩ 3 ty (by decide) (by decide);rw[show((⟨#[61,33,60,62]⟩:ByteArray)[3]'(by decide))=62 from rfl]at hnx;go_wp2
    go_roundg g
    case measure=>omega
    case rel=>exact⟨4,by omega,rfl⟩
 have g0:(0:Int)<=(r:Int):=by omega
 have g1:¬(r:Int)<128:=by omega
 have g2:((r:Int)==65533)=false:=beq_eq_false_iff_ne.2 (by omega);have hval:Hid (Lib.validRune (r:Int)=true):=by show _=_;unfold Lib.validRune;exact decide_eq_true (by omega)
 go_enter func177,ntmps177;go_wp2_with fail
 refine(Tryz.utf8_ValidRune r _).mono ?_;rw[hval.o];rintro e w1⟨rfl,rfl⟩;clear g0 g1 g2 hval;rcases(by omega:r<2048\/(2048<=r/\r<65536)\/65536<=r)with hc|hc|hc
 .obtain⟨b0,b1,hN,hb⟩:∃b0 b1:UInt8,Utf8.encode (r:Int)=⟨#[b0,b1]⟩/\128<=b1.toNat:=⟨_,_,IK (Go.Extern.FmtText.enc2 r (by omega) hc),Em _⟩;have hne:(((33:Int)) !=(b1.toNat:Int))=true:=bne_iff_ne.2 (by omega);have hsz:(⟨#[b0,b1]⟩:ByteArray).size=2:=rfl;have hg2:∀h,(⟨#[61,33,60,62]⟩:ByteArray)[1]'h=33:=λ_=>rfl;have hg:∀h,(⟨#[b0,b1]⟩:ByteArray)[1]'h=b1:=λ_=>rfl
  have HR:Hid (Lib.indexByte [60,62] b1 = -1):=by
   show _=_;have e:∀c:UInt8,c.toNat<128->(c==b1)=false:=λc hc=>beq_eq_false_iff_ne.2 (λe=>by rw[e]at hc;omega);simp[Lib.indexByte,e]
  go_wp2_with fail
  go_step3
  go_wp2_with fail
  go_loopw[9,10](λiv fv wr=>iv=.int .i64 1/\fv=.int .i64 0/\wr=w1) (λ_ _ _=>0)
  case atStart=>exact⟨rfl,rfl,rfl⟩
  case round=>
   obtain⟨rfl,rfl,hw⟩:=hrel;subst hw;go_wp2_with fail
   go_step3
   go_wp2_with fail
   refine Qy _ Znl (by kernel_rfl) (by kernel_rfl) ?_
   repeat(refine QL (λK hK=>?_);apply Exists.intro;refine⟨λW hC R hR=>?_,?_⟩;(go_simp;exact hR _ _ Zbr rfl);(go_simp;refine hK _ ?_;clear hK K))
   intro w2 hC2;have H2:=Zh hC2.2;have Hsz:=Zh hsz;clear hC2 hb hN h1 h2 hv hr hc;go_wp2_with fail
   refine Qy _ Znl (by kernel_rfl) (by kernel_rfl) ?_
   repeat(refine QL (λK hK=>?_);apply Exists.intro;refine⟨λW hC R hR=>?_,?_⟩;(first|(go_simp;exact hR _ _ Zbr rfl)|(go_simp;go_at_call 205;refine(Tryz.strings_IndexByte _ _ _).mono ?_;rintro e w9 ⟨he,rfl⟩;have he2:e=.returned (.int .i64 (-1)):=(he.trans (congrArg (λz=>Ending.returned (Value.int .i64 z)) (by first|exact HR.o|(go_simp;exact HR.o))));subst he2;exact⟨_,rfl,hR _ _ Zbr rfl⟩));(go_simp;refine hK _ ?_;clear hK K))
   intro w3 hC3;have H3:=Zh (Ql H2.o hC3.2);clear hC3;go_wp2;simp +zetaDelta only[Exit.noGoto_ret,Exit.inBlock,Exit.then];go_ret;exact⟨rfl,H3.o⟩
 .obtain⟨b0,b1,b2,hN,hb⟩:∃b0 b1 b2:UInt8,Utf8.encode (r:Int)=⟨#[b0,b1,b2]⟩/\128<=b2.toNat:=⟨_,_,_,IK (Go.Extern.FmtText.enc3 r (by omega) (by omega) hv),Em _⟩;have hne:(((60:Int)) !=(b2.toNat:Int))=true:=bne_iff_ne.2 (by omega);have hsz:(⟨#[b0,b1,b2]⟩:ByteArray).size=3:=rfl;have hg2:∀h,(⟨#[61,33,60,62]⟩:ByteArray)[2]'h=60:=λ_=>rfl;have hg:∀h,(⟨#[b0,b1,b2]⟩:ByteArray)[2]'h=b2:=λ_=>rfl
  have HR:Hid (Lib.indexByte [62] b2 = -1):=by
   show _=_;have e:∀c:UInt8,c.toNat<128->(c==b2)=false:=λc hc=>beq_eq_false_iff_ne.2 (λe=>by rw[e]at hc;omega);simp[Lib.indexByte,e]
  go_wp2_with fail
  go_step3
  go_wp2_with fail
  go_loopw[9,10](λiv fv wr=>iv=.int .i64 2/\fv=.int .i64 0/\wr=w1) (λ_ _ _=>0)
  case atStart=>exact⟨rfl,rfl,rfl⟩
  case round=>
   obtain⟨rfl,rfl,hw⟩:=hrel;subst hw;go_wp2_with fail
   go_step3
   go_wp2_with fail
   refine Qy _ Znl (by kernel_rfl) (by kernel_rfl) ?_
   repeat(refine QL (λK hK=>?_);apply Exists.intro;refine⟨λW hC R hR=>?_,?_⟩;(go_simp;exact hR _ _ Zbr rfl);(go_simp;refine hK _ ?_;clear hK K))
   intro w2 hC2;have H2:=Zh hC2.2;have Hsz:=Zh hsz;clear hC2 hb hN h1 h2 hv hr hc;go_wp2_with fail
   refine Qy _ Znl (by kernel_rfl) (by kernel_rfl) ?_
   repeat(refine QL (λK hK=>?_);apply Exists.intro;refine⟨λW hC R hR=>?_,?_⟩;(first|(go_simp;exact hR _ _ Zbr rfl)|(go_simp;go_at_call 205;refine(Tryz.strings_IndexByte _ _ _).mono ?_;rintro e w9 ⟨he,rfl⟩;have he2:e=.returned (.int .i64 (-1)):=(he.trans (congrArg (λz=>Ending.returned (Value.int .i64 z)) (by first|exact HR.o|(go_simp;exact HR.o))));subst he2;exact⟨_,rfl,hR _ _ Zbr rfl⟩));(go_simp;refine hK _ ?_;clear hK K))
   intro w3 hC3;have H3:=Zh (Ql H2.o hC3.2);clear hC3;go_wp2;simp +zetaDelta only[Exit.noGoto_ret,Exit.inBlock,Exit.then];go_ret;exact⟨rfl,H3.o⟩
 obtain⟨b0,b1,b2,b3,hN,hb⟩:∃b0 b1 b2 b3:UInt8,Utf8.encode (r:Int)=⟨#[b0,b1,b2,b3]⟩/\128<=b3.toNat:=⟨_,_,_,_,IK (Go.Extern.FmtText.enc4 r (by omega) h2),Em _⟩;have hne:(((62:Int)) !=(b3.toNat:Int))=true:=bne_iff_ne.2 (by omega);have hsz:(⟨#[b0,b1,b2,b3]⟩:ByteArray).size=4:=rfl;have hg2:∀h,(⟨#[61,33,60,62]⟩:ByteArray)[3]'h=62:=λ_=>rfl;have hg:∀h,(⟨#[b0,b1,b2,b3]⟩:ByteArray)[3]'h=b3:=λ_=>rfl
 have HR:Hid (Lib.indexByte [] b3 = -1):=by
  show _=_;show Lib.indexByte [] _=_;rfl
 go_wp2_with fail
 go_step3
 go_wp2_with fail
 go_loopw[9,10](λiv fv wr=>iv=.int .i64 3/\fv=.int .i64 0/\wr=w1) (λ_ _ _=>0)
 case atStart=>exact⟨rfl,rfl,rfl⟩
 case round=>
  obtain⟨rfl,rfl,hw⟩:=hrel;subst hw;go_wp2_with fail
  go_step3
  go_wp2_with fail
  refine Qy _ Znl (by kernel_rfl) (by kernel_rfl) ?_
  repeat(refine QL (λK hK=>?_);apply Exists.intro;refine⟨λW hC R hR=>?_,?_⟩;(go_simp;exact hR _ _ Zbr rfl);(go_simp;refine hK _ ?_;clear hK K))
  intro w2 hC2;have H2:=Zh hC2.2;have Hsz:=Zh hsz;clear hC2 hb hN h1 h2 hv hr hc;go_wp2_with fail
  refine Qy _ Znl (by kernel_rfl) (by kernel_rfl) ?_
  repeat(refine QL (λK hK=>?_);apply Exists.intro;refine⟨λW hC R hR=>?_,?_⟩;(first|(go_simp;exact hR _ _ Zbr rfl)|(go_simp;go_at_call 205;refine(Tryz.strings_IndexByte _ _ _).mono ?_;rintro e w9 ⟨he,rfl⟩;have he2:e=.returned (.int .i64 (-1)):=(he.trans (congrArg (λz=>Ending.returned (Value.int .i64 z)) (by first|exact HR.o|(go_simp;exact HR.o))));subst he2;exact⟨_,rfl,hR _ _ Zbr rfl⟩));(go_simp;refine hK _ ?_;clear hK K))
  intro w3 hC3;have H3:=Zh (Ql H2.o hC3.2);clear hC3;go_wp2;simp +zetaDelta only[Exit.noGoto_ret,Exit.inBlock,Exit.then];go_ret;exact⟨rfl,H3.o⟩
theorem Qcl(r:Nat)(h1:128<=r)(h2:r<=1114111)(w:World):
  Calls prog 177 #[.string ⟨#[61,33,60,62]⟩,.int .i32 r] w λe w'=>e=.returned (.int .i64 (-1))/\Below w.heap.size w w':=by
 by_cases hv:r<55296\/57344<=r
 .exact Qbn r h1 h2 hv w
 have g0:(0:Int)<=(r:Int):=by omega
 have g1:¬(r:Int)<128:=by omega
 have g2:((r:Int)==65533)=false:=beq_eq_false_iff_ne.2 (by omega);have hval:Hid (Lib.validRune (r:Int)=false):=by show _=_;unfold Lib.validRune;exact decide_eq_false (by omega)
 go_enter func177,ntmps177;go_wp2_with fail
 refine(Tryz.utf8_ValidRune r _).mono ?_;rw[hval.o];rintro e w1⟨rfl,rfl⟩;go_wp2;go_ret;exact⟨rfl,Below.refl _ _⟩
theorem Qhf(r:Int)(h:128<=r):∀b∈Lib.encodeRune r,128<=b.toNat:=by
 have key:∀x∈Lib.encodeRuneZ r,128<=x/\x<256:=λx hx=>by
  rcases(by omega:r<=2047\/(2048<=r/\r<55296)\/(55296<=r/\r<=57343)\/(57343<r/\r<=65535)\/(65536<=r/\r<=1114111)\/1114111<r)with hc|hc|hc|hc|hc|hc
  .rw[Lib.encodeRuneZ_two h hc]at hx;simp at hx;rcases hx with rfl|rfl<;>omega
  .rw[Lib.encodeRuneZ_three (.inl hc)]at hx;simp at hx;rcases hx with rfl|rfl|rfl<;>omega
  .rw[Lib.encodeRuneZ_bad (.inr (.inl hc))]at hx;simp at hx;rcases hx with rfl|rfl|rfl<;>omega
  .rw[Lib.encodeRuneZ_three (.inr hc)]at hx;simp at hx;rcases hx with rfl|rfl|rfl<;>omega
  .rw[Lib.encodeRuneZ_four hc.1 hc.2]at hx;simp at hx;rcases hx with rfl|rfl|rfl|rfl<;>omega
  rw[Lib.encodeRuneZ_bad (.inr (.inr hc))]at hx;simp at hx;rcases hx with rfl|rfl|rfl<;>omega
 intro b hb;unfold Lib.encodeRune at hb;obtain⟨x,hx,rfl⟩:=List.mem_map.1 hb;obtain⟨h1,h2⟩:=key x hx;rw[show x.toNat.toUInt8.toNat=x.toNat % 256 from UInt8.toNat_ofNat' ..];omega
theorem QaC{B k p:Nat}{s:ByteArray}{w W:World}(h:Below B w W)(hk:B<=k):Below B w (W.iterAt k s p):=
 ⟨h.os,h.tape,h.output,by simp[World.iterAt];exact h.size,λb hb=>by
  rw[<-h.block b hb];simp only[World.iterAt];rw[Array.getElem?_setIfInBounds_ne (by omega)]⟩
theorem Qhb(u:ByteArray)(i:Nat)(hi:i<u.size)(ha:128<=(u[i]'hi).toNat):128<=(Utf8.decode u i).1/\(Utf8.decode u i).1<=1114111/\1<=(Utf8.decode u i).2/\i+(Utf8.decode u i).2<=u.size /\
  ∀(j:Nat)(y:UInt8),i<=j->j<i+(Utf8.decode u i).2->u.data.toList[j]?=some y->128<=y.toNat:=by
 have hh:=decode_high u i hi ha;have hd:=Lib.decodeL_drop u i;have hlen:u.data.toList.length=u.size:=(Lib.size_eq u).symm;have hne:u.data.toList.drop i≠[]:=λe=>by have:=congrArg List.length e;simp at this;rw[<-hlen]at hi;simp at hi;omega
 have hr:=Lib.decodeL_rune (u.data.toList.drop i);have hle:=Lib.decodeL_le (u.data.toList.drop i) hne;rw[hd]at hr hle;rw[List.length_drop,hlen]at hle;refine⟨hh.1,hr,hh.2,by omega,λj y h1 h2 hy=>?_⟩;by_cases hs:(Utf8.decode u i).1=65533/\(Utf8.decode u i).2=1
 .obtain rfl:j=i:=by have:=hs.2;omega
  have:=Lib.data_getElem? u j hi;rw[this]at hy;injection hy with hy;rw[<-hy];exact ha
 have he:=Lib.encode_decode (u.data.toList.drop i) hne (by rw[hd];exact hs);rw[hd]at he
 have hm:y∈(u.data.toList.drop i).take (Utf8.decode u i).2:=by
  rw[List.mem_iff_getElem?];refine⟨j-i,?_⟩;rw[List.getElem?_take_of_lt (by omega),List.getElem?_drop,show i+(j-i)=j by omega];exact hy
 rw[<-he]at hm;exact Qhf _ (by have:=hh.1;omega) y hm
theorem Qcm(u:ByteArray)(hu:u.size<4294967281)(w:World):
  Calls prog 145 #[.string u,.string ⟨#[61,33,60,62]⟩] w λe w'=>e=.returned (.int .i64 (Lib.indexAny u.data.toList [61,33,60,62]))/\Below w.heap.size w w':=by
 have h116:(prog.info? 216).map (λi=>(i.zero,i.size))=some (some (.agg (Array.replicate 256 (.bool false))),256):=by kernel_rfl
 by_cases h8:8<u.size
 .refine(Tryz.strings_IndexAny_long (zero_of_info h116).1 u ⟨#[61,33,60,62]⟩ w (by decide) h8 hu (by decide) (λj b hb=>?_)).mono ?_
  .have hb':[(61:UInt8),33,60,62][j]?=some b:=hb
   match j,hb' with
   |0,h=>simp at h;subst h;decide
   |1,h=>simp at h;subst h;decide
   |2,h=>simp at h;subst h;decide
   |3,h=>simp at h;subst h;decide
   |j+4,h=>simp at h
  rintro e w' ⟨rfl,rfl⟩;exact⟨rfl,Qa (Qa Zbr _) _⟩
 have h8z:decide ((8:Int)<(u.size:Int))=false:=decide_eq_false (by omega);clear h116 h8;go_enter func145,ntmps145;go_wp2_with fail
 refine(Tryz.strings_shouldUseASCIISet _ _).mono ?_;rw[h8z];rintro e w1⟨rfl,rfl⟩;clear h8z;go_wp2_with fail
 go_loopg [9,10] u.size (λg _ _ wx=>∃i:Nat,i+g=u.size/\wx.heap[w1.heap.size]?=some (.stringIter u i)/\Below w1.heap.size w1 wx/\Lib.NoAny u.data.toList [61,33,60,62] i)
 case atStart=>exact⟨0,by omega,World.iter_heap _ _ _,Qa Zbr _,Lib.NoAny.zero _ _⟩
 case round=>
  obtain⟨i,hig,hit,hbw,hno⟩:=hrel;have HN:=Zh hno;have HI:=Zh hit;have Hb:=Zh hbw;clear hno hbw;by_cases hi:i<u.size
  .by_cases ha:(u[i]'hi).toNat<128
   .have hnx:=λ(wx:World)(h:wx.heap[w1.heap.size]?=some (.stringIter u i)) ty=>Lib.run_next_ascii_at (P:=prog) wx w1.heap.size u i ty h hi ha;obtain⟨x,hx⟩:∃x:UInt8,u[i]'hi=x:=⟨_,rfl⟩;have hxl:u.data.toList[i]?=some x:=by rw[<-hx];exact Lib.data_getElem? u i hi
    rw[hx]at hnx ha;have hk:=hnx wr HI.o;have Hx:=Zh hxl;have HI2:=Zh (Lib.iterAt_heap wr w1.heap.size u i (i+1) HI.o);have Hb2:=Zh (QaC (k:=w1.heap.size) (s:=u) (p:=i+1) Hb.o Znl);have hcon:=Lib.contains_iff_indexByte [61,33,60,62] x;have hback:((x.toNat:Int)).toNat.toUInt8=x:=by simp
    clear hx hxl hnx hit;cases hin:([61,33,60,62]:List UInt8).contains x
    .rw[hin]at hcon;have hlt:¬((0:Int)<=Lib.indexByte [61,33,60,62] x):=of_decide_eq_false hcon.symm;have HN2:=Zh (HN.o.succ Hx.o hin);clear hcon hin;go_wp2_with fail
     refine(Tryz.strings_IndexRune_ascii _ _ _ (by omega) (by omega)).mono ?_;rintro e w3⟨rfl,rfl⟩;rw[hback];go_wp2
     go_roundg (u.size-(i+1))
     case measure=>omega
     case rel=>exact⟨i+1,by omega,HI2.o,Hb2.o,HN2.o⟩
    rw[hin]at hcon;have hge:(0:Int)<=Lib.indexByte [61,33,60,62] x:=of_decide_eq_true hcon.symm;have HE:=Zh (Lib.indexAny_hit HN.o Hx.o hin);clear hcon hin;go_wp2_with fail
    refine(Tryz.strings_IndexRune_ascii _ _ _ (by omega) (by omega)).mono ?_;rintro e w3⟨rfl,rfl⟩;rw[hback];go_wp2;go_ret;exact⟨by rw[HE.o];rfl,Hb2.o⟩
   obtain⟨d1,d2,d3,d4,d5⟩:=Qhb u i hi (by omega);have hk:=λty=>Lib.run_next_any_at (P:=prog) wr w1.heap.size u i ty HI.o hi;obtain⟨⟨r,m⟩,hd⟩:∃d,Utf8.decode u i=d:=⟨_,rfl⟩;rw[hd]at d1 d2 d3 d4 d5 hk;dsimp only at d1 d2 d3 d4 d5 hk;have HI2:=Zh (Lib.iterAt_heap wr w1.heap.size u i (i+m) HI.o);have Hb2:=Zh (QaC (k:=w1.heap.size) (s:=u) (p:=i+m) Hb.o Znl)
   have HN2:Hid (Lib.NoAny u.data.toList [61,33,60,62] (i+m)):=λj y hj hy=>by
    by_cases hji:j<i
    .exact HN.o j y hji hy
    have:=d5 j y (by omega) hj hy;have e:∀c:UInt8,c.toNat<128->(y==c)=false:=λc hc=>beq_eq_false_iff_ne.2 (λe=>by rw[e]at this;omega);simp[List.contains,List.elem,e]
   clear hd d5 ha hit;go_wp2_with fail
   refine(Qcl r d1 d2 _).mono ?_;rintro e w3⟨rfl,hb3⟩;have HI3:=Zh ((hb3.block w1.heap.size (by have:=(Array.getElem?_eq_some_iff.1 HI2.o).1;exact this)).trans HI2.o);have Hb3:=Zh (Ql Hb2.o hb3);clear hb3 hk;go_wp2
   go_roundg (u.size-(i+m))
   case measure=>omega
   case rel=>exact⟨i+m,by omega,HI3.o,Hb3.o,HN2.o⟩
  have hnx:=λty=>Lib.run_next_end_at (P:=prog) wr w1.heap.size u i ty HI.o hi;have HE:=Zh (Lib.indexAny_none (s:=u.data.toList) (chars:=[61,33,60,62]) (λj b hj hb=>HN.o j b (by rw[<-Lib.size_eq]at hj;omega) hb));clear hit;go_wp2;go_ret;exact⟨by rw[HE.o];rfl,Hb.o⟩
end
section
open Go.RowKit
theorem QfQ{l m:List UInt8}:bsL l=bsL m↔l=m:=⟨λh=>by
 have:=congrArg (λb=>b.data.toList) h;simpa[bsL]using this,λh=>by rw[h]⟩
theorem QhL(b:UInt8):([61,33,60,62]:List UInt8).contains b=decide (Xc b≠0):=by
 unfold Xc;by_cases h1:b=61
 .subst h1;rfl
 by_cases h2:b=33
 .subst h2;rfl
 by_cases h3:b=60
 .subst h3;rfl
 by_cases h4:b=62
 .subst h4;rfl
 simp[h1,h2,h3,h4]
theorem QhU:∀l:List UInt8,Lib.indexAny l [61,33,60,62]=if opAt l=l.length then -1 else(opAt l:Int)
 |[]=>rfl
 |b::l=>by
  have ih:=QhU l;unfold Lib.indexAny opAt;rw[QhL];by_cases h:Xc b=0
  .rw[if_neg (by simp[h]),if_pos h,ih];by_cases h2:opAt l=l.length
   .rw[if_pos h2,if_pos (by rfl),if_pos (by simp[h2])]
   have h3:¬opAt l+1=(b::l).length:=by simp only[List.length_cons];omega
   have h4:((opAt l:Int) == -1)=false:=beq_eq_false_iff_ne.2 (by omega);simp only[if_neg h2,h4,if_neg h3,Bool.false_eq_true,if_false];omega
  rw[if_pos (by simp[h]),if_neg h,if_neg (by simp)];rfl
def Qdn:List ByteArray:=[bsL [110,114],bsL [107,105,110,100],bsL [97],bsL [98],bsL [99]]
def Qi7:List ByteArray:=[bsL [],bsL [61],bsL [33],bsL [60],bsL [62]]
def NK:List ByteArray:=[bsL [107,105,108,108],bsL [116,114,97,112],bsL [102,97,105,108],bsL [108,111,103],bsL [97,108,108,111,119]]
theorem idx5(a b c d e x:List UInt8):Lib.idxOfS [bsL a,bsL b,bsL c,bsL d,bsL e] (bsL x)=if x=a then 0 else if x=b then 1 else if x=c then 2 else if x=d then 3 else if x=e then 4 else -1:=by
 have h:∀y:List UInt8,(bsL y=bsL x)=(x=y):=λy=>propext ⟨λh=>(QfQ.1 h).symm,λh=>QfQ.2 h.symm⟩;simp only[Lib.idxOfS,Lib.idxFromS,h]
 repeat' split
 all_goals simp_all
theorem Qf2(x:List UInt8):Lib.idxOfS (Qdn.take 5) (bsL x)=match VU x with|some f=>f|none=>-1:=by
 show Lib.idxOfS [bsL _,bsL _,bsL _,bsL _,bsL _] (bsL x)=_;rw[idx5];unfold VU
 repeat' split
 all_goals simp_all
theorem NM(x:List UInt8):Lib.idxOfS (NK.take 5) (bsL x)=match Q4 x with|some f=>f|none=>-1:=by
 show Lib.idxOfS [bsL _,bsL _,bsL _,bsL _,bsL _] (bsL x)=_;rw[idx5];unfold Q4
 repeat' split
 all_goals simp_all
theorem QiV(b:UInt8)(h:Xc b≠0):Lib.idxOfS (Qi7.take 5) (bsL [b])=Xc b:=by
 show Lib.idxOfS [bsL _,bsL _,bsL _,bsL _,bsL _] (bsL [b])=_;rw[idx5];unfold Xc at h⊢;by_cases h1:b=61
 .subst h1;rfl
 by_cases h2:b=33
 .subst h2;rfl
 by_cases h3:b=60
 .subst h3;rfl
 by_cases h4:b=62
 .subst h4;rfl
 simp[h1,h2,h3,h4]at h
theorem Zp(a b c d e x:List UInt8)(g:Nat)(W:World)(h:W.heap[g]?=some (.cells #[.string (bsL a),.string (bsL b),.string (bsL c),.string (bsL d),.string (bsL e)] 9)):
  Calls prog 69 #[.slice (some ⟨g,0,none⟩) 5 5,.string (bsL x)] W λo w'=>o=.returned (.int .i64 (Lib.idxOfS [bsL a,bsL b,bsL c,bsL d,bsL e] (bsL x)))/\w'=W:=
 Tryz.slices_Index_string g 0 5 5 [bsL a,bsL b,bsL c,bsL d,bsL e] (bsL x) W (by simp) (by omega) (λj hj=>by
  rw[Qb h]
  match j,hj with
  |0,_=>rfl
  |1,_=>rfl
  |2,_=>rfl
  |3,_=>rfl
  |4,_=>rfl
  |j+5,hj=>exact absurd hj (by simp))
theorem JY(l:List UInt8)(i j:Nat):(bsL l).extract i j=bsL ((l.drop i).take (j-i)):=by
 apply ByteArray.ext;simp[bsL,ByteArray.extract,ByteArray.copySlice]
end
section
open Go.RowKit
theorem QeJ(l:List UInt8):Lib.atoiSat l=Lib.intSat 64 l:=by
 unfold Lib.atoiSat Lib.intSat;split<;>rfl
theorem QdX(s:ByteArray)(w:World)(hL:Laid w)(hs:s.size<=281474976710656):
  Calls prog 108 #[.string s] w λe w'=>∃err:Value,e=.returned (.tuple #[.int .i64 (Ug s.data.toList).1,err])/\(((∃v,Lib.parseIntB 64 s.data.toList=.ok v/\Ug s.data.toList=(v,Lib.itoa v==s.data.toList))/\err=.nilIface)\/((Ug s.data.toList).2=false/\∃t p,err=.iface t p))/\Below w.heap.size w w':=by
 cases hp:Lib.parseIntB 64 s.data.toList
 .rename_i v;have he:Ug s.data.toList=(v,Lib.itoa v==s.data.toList):=by unfold Ug;rw[hp]
  refine(Tryz.strconv_Atoi_ok s (by omega) v (by rw[<-Lib.parseIntB_64];exact hp) w).mono ?_;rintro e w1⟨rfl,hw1⟩;refine⟨_,by rw[he],.inl ⟨⟨v,rfl,he⟩,rfl⟩,?_⟩;rcases hw1 with rfl|⟨t,rfl⟩
  .exact Below.refl _ _
  exact Go.Joins.below_bytesWorld _ _ _ _ Znl
 .have he:Ug s.data.toList=(0,false):=by unfold Ug;rw[hp]
  obtain⟨te,pe,hv⟩:=hL.syn;have c:Calls prog 108 #[.string s] w _:=Any.strconv_Atoi_syntax Tryz.laysC172 s hs (by rw[<-Lib.parseIntB_64];exact hp) _ w hv (.inr ⟨te,pe,rfl⟩);exact c.mono λe w' ⟨N,h1,_,_,h4⟩=>⟨.iface _ (.pointer (some ⟨N,0,none⟩)),by rw[he];exact h1,.inr ⟨by rw[he],_,_,rfl⟩,h4⟩
 have he:Ug s.data.toList=(Lib.intSat 64 s.data.toList,false):=by unfold Ug;rw[hp]
 obtain⟨te,pe,hv⟩:=hL.rng;refine(Tryz.strconv_Atoi_range s hs (by rw[<-Lib.parseIntB_64];exact hp) _ w hv (.inr ⟨te,pe,rfl⟩)).mono ?_;rintro e w1⟨N,rfl,_,_,hb1⟩;exact⟨.iface _ (.pointer (some ⟨N,0,none⟩)),by rw[he,QeJ],.inr ⟨by rw[he],_,_,rfl⟩,hb1⟩
theorem QaQ(s:ByteArray)(w:World)(hL:Laid w)(hs:s.size<=281474976710656):
  Calls prog 68 #[.string s] w λe w'=>e=.returned (.tuple #[.int .i64 (Ug s.data.toList).1,.bool (Ug s.data.toList).2])/\Below w.heap.size w w':=by
 have HL:=Zh hL;clear hL;go_enter func68,ntmps68;go_wp2_with fail
 refine(QdX s _ HL.o hs).mono ?_;rintro e w1⟨err,rfl,hc,hb1⟩;have Hb1:=Zh hb1;have HC:=Zh hc;clear hb1 hc;rcases HC.o with⟨⟨v,hp,he⟩,rfl⟩|⟨h2,t,p,rfl⟩
 .obtain⟨h0,h1⟩:=Qbz hp;obtain⟨q,hq⟩:∃q,(Lib.itoa v==s.data.toList)=q:=⟨_,rfl⟩;rw[hq]at he;have hcmp:((bsL (Lib.itoa v)).toList==s.toList)=q:=by rw[ByteArray.toList_eq,ByteArray.toList_eq,Vd];exact hq
  have He:=Zh he;rw[he];clear hp he hq HC;go_wp2_with fail
  refine(X8 v h0 h1 _ (HL.o.below Hb1.o)).mono ?_;rintro e w2⟨rfl,hb2⟩;have Hb2:=Zh (Ql Hb1.o hb2);clear hb2;go_wp2;go_ret2;exact⟨by rw[He.o];rfl,Hb2.o⟩
 have He:=Zh h2;clear h2 HC;go_wp2;go_ret2;exact⟨by rw[He.o];rfl,Hb1.o⟩
end
section
open Go.RowKit
def QfX(P:Program)(ops:Array Oper)(Inv:(Nat->Bool)->World->Prop)(bs:List (List Nat))(Q:Act->World->Prop)(n:Nat):List Oper->Nat->Act->Prop
 |[],_,a=>∀(dn:Nat->Bool)(w:World),(∀k,k<n->dn k=true)->Inv dn w->Q a w
 |o::l,i,a=>∃x:Value,(∀(dn:Nat->Bool)(w:World),Inv dn w->dn i=false->(∀k∈(prune o).after.toList.map (λe=>e.on),dn k=true)->(∀k:Nat,i∈bs.getD k []->dn k=false) ->
   ∀R:Value->World->Prop,(∀(v:Value)(w':World),Inv (Qe dn i) w'->v=x->R v w')->if Region.wanted o (yielded ops a.tmps)then gives P o a w R else R undef w) /\
   QfX P ops Inv bs Q n l (i+1) (a.put o.dst x)
theorem Qk{P:Program}{ops:Array Oper}{Inv:(Nat->Bool)->World->Prop}{bs:List (List Nat)}{Q:Act->World->Prop}{n:Nat}{o:Oper}{l:List Oper}{i:Nat}{a:Act}
  (h:∀K:Act->Prop,(∀a,QfX P ops Inv bs Q n l (i+1) a->K a)->∃x:Value,(∀(dn:Nat->Bool)(w:World),Inv dn w->dn i=false->(∀k∈(prune o).after.toList.map (λe=>e.on),dn k=true)->(∀k:Nat,i∈bs.getD k []->dn k=false) ->
   ∀R:Value->World->Prop,(∀(v:Value)(w':World),Inv (Qe dn i) w'->v=x->R v w')->if Region.wanted o (yielded ops a.tmps)then gives P o a w R else R undef w)/\K (a.put o.dst x)):
  QfX P ops Inv bs Q n (o::l) i a:=h _ (λ_ h=>h)
theorem Ep{P:Program}{ops:List Oper}{Inv:(Nat->Bool)->World->Prop}{bs:List (List Nat)}{Q:Act->World->Prop}{n:Nat}:∀(l:List Oper)(i:Nat)(a:Act),QfX P ops.toArray Inv bs Q n l i a->Qhd P (ops.map prune).toArray Inv bs Q n (l.map prune) i a
 |[],_,_,h=>h
 |o::l,i,a,⟨x,h1,h2⟩=>by
  refine⟨x,λd w hC h0 hd hn R hR=>?_,Ep l _ _ h2⟩;have:=h1 d w hC h0 hd hn R hR;rw[<-XO]at this;exact this
theorem Vf{P:Program}{l:List Oper}{Q:Exit->Act->World->Prop}{a:Act}{id:Nat}{w:World}(Inv:(Nat->Bool)->World->Prop)(hm:P.follows .mixedOrders=true)(hB:YD (l.map prune) a.tmps.size=true)(hC:Inv (λ_=>false) w.drew)
  (bs:List (List Nat)) (hbs:befores (l.map prune) []=bs) (h:QfX P l.toArray Inv bs (Q .normal) l.length l 0 a):(Code.region id l.toArray true).wp P Q a w:=by
 subst hbs;have h':=Ep (ops:=l) l 0 a h;have hlen:l.length=(l.map prune).length:=by simp
 rw[hlen]at h';generalize hl:l.map prune=l' at hB h';obtain⟨xs,hx⟩:=OB l' 0 a [] h';refine wp_region_any hm (YI _ _ _ _ ?_);rw[hl];refine wpAny_done (Inv:=Inv) (T:=λ_ _ _=>True) (ss:=xs.map ex) hB (λi k s _ hk v dn w1 w2 _ _ _=>?_) hx _ _ (λ_=>undef) _ _ ?_ ⟨?_,?_,by simp[<-hl],rfl,rfl,?_,λ_ _=>rfl⟩
 .obtain⟨x,_,rfl⟩:=List.mem_map.1 (List.mem_of_getElem? hk)
  trivial
 .have:=List.length_filter_le (λi=>(Array.replicate l.toArray.size false)[i]? != some true) (List.range l'.length);simpa[undone,<-hl]using this
 .refine(congrArg (λd=>Inv d _) ?_).mp hC;funext k
  rw[Array.getElem?_replicate];split<;>simp
 .intro j o hj hl;rw[Array.getElem?_replicate]at hl;split at hl<;>simp at hl
 intro j o s hj _ hl;rw[Array.getElem?_replicate]at hl;split at hl<;>simp at hl
end
end Go.Proofs.YthkgjohhbdipcaaGreatDoor
