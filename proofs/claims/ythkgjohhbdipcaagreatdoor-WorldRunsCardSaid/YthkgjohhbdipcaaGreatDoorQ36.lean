/- Texts laid one behind the other: EqErr, Made, Strict, WKept, RCCall, Open, OpenPol, OpenRec, OpenKeep, OpenCells, OpenWorld, Frame, FrameF. No condition beyond theirs. -/
import Derived.Test.YthkgjohhbdipcaaGreatDoorQ2
import Derived.Test.YthkgjohhbdipcaaGreatDoorProg
import Derived.Test.YthkgjohhbdipcaaGreatDoorQ32
import Derived.KernelRfl
import Derived.Test.YthkgjohhbdipcaaGreatDoorQ5
import Derived.Test.YthkgjohhbdipcaaGreatDoorQ35
import Derived.Test.YthkgjohhbdipcaaGreatDoorQ4
import Derived.OpenShut
import Derived.Deep.Slices
import Derived.ProofKit
import Derived.ChangeOld
import Derived.ChangeSame
import Derived.Carry
import Derived.SizedLaws
import Derived.Test.YthkgjohhbdipcaaGreatDoorQ8
import Derived.Test.YthkgjohhbdipcaaGreatDoorRows
import Derived.LaidMore
import Derived.Lay
import Derived.Lib.LaidU8
import Derived.Shelf.Vars
import Derived.Stop.Joined
set_option linter.all false
set_option maxHeartbeats 64000000
set_option maxRecDepth 100000
namespace Go.Proofs.YthkgjohhbdipcaaGreatDoor
open Go.Proofs.Tryz
section
open Go.RowKit
attribute [local go_sem] gives QG
theorem Qaq(v u:Value)(xs ys:List Int)(D:Nat->Prop)(w:World)(h:UR w D v xs)(h':UR w D u ys):
  Calls prog 16 #[v,u] w λe w'=>e=.returned (.bool (decide (xs=ys)))/\Below w.heap.size w w':=by
 obtain⟨a,c,rfl,hlc,hcm,hat⟩:=Sl.form h;obtain⟨a',c',rfl,hlc',hcm',hat'⟩:=Sl.form h';have H:=Zh h;have H':=Zh h';clear h h';by_cases hl:xs.length=ys.length
 .have b0:((xs.length:Int) !=(ys.length:Int))=false:=bne_eq_false_iff_eq.2 (by omega);have hl':=Zh hl;have hl1:xs.length<=ys.length:=by omega
  have hl2:ys.length<=xs.length:=by omega
  clear hl;go_enter func16,ntmps16;go_wp2_with fail
  go_loopw[13](λi wr=>∃k:Nat,k<=xs.length/\i=.int .i64 k/\xs.take k=ys.take k/\Below w.heap.size w wr) (λi _=>xs.length-(intOf i).toNat)
  case atStart=>exact⟨0,by omega,rfl,rfl,Below.refl _ _⟩
  case round=>
   obtain⟨k,hk,rfl,htk,hbw⟩:=hrel;have Ht:=Zh htk;have hsz:=hbw.size;clear htk;by_cases hlt:k<xs.length
   .obtain⟨b,o,rfl,hDb,hb⟩:=hat (by omega);obtain⟨b',o',rfl,hDb',hb'⟩:=hat' (by omega);have hlt':k<ys.length:=by omega
    have hc:∀W,Cls w.heap.size wr W->W.cell? ⟨b,o+k,none⟩=some (.int .i64 xs[k])/\W.cell? ⟨b',o'+k,none⟩=some (.int .i64 ys[k]):=λW hW=>
     ⟨UR.cell (H.o.below (hbw.trans hW.2)) hlt,UR.cell (H'.o.below (hbw.trans hW.2)) hlt'⟩
    have Hc:=Zh hc;clear hc;go_wp2_with fail
    refine Qy w.heap.size hsz (by kernel_rfl) (by kernel_rfl) ?_
    repeat(refine QL (λK hK=>?_);apply Exists.intro;refine⟨λW hC R hR=>?_,?_⟩;(have hcc:=Hc.o W hC;go_simp;exact hR _ _ Zbr rfl);(go_simp;refine hK _ ?_;clear hK K))
    intro w2 hC2;by_cases he:xs[k]=ys[k]
    .have Hn:=Zh (Oj hlt hlt' Ht.o he);have d:(xs[k] != ys[k])=false:=bne_eq_false_iff_eq.2 (by rw[he]);clear he;simp only[d];go_wp2
     go_roundw
     case rel=>exact⟨k+1,by omega,by go_num,Hn.o,hbw.trans hC2.2⟩
     case measure=>simp[intOf];omega
    have Hn:=Zh (QaN hlt hlt' he);have d:(xs[k] != ys[k])=true:=bne_iff_ne.2 he;clear he;simp only[d];go_wp2;go_ret;exact⟨VM (decide_eq_false Hn.o).symm,hbw.trans hC2.2⟩
   obtain rfl:k=xs.length:=by omega
   have Hn:Hid (xs=ys):=by
    have:=Ht.o;rw[List.take_length,hl'.o,List.take_length]at this;exact this
   go_wp2;go_ret;exact⟨VM (decide_eq_true Hn.o).symm,hbw⟩
 have b0:((xs.length:Int) !=(ys.length:Int))=true:=bne_iff_ne.2 (by omega);have hn:decide (xs=ys)=false:=decide_eq_false λe=>hl (by rw[e]);rw[hn];clear hn hl;go_enter func16,ntmps16;go_wp2;go_ret;exact⟨rfl,Below.refl _ _⟩
end
section
open Go.RowKit
theorem Qed(w:World)(hL:Laid w):Calls prog 53 #[] w λe w'=>∃v,e=.returned (U8 v 4)/\Qc w' (λb=>w.heap.size<=b) v JK.ru/\Below w.heap.size w w':=by
 have HL:=Zh (hL.below (Qa Zbr (.cells #[.slice none 0 0,.int .i64 0] 38)));clear hL;go_enter func53,ntmps53;go_wp2_with fail
 refine(G6 ⟨QbP.toArray⟩ _ HL.o (by decide) (by decide)).mono ?_;rintro e w1⟨v,rfl,hr,hb⟩;have hrm:VE (⟨QbP.toArray⟩:ByteArray).data.toList=(JK,0):=Qgy;rw[hrm]at hr;rw[hrm];have hd:(JK,(0:Int)).1.df=4:=rfl;rw[hd];have hr1:=Qd (Qh w (.cells #[.slice none 0 0,.int .i64 0] 38)) hb;have Hr:=Zh hr;have Hb:=Zh (Ql (Qa (Below.refl _ w) _) hb);obtain⟨a,c,rfl,_⟩:=Sl.form hr;have hsz:=hb.size;have hr2:(w1.alloc (.cells #[.slice a JK.ru.length c,.int .i64 4] 38)).heap[w.heap.size]?=some (.cells #[.slice none 0 0,.int .i64 0] 38):=QQ hr1;have hc2:=Qb hr2;have hf2:=Qp hr2;have hr4:=QJ (o:=1) (v:=.int .i64 4) (QJ (o:=0) (v:=.slice a JK.ru.length c) hr2);have hc4:=Qb hr4;have Hb4:=Zh (Qw (a:=⟨w.heap.size,1,none⟩) (v:=.int .i64 4) (Qw (a:=⟨w.heap.size,0,none⟩) (v:=.slice a JK.ru.length c) (Qa Hb.o (.cells #[.slice a JK.ru.length c,.int .i64 4] 38)) Znl) Znl)
 have HR4:Hid (Qc (((w1.alloc (.cells #[.slice a JK.ru.length c,.int .i64 4] 38)).setCell ⟨w.heap.size,0,none⟩ (.slice a JK.ru.length c)).setCell ⟨w.heap.size,1,none⟩ (.int .i64 4)) (λb=>w.heap.size<=b) (.slice a JK.ru.length c) JK.ru):=
  Qc.keep (Hr.o.below (Qa Zbr _)) (λb h _=>by have:(w.alloc _).heap.size<=b:=h;simp at this;show w.heap.size<=b;omega) (λb hb _=>by
   have h1:(w.alloc _).heap.size<=b:=hb;simp at h1;rw[Qm (by show b≠w.heap.size;omega),Qm (by show b≠w.heap.size;omega)]) (by rw[Qr,Qr];exact Nat.le_refl _)
 clear hr hb hrm hd hr1 hr2;go_wp2;refine bodyPost_ret (v:=U8 (.slice a JK.ru.length c) 4) ?_ rfl ⟨_,rfl,HR4.o,Hb4.o⟩;simp[results,results53,go_sem,hc4]
end
section
open Go.RowKit
def Xw:TPol:=⟨[⟨[⟨0,1,3⟩,⟨2,3,5⟩],0⟩,⟨[⟨1,2,0⟩],3⟩,⟨[⟨3,4,7⟩],2⟩],4⟩
theorem QdH:VE [107,105,108,108,32,110,114,61,51,32,97,60,53,59,108,111,103,32,107,105,110,100,33,48,59,102,97,105,108,32,98,62,55,59,97,108,108,111,119]=(Xw,0):=by decide +kernel
theorem Qfu(w:World)(hL:Laid w):Calls prog 54 #[] w λe w'=>∃v,e=.returned (U8 v 4)/\Qc w' (λb=>w.heap.size<=b) v Xw.ru/\Below w.heap.size w w':=by
 have HL:=Zh (hL.below (Qa Zbr (.cells #[.slice none 0 0,.int .i64 0] 38)));clear hL;go_enter func54,ntmps54;go_wp2_with fail
 refine(G6 ⟨([107,105,108,108,32,110,114,61,51,32,97,60,53,59,108,111,103,32,107,105,110,100,33,48,59,102,97,105,108,32,98,62,55,59,97,108,108,111,119]:List UInt8).toArray⟩ _ HL.o (by decide) (by decide)).mono ?_;rintro e w1⟨v,rfl,hr,hb⟩;have hrm:VE (⟨([107,105,108,108,32,110,114,61,51,32,97,60,53,59,108,111,103,32,107,105,110,100,33,48,59,102,97,105,108,32,98,62,55,59,97,108,108,111,119]:List UInt8).toArray⟩:ByteArray).data.toList=(Xw,0):=QdH;rw[hrm]at hr;rw[hrm];have hd:(Xw,(0:Int)).1.df=4:=rfl;rw[hd];have hr1:=Qd (Qh w (.cells #[.slice none 0 0,.int .i64 0] 38)) hb;have Hr:=Zh hr;have Hb:=Zh (Ql (Qa (Below.refl _ w) _) hb);obtain⟨a,c,rfl,_⟩:=Sl.form hr;have hsz:=hb.size;have hr2:(w1.alloc (.cells #[.slice a Xw.ru.length c,.int .i64 4] 38)).heap[w.heap.size]?=some (.cells #[.slice none 0 0,.int .i64 0] 38):=QQ hr1;have hc2:=Qb hr2;have hf2:=Qp hr2;have hr4:=QJ (o:=1) (v:=.int .i64 4) (QJ (o:=0) (v:=.slice a Xw.ru.length c) hr2);have hc4:=Qb hr4;have Hb4:=Zh (Qw (a:=⟨w.heap.size,1,none⟩) (v:=.int .i64 4) (Qw (a:=⟨w.heap.size,0,none⟩) (v:=.slice a Xw.ru.length c) (Qa Hb.o (.cells #[.slice a Xw.ru.length c,.int .i64 4] 38)) Znl) Znl)
 have HR4:Hid (Qc (((w1.alloc (.cells #[.slice a Xw.ru.length c,.int .i64 4] 38)).setCell ⟨w.heap.size,0,none⟩ (.slice a Xw.ru.length c)).setCell ⟨w.heap.size,1,none⟩ (.int .i64 4)) (λb=>w.heap.size<=b) (.slice a Xw.ru.length c) Xw.ru):=
  Qc.keep (Hr.o.below (Qa Zbr _)) (λb h _=>by have:(w.alloc _).heap.size<=b:=h;simp at this;show w.heap.size<=b;omega) (λb hb _=>by
   have h1:(w.alloc _).heap.size<=b:=hb;simp at h1;rw[Qm (by show b≠w.heap.size;omega),Qm (by show b≠w.heap.size;omega)]) (by rw[Qr,Qr];exact Nat.le_refl _)
 clear hr hb hrm hd hr1 hr2;go_wp2;refine bodyPost_ret (v:=U8 (.slice a Xw.ru.length c) 4) ?_ rfl ⟨_,rfl,HR4.o,Hb4.o⟩;simp[results,results54,go_sem,hc4]
end
section
open Go.RowKit
attribute [local go_sem] gives QG
def Qdu:List THap:=[⟨1,1,0,JK⟩,⟨2,1,0,Xw⟩,⟨2,1,0,JK⟩,⟨5,0,0,zeroPol⟩,⟨4,1,0,zeroPol⟩,⟨6,0,0,zeroPol⟩]
def Qhl:TWorld:=(Za newWorld Qdu).1
theorem QiP:(Za newWorld Qdu).2=([0,0,7,0,6,0],0):=by decide +kernel
theorem Qih:Qhl.up=true:=by decide +kernel
theorem QiQ:YK Qhl 1 ⟨0,0,0,8,0⟩=(2,0):=by decide +kernel
theorem QiR:YK Qhl 2 ⟨0,0,0,0,0⟩=(0,6):=by decide +kernel
theorem QgY(c u v:Value)(t:TWorld)(cell:Int)(x:TCall)(D:Nat->Prop)(w:World){up:Bool}(hu:t.up=up)(h:Qi w D c u v t)(hL:Laid w):
  Calls prog 18 #[Ux c u v up,.int .i64 cell,Yk x] w λe w'=>e=.returned (.tuple #[.int .i64 (YK t cell x).1,.int .i64 (YK t cell x).2])/\Below w.heap.size w w':=by
 subst hu;exact QeD c u v t cell x D w h hL
theorem Zk(w:World)(hL:Laid w):Calls prog 13 #[] w λe w'=>e=.returned (.bool true)/\Below w.heap.size w w':=by
 have HL:=Zh hL;clear hL;obtain⟨kW,hkW⟩:∃C,Qhl=C:=⟨_,rfl⟩
 have HR:Hid (Za newWorld Qdu=(kW,[0,0,7,0,6,0],0)):=by
  show _=_;rw[<-hkW,<-QiP];rfl
 have HU:=Qih;have HA:=Zh QiQ;have HB:=Zh QiR;rw[hkW]at HU HA HB;clear hkW;go_enter func13,ntmps13;go_wp2_with fail
 refine(QeE _).mono ?_;rintro e w0⟨c0,rfl,hr0,hb0⟩;have Hb0:=Zh hb0;have Hr0:=Zh (Qi.true hr0);obtain⟨x0,y0,rfl,_⟩:=Sl.form hr0.cells;clear hr0 hb0;go_wp2_with fail
 refine(Qed _ (HL.o.below Hb0.o)).mono ?_;rintro e w1⟨v1,rfl,hr1,hb1⟩;have Hb1:=Zh (Ql Hb0.o hb1);have Hr01:=Zh (Qi.below Hr0.o hb1);have Hp1:=Zh (VT hr1);obtain⟨a1,c1,rfl,_⟩:=Sl.form hr1;clear hr1 hb1 Hr0 Hb0;have hm1:JK.ru.length=2:=rfl;go_wp2_with fail
 refine(Qfu _ (HL.o.below Hb1.o)).mono ?_;rintro e w2⟨v2,rfl,hr2,hb2⟩;have Hb2:=Zh (Ql Hb1.o hb2);have Hr02:=Zh (Qi.below Hr01.o hb2);have Hp12:=Zh (Qc.below Hp1.o hb2);have Hp2:=Zh (VT hr2);obtain⟨a2,c2,rfl,_⟩:=Sl.form hr2;clear hr2 hb2 Hr01 Hb1 Hp1;have hm2:Xw.ru.length=3:=rfl;go_wp2_with fail
 refine(Qed _ (HL.o.below Hb2.o)).mono ?_;rintro e w3⟨v3,rfl,hr3,hb3⟩;have Hb3:=Zh (Ql Hb2.o hb3);have Hr03:=Zh (Qi.below Hr02.o hb3);have HP1:=Zh (Qc.below Hp12.o hb3);have HP2:=Zh (Qc.below Hp2.o hb3);have HP3:=Zh (VT hr3);obtain⟨a3,c3,rfl,_⟩:=Sl.form hr3;clear hr3 hb3 Hr02 Hb2 Hp2 Hp12;have HC:=Zh (Bx.one (w:=w3) (o:=.cells #[.int .i64 1,.int .i64 1,.int .i64 0,.slice a1 2 c1,.int .i64 4,.int .i64 2,.int .i64 1,.int .i64 0,.slice a2 3 c2,.int .i64 4,.int .i64 2,.int .i64 1,.int .i64 0,.slice a3 2 c3,.int .i64 4,.int .i64 5,.int .i64 0,.int .i64 0,.slice none 0 0,.int .i64 0,.int .i64 4,.int .i64 1,.int .i64 0,.slice none 0 0,.int .i64 0,.int .i64 6,.int .i64 0,.int .i64 0,.slice none 0 0,.int .i64 0] 40))
 have HRc:Hid (XF (w3.alloc (.cells #[.int .i64 1,.int .i64 1,.int .i64 0,.slice a1 2 c1,.int .i64 4,.int .i64 2,.int .i64 1,.int .i64 0,.slice a2 3 c2,.int .i64 4,.int .i64 2,.int .i64 1,.int .i64 0,.slice a3 2 c3,.int .i64 4,.int .i64 5,.int .i64 0,.int .i64 0,.slice none 0 0,.int .i64 0,.int .i64 4,.int .i64 1,.int .i64 0,.slice none 0 0,.int .i64 0,.int .i64 6,.int .i64 0,.int .i64 0,.slice none 0 0,.int .i64 0] 40)) (λ_=>True) (.slice (some ⟨w3.heap.size,0,none⟩) 6 6) Qdu):=
  Ub (xs:=Qdu) (rows:=[[.int .i64 1,.int .i64 1,.int .i64 0,.slice a1 2 c1,.int .i64 4],[.int .i64 2,.int .i64 1,.int .i64 0,.slice a2 3 c2,.int .i64 4],[.int .i64 2,.int .i64 1,.int .i64 0,.slice a3 2 c3,.int .i64 4],[.int .i64 5,.int .i64 0,.int .i64 0,.slice none 0 0,.int .i64 0],[.int .i64 4,.int .i64 1,.int .i64 0,.slice none 0 0,.int .i64 0],[.int .i64 6,.int .i64 0,.int .i64 0,.slice none 0 0,.int .i64 0]]) (Qq.cons (Qq.cons (Qq.cons (Qq.cons (Qq.cons (Qq.cons Qq.nil ⟨_,rfl,XZ _ _⟩ rfl) ⟨_,rfl,XZ _ _⟩ rfl) ⟨_,rfl,XZ _ _⟩ rfl) ⟨_,rfl,Qc.below HP3.o HC.o.bel⟩ rfl) ⟨_,rfl,Qc.below HP2.o HC.o.bel⟩ rfl) ⟨_,rfl,Qc.below HP1.o HC.o.bel⟩ rfl) (Qh _ _) rfl trivial (by simp[maxLen,Qdu])
 go_wp2_with fail
 refine(QeF _ _ _ _ newWorld Qdu _ _ _ (Qi.below Hr03.o HC.o.bel) HRc.o (HL.o.below (Ql Hb3.o HC.o.bel))).mono ?_;rw[HR.o];rintro e w4⟨c',u',v',sv,rfl,hr4,hs4,hb4⟩;dsimp only at hr4 hs4;obtain⟨x0,y0,rfl,_⟩:=Sl.form hr4.cells;obtain⟨x1,y1,rfl,_⟩:=Sl.form hr4.disk.1;obtain⟨x2,y2,rfl,_⟩:=Sl.form hr4.disk.2;obtain⟨sa,sc,rfl,_⟩:=Sl.form hs4;have HW4:=Zh (Qa (Below.refl w4.heap.size w4) (.cells #[.slice x0 kW.cells.length y0,.slice x1 kW.d.sa.length y1,.slice x2 kW.d.wt.length y2,.bool true] 27));have Hb4:=Zh (Ql (Ql (Ql Hb3.o HC.o.bel) hb4) HW4.o);have Hbx:=Zh (Qh w4 (.cells #[.slice x0 kW.cells.length y0,.slice x1 kW.d.sa.length y1,.slice x2 kW.d.wt.length y2,.bool true] 27));have Hr4:=Zh (Qi.below (Qi.true hr4) HW4.o);have Hs4:Hid (UR _ (λ_=>True) _ _):=Sl.mono hs4 (λ_ _ _=>trivial) (λb _ hl=>HW4.o.block b hl) HW4.o.size (λ_ _ _ h=>h);clear hr4 hs4 hb4 HC HRc hm1 hm2 HP1 HP2 HP3 Hr03 HW4;simp only[List.length_cons,List.length_nil,Nat.zero_add,Nat.reduceAdd]at Hs4⊢;rw[HU];go_wp2_with fail
 refine(QgY _ _ _ kW 1 ⟨0,0,0,8,0⟩ _ _ HU Hr4.o (HL.o.below Hb4.o)).mono ?_;rw[HA.o];rintro e w5⟨rfl,hb5⟩;have Hb5:=Zh (Ql Hb4.o hb5);have Hbx5:=Zh (Qd Hbx.o hb5);have Hr5:=Zh (Qi.below Hr4.o hb5);have Hs5:=Zh (UR.below Hs4.o hb5);have hq:=Qb Hbx5.o;clear hb5 Hb4 Hbx Hr4 Hs4;go_wp2_with fail
 clear hq;refine(QgY _ _ _ kW 2 ⟨0,0,0,0,0⟩ _ _ HU Hr5.o (HL.o.below Hb5.o)).mono ?_;rw[HB.o];rintro e w6⟨rfl,hb6⟩;have Hb6:=Zh (Ql Hb5.o hb6);have Hbx6:=Zh (Qd Hbx5.o hb6);have Hs6:=Zh (UR.below Hs5.o hb6);have HA6:=Zh (Qa (Below.refl w6.heap.size w6) (.cells #[.int .i64 0,.int .i64 0,.int .i64 7,.int .i64 0,.int .i64 6,.int .i64 0] 30))
 have HS6:Hid (UR (w6.alloc (.cells #[.int .i64 0,.int .i64 0,.int .i64 7,.int .i64 0,.int .i64 6,.int .i64 0] 30)) (λ_=>True) (.slice (some ⟨w6.heap.size,0,none⟩) 6 6) [0,0,7,0,6,0]):=
  Ub (sz:=1) (xs:=[0,0,7,0,6,0]) (rows:=[[.int .i64 0],[.int .i64 0],[.int .i64 7],[.int .i64 0],[.int .i64 6],[.int .i64 0]]) (Qq.cons (Qq.cons (Qq.cons (Qq.cons (Qq.cons (Qq.cons Qq.nil rfl rfl) rfl rfl) rfl rfl) rfl rfl) rfl rfl) rfl rfl) (Qh _ _) rfl trivial (by simp[maxLen])
 clear hb6 Hb5 Hbx5 Hr5 Hs5;go_wp2_with fail
 refine(Qaq _ _ [0,0,7,0,6,0] [0,0,7,0,6,0] _ _ (UR.below Hs6.o HA6.o) HS6.o).mono ?_;rw[decide_eq_true rfl];rintro e w7⟨rfl,hb7⟩;have HBf:=Zh (Ql (Ql Hb6.o HA6.o) hb7);have hq:=Qb (Qd (Qd Hbx6.o HA6.o) hb7);clear hb7;go_wp2;go_ret;exact⟨rfl,HBf.o⟩
end
section
open Go.RowKit
attribute [local go_sem] gives QG
theorem Qfg(x:TCall)(w:World):Calls prog 23 #[Yk x] w λe w'=>e=.returned (.int .i64 (JZ x))/\Below w.heap.size w w':=by
 go_enter func23,ntmps23;go_wp2_with fail
 go_loopw[4](λi wr=>∃k:Nat,k<=5/\i=.int .i64 k/\Hid (QiZ x k)/\Below (w.heap.size+1) (w.alloc (.cells #[.int .i64 x.a0,.int .i64 x.a1,.int .i64 x.a2,.int .i64 x.a3,.int .i64 x.a4] 46)) wr) (λi _=>5-(intOf i).toNat)
 case atStart=>exact⟨0,by omega,rfl,λj hj=>absurd hj (by omega),Below.refl _ _⟩
 case round=>
  obtain⟨k,hk,rfl,hok,hb⟩:=hrel;have hbel:Below w.heap.size w wr:=(Qa Zbr _).trans (hb.mono (by omega));have Hb:=Zh hbel;have hsz:w.heap.size+1<=wr.heap.size:=by have:=hb.size;simp at this;omega
  clear hbel;by_cases hlt:k<5
  .have hc:∀W,Cls (w.heap.size+1) wr W->W.cell? ⟨w.heap.size,k,none⟩=some (.int .i64 (x.get k)):=λW hW=>by
    rw[hW.2.cell (p:=⟨w.heap.size,k,none⟩) (by simp),hb.cell (p:=⟨w.heap.size,k,none⟩) (by simp),World.cell?_alloc_at _ _ _ _ rfl];exact cell5 x k hlt
   have Hc:=Zh hc;clear hc;go_wp2_with fail
   refine VG (w.heap.size+1) hsz (by kernel_rfl) (by kernel_rfl) ?_
   repeat(refine QL (λK hK=>?_);apply Exists.intro;refine⟨λW hC R hR=>?_,?_⟩;(first
    |(have:=Hc.o W hC;go_simp;exact hR _ _ Zbr rfl)
    |(go_simp;go_at_call 62;refine(JA _ _).mono ?_;rintro e w1 ⟨rfl,hb1⟩;exact⟨_,rfl,hR _ _ hb1 rfl⟩)
    |(go_simp;go_at_call 56;refine(Vx _ _ _ _).mono ?_;rintro e w1 ⟨rfl,rfl⟩;exact⟨_,rfl,hR _ _ Zbr rfl⟩));(go_simp;refine hK _ ?_;clear hK K))
   intro w2 hC2;have fin:∀hr:¬(0<=x.get k/\x.get k<=QY k),Ending.returned (.int .i64 3)=.returned (.int .i64 (JZ x))/\Below w.heap.size w w2:=λhr=>⟨Q3 (Qbv hlt hr).symm,Hb.o.trans (hC2.2.mono (by omega))⟩;by_cases hr:0<=x.get k/\x.get k<=QY k
   .have hnx:QiZ x (k+1):=λj hj=>by
     by_cases e:j=k
     .subst e;exact hr
     exact hok.o j (by omega)
    have Hnx:=Zh hnx;have d:=XW hr.1 hr.2;clear hnx fin hr;simp only[d,Bool.not_true];go_wp2
    go_roundw
    case rel=>exact⟨k+1,by omega,by go_num,Hnx,hb.trans hC2.2⟩
    case measure=>simp[intOf];omega
   have Hf:=Zh (fin hr);have d:=Zi hr;clear fin hr;simp only[d,Bool.not_false];go_wp2;go_ret;exact Hf.o
  obtain rfl:k=5:=by omega
  go_wp2;go_ret;exact⟨Q3 (Qei hok.o).symm,Hb.o⟩
end
section
open Go.RowKit Go.ChangeShapes Go.WideShapes Go.Deep
theorem JQ{α:Type}{Q:Nat->α->Prop}:∀(n:Nat),(∀i,i<n->∃a,Q i a)->∃xs:List α,xs.length=n/\∀i x,xs[i]?=some x->Q i x
 |0,_=>⟨[],rfl,λi x h=>by simp at h⟩
 |n+1,h=>by
  obtain⟨xs,hl,hx⟩:=JQ n (λi hi=>h i (by omega));obtain⟨a,ha⟩:=h n (by omega);refine⟨xs++[a],by simp[hl],λi x hi=>?_⟩;rw[List.getElem?_append]at hi;split at hi
  .exact hx i x hi
  rename_i hge
  have:i-xs.length=0:=by
   have:=(List.getElem?_eq_some_iff.1 hi).1;simp at this;exact this
  rw[this]at hi;simp at hi;have:i=n:=by omega
  subst this;subst hi;exact ha
theorem Qg4{b o i j:Nat}:((⟨b,o,none⟩:Addr).add i).add j=⟨b,o+(i+j),none⟩:=by
 unfold Addr.add;by_cases hi:i=0<;>by_cases hj:j=0<;>simp[hi,hj,Nat.add_assoc]
section
variable{H:Type}{enc:TypeId×Value->H}{P:Program}{w:World}{base:Nat}{spare:Nat->Bool}{held:Bool}
theorem X4{α:Type}{t e:TypeId}{sz fuel:Nat}{R:α->List Value->Prop}{cs:List Value}{x:DataW H×List MemPlace}(ht:P.underlying t=some (.slice e))(hC:P.cellsOf e=sz)(hsz:0<sz)
  (hR:∀n cs x,cs.length=sz->DataW.trod enc P w base spare held n e cs=some x->∃a:α,R a cs) (h:DataW.trod enc P w base spare held fuel t cs=some x):
  ∃(v:Value)(xs:List α),cs=[v]/\Sl w (λ_=>True) sz R v xs:=by
 rcases open_slice ht h with⟨h0,_⟩|⟨a,len,cap,m,n,D,Pl,hcs,hb,hl,hm,hmm,_,hi⟩
 .exact⟨_,[],h0,none,0,rfl,by simp,by unfold maxLen;omega,λ_=>rfl,λh=>absurd h (by simp)⟩
 have hlm:len<=m:=by rw[hmm];split<;>omega
 have hel:∀i,i<len->∃a':α,∃cs':List Value,cs'.length=sz/\R a' cs'/\∀j,j<sz->w.cell? ((a.add (i*sz)).add j)=cs'[j]?:=λi hlt=>by
  obtain⟨cs',hc,ht'⟩:=hi i (by omega);rw[hC]at hc;obtain⟨_,hlen,hcell⟩:=World.cells?_some hc;obtain⟨a',ha'⟩:=hR _ _ _ hlen ht';exact⟨a',cs',hlen,ha',hcell⟩
 obtain⟨xs,hxl,hx⟩:=JQ len hel;refine⟨_,xs,hcs,some a,cap,by rw[hxl],by omega,hm,(λh=>by cases h),λh0=>?_⟩;have h00:xs[0]?=some xs[0]:=List.getElem?_eq_getElem h0;obtain⟨cs0,hl0,_,hc0⟩:=hx 0 _ h00;have hc00:=hc0 0 hsz;rw[List.getElem?_eq_getElem (by omega)]at hc00;have hspot:=World.cell?_spot hc00;simp[Addr.add]at hspot;obtain⟨b,o,s⟩:=a;dsimp only at hspot;subst hspot;refine⟨b,o,rfl,trivial,?_,λi y hy=>?_⟩
 .have:=World.block_lt_of_cell? _ _ hc00;simpa[Addr.add]using this
 obtain⟨cs',hl',hr',hc'⟩:=hx i y hy;refine⟨cs',hl',hr',λj u hu=>?_⟩;have hj:j<sz:=by rw[<-hl'];exact(List.getElem?_eq_some_iff.1 hu).1
 rw[<-hu,<-hc' j hj,Qg4]
theorem QfA{t e:TypeId}{fuel:Nat}{cs:List Value}{x:DataW H×List MemPlace}(ht:P.underlying t=some (.array 5 e))(he:P.underlying e=some (.int .i64))(hC:P.cellsOf t=5)(hCe:P.cellsOf e=1)
  (h:DataW.trod enc P w base spare held fuel t cs=some x):∃y:TCall,cs=[.int .i64 y.a0,.int .i64 y.a1,.int .i64 y.a2,.int .i64 y.a3,.int .i64 y.a4]:=by
 obtain⟨xs,m,_,_,hlen,hxl,hf⟩:=DataW.trod_array ht h;rw[hC]at hlen
 match cs,hlen with
 |[c0,c1,c2,c3,c4],_=>
  match xs,hxl with
  |[x0,x1,x2,x3,x4],_=>
   have g:=λi (hi:i<5)=>by have:=hf i hi;rw[hCe]at this;exact this
   obtain⟨n0,e0,_⟩:=DataW.trod_int he (g 0 (by omega));obtain⟨n1,e1,_⟩:=DataW.trod_int he (g 1 (by omega));obtain⟨n2,e2,_⟩:=DataW.trod_int he (g 2 (by omega));obtain⟨n3,e3,_⟩:=DataW.trod_int he (g 3 (by omega));obtain⟨n4,e4,_⟩:=DataW.trod_int he (g 4 (by omega));simp at e0 e1 e2 e3 e4;exact⟨⟨n0,n1,n2,n3,n4⟩,by simp[e0,e1,e2,e3,e4]⟩
theorem Qgo{r:Reach}{b0:Nat}{t e:TypeId}{v:Value}{d:DataW H}{ps:List MemPlace}(ht:P.underlying t=some (.array 5 e))(he:P.underlying e=some (.int .i64))(hC:P.cellsOf t=5)(hCe:P.cellsOf e=1)
  (hv:Value.okWide P w r b0 t v) (h:DataW.Trod enc P w base spare held t v d ps):∃y:TCall,v=Yk y:=by
 simp only[Value.okWide,ht]at hv;obtain⟨cs,rfl,_,_⟩:=hv;obtain⟨fuel,hf⟩:=h;obtain⟨y,hy⟩:=QfA ht he hC hCe hf;obtain⟨l⟩:=cs;exact⟨y,by simp only[Value.cells]at hy;subst hy;rfl⟩
end
end
section
open Go.RowKit Go.ChangeShapes Go.WideShapes Go.Deep
set_option maxRecDepth 100000
theorem Qhg{fs:Array Field}{l:Array (TypeId×Nat)}(hfs:fs.map (λf=>(f.type,f.offset))=l){i:Nat}{ty:TypeId}{off:Nat}(h:l[i]?=some (ty,off)):∃f,fs[i]?=some f/\f.type=ty/\f.offset=off:=by
 subst hfs;rw[Array.getElem?_map]at h
 cases hf:fs[i]? with
 |none=>rw[hf]at h;cases h
 |some f=>rw[hf]at h;simp only[Option.map_some,Option.some.injEq,Prod.mk.injEq]at h;exact⟨f,rfl,h.1,h.2⟩
section
variable{H:Type}{enc:TypeId×Value->H}{w:World}{base:Nat}{spare:Nat->Bool}{held:Bool}
theorem Vs{P:Program}{e:TypeId}{fs:Array Field}{l:Array (TypeId×Nat)}{fuel:Nat}{cs:List Value}{x:DataW H×List MemPlace}(he:P.underlying e=some (.struct fs))(hfs:fs.map (λf=>(f.type,f.offset))=l)
  (h:DataW.trod enc P w base spare held fuel e cs=some x) {i:Nat} {ty:TypeId} {off:Nat} (hi:l[i]?=some (ty,off)):∃n y,DataW.trod enc P w base spare held n ty ((cs.drop off).take (P.cellsOf ty))=some y:=by
 obtain⟨f,hf,rfl,rfl⟩:=Qhg hfs hi;obtain⟨xs,m,_,_,_,hxl,hg⟩:=DataW.trod_struct he h;have hlt:i<xs.length:=by rw[hxl];exact(Array.getElem?_eq_some_iff.1 hf).1
 have:=hg i f hf;rw[List.getElem?_eq_getElem hlt]at this;exact⟨_,_,this⟩
theorem UB{P:Program}{e ei:TypeId}{fs:Array Field}{l:Array (TypeId×Nat)}{fuel:Nat}{cs:List Value}{x:DataW H×List MemPlace}(he:P.underlying e=some (.struct fs))(hfs:fs.map (λf=>(f.type,f.offset))=l)
  (h:DataW.trod enc P w base spare held fuel e cs=some x) {i:Nat} {off:Nat} (hi:l[i]?=some (ei,off)) (hu:P.underlying ei=some (.int .i64)) (hc:P.cellsOf ei=1):∃n,(cs.drop off).take 1=[.int .i64 n]:=by
 obtain⟨n,y,hy⟩:=Vs he hfs h hi;rw[hc]at hy;obtain⟨z,e,_⟩:=DataW.trod_int hu hy;exact⟨z,e⟩
theorem QgV{fuel:Nat}{cs:List Value}{x:DataW H×List MemPlace}(hl:cs.length=3)(h:DataW.trod enc prog w base spare held fuel 153 cs=some x):∃a:TCond,Ve a cs:=by
 have hfs:(prog.underlying 153).map (λd=>match d with|.struct fs=>fs.map (λf=>(f.type,f.offset))|_=>#[])=some #[(3,0),(3,1),(3,2)]:=by kernel_rfl
 obtain⟨fs,he⟩:∃fs,prog.underlying 153=some (.struct fs):=⟨_,underlying153⟩;rw[he]at hfs;simp only[Option.map_some,Option.some.injEq]at hfs;have hc:prog.cellsOf 3=1:=by kernel_rfl
 obtain⟨n0,e0⟩:=UB (i:=0) he hfs h rfl underlying3 hc;obtain⟨n1,e1⟩:=UB (i:=1) he hfs h rfl underlying3 hc;obtain⟨n2,e2⟩:=UB (i:=2) he hfs h rfl underlying3 hc
 match cs,hl with
 |[c0,c1,c2],_=>
  simp at e0 e1 e2;exact⟨⟨n0,n1,n2⟩,by simp[Ve,e0,e1,e2]⟩
theorem QgW{fuel:Nat}{cs:List Value}{x:DataW H×List MemPlace}(hl:cs.length=2)(h:DataW.trod enc prog w base spare held fuel 147 cs=some x):∃a:TRule,VP w (λ_=>True) a cs:=by
 have hfs:(prog.underlying 147).map (λd=>match d with|.struct fs=>fs.map (λf=>(f.type,f.offset))|_=>#[])=some #[(145,0),(3,1)]:=by kernel_rfl
 obtain⟨fs,he⟩:∃fs,prog.underlying 147=some (.struct fs):=⟨_,underlying147⟩;rw[he]at hfs;simp only[Option.map_some,Option.some.injEq]at hfs;obtain⟨n1,e1⟩:=UB (i:=1) he hfs h rfl underlying3 (by kernel_rfl);obtain⟨n,y,hy⟩:=Vs (i:=0) he hfs h rfl;have hc:prog.cellsOf 145=1:=by kernel_rfl
 rw[hc]at hy;obtain⟨v,xs,hcs,hsl⟩:=X4 (sz:=3) underlying145 (by kernel_rfl) (by omega) (λ_ _ _ hl hx=>QgV hl hx) hy
 match cs,hl with
 |[c0,c1],_=>
  simp at e1 hcs;exact⟨⟨xs,n1⟩,v,by rw[hcs,e1],hsl⟩
theorem Qey{fuel:Nat}{cs:List Value}{x:DataW H×List MemPlace}(hl:cs.length=2)(h:DataW.trod enc prog w base spare held fuel 38 cs=some x):∃a:TPol,Qi5 w (λ_=>True) a cs:=by
 have hfs:(prog.underlying 38).map (λd=>match d with|.struct fs=>fs.map (λf=>(f.type,f.offset))|_=>#[])=some #[(36,0),(3,1)]:=by kernel_rfl
 obtain⟨fs,he⟩:∃fs,prog.underlying 38=some (.struct fs):=⟨_,underlying38⟩;rw[he]at hfs;simp only[Option.map_some,Option.some.injEq]at hfs;obtain⟨n1,e1⟩:=UB (i:=1) he hfs h rfl underlying3 (by kernel_rfl);obtain⟨n,y,hy⟩:=Vs (i:=0) he hfs h rfl;have hc:prog.cellsOf 36=1:=by kernel_rfl
 rw[hc]at hy;obtain⟨v,xs,hcs,hsl⟩:=X4 (sz:=2) underlying36 (by kernel_rfl) (by omega) (λ_ _ _ hl hx=>QgW hl hx) hy
 match cs,hl with
 |[c0,c1],_=>
  simp at e1 hcs;exact⟨⟨xs,n1⟩,v,by rw[hcs,e1],hsl⟩
end
end
section
open Go.RowKit Go.ChangeShapes Go.WideShapes Go.Deep
set_option maxRecDepth 100000
section
variable{H:Type}{enc:TypeId×Value->H}{w:World}{base:Nat}{spare:Nat->Bool}{held:Bool}
end
end
section
open Go.RowKit Go.ChangeShapes Go.WideShapes Go.Deep
set_option maxRecDepth 100000
section
variable{H:Type}{enc:TypeId×Value->H}{w:World}{base:Nat}{spare:Nat->Bool}{held:Bool}
theorem QhN{fuel:Nat}{cs:List Value}{x:DataW H×List MemPlace}(hl:cs.length=4)(h:DataW.trod enc prog w base spare held fuel 141 cs=some x):∃a:TIns,Gt a cs:=by
 have hfs:(prog.underlying 141).map (λd=>match d with|.struct fs=>fs.map (λf=>(f.type,f.offset))|_=>#[])=some #[(3,0),(3,1),(3,2),(3,3)]:=by kernel_rfl
 obtain⟨fs,he⟩:∃fs,prog.underlying 141=some (.struct fs):=⟨_,underlying141⟩;rw[he]at hfs;simp only[Option.map_some,Option.some.injEq]at hfs;have hc:prog.cellsOf 3=1:=by kernel_rfl
 obtain⟨n0,e0⟩:=UB (i:=0) he hfs h rfl underlying3 hc;obtain⟨n1,e1⟩:=UB (i:=1) he hfs h rfl underlying3 hc;obtain⟨n2,e2⟩:=UB (i:=2) he hfs h rfl underlying3 hc;obtain⟨n3,e3⟩:=UB (i:=3) he hfs h rfl underlying3 hc
 match cs,hl with
 |[c0,c1,c2,c3],_=>
  simp at e0 e1 e2 e3;exact⟨⟨n0,n1,n2,n3⟩,by simp[Gt,e0,e1,e2,e3]⟩
theorem QdT{fuel:Nat}{cs:List Value}{x:DataW H×List MemPlace}(_hl:cs.length=1)(h:DataW.trod enc prog w base spare held fuel 98 cs=some x):∃f,XQ w (λ_=>True) f cs:=by
 obtain⟨v,xs,hcs,hsl⟩:=X4 (sz:=4) underlying98 (by kernel_rfl) (by omega) (λ_ _ _ hl hx=>QhN hl hx) h;exact⟨xs,v,hcs,hsl⟩
end
end
section
open Go.RowKit Go.ChangeShapes Go.WideShapes Go.Deep
set_option maxRecDepth 100000
section
variable{H:Type}{enc:TypeId×Value->H}{w:World}{base:Nat}{spare:Nat->Bool}{held:Bool}
theorem QgU{fuel:Nat}{cs:List Value}{x:DataW H×List MemPlace}(hl:cs.length=4)(h:DataW.trod enc prog w base spare held fuel 52 cs=some x):∃a:TCell,XD w (λ_=>True) a cs:=by
 have hfs:(prog.underlying 52).map (λd=>match d with|.struct fs=>fs.map (λf=>(f.type,f.offset))|_=>#[])=some #[(4,0),(50,1),(38,2)]:=by kernel_rfl
 obtain⟨fs,he⟩:∃fs,prog.underlying 52=some (.struct fs):=⟨_,underlying52⟩;rw[he]at hfs;simp only[Option.map_some,Option.some.injEq]at hfs;have hc:prog.cellsOf 4=1:=by kernel_rfl
 obtain⟨n0,y0,h0⟩:=Vs (i:=0) he hfs h rfl;rw[hc]at h0;obtain⟨ob,e0,_⟩:=DataW.trod_bool underlying4 h0;obtain⟨n1,y1,h1⟩:=Vs (i:=1) he hfs h rfl;have hc1:prog.cellsOf 50=1:=by kernel_rfl
 rw[hc1]at h1;obtain⟨v1,ch,e1,hsl⟩:=X4 (sz:=1) underlying50 (by kernel_rfl) (by omega) (λ_ _ _ hl hx=>QdT hl hx) h1;obtain⟨n2,y2,h2⟩:=Vs (i:=2) he hfs h rfl;have hc2:prog.cellsOf 38=2:=by kernel_rfl
 rw[hc2]at h2
 match cs,hl with
 |[c0,c1,c2,c3],_=>
  obtain⟨p,v,hcs,hr⟩:=Qey (by simp) h2;simp at e0 e1 hcs;exact⟨⟨ob,ch,p⟩,v1,v,by simp[e0,e1,hcs],hsl,hr⟩
end
end
section
open Go.RowKit Go.ChangeShapes Go.WideShapes Go.Deep
set_option maxRecDepth 100000
section
variable{H:Type}{enc:TypeId×Value->H}{w:World}{base:Nat}{spare:Nat->Bool}{held:Bool}
theorem QgT{fuel:Nat}{cs:List Value}{x:DataW H×List MemPlace}(h:DataW.trod enc prog w base spare held fuel 5 cs=some x):∃a:UInt8,XH a cs:=by
 obtain⟨n,rfl,_,hw⟩:=DataW.trod_int underlying5 h
 have hr:0<=n/\n<256:=by
  simp[Lit.wf]at hw;have h1:IntKind.u8.min=0:=by decide
  have h2:IntKind.u8.max=255:=by decide
  omega
 refine⟨UInt8.ofNat n.toNat,?_⟩
 have e:(UInt8.ofNat n.toNat).toNat=n.toNat:=by
  rw[UInt8.toNat_ofNat'];omega
 unfold XH;rw[e,Int.toNat_of_nonneg hr.1]
theorem Qa9{fuel:Nat}{cs:List Value}{x:DataW H×List MemPlace}(h:DataW.trod enc prog w base spare held fuel 23 cs=some x):∃(v:Value)(l:List UInt8),cs=[v]/\Qu w (λ_=>True) v l:=
 X4 (sz:=1) underlying23 (by kernel_rfl) (by omega) (λ_ _ _ _ hx=>QgT hx) h
theorem QcX{fuel:Nat}{cs:List Value}{x:DataW H×List MemPlace}(hl:cs.length=2)(h:DataW.trod enc prog w base spare held fuel 25 cs=some x):∃(d:TDisk)(u v:Value),cs=[u,v]/\QB w (λ_=>True) u v d:=by
 have hfs:(prog.underlying 25).map (λd=>match d with|.struct fs=>fs.map (λf=>(f.type,f.offset))|_=>#[])=some #[(23,0),(23,1)]:=by kernel_rfl
 obtain⟨fs,he⟩:∃fs,prog.underlying 25=some (.struct fs):=⟨_,underlying25⟩;rw[he]at hfs;simp only[Option.map_some,Option.some.injEq]at hfs;have hc:prog.cellsOf 23=1:=by kernel_rfl
 obtain⟨n0,y0,h0⟩:=Vs (i:=0) he hfs h rfl;obtain⟨n1,y1,h1⟩:=Vs (i:=1) he hfs h rfl;rw[hc]at h0 h1;obtain⟨u,l,e0,hu⟩:=Qa9 h0;obtain⟨v,m,e1,hv⟩:=Qa9 h1
 match cs,hl with
 |[c0,c1],_=>
  simp at e0 e1;exact⟨⟨l,m⟩,u,v,by simp[e0,e1],hu,hv⟩
theorem QiW{r:Reach}{b0:Nat}{v:Value}{d:DataW H}{ps:List MemPlace}
  (hv:Value.okWide prog w r b0 25 v) (h:DataW.Trod enc prog w base spare held 25 v d ps):∃t:TDisk,∃u1 u2,v=VH u1 u2/\QB w (λ_=>True) u1 u2 t:=by
 simp only[Value.okWide,underlying25]at hv;obtain⟨cs,rfl,_⟩:=hv;obtain⟨fuel,hf⟩:=h;obtain⟨xs,m,_,_,hlen,_,_⟩:=DataW.trod_struct underlying25 hf;have hc:prog.cellsOf 25=2:=by kernel_rfl
 rw[hc]at hlen;obtain⟨t,u1,u2,hcs,hr⟩:=QcX hlen hf;obtain⟨l⟩:=cs;simp only[Value.cells]at hcs;subst hcs;exact⟨t,u1,u2,rfl,hr⟩
theorem OH{r:Reach}{b0:Nat}{v:Value}{d:DataW H}{ps:List MemPlace}
  (hv:Value.okWide prog w r b0 27 v) (h:DataW.Trod enc prog w base spare held 27 v d ps):∃t:TWorld,∃c u1 u2,v=Ux c u1 u2 t.up/\Qi w (λ_=>True) c u1 u2 t:=by
 simp only[Value.okWide,underlying27]at hv;obtain⟨cs,rfl,_⟩:=hv;obtain⟨fuel,hf⟩:=h;obtain⟨xs,m,_,_,hlen,_,_⟩:=DataW.trod_struct underlying27 hf;have hc:prog.cellsOf 27=4:=by kernel_rfl
 rw[hc]at hlen;have hfs:(prog.underlying 27).map (λd=>match d with|.struct fs=>fs.map (λf=>(f.type,f.offset))|_=>#[])=some #[(22,0),(25,1),(4,3)]:=by kernel_rfl
 obtain⟨fs,he⟩:∃fs,prog.underlying 27=some (.struct fs):=⟨_,underlying27⟩;rw[he]at hfs;simp only[Option.map_some,Option.some.injEq]at hfs;obtain⟨n0,y0,h0⟩:=Vs (i:=0) he hfs hf rfl;have hc0:prog.cellsOf 22=1:=by kernel_rfl
 rw[hc0]at h0;obtain⟨v0,l0,e0,hl0⟩:=X4 (sz:=4) underlying22 (by kernel_rfl) (by omega) (λ_ _ _ hl hx=>QgU hl hx) h0;obtain⟨n1,y1,h1⟩:=Vs (i:=1) he hfs hf rfl;have hc1:prog.cellsOf 25=2:=by kernel_rfl
 rw[hc1]at h1;obtain⟨n3,y3,h3⟩:=Vs (i:=2) he hfs hf rfl;have hc3:prog.cellsOf 4=1:=by kernel_rfl
 rw[hc3]at h3;obtain⟨ub,e3,_⟩:=DataW.trod_bool underlying4 h3;obtain⟨l⟩:=cs;simp only[Value.cells]at hlen e0 h1 e3
 match l,hlen with
 |[c0,c1,c2,c3],_=>
  obtain⟨t,u1,u2,hcs,hr⟩:=QcX (by simp) h1;simp at e0 e3 hcs;obtain⟨rfl,rfl⟩:=hcs;subst e0 e3;exact⟨⟨l0,t,ub⟩,_,_,_,rfl,hl0,hr⟩
theorem Qex{fuel:Nat}{cs:List Value}{x:DataW H×List MemPlace}(hl:cs.length=5)(h:DataW.trod enc prog w base spare held fuel 40 cs=some x):∃a:THap,Qi4 w (λ_=>True) a cs:=by
 have hfs:(prog.underlying 40).map (λd=>match d with|.struct fs=>fs.map (λf=>(f.type,f.offset))|_=>#[])=some #[(3,0),(3,1),(3,2),(38,3)]:=by kernel_rfl
 obtain⟨fs,he⟩:∃fs,prog.underlying 40=some (.struct fs):=⟨_,underlying40⟩;rw[he]at hfs;simp only[Option.map_some,Option.some.injEq]at hfs;have hc:prog.cellsOf 3=1:=by kernel_rfl
 obtain⟨n0,e0⟩:=UB (i:=0) he hfs h rfl underlying3 hc;obtain⟨n1,e1⟩:=UB (i:=1) he hfs h rfl underlying3 hc;obtain⟨n2,e2⟩:=UB (i:=2) he hfs h rfl underlying3 hc;obtain⟨n,y,hy⟩:=Vs (i:=3) he hfs h rfl;have hc2:prog.cellsOf 38=2:=by kernel_rfl
 rw[hc2]at hy
 match cs,hl with
 |[c0,c1,c2,c3,c4],_=>
  obtain⟨p,v,hcs,hr⟩:=Qey (by simp) hy;simp at e0 e1 e2 hcs;exact⟨⟨n0,n1,n2,p⟩,v,by simp[e0,e1,e2,hcs],hr⟩
theorem Qht{r:Reach}{b0:Nat}{v:Value}{d:DataW H}{ps:List MemPlace}
  (hv:Value.okWide prog w r b0 40 v) (h:DataW.Trod enc prog w base spare held 40 v d ps):∃t:THap,∃u,v=QiM t u/\Qc w (λ_=>True) u t.p.ru:=by
 simp only[Value.okWide,underlying40]at hv;obtain⟨cs,rfl,_⟩:=hv;obtain⟨fuel,hf⟩:=h;obtain⟨xs,m,_,_,hlen,_,_⟩:=DataW.trod_struct underlying40 hf;have hc:prog.cellsOf 40=5:=by kernel_rfl
 rw[hc]at hlen;obtain⟨t,u,hcs,hr⟩:=Qex hlen hf;obtain⟨l⟩:=cs;simp only[Value.cells]at hcs;subst hcs;exact⟨t,u,rfl,hr⟩
theorem Qgp{r:Reach}{b0:Nat}{v:Value}{d:DataW H}{ps:List MemPlace}
  (hv:Value.okWide prog w r b0 28 v) (h:DataW.Trod enc prog w base spare held 28 v d ps):∃l,XF w (λ_=>True) v l:=by
 obtain⟨a,len,cap,rfl⟩:=okWide_slice underlying28 hv;obtain⟨fuel,hf⟩:=h;obtain⟨v',xs,hcs,hsl⟩:=X4 (sz:=5) underlying28 (by kernel_rfl) (by omega) (λ_ _ _ hl hx=>Qex hl hx) hf;simp[Value.cells]at hcs;rw[hcs];exact⟨xs,hsl⟩
end
end
section
open Go.ChangeShapes Go.WideShapes Go.ChangeAt Go.RowKit
variable{H:Type}{enc:TypeId×Value->H}
theorem Qec{a:Assume}{C:Checked}{os:Os}{f:FuncId}{fn:Func}{s:ChangeSpec}{cd:List PathCond}{apart fresh handsOn again:Bool}{X:World->Array Value->Prop}
  (hX:∀(w w':World)(args:Array Value),w.heap=w'.heap->X w args->X w' args)
  (own:ownKnob C.prog.godebug=none) (started:os.Started) (noInit:C.prog.inits.idxOf? f=none) (hfn:C.prog.funcs[f]?=some fn)
  (witness:∃(w:World)(tape:Tape)(i:Input),w.os=os/\(w.forCall tape i).Shaped C.prog/\i.vars=[]/\Input.okWide C.prog (w.forCall tape i) .any w.heap.size f i /\
   ((s.pre enc C.prog fn cd apart (w.forCall tape i).memory i.args/\X (w.forCall tape i).memory i.args)/\sizedMet enc C.prog fn (OpenSpec.ofChange s) apart (w.forCall tape i).memory i.args)/\a.holds C.prog (lone (Frame.enter C.prog f i.args .normal) [] (w.forCall tape i)))
  (contract:∀(W:World)(base:Nat)(args:Array Value)(ds gs:List (DataW H))(before:List MemPlace),
   (∀(j:Nat) t v,fn.params[j]?=some t->args[j]?=some v->Value.okWide C.prog W .any base t v) ->
   DataW.Whole enc C.prog fn.params.toList s.vars apart W args.toList ds gs before ->
   (DataW.weightsEach C.prog (fn.params.toList++s.plain.varTypes C.prog) (ds++gs)).all (·<=reachBytes)=true->X W args->W.ShapedOpen C.prog ->
   Calls C.prog f args W λe W'=>∃v,e=.returned v/\s.post enc C.prog fn apart fresh handsOn again W args v W'):
  ReturnsInHanded a C os f .any (λw args=>(s.pre enc C.prog fn cd apart w args/\X w args)/\sizedMet enc C.prog fn (OpenSpec.ofChange s) apart w args) (s.post enc C.prog fn apart fresh handsOn again):=by
 refine returnsInHanded_of_calls own started noInit witness ?_;intro w tape i _ hsh _ hok hpre _;obtain⟨_,_,_,fn',hfn',_,_,_,_,hval⟩:=hok;have e:fn'=fn:=Option.some.inj (hfn'.symm.trans hfn);subst e;obtain⟨⟨⟨ds,gs,before,hw,_⟩,hx⟩,hz⟩:=hpre;have hw':=DataW.Whole.of_heap (w':=w.forCall tape i) (by rfl) hw;refine(contract (w.forCall tape i) w.heap.size i.args ds gs before hval hw' (hz.weights hw) (hX _ _ _ (by rfl) hx) hsh).mono λe W' ⟨v,he,hp⟩=>?_;subst he;exact ChangeSpec.post_blind hp
theorem JU{P:Program}{W:World}{name:String}{k:IntKind}{zs:List Int}{g:Nat}{t e:TypeId}{n:Nat}
  (hg:P.globalNamed name=some g) (hty:(P.globals[g]?).map (·.type)=some t) (ht:P.underlying t=some (.array n e)) (he:P.underlying e=some (.int k)) (hce:P.cellsOf e=1) (hct:P.cellsOf t=n)
  (h:Lib.VarReads P W name (Lib.tabData k zs)):Lib.TabIs P W name k zs:=by
 obtain⟨g',t',cs,fuel,p,hg',ht',hvar,hd⟩:=h;obtain rfl:=Option.some.inj (hg.symm.trans hg');obtain rfl:=Option.some.inj (hty.symm.trans ht');unfold Lib.TabIs;rw[hvar,<-Lib.cells_of_tab ht he hce hct hd]
theorem JP{P:Program}{W:World}{name nm:String}{d:DataW Unit}{g:Nat}{t:TypeId}{ms:Array (String×TypeId)}
  (hg:P.globalNamed name=some g) (hty:(P.globals[g]?).map (·.type)=some t) (ht:P.underlying t=some (.interface ms))
  (h:Lib.VarReads P W name (.iface nm d)):∃te pe,W.cell? ⟨g,0,none⟩=some (.iface te pe):=by
 obtain⟨g',t',cs,fuel,p,hg',ht',hvar,hd⟩:=h;obtain rfl:=Option.some.inj (hg.symm.trans hg');obtain rfl:=Option.some.inj (hty.symm.trans ht')
 cases fuel with
 |zero=>simp[DataW.trod]at hd
 |succ fuel=>
  have:∃u v,cs.toList=[.iface u v]:=by
   cases hcs:cs.toList with
   |nil=>rw[hcs]at hd;simp[DataW.trod,ht]at hd
   |cons c r=>
    rw[hcs]at hd
    cases r with
    |cons _ _=>simp[DataW.trod,ht]at hd
    |nil=>cases c<;>first|exact⟨_,_,rfl⟩|simp[DataW.trod,ht]at hd
  obtain⟨u,v,hcs⟩:=this;refine⟨u,v,?_⟩;rw[World.var?_cell hg hvar 0,Array.eq_one_of_toList hcs];rfl
theorem Qii{l:List (String×DataW Unit)}(hl:(l.all λx=>x.2.handleName?.isNone)=true)(h1:("internal/strconv.uint64pow10",Rows.laid_internal_strconv_uint64pow10)∈l)
  (h2:("strconv.ErrRange",Rows.laid_strconv_ErrRange)∈l) (h3:("strconv.ErrSyntax",Rows.laid_strconv_ErrSyntax)∈l)
  {W:World} (hL:laidMetH prog l W) (hsh:W.ShapedOpen prog):Laid W:=by
 rw[MakeChecks.laidMetH_plain _ _ _ hl]at hL
 exact {
  ml:=cell_of_shapedOpen_int (zero:=#[.int .i64 0]) hsh (by decide +kernel) (by kernel_rfl) (by kernel_rfl) (by kernel_rfl) (by kernel_rfl) underlying3
  pow:=JU (g:=3) (t:=242) (n:=20) (by kernel_rfl) (by kernel_rfl) underlying242 underlying200 (by kernel_rfl) (by kernel_rfl) (Lib.laidMet.reads hL h1)
  syn:=JP (g:=4) (t:=149) (by kernel_rfl) (by kernel_rfl) underlying149 (Lib.laidMet.reads hL h3)
  rng:=JP (g:=5) (t:=149) (by kernel_rfl) (by kernel_rfl) underlying149 (Lib.laidMet.reads hL h2) }
end
section
open Go.ChangeShapes Go.WideShapes Go.ChangeAt Go.RowKit
theorem Qeb{l:List (String×DataW Unit)}(hl:(l.all λx=>x.2.handleName?.isNone)=true)(h1:("internal/strconv.uint64pow10",Rows.laid_internal_strconv_uint64pow10)∈l)
  (h2:("strconv.ErrRange",Rows.laid_strconv_ErrRange)∈l) (h3:("strconv.ErrSyntax",Rows.laid_strconv_ErrSyntax)∈l) (h4:("strings.asciiSpace",Rows.laid_strings_asciiSpace)∈l)
  {W:World} (hL:laidMetH prog l W) (hsh:W.ShapedOpen prog):Ov W:=by
 refine⟨Qii hl h1 h2 h3 hL hsh,?_⟩;rw[MakeChecks.laidMetH_plain _ _ _ hl]at hL;have e:(Rows.laid_strings_asciiSpace:DataW Unit)=Lib.tabData .u8 Lib.asciiSpaceTab:=by kernel_rfl
 rw[e]at h4;exact JU (g:=0) (t:=187) (n:=256) (by kernel_rfl) (by kernel_rfl) underlying187 underlying5 (by kernel_rfl) (by kernel_rfl) (Lib.laidMet.reads hL h4)
end
end Go.Proofs.YthkgjohhbdipcaaGreatDoor
