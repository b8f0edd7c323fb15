/- Texts laid one behind the other: RRecRead, SplitAfter. No condition beyond theirs. -/
import Derived.Test.YthkgjohhbdipcaaGreatDoorQ4
import Derived.Test.YthkgjohhbdipcaaGreatDoorQ5
import Derived.Test.YthkgjohhbdipcaaGreatDoorQ10
import Derived.Test.YthkgjohhbdipcaaGreatDoorQ15
import Derived.Test.YthkgjohhbdipcaaGreatDoorQ11
set_option linter.all false
set_option maxHeartbeats 64000000
set_option maxRecDepth 100000
namespace Go.Proofs.YthkgjohhbdipcaaGreatDoor
open Tryz
section
open Go.RowKit
attribute [-go_sem] run_slice_l
@[reducible] def kmap:Array MapEntry:=#[⟨bs [111,112,101,110],.int .i64 1,0⟩,⟨bs [116,105,103,104,116],.int .i64 2,1⟩,⟨bs [102,111,114,107],.int .i64 3,2⟩,⟨bs [115,104,117,116],.int .i64 4,3⟩]
theorem Qic(u:ByteArray):∃f,Instr.findNow .string (.string u) kmap.toList 0=some f/\(f.map (·.2)).getD (.int .i64 0)=Value.int .i64 (kindOf u.data.toList):=by
 simp only[Z8 (QbE _ _),kindOf,decide_eq_true_eq]
 repeat(split;· exact⟨_,rfl,rfl⟩)
 exact⟨none,rfl,rfl⟩
theorem Qf3(l:List UInt8):∃f,Instr.findNow .string (.string (bsL l)) kmap.toList 0=some f/\(f.map (·.2)).getD (.int .i64 0)=Value.int .i64 (kindOf l):=Qic (bsL l)
theorem Qgc(l:List UInt8):kindOf l=0\/kindOf l=1\/kindOf l=2\/kindOf l=3\/kindOf l=4:=by
 unfold kindOf
 repeat' split
 all_goals simp
theorem VX(e:Int)(w:World):Calls prog 76 #[.int .i64 e] w λen w'=>en=.returned (.tuple #[Yg ⟨0,0,0,⟨[],0⟩⟩ (.slice none 0 0),.int .i64 e])/\Below w.heap.size w w':=by
 go_enter func76,ntmps76;go_wp2;refine bodyPost_ret (v:=.tuple #[Yg ⟨0,0,0,⟨[],0⟩⟩ (.slice none 0 0),.int .i64 e]) ?_ rfl ⟨rfl,Qa Zbr _⟩;rw[results_cell_tmp rfl];go_simp
theorem QcH(L:List UInt8)(w:World)(hL:Laid w)(hs:L.length<=100000):
  Calls prog 32 #[.string (bsL L)] w λe w'=>∃v,e=.returned (.tuple #[Yg (QZ L).1 v,.int .i64 (QZ L).2])/\Qc w' (λb=>w.heap.size<=b) v (QZ L).1.p.ru/\Below w.heap.size w w':=by
 have HL:=Zh hL;have Hs:=Zh hs;clear hL hs;have hmm:=@run_makeMap prog;have HB:=Zh (Bx.one (w:=w) (o:=.cells #[.int .i64 0,.int .i64 0,.int .i64 0,.slice none 0 0,.int .i64 0] 56));have HE0:Hid (QZ L=ZT (kindOf (Lib.cut L [32]).1) (Lib.cut (Lib.cut L [32]).2.1 [32])):=rfl;obtain⟨k,hk⟩:∃k,kindOf (Lib.cut L [32]).1=k:=⟨_,rfl⟩;have hkr:k=0\/k=1\/k=2\/k=3\/k=4:=by rw[<-hk];exact Qgc _
 have Hk:=Zh hk;rw[hk]at HE0;clear hk;rcases Yd L 32 with⟨_,hc⟩|⟨a,r,hLe,_,hc⟩
 .have HP:Hid (parts3 L=[L]):=by show _=_;unfold parts3;rw[hc];rfl
  rw[hc]at HE0 Hk;have HE1:Hid (QZ L=(⟨0,0,0,⟨[],0⟩⟩,1)):=by show _=_;rw[HE0.o];exact U4 (.inr (.inl (by show(Ug (Lib.cut ([]:List UInt8) [32]).1).2=false;decide)))
  clear hc HE0;go_enter func32,ntmps32;go_wp2_with fail
  refine(OX L _ (HL.o.below HB.o.bel) (by have:=Hs.o;omega)).mono ?_;rw[HP.o];rintro e w1'⟨cap,cs,rfl,hcap,hw1,hcs⟩;have hc0:cs[0]?=some (.string (bsL L)):=hcs 0 (by simp);have hcap1:1<=cap:=hcap;have Hpb:Hid (w1'.heap[(w.alloc (.cells #[.int .i64 0,.int .i64 0,.int .i64 0,.slice none 0 0,.int .i64 0] 56)).heap.size]?=some (.cells cs 9)):=by show _=_;rw[hw1];exact Qh _ _
  have HB1:Hid (Bx w [.cells #[.int .i64 0,.int .i64 0,.int .i64 0,.slice none 0 0,.int .i64 0] 56] w1'):=by rw[hw1];exact HB.o.alloc _
  clear hcs hw1 hcap;obtain⟨w1,rfl⟩:∃w1:World,w1=w1':=⟨_,rfl⟩;revert Hpb;obtain⟨pb,hpb⟩:∃pb,(w.alloc (.cells #[.int .i64 0,.int .i64 0,.int .i64 0,.slice none 0 0,.int .i64 0] 56)).heap.size=pb:=⟨_,rfl⟩;have Hpb1:Hid (pb=w.heap.size+1):=by show _=_;rw[<-hpb];simp
  rw[hpb];intro Hpb;clear hpb;have hv0:=Qx (P:=prog) (t:=117) (es:=#[]) (c:=0) (key:=bs [111,112,101,110]) (v:=.int .i64 1) (rfl:w1.heap.size=w1.heap.size) underlying117 underlying9 (by first|exact trivial|rfl) (by kernel_rfl);have hv1:=Qx (P:=prog) (t:=117) (es:=#[⟨bs [111,112,101,110],.int .i64 1,0⟩]) (c:=1) (key:=bs [116,105,103,104,116]) (v:=.int .i64 2) (rfl:w1.heap.size=w1.heap.size) underlying117 underlying9 (by first|exact trivial|rfl) (by kernel_rfl);have hv2:=Qx (P:=prog) (t:=117) (es:=#[⟨bs [111,112,101,110],.int .i64 1,0⟩,⟨bs [116,105,103,104,116],.int .i64 2,1⟩]) (c:=2) (key:=bs [102,111,114,107]) (v:=.int .i64 3) (rfl:w1.heap.size=w1.heap.size) underlying117 underlying9 (by first|exact trivial|rfl) (by kernel_rfl);have hv3:=Qx (P:=prog) (t:=117) (es:=#[⟨bs [111,112,101,110],.int .i64 1,0⟩,⟨bs [116,105,103,104,116],.int .i64 2,1⟩,⟨bs [102,111,114,107],.int .i64 3,2⟩]) (c:=3) (key:=bs [115,104,117,116]) (v:=.int .i64 4) (rfl:w1.heap.size=w1.heap.size) underlying117 underlying9 (by first|exact trivial|rfl) (by kernel_rfl);simp only[List.push_toArray,List.nil_append,List.cons_append,Nat.reduceAdd]at hv0 hv1 hv2 hv3;have hcp:=Qb Hpb.o;have hblm:(w1.alloc (.map kmap 4)).heap[pb]?=some (.cells cs 9):=QQ Hpb.o;have hcpm:=Qb hblm;have hcpx:∀O i,((w1.alloc (.map kmap 4)).alloc O).cell? ⟨pb,i,none⟩=cs[i]?:=λO=>Qb (QQ hblm);obtain⟨fk,hfk,hfk'⟩:=Qf3 L;have hz:∀W:World,(zeroValue 3).run prog W=.ok (.int .i64 0) W:=λW=>by kernel_rfl
  have hlk:=Vm (P:=prog) (key:=.string (bsL L)) (t:=117) underlying117 underlying9 (Qh w1 (.map kmap 4)) (hz _) (by exact trivial) hfk;rw[hfk',Hk.o]at hlk;have HB2:=Zh (HB1.o.alloc (.map kmap 4));clear hfk hfk' hz hblm;rcases hkr with rfl|rfl|rfl|rfl|rfl
  all_goals
   go_wp2_with fail
   clear hv0 hv1 hv2 hv3 hmm hlk hcp hcpm hcpx;refine(VX 1 _).mono ?_;rintro e wz⟨rfl,hbz⟩;have HBz:=Zh (HB2.o.below hbz);clear hbz;have hq0:=HBz.o.cells0;have hf0:=HBz.o.free0;have HS:=Zh (HBz.o.put5 (.int .i64 0) (.int .i64 0) (.int .i64 0) (.slice none 0 0) (.int .i64 0) rfl);have hqs:=HS.o.cells0;have HBL:=Zh HS.o.bel;clear HS;go_wp2;refine bodyPost_ret (v:=.tuple #[Yg ⟨0,0,0,⟨[],0⟩⟩ (.slice none 0 0),.int .i64 1]) ?_ rfl (by rw[HE1.o];exact⟨_,rfl,QE _ _,HBL.o⟩);rw[results_cell_tmp rfl];go_simp
 have hal:a.length+r.length+1<=100000:=by have:=Hs.o;rw[hLe]at this;simp at this;omega
 have hra:r.length<=100000:=by omega
 rw[hc]at HE0 Hk;dsimp only at HE0 Hk;clear hLe;rcases Yd r 32 with⟨_,hc2⟩|⟨b,t,hre,_,hc2⟩
 .have HP:Hid (parts3 L=[a,r]):=by show _=_;unfold parts3;rw[hc];dsimp only;rw[hc2];rfl
  rw[hc2]at HE0;obtain⟨⟨n,ok⟩,hn⟩:∃E,Ug r=E:=⟨_,rfl⟩;have Hn:=Zh hn;clear hc hc2 hn hal;go_enter func32,ntmps32;go_wp2_with fail
  refine(OX L _ (HL.o.below HB.o.bel) (by have:=Hs.o;omega)).mono ?_;rw[HP.o];rintro e w1'⟨cap,cs,rfl,hcap,hw1,hcs⟩;have hc0:cs[0]?=some (.string (bsL a)):=hcs 0 (by simp);have hc1:cs[1]?=some (.string (bsL r)):=hcs 1 (by simp);have hcap2:2<=cap:=hcap;have Hpb:Hid (w1'.heap[(w.alloc (.cells #[.int .i64 0,.int .i64 0,.int .i64 0,.slice none 0 0,.int .i64 0] 56)).heap.size]?=some (.cells cs 9)):=by show _=_;rw[hw1];exact Qh _ _
  have HB1:Hid (Bx w [.cells #[.int .i64 0,.int .i64 0,.int .i64 0,.slice none 0 0,.int .i64 0] 56] w1'):=by rw[hw1];exact HB.o.alloc _
  clear hcs hw1 hcap;obtain⟨w1,rfl⟩:∃w1:World,w1=w1':=⟨_,rfl⟩;revert Hpb;obtain⟨pb,hpb⟩:∃pb,(w.alloc (.cells #[.int .i64 0,.int .i64 0,.int .i64 0,.slice none 0 0,.int .i64 0] 56)).heap.size=pb:=⟨_,rfl⟩;have Hpb1:Hid (pb=w.heap.size+1):=by show _=_;rw[<-hpb];simp
  rw[hpb];intro Hpb;clear hpb;have hv0:=Qx (P:=prog) (t:=117) (es:=#[]) (c:=0) (key:=bs [111,112,101,110]) (v:=.int .i64 1) (rfl:w1.heap.size=w1.heap.size) underlying117 underlying9 (by first|exact trivial|rfl) (by kernel_rfl);have hv1:=Qx (P:=prog) (t:=117) (es:=#[⟨bs [111,112,101,110],.int .i64 1,0⟩]) (c:=1) (key:=bs [116,105,103,104,116]) (v:=.int .i64 2) (rfl:w1.heap.size=w1.heap.size) underlying117 underlying9 (by first|exact trivial|rfl) (by kernel_rfl);have hv2:=Qx (P:=prog) (t:=117) (es:=#[⟨bs [111,112,101,110],.int .i64 1,0⟩,⟨bs [116,105,103,104,116],.int .i64 2,1⟩]) (c:=2) (key:=bs [102,111,114,107]) (v:=.int .i64 3) (rfl:w1.heap.size=w1.heap.size) underlying117 underlying9 (by first|exact trivial|rfl) (by kernel_rfl);have hv3:=Qx (P:=prog) (t:=117) (es:=#[⟨bs [111,112,101,110],.int .i64 1,0⟩,⟨bs [116,105,103,104,116],.int .i64 2,1⟩,⟨bs [102,111,114,107],.int .i64 3,2⟩]) (c:=3) (key:=bs [115,104,117,116]) (v:=.int .i64 4) (rfl:w1.heap.size=w1.heap.size) underlying117 underlying9 (by first|exact trivial|rfl) (by kernel_rfl);simp only[List.push_toArray,List.nil_append,List.cons_append,Nat.reduceAdd]at hv0 hv1 hv2 hv3;have hcp:=Qb Hpb.o;have hblm:(w1.alloc (.map kmap 4)).heap[pb]?=some (.cells cs 9):=QQ Hpb.o;have hcpm:=Qb hblm;have hcpx:∀O i,((w1.alloc (.map kmap 4)).alloc O).cell? ⟨pb,i,none⟩=cs[i]?:=λO=>Qb (QQ hblm);obtain⟨fk,hfk,hfk'⟩:=Qf3 a;have hz:∀W:World,(zeroValue 3).run prog W=.ok (.int .i64 0) W:=λW=>by kernel_rfl
  have hlk:=Vm (P:=prog) (key:=.string (bsL a)) (t:=117) underlying117 underlying9 (Qh w1 (.map kmap 4)) (hz _) (by exact trivial) hfk;rw[hfk',Hk.o]at hlk;have HB2:=Zh (HB1.o.alloc (.map kmap 4));clear hfk hfk' hz hblm;by_cases h4:k=4
  .subst h4;clear hkr;go_wp2_with fail
   clear hv0 hv1 hv2 hv3 hmm hlk hcp hcpm hcpx;have Hpb2:Hid (((w1.alloc (.map kmap 4)).alloc (.cells #[.int .i64 4,.int .i64 0,.int .i64 0,.slice none 0 0,.int .i64 0] 56)).heap[pb]?=some (.cells cs 9)):=QQ (QQ Hpb.o);have HBx:=Zh (HB2.o.alloc (.cells #[.int .i64 4,.int .i64 0,.int .i64 0,.slice none 0 0,.int .i64 0] 56));have HX:=Zh (Qh (w1.alloc (.map kmap 4)) (.cells #[.int .i64 4,.int .i64 0,.int .i64 0,.slice none 0 0,.int .i64 0] 56));have Htop:Hid (pb<w1.heap.size/\w.heap.size+1<=w1.heap.size):=⟨(Array.getElem?_eq_some_iff.1 Hpb.o).1,HB1.o.top⟩;refine(YG (bsL r) _ (HL.o.below HBx.o.bel) (by have:=hra;simp[bsL,ByteArray.size];omega)).mono ?_;rw[Vd,Hn.o];rintro e w3⟨rfl,hb3⟩;have Hpb3:=Zh (Qd Hpb2.o hb3);have HB3:=Zh (HBx.o.below hb3);have HX3:Hid (w3.heap[w1.heap.size+1]?=some (.cells #[.int .i64 4,.int .i64 0,.int .i64 0,.slice none 0 0,.int .i64 0] 56)):=by show _=_;have:=Qd HX.o hb3;simpa using this
   clear hb3 Hpb2 HBx HX;obtain⟨bx,hbx⟩:∃bx,w1.heap.size+1=bx:=⟨_,rfl⟩;have Hbx:Hid (pb<bx/\w.heap.size+1<=bx):=by have:=Htop.o;show _/\_;omega
   have hqx:=Qb HX3.o;have hfx:=Qp HX3.o;have HXs:=Zh (QJ (o:=1) (v:=.int .i64 n) HX3.o);have hqs:=Qb HXs.o;have HBs:=Zh (HB3.o.lift (Qw (a:=⟨w1.heap.size+1,1,none⟩) (v:=.int .i64 n) (Below.refl (w.heap.size+1) w3) (by have:=Htop.o;show _<=w1.heap.size+1;omega)) (by simp));have Hpbs:Hid ((w3.setCell ⟨w1.heap.size+1,1,none⟩ (.int .i64 n)).heap[pb]?=some (.cells cs 9)):=(Qm (by show pb≠w1.heap.size+1;have:=Htop.o;omega)).trans Hpb3.o;have hcp2:=Qb Hpbs.o;clear hbx Hbx
   cases ok with
   |false=>
    have HE1:Hid (QZ L=(⟨0,0,0,⟨[],0⟩⟩,1)):=by show _=_;rw[HE0.o];exact U4 (.inr (.inl (by show(Ug r).2=false;rw[Hn.o])))
    go_wp2_with fail
    clear hqx hfx hcp2 hqs;refine(VX 1 _).mono ?_;rintro e wz⟨rfl,hbz⟩;have HBz:=Zh (HBs.o.below hbz);clear hbz;have hq0:=HBz.o.cells0;have hf0:=HBz.o.free0;have HS:=Zh (HBz.o.put5 (.int .i64 0) (.int .i64 0) (.int .i64 0) (.slice none 0 0) (.int .i64 0) rfl);have hqs:=HS.o.cells0;have HBL:=Zh HS.o.bel;clear HS;go_wp2;refine bodyPost_ret (v:=.tuple #[Yg ⟨0,0,0,⟨[],0⟩⟩ (.slice none 0 0),.int .i64 1]) ?_ rfl (by rw[HE1.o];exact⟨_,rfl,QE _ _,HBL.o⟩);rw[results_cell_tmp rfl];go_simp
   |true=>
    have HE1:Hid (QZ L=Uc ⟨4,n,0,⟨[],0⟩⟩):=by show _=_;rw[HE0.o];exact E8 Hn.o
    go_wp2_with fail
    clear hqx hfx hcp2 hqs;have HRx:=Zh (QE (w3.setCell ⟨w1.heap.size+1,1,none⟩ (.int .i64 n)) (λx=>w.heap.size+1<=x));refine(Xd _ ⟨4,n,0,⟨[],0⟩⟩ _ _ HRx.o).mono ?_;rintro e w8⟨rfl,hb8⟩;have HB8:=Zh (HBs.o.below hb8);have HR8:=Zh (Qc.below HRx.o hb8);have hqx:=Qb (Qd HXs.o hb8);clear hb8;by_cases h0:UJ ⟨4,n,0,⟨[],0⟩⟩=0
    .have HE':Hid (QZ L=(⟨4,n,0,⟨[],0⟩⟩,0)):=by show _=_;rw[HE1.o];exact if_pos h0
     have HS:=Zh (HB8.o.put5 (.int .i64 4) (.int .i64 n) (.int .i64 0) (.slice none 0 0) (.int .i64 0) rfl);have hq0:=HB8.o.cells0;have hf0:=HB8.o.free0;have hqs:=HS.o.cells0;have HBL:=Zh HS.o.bel;have HRF:=Zh (Yi HR8.o (XB (b:=w.heap.size) (.int .i64 4) (.int .i64 n) (.int .i64 0) (.slice none 0 0) (.int .i64 0)));rw[h0];clear h0 HS;go_wp2;refine bodyPost_ret (v:=.tuple #[Yg ⟨4,n,0,⟨[],0⟩⟩ (.slice none 0 0),.int .i64 0]) ?_ rfl (by rw[HE'.o];exact⟨_,rfl,HRF.o,HBL.o⟩);rw[results_cell_tmp rfl];go_simp
    have HE':Hid (QZ L=(⟨0,0,0,⟨[],0⟩⟩,UJ ⟨4,n,0,⟨[],0⟩⟩)):=by show _=_;rw[HE1.o];exact if_neg h0
    have hne:(UJ ⟨4,n,0,⟨[],0⟩⟩ != 0)=true:=bne_iff_ne.2 h0;generalize UJ ⟨4,n,0,⟨[],0⟩⟩=pe at *;clear h0 hqx HR8;go_wp2_with fail
    refine(VX pe _).mono ?_;rintro e wz⟨rfl,hbz⟩;have HBz:=Zh (HB8.o.below hbz);clear hbz;have hq0:=HBz.o.cells0;have hf0:=HBz.o.free0;have HS:=Zh (HBz.o.put5 (.int .i64 0) (.int .i64 0) (.int .i64 0) (.slice none 0 0) (.int .i64 0) rfl);have hqs:=HS.o.cells0;have HBL:=Zh HS.o.bel;clear HS;go_wp2;refine bodyPost_ret (v:=.tuple #[Yg ⟨0,0,0,⟨[],0⟩⟩ (.slice none 0 0),.int .i64 pe]) ?_ rfl (by rw[HE'.o];exact⟨_,rfl,QE _ _,HBL.o⟩);rw[results_cell_tmp rfl];go_simp
  have HE1:Hid (QZ L=(⟨0,0,0,⟨[],0⟩⟩,1)):=by show _=_;rw[HE0.o];exact U4 (.inr (.inr (by show false≠decide (k≠4);rw[decide_eq_true h4];decide)))
  have hkr':k=0\/k=1\/k=2\/k=3:=by omega
  clear hkr h4;rcases hkr' with rfl|rfl|rfl|rfl
  all_goals
   go_wp2_with fail
   clear hv0 hv1 hv2 hv3 hmm hlk hcp hcpm hcpx;refine(VX 1 _).mono ?_;rintro e wz⟨rfl,hbz⟩;have HBz:=Zh (HB2.o.below hbz);clear hbz;have hq0:=HBz.o.cells0;have hf0:=HBz.o.free0;have HS:=Zh (HBz.o.put5 (.int .i64 0) (.int .i64 0) (.int .i64 0) (.slice none 0 0) (.int .i64 0) rfl);have hqs:=HS.o.cells0;have HBL:=Zh HS.o.bel;clear HS;go_wp2;refine bodyPost_ret (v:=.tuple #[Yg ⟨0,0,0,⟨[],0⟩⟩ (.slice none 0 0),.int .i64 1]) ?_ rfl (by rw[HE1.o];exact⟨_,rfl,QE _ _,HBL.o⟩);rw[results_cell_tmp rfl];go_simp
 have HP:Hid (parts3 L=[a,b,t]):=by show _=_;unfold parts3;rw[hc];dsimp only;rw[hc2];rfl
 rw[hc2]at HE0;have hbt:b.length<=100000/\t.length<=100000:=by rw[hre]at hra;simp at hra;omega
 have Hbt:=Zh hbt;obtain⟨⟨n,ok⟩,hn⟩:∃E,Ug b=E:=⟨_,rfl⟩;have Hn:=Zh hn;clear hc hc2 hn hal hra hre hbt;go_enter func32,ntmps32;go_wp2_with fail
 refine(OX L _ (HL.o.below HB.o.bel) (by have:=Hs.o;omega)).mono ?_;rw[HP.o];rintro e w1'⟨cap,cs,rfl,hcap,hw1,hcs⟩;have hc0:cs[0]?=some (.string (bsL a)):=hcs 0 (by simp);have hc1:cs[1]?=some (.string (bsL b)):=hcs 1 (by simp);have hc2:cs[2]?=some (.string (bsL t)):=hcs 2 (by simp);have hcap3:3<=cap:=hcap;have Hpb:Hid (w1'.heap[(w.alloc (.cells #[.int .i64 0,.int .i64 0,.int .i64 0,.slice none 0 0,.int .i64 0] 56)).heap.size]?=some (.cells cs 9)):=by show _=_;rw[hw1];exact Qh _ _
 have HB1:Hid (Bx w [.cells #[.int .i64 0,.int .i64 0,.int .i64 0,.slice none 0 0,.int .i64 0] 56] w1'):=by rw[hw1];exact HB.o.alloc _
 clear hcs hw1 hcap;obtain⟨w1,rfl⟩:∃w1:World,w1=w1':=⟨_,rfl⟩;revert Hpb;obtain⟨pb,hpb⟩:∃pb,(w.alloc (.cells #[.int .i64 0,.int .i64 0,.int .i64 0,.slice none 0 0,.int .i64 0] 56)).heap.size=pb:=⟨_,rfl⟩;have Hpb1:Hid (pb=w.heap.size+1):=by show _=_;rw[<-hpb];simp
 rw[hpb];intro Hpb;clear hpb;have hv0:=Qx (P:=prog) (t:=117) (es:=#[]) (c:=0) (key:=bs [111,112,101,110]) (v:=.int .i64 1) (rfl:w1.heap.size=w1.heap.size) underlying117 underlying9 (by first|exact trivial|rfl) (by kernel_rfl);have hv1:=Qx (P:=prog) (t:=117) (es:=#[⟨bs [111,112,101,110],.int .i64 1,0⟩]) (c:=1) (key:=bs [116,105,103,104,116]) (v:=.int .i64 2) (rfl:w1.heap.size=w1.heap.size) underlying117 underlying9 (by first|exact trivial|rfl) (by kernel_rfl);have hv2:=Qx (P:=prog) (t:=117) (es:=#[⟨bs [111,112,101,110],.int .i64 1,0⟩,⟨bs [116,105,103,104,116],.int .i64 2,1⟩]) (c:=2) (key:=bs [102,111,114,107]) (v:=.int .i64 3) (rfl:w1.heap.size=w1.heap.size) underlying117 underlying9 (by first|exact trivial|rfl) (by kernel_rfl);have hv3:=Qx (P:=prog) (t:=117) (es:=#[⟨bs [111,112,101,110],.int .i64 1,0⟩,⟨bs [116,105,103,104,116],.int .i64 2,1⟩,⟨bs [102,111,114,107],.int .i64 3,2⟩]) (c:=3) (key:=bs [115,104,117,116]) (v:=.int .i64 4) (rfl:w1.heap.size=w1.heap.size) underlying117 underlying9 (by first|exact trivial|rfl) (by kernel_rfl);simp only[List.push_toArray,List.nil_append,List.cons_append,Nat.reduceAdd]at hv0 hv1 hv2 hv3;have hcp:=Qb Hpb.o;have hblm:(w1.alloc (.map kmap 4)).heap[pb]?=some (.cells cs 9):=QQ Hpb.o;have hcpm:=Qb hblm;have hcpx:∀O i,((w1.alloc (.map kmap 4)).alloc O).cell? ⟨pb,i,none⟩=cs[i]?:=λO=>Qb (QQ hblm);obtain⟨fk,hfk,hfk'⟩:=Qf3 a;have hz:∀W:World,(zeroValue 3).run prog W=.ok (.int .i64 0) W:=λW=>by kernel_rfl
 have hlk:=Vm (P:=prog) (key:=.string (bsL a)) (t:=117) underlying117 underlying9 (Qh w1 (.map kmap 4)) (hz _) (by exact trivial) hfk;rw[hfk',Hk.o]at hlk;have HB2:=Zh (HB1.o.alloc (.map kmap 4));clear hfk hfk' hz hblm;by_cases h04:k=0\/k=4
 .have HE1:Hid (QZ L=(⟨0,0,0,⟨[],0⟩⟩,1)):=by
   show _=_;rw[HE0.o];rcases h04 with rfl|rfl
   .exact U4 (.inl rfl)
   exact U4 (.inr (.inr (by decide)))
  clear hkr;rcases h04 with rfl|rfl
  all_goals
   go_wp2_with fail
   clear hv0 hv1 hv2 hv3 hmm hlk hcp hcpm hcpx;refine(VX 1 _).mono ?_;rintro e wz⟨rfl,hbz⟩;have HBz:=Zh (HB2.o.below hbz);clear hbz;have hq0:=HBz.o.cells0;have hf0:=HBz.o.free0;have HS:=Zh (HBz.o.put5 (.int .i64 0) (.int .i64 0) (.int .i64 0) (.slice none 0 0) (.int .i64 0) rfl);have hqs:=HS.o.cells0;have HBL:=Zh HS.o.bel;clear HS;go_wp2;refine bodyPost_ret (v:=.tuple #[Yg ⟨0,0,0,⟨[],0⟩⟩ (.slice none 0 0),.int .i64 1]) ?_ rfl (by rw[HE1.o];exact⟨_,rfl,QE _ _,HBL.o⟩);rw[results_cell_tmp rfl];go_simp
 have hkr':k=1\/k=2\/k=3:=by omega
 clear hkr h04;rcases hkr' with rfl|rfl|rfl
 .go_wp2_with fail
  clear hv0 hv1 hv2 hv3 hmm hlk hcp hcpm hcpx;have Hpb2:Hid (((w1.alloc (.map kmap 4)).alloc (.cells #[.int .i64 1,.int .i64 0,.int .i64 0,.slice none 0 0,.int .i64 0] 56)).heap[pb]?=some (.cells cs 9)):=QQ (QQ Hpb.o);have HBx:=Zh (HB2.o.alloc (.cells #[.int .i64 1,.int .i64 0,.int .i64 0,.slice none 0 0,.int .i64 0] 56));have HX:=Zh (Qh (w1.alloc (.map kmap 4)) (.cells #[.int .i64 1,.int .i64 0,.int .i64 0,.slice none 0 0,.int .i64 0] 56));have Htop:Hid (pb<w1.heap.size/\w.heap.size+1<=w1.heap.size):=⟨(Array.getElem?_eq_some_iff.1 Hpb.o).1,HB1.o.top⟩;refine(YG (bsL b) _ (HL.o.below HBx.o.bel) (by have:=Hbt.o.1;simp[bsL,ByteArray.size];omega)).mono ?_;rw[Vd,Hn.o];rintro e w3⟨rfl,hb3⟩;have Hpb3:=Zh (Qd Hpb2.o hb3);have HB3:=Zh (HBx.o.below hb3);have HX3:Hid (w3.heap[w1.heap.size+1]?=some (.cells #[.int .i64 1,.int .i64 0,.int .i64 0,.slice none 0 0,.int .i64 0] 56)):=by show _=_;have:=Qd HX.o hb3;simpa using this
  clear hb3 Hpb2 HBx HX;obtain⟨bx,hbx⟩:∃bx,w1.heap.size+1=bx:=⟨_,rfl⟩;have Hbx:Hid (pb<bx/\w.heap.size+1<=bx):=by have:=Htop.o;show _/\_;omega
  have hqx:=Qb HX3.o;have hfx:=Qp HX3.o;have HXs:=Zh (QJ (o:=1) (v:=.int .i64 n) HX3.o);have hqs:=Qb HXs.o;have HBs:=Zh (HB3.o.lift (Qw (a:=⟨w1.heap.size+1,1,none⟩) (v:=.int .i64 n) (Below.refl (w.heap.size+1) w3) (by have:=Htop.o;show _<=w1.heap.size+1;omega)) (by simp));have Hpbs:Hid ((w3.setCell ⟨w1.heap.size+1,1,none⟩ (.int .i64 n)).heap[pb]?=some (.cells cs 9)):=(Qm (by show pb≠w1.heap.size+1;have:=Htop.o;omega)).trans Hpb3.o;have hcp2:=Qb Hpbs.o;clear hbx Hbx
  cases ok with
  |false=>
   have HE1:Hid (QZ L=(⟨0,0,0,⟨[],0⟩⟩,1)):=by show _=_;rw[HE0.o];exact U4 (.inr (.inl (by show(Ug b).2=false;rw[Hn.o])))
   go_wp2_with fail
   clear hqx hfx hcp2 hqs;refine(VX 1 _).mono ?_;rintro e wz⟨rfl,hbz⟩;have HBz:=Zh (HBs.o.below hbz);clear hbz;have hq0:=HBz.o.cells0;have hf0:=HBz.o.free0;have HS:=Zh (HBz.o.put5 (.int .i64 0) (.int .i64 0) (.int .i64 0) (.slice none 0 0) (.int .i64 0) rfl);have hqs:=HS.o.cells0;have HBL:=Zh HS.o.bel;clear HS;go_wp2;refine bodyPost_ret (v:=.tuple #[Yg ⟨0,0,0,⟨[],0⟩⟩ (.slice none 0 0),.int .i64 1]) ?_ rfl (by rw[HE1.o];exact⟨_,rfl,QE _ _,HBL.o⟩);rw[results_cell_tmp rfl];go_simp
  |true=>
   obtain⟨⟨P,pe⟩,hP⟩:∃E,VE t=E:=⟨_,rfl⟩
   have HEp:Hid (QZ L=if pe≠0 then(X7,pe)else Uc ⟨1,n,0,P⟩):=by
    show _=_;rw[HE0.o,JE (.inl rfl) Hn.o,hP]
   have HP2:=Zh hP;clear hP;go_wp2_with fail
   clear hqx hfx hcp2 hqs;refine(G6 (bsL t) _ (HL.o.below HBs.o.bel) (by have:=Hbt.o.2;simp[bsL,ByteArray.size];omega) (by have:=Hbt.o.2;simp[bsL,ByteArray.size];omega)).mono ?_;rw[Vd,HP2.o];rintro e w5⟨v5,rfl,hr5,hb5⟩;dsimp only at hr5;obtain⟨a5,c5,rfl,_⟩:=Sl.form hr5;have HX5:=Zh (Qd HXs.o hb5);have HB5:=Zh (HBs.o.below hb5);have HR5:Hid (Qc w5 (λx=>w3.heap.size<=x) (.slice a5 P.ru.length c5) P.ru):=hr5.keep (λx hx _=>by have h1:_<=x:=hx;rw[Qr]at h1;exact h1) (λ_ _ _=>rfl) Znl;have Hs3:Hid (w1.heap.size+1<w3.heap.size):=(Array.getElem?_eq_some_iff.1 HX3.o).1;clear hb5 hr5;dsimp only;have HX6:=Zh (QQ (o:=.cells #[.slice a5 P.ru.length c5,.int .i64 P.df] 38) HX5.o);have HY6:=Zh (Qh w5 (.cells #[.slice a5 P.ru.length c5,.int .i64 P.df] 38));have HB6:=Zh (HB5.o.alloc (.cells #[.slice a5 P.ru.length c5,.int .i64 P.df] 38));have HR6:=Zh (Qc.below HR5.o (Qa Zbr (.cells #[.slice a5 P.ru.length c5,.int .i64 P.df] 38)));by_cases hpe:pe=0
   .subst hpe;have HE1:Hid (QZ L=Uc ⟨1,n,0,P⟩):=by show _=_;rw[HEp.o];exact if_neg (by simp)
    have hqx:=Qb HX6.o;have hfx:=Qp HX6.o;have hqy:=Qb HY6.o;have HXt:=Zh (QJ (o:=4) (v:=.int .i64 P.df) (QJ (o:=3) (v:=.slice a5 P.ru.length c5) HX6.o));have HBt:=Zh (HB6.o.lift (Qw (a:=⟨w1.heap.size+1,4,none⟩) (v:=.int .i64 P.df) (Qw (a:=⟨w1.heap.size+1,3,none⟩) (v:=.slice a5 P.ru.length c5) (Below.refl (w.heap.size+1) _) (by have:=Htop.o;show _<=w1.heap.size+1;omega)) (by have:=Htop.o;show _<=w1.heap.size+1;omega)) (by simp));have hqs:=Qb HXt.o
    have HRx:=Zh (Qc.keep (w':=((w5.alloc (.cells #[.slice a5 P.ru.length c5,.int .i64 P.df] 38)).setCell ⟨w1.heap.size+1,3,none⟩ (.slice a5 P.ru.length c5)).setCell ⟨w1.heap.size+1,4,none⟩ (.int .i64 P.df)) (D':=λx=>w.heap.size+1<=x) HR6.o (λx hx _=>by have h1:w3.heap.size<=x:=hx;have:=Htop.o;have:=Hs3.o;show _<=_;omega) (λx hx _=>by
     have h1:w3.heap.size<=x:=hx;have:=Hs3.o;rw[Qm (by show x≠w1.heap.size+1;omega),Qm (by show x≠w1.heap.size+1;omega)]) (by rw[Qr,Qr];exact Nat.le_refl _))
    go_wp2_with fail
    clear hqx hfx hqs hqy;refine(Xd _ ⟨1,n,0,P⟩ _ _ HRx.o).mono ?_;rintro e w8⟨rfl,hb8⟩;have HB8:=Zh (HBt.o.below hb8);have HR8:=Zh (Qc.below HRx.o hb8);have hqx:=Qb (Qd HXt.o hb8);clear hb8;by_cases h0:UJ ⟨1,n,0,P⟩=0
    .have HE':Hid (QZ L=(⟨1,n,0,P⟩,0)):=by show _=_;rw[HE1.o];exact if_pos h0
     have HS:=Zh (HB8.o.put5 (.int .i64 1) (.int .i64 n) (.int .i64 0) (.slice a5 P.ru.length c5) (.int .i64 P.df) rfl);have hq0:=HB8.o.cells0;have hf0:=HB8.o.free0;have hqs:=HS.o.cells0;have HBL:=Zh HS.o.bel;have HRF:=Zh (Yi HR8.o (XB (b:=w.heap.size) (.int .i64 1) (.int .i64 n) (.int .i64 0) (.slice a5 P.ru.length c5) (.int .i64 P.df)));rw[h0];clear h0 HS;go_wp2;refine bodyPost_ret (v:=.tuple #[Yg ⟨1,n,0,P⟩ (.slice a5 P.ru.length c5),.int .i64 0]) ?_ rfl (by rw[HE'.o];exact⟨_,rfl,HRF.o,HBL.o⟩);rw[results_cell_tmp rfl];go_simp
    have HE':Hid (QZ L=(⟨0,0,0,⟨[],0⟩⟩,UJ ⟨1,n,0,P⟩)):=by show _=_;rw[HE1.o];exact if_neg h0
    have hne:(UJ ⟨1,n,0,P⟩ != 0)=true:=bne_iff_ne.2 h0;generalize UJ ⟨1,n,0,P⟩=pe at *;clear h0 hqx HR8;go_wp2_with fail
    refine(VX pe _).mono ?_;rintro e wz⟨rfl,hbz⟩;have HBz:=Zh (HB8.o.below hbz);clear hbz;have hq0:=HBz.o.cells0;have hf0:=HBz.o.free0;have HS:=Zh (HBz.o.put5 (.int .i64 0) (.int .i64 0) (.int .i64 0) (.slice none 0 0) (.int .i64 0) rfl);have hqs:=HS.o.cells0;have HBL:=Zh HS.o.bel;clear HS;go_wp2;refine bodyPost_ret (v:=.tuple #[Yg ⟨0,0,0,⟨[],0⟩⟩ (.slice none 0 0),.int .i64 pe]) ?_ rfl (by rw[HE'.o];exact⟨_,rfl,QE _ _,HBL.o⟩);rw[results_cell_tmp rfl];go_simp
   have HE1:Hid (QZ L=(⟨0,0,0,⟨[],0⟩⟩,pe)):=by show _=_;rw[HEp.o];exact if_pos hpe
   have hne:(pe != 0)=true:=bne_iff_ne.2 hpe;clear hpe;go_wp2_with fail
   refine(VX pe _).mono ?_;rintro e wz⟨rfl,hbz⟩;have HBz:=Zh (HB6.o.below hbz);clear hbz;have hq0:=HBz.o.cells0;have hf0:=HBz.o.free0;have HS:=Zh (HBz.o.put5 (.int .i64 0) (.int .i64 0) (.int .i64 0) (.slice none 0 0) (.int .i64 0) rfl);have hqs:=HS.o.cells0;have HBL:=Zh HS.o.bel;clear HS;go_wp2;refine bodyPost_ret (v:=.tuple #[Yg ⟨0,0,0,⟨[],0⟩⟩ (.slice none 0 0),.int .i64 pe]) ?_ rfl (by rw[HE1.o];exact⟨_,rfl,QE _ _,HBL.o⟩);rw[results_cell_tmp rfl];go_simp
 .go_wp2_with fail
  clear hv0 hv1 hv2 hv3 hmm hlk hcp hcpm hcpx;have Hpb2:Hid (((w1.alloc (.map kmap 4)).alloc (.cells #[.int .i64 2,.int .i64 0,.int .i64 0,.slice none 0 0,.int .i64 0] 56)).heap[pb]?=some (.cells cs 9)):=QQ (QQ Hpb.o);have HBx:=Zh (HB2.o.alloc (.cells #[.int .i64 2,.int .i64 0,.int .i64 0,.slice none 0 0,.int .i64 0] 56));have HX:=Zh (Qh (w1.alloc (.map kmap 4)) (.cells #[.int .i64 2,.int .i64 0,.int .i64 0,.slice none 0 0,.int .i64 0] 56));have Htop:Hid (pb<w1.heap.size/\w.heap.size+1<=w1.heap.size):=⟨(Array.getElem?_eq_some_iff.1 Hpb.o).1,HB1.o.top⟩;refine(YG (bsL b) _ (HL.o.below HBx.o.bel) (by have:=Hbt.o.1;simp[bsL,ByteArray.size];omega)).mono ?_;rw[Vd,Hn.o];rintro e w3⟨rfl,hb3⟩;have Hpb3:=Zh (Qd Hpb2.o hb3);have HB3:=Zh (HBx.o.below hb3);have HX3:Hid (w3.heap[w1.heap.size+1]?=some (.cells #[.int .i64 2,.int .i64 0,.int .i64 0,.slice none 0 0,.int .i64 0] 56)):=by show _=_;have:=Qd HX.o hb3;simpa using this
  clear hb3 Hpb2 HBx HX;obtain⟨bx,hbx⟩:∃bx,w1.heap.size+1=bx:=⟨_,rfl⟩;have Hbx:Hid (pb<bx/\w.heap.size+1<=bx):=by have:=Htop.o;show _/\_;omega
  have hqx:=Qb HX3.o;have hfx:=Qp HX3.o;have HXs:=Zh (QJ (o:=1) (v:=.int .i64 n) HX3.o);have hqs:=Qb HXs.o;have HBs:=Zh (HB3.o.lift (Qw (a:=⟨w1.heap.size+1,1,none⟩) (v:=.int .i64 n) (Below.refl (w.heap.size+1) w3) (by have:=Htop.o;show _<=w1.heap.size+1;omega)) (by simp));have Hpbs:Hid ((w3.setCell ⟨w1.heap.size+1,1,none⟩ (.int .i64 n)).heap[pb]?=some (.cells cs 9)):=(Qm (by show pb≠w1.heap.size+1;have:=Htop.o;omega)).trans Hpb3.o;have hcp2:=Qb Hpbs.o;clear hbx Hbx
  cases ok with
  |false=>
   have HE1:Hid (QZ L=(⟨0,0,0,⟨[],0⟩⟩,1)):=by show _=_;rw[HE0.o];exact U4 (.inr (.inl (by show(Ug b).2=false;rw[Hn.o])))
   go_wp2_with fail
   clear hqx hfx hcp2 hqs;refine(VX 1 _).mono ?_;rintro e wz⟨rfl,hbz⟩;have HBz:=Zh (HBs.o.below hbz);clear hbz;have hq0:=HBz.o.cells0;have hf0:=HBz.o.free0;have HS:=Zh (HBz.o.put5 (.int .i64 0) (.int .i64 0) (.int .i64 0) (.slice none 0 0) (.int .i64 0) rfl);have hqs:=HS.o.cells0;have HBL:=Zh HS.o.bel;clear HS;go_wp2;refine bodyPost_ret (v:=.tuple #[Yg ⟨0,0,0,⟨[],0⟩⟩ (.slice none 0 0),.int .i64 1]) ?_ rfl (by rw[HE1.o];exact⟨_,rfl,QE _ _,HBL.o⟩);rw[results_cell_tmp rfl];go_simp
  |true=>
   obtain⟨⟨P,pe⟩,hP⟩:∃E,VE t=E:=⟨_,rfl⟩
   have HEp:Hid (QZ L=if pe≠0 then(X7,pe)else Uc ⟨2,n,0,P⟩):=by
    show _=_;rw[HE0.o,JE (.inr rfl) Hn.o,hP]
   have HP2:=Zh hP;clear hP;go_wp2_with fail
   clear hqx hfx hcp2 hqs;refine(G6 (bsL t) _ (HL.o.below HBs.o.bel) (by have:=Hbt.o.2;simp[bsL,ByteArray.size];omega) (by have:=Hbt.o.2;simp[bsL,ByteArray.size];omega)).mono ?_;rw[Vd,HP2.o];rintro e w5⟨v5,rfl,hr5,hb5⟩;dsimp only at hr5;obtain⟨a5,c5,rfl,_⟩:=Sl.form hr5;have HX5:=Zh (Qd HXs.o hb5);have HB5:=Zh (HBs.o.below hb5);have HR5:Hid (Qc w5 (λx=>w3.heap.size<=x) (.slice a5 P.ru.length c5) P.ru):=hr5.keep (λx hx _=>by have h1:_<=x:=hx;rw[Qr]at h1;exact h1) (λ_ _ _=>rfl) Znl;have Hs3:Hid (w1.heap.size+1<w3.heap.size):=(Array.getElem?_eq_some_iff.1 HX3.o).1;clear hb5 hr5;dsimp only;have HX6:=Zh (QQ (o:=.cells #[.slice a5 P.ru.length c5,.int .i64 P.df] 38) HX5.o);have HY6:=Zh (Qh w5 (.cells #[.slice a5 P.ru.length c5,.int .i64 P.df] 38));have HB6:=Zh (HB5.o.alloc (.cells #[.slice a5 P.ru.length c5,.int .i64 P.df] 38));have HR6:=Zh (Qc.below HR5.o (Qa Zbr (.cells #[.slice a5 P.ru.length c5,.int .i64 P.df] 38)));by_cases hpe:pe=0
   .subst hpe;have HE1:Hid (QZ L=Uc ⟨2,n,0,P⟩):=by show _=_;rw[HEp.o];exact if_neg (by simp)
    have hqx:=Qb HX6.o;have hfx:=Qp HX6.o;have hqy:=Qb HY6.o;have HXt:=Zh (QJ (o:=4) (v:=.int .i64 P.df) (QJ (o:=3) (v:=.slice a5 P.ru.length c5) HX6.o));have HBt:=Zh (HB6.o.lift (Qw (a:=⟨w1.heap.size+1,4,none⟩) (v:=.int .i64 P.df) (Qw (a:=⟨w1.heap.size+1,3,none⟩) (v:=.slice a5 P.ru.length c5) (Below.refl (w.heap.size+1) _) (by have:=Htop.o;show _<=w1.heap.size+1;omega)) (by have:=Htop.o;show _<=w1.heap.size+1;omega)) (by simp));have hqs:=Qb HXt.o
    have HRx:=Zh (Qc.keep (w':=((w5.alloc (.cells #[.slice a5 P.ru.length c5,.int .i64 P.df] 38)).setCell ⟨w1.heap.size+1,3,none⟩ (.slice a5 P.ru.length c5)).setCell ⟨w1.heap.size+1,4,none⟩ (.int .i64 P.df)) (D':=λx=>w.heap.size+1<=x) HR6.o (λx hx _=>by have h1:w3.heap.size<=x:=hx;have:=Htop.o;have:=Hs3.o;show _<=_;omega) (λx hx _=>by
     have h1:w3.heap.size<=x:=hx;have:=Hs3.o;rw[Qm (by show x≠w1.heap.size+1;omega),Qm (by show x≠w1.heap.size+1;omega)]) (by rw[Qr,Qr];exact Nat.le_refl _))
    go_wp2_with fail
    clear hqx hfx hqs hqy;refine(Xd _ ⟨2,n,0,P⟩ _ _ HRx.o).mono ?_;rintro e w8⟨rfl,hb8⟩;have HB8:=Zh (HBt.o.below hb8);have HR8:=Zh (Qc.below HRx.o hb8);have hqx:=Qb (Qd HXt.o hb8);clear hb8;by_cases h0:UJ ⟨2,n,0,P⟩=0
    .have HE':Hid (QZ L=(⟨2,n,0,P⟩,0)):=by show _=_;rw[HE1.o];exact if_pos h0
     have HS:=Zh (HB8.o.put5 (.int .i64 2) (.int .i64 n) (.int .i64 0) (.slice a5 P.ru.length c5) (.int .i64 P.df) rfl);have hq0:=HB8.o.cells0;have hf0:=HB8.o.free0;have hqs:=HS.o.cells0;have HBL:=Zh HS.o.bel;have HRF:=Zh (Yi HR8.o (XB (b:=w.heap.size) (.int .i64 2) (.int .i64 n) (.int .i64 0) (.slice a5 P.ru.length c5) (.int .i64 P.df)));rw[h0];clear h0 HS;go_wp2;refine bodyPost_ret (v:=.tuple #[Yg ⟨2,n,0,P⟩ (.slice a5 P.ru.length c5),.int .i64 0]) ?_ rfl (by rw[HE'.o];exact⟨_,rfl,HRF.o,HBL.o⟩);rw[results_cell_tmp rfl];go_simp
    have HE':Hid (QZ L=(⟨0,0,0,⟨[],0⟩⟩,UJ ⟨2,n,0,P⟩)):=by show _=_;rw[HE1.o];exact if_neg h0
    have hne:(UJ ⟨2,n,0,P⟩ != 0)=true:=bne_iff_ne.2 h0;generalize UJ ⟨2,n,0,P⟩=pe at *;clear h0 hqx HR8;go_wp2_with fail
    refine(VX pe _).mono ?_;rintro e wz⟨rfl,hbz⟩;have HBz:=Zh (HB8.o.below hbz);clear hbz;have hq0:=HBz.o.cells0;have hf0:=HBz.o.free0;have HS:=Zh (HBz.o.put5 (.int .i64 0) (.int .i64 0) (.int .i64 0) (.slice none 0 0) (.int .i64 0) rfl);have hqs:=HS.o.cells0;have HBL:=Zh HS.o.bel;clear HS;go_wp2;refine bodyPost_ret (v:=.tuple #[Yg ⟨0,0,0,⟨[],0⟩⟩ (.slice none 0 0),.int .i64 pe]) ?_ rfl (by rw[HE'.o];exact⟨_,rfl,QE _ _,HBL.o⟩);rw[results_cell_tmp rfl];go_simp
   have HE1:Hid (QZ L=(⟨0,0,0,⟨[],0⟩⟩,pe)):=by show _=_;rw[HEp.o];exact if_pos hpe
   have hne:(pe != 0)=true:=bne_iff_ne.2 hpe;clear hpe;go_wp2_with fail
   refine(VX pe _).mono ?_;rintro e wz⟨rfl,hbz⟩;have HBz:=Zh (HB6.o.below hbz);clear hbz;have hq0:=HBz.o.cells0;have hf0:=HBz.o.free0;have HS:=Zh (HBz.o.put5 (.int .i64 0) (.int .i64 0) (.int .i64 0) (.slice none 0 0) (.int .i64 0) rfl);have hqs:=HS.o.cells0;have HBL:=Zh HS.o.bel;clear HS;go_wp2;refine bodyPost_ret (v:=.tuple #[Yg ⟨0,0,0,⟨[],0⟩⟩ (.slice none 0 0),.int .i64 pe]) ?_ rfl (by rw[HE1.o];exact⟨_,rfl,QE _ _,HBL.o⟩);rw[results_cell_tmp rfl];go_simp
 go_wp2_with fail
 clear hv0 hv1 hv2 hv3 hmm hlk hcp hcpm hcpx;have Hpb2:Hid (((w1.alloc (.map kmap 4)).alloc (.cells #[.int .i64 3,.int .i64 0,.int .i64 0,.slice none 0 0,.int .i64 0] 56)).heap[pb]?=some (.cells cs 9)):=QQ (QQ Hpb.o);have HBx:=Zh (HB2.o.alloc (.cells #[.int .i64 3,.int .i64 0,.int .i64 0,.slice none 0 0,.int .i64 0] 56));have HX:=Zh (Qh (w1.alloc (.map kmap 4)) (.cells #[.int .i64 3,.int .i64 0,.int .i64 0,.slice none 0 0,.int .i64 0] 56));have Htop:Hid (pb<w1.heap.size/\w.heap.size+1<=w1.heap.size):=⟨(Array.getElem?_eq_some_iff.1 Hpb.o).1,HB1.o.top⟩;refine(YG (bsL b) _ (HL.o.below HBx.o.bel) (by have:=Hbt.o.1;simp[bsL,ByteArray.size];omega)).mono ?_;rw[Vd,Hn.o];rintro e w3⟨rfl,hb3⟩;have Hpb3:=Zh (Qd Hpb2.o hb3);have HB3:=Zh (HBx.o.below hb3);have HX3:Hid (w3.heap[w1.heap.size+1]?=some (.cells #[.int .i64 3,.int .i64 0,.int .i64 0,.slice none 0 0,.int .i64 0] 56)):=by show _=_;have:=Qd HX.o hb3;simpa using this
 clear hb3 Hpb2 HBx HX;obtain⟨bx,hbx⟩:∃bx,w1.heap.size+1=bx:=⟨_,rfl⟩;have Hbx:Hid (pb<bx/\w.heap.size+1<=bx):=by have:=Htop.o;show _/\_;omega
 have hqx:=Qb HX3.o;have hfx:=Qp HX3.o;have HXs:=Zh (QJ (o:=1) (v:=.int .i64 n) HX3.o);have hqs:=Qb HXs.o;have HBs:=Zh (HB3.o.lift (Qw (a:=⟨w1.heap.size+1,1,none⟩) (v:=.int .i64 n) (Below.refl (w.heap.size+1) w3) (by have:=Htop.o;show _<=w1.heap.size+1;omega)) (by simp));have Hpbs:Hid ((w3.setCell ⟨w1.heap.size+1,1,none⟩ (.int .i64 n)).heap[pb]?=some (.cells cs 9)):=(Qm (by show pb≠w1.heap.size+1;have:=Htop.o;omega)).trans Hpb3.o;have hcp2:=Qb Hpbs.o;clear hbx Hbx
 cases ok with
 |false=>
  have HE1:Hid (QZ L=(⟨0,0,0,⟨[],0⟩⟩,1)):=by show _=_;rw[HE0.o];exact U4 (.inr (.inl (by show(Ug b).2=false;rw[Hn.o])))
  go_wp2_with fail
  clear hqx hfx hcp2 hqs;refine(VX 1 _).mono ?_;rintro e wz⟨rfl,hbz⟩;have HBz:=Zh (HBs.o.below hbz);clear hbz;have hq0:=HBz.o.cells0;have hf0:=HBz.o.free0;have HS:=Zh (HBz.o.put5 (.int .i64 0) (.int .i64 0) (.int .i64 0) (.slice none 0 0) (.int .i64 0) rfl);have hqs:=HS.o.cells0;have HBL:=Zh HS.o.bel;clear HS;go_wp2;refine bodyPost_ret (v:=.tuple #[Yg ⟨0,0,0,⟨[],0⟩⟩ (.slice none 0 0),.int .i64 1]) ?_ rfl (by rw[HE1.o];exact⟨_,rfl,QE _ _,HBL.o⟩);rw[results_cell_tmp rfl];go_simp
 |true=>
  obtain⟨⟨f,okf⟩,hf⟩:∃E,Ug t=E:=⟨_,rfl⟩;have HEf:Hid (QZ L=if okf then Uc ⟨3,n,f,⟨[],0⟩⟩else(⟨0,0,0,⟨[],0⟩⟩,1)):=by show _=_;rw[HE0.o];exact E5 Hn.o hf
  have Hf:=Zh hf;clear hf;go_wp2_with fail
  clear hqx hfx hcp2 hqs;refine(YG (bsL t) _ (HL.o.below HBs.o.bel) (by have:=Hbt.o.2;simp[bsL,ByteArray.size];omega)).mono ?_;rw[Vd,Hf.o];rintro e w5⟨rfl,hb5⟩;have HX5:=Zh (Qd HXs.o hb5);have HB5:=Zh (HBs.o.below hb5);clear hb5;have hqx:=Qb HX5.o;have hfx:=Qp HX5.o;have HXt:=Zh (QJ (o:=2) (v:=.int .i64 f) HX5.o);have HBt:=Zh (HB5.o.lift (Qw (a:=⟨w1.heap.size+1,2,none⟩) (v:=.int .i64 f) (Below.refl (w.heap.size+1) w5) (by have:=Htop.o;show _<=w1.heap.size+1;omega)) (by simp));have hqs:=Qb HXt.o
  cases okf with
  |false=>
   have HE1:Hid (QZ L=(⟨0,0,0,⟨[],0⟩⟩,1)):=HEf.o;go_wp2_with fail
   clear hqx hfx hqs;refine(VX 1 _).mono ?_;rintro e wz⟨rfl,hbz⟩;have HBz:=Zh (HBt.o.below hbz);clear hbz;have hq0:=HBz.o.cells0;have hf0:=HBz.o.free0;have HS:=Zh (HBz.o.put5 (.int .i64 0) (.int .i64 0) (.int .i64 0) (.slice none 0 0) (.int .i64 0) rfl);have hqs:=HS.o.cells0;have HBL:=Zh HS.o.bel;clear HS;go_wp2;refine bodyPost_ret (v:=.tuple #[Yg ⟨0,0,0,⟨[],0⟩⟩ (.slice none 0 0),.int .i64 1]) ?_ rfl (by rw[HE1.o];exact⟨_,rfl,QE _ _,HBL.o⟩);rw[results_cell_tmp rfl];go_simp
  |true=>
   have HE1:Hid (QZ L=Uc ⟨3,n,f,⟨[],0⟩⟩):=HEf.o;go_wp2_with fail
   clear hqx hfx hqs;have HRx:=Zh (QE (w5.setCell ⟨w1.heap.size+1,2,none⟩ (.int .i64 f)) (λx=>w.heap.size+1<=x));refine(Xd _ ⟨3,n,f,⟨[],0⟩⟩ _ _ HRx.o).mono ?_;rintro e w8⟨rfl,hb8⟩;have HB8:=Zh (HBt.o.below hb8);have HR8:=Zh (Qc.below HRx.o hb8);have hqx:=Qb (Qd HXt.o hb8);clear hb8;by_cases h0:UJ ⟨3,n,f,⟨[],0⟩⟩=0
   .have HE':Hid (QZ L=(⟨3,n,f,⟨[],0⟩⟩,0)):=by show _=_;rw[HE1.o];exact if_pos h0
    have HS:=Zh (HB8.o.put5 (.int .i64 3) (.int .i64 n) (.int .i64 f) (.slice none 0 0) (.int .i64 0) rfl);have hq0:=HB8.o.cells0;have hf0:=HB8.o.free0;have hqs:=HS.o.cells0;have HBL:=Zh HS.o.bel;have HRF:=Zh (Yi HR8.o (XB (b:=w.heap.size) (.int .i64 3) (.int .i64 n) (.int .i64 f) (.slice none 0 0) (.int .i64 0)));rw[h0];clear h0 HS;go_wp2;refine bodyPost_ret (v:=.tuple #[Yg ⟨3,n,f,⟨[],0⟩⟩ (.slice none 0 0),.int .i64 0]) ?_ rfl (by rw[HE'.o];exact⟨_,rfl,HRF.o,HBL.o⟩);rw[results_cell_tmp rfl];go_simp
   have HE':Hid (QZ L=(⟨0,0,0,⟨[],0⟩⟩,UJ ⟨3,n,f,⟨[],0⟩⟩)):=by show _=_;rw[HE1.o];exact if_neg h0
   have hne:(UJ ⟨3,n,f,⟨[],0⟩⟩ != 0)=true:=bne_iff_ne.2 h0;generalize UJ ⟨3,n,f,⟨[],0⟩⟩=pe at *;clear h0 hqx HR8;go_wp2_with fail
   refine(VX pe _).mono ?_;rintro e wz⟨rfl,hbz⟩;have HBz:=Zh (HB8.o.below hbz);clear hbz;have hq0:=HBz.o.cells0;have hf0:=HBz.o.free0;have HS:=Zh (HBz.o.put5 (.int .i64 0) (.int .i64 0) (.int .i64 0) (.slice none 0 0) (.int .i64 0) rfl);have hqs:=HS.o.cells0;have HBL:=Zh HS.o.bel;clear HS;go_wp2;refine bodyPost_ret (v:=.tuple #[Yg ⟨0,0,0,⟨[],0⟩⟩ (.slice none 0 0),.int .i64 pe]) ?_ rfl (by rw[HE'.o];exact⟨_,rfl,QE _ _,HBL.o⟩);rw[results_cell_tmp rfl];go_simp
end
section
open Go.RowKit
def after(s:List UInt8):List (List UInt8):=Lib.splitK [10] 1 (Lib.count s [10]) s
theorem Qai{l:List UInt8}(h:10∉l):after l=[l]:=by
 unfold after;rw[Lib.count_one,List.count_eq_zero.2 h];rfl
theorem QfL{a l:List UInt8}(h:10∉a):after (a++10::l)=(a++[10])::after l:=by
 unfold after;rw[Lib.count_one,List.count_append,List.count_eq_zero.2 h,List.count_cons_self,Nat.zero_add,Lib.count_one]
 conv=>lhs;unfold Lib.splitK
 rw[Qbm h,if_neg (by rw[beq_iff_eq];omega)];have e:a++10::l=(a++[10])++l:=by simp
 have e1:(a++10::l).take ((a.length:Int).toNat+1)=a++[10]:=by rw[e];exact List.take_left' (by simp)
 have e2:(a++10::l).drop ((a.length:Int).toNat+[(10:UInt8)].length)=l:=by rw[e];exact List.drop_left' (by simp)
 rw[e1,e2]
theorem QfM(l:List UInt8):(after l).length<=l.length+1:=by
 unfold after;have h:=Lib.splitB_length_le ⟨#[10]⟩ 1 (Lib.count l [10]) ⟨l.toArray⟩;have h2:=congrArg List.length (Lib.splitB_data ⟨#[10]⟩ 1 (Lib.count l [10]) ⟨l.toArray⟩);rw[List.length_map]at h2;have h3:Lib.count l [10]<=l.length:=by rw[Lib.count_one];exact List.count_le_length
 have h4:(Lib.splitK [10] 1 (Lib.count l [10]) l).length=(Lib.splitB ⟨#[10]⟩ 1 (Lib.count l [10]) ⟨l.toArray⟩).length:=h2.symm;omega
theorem Qaa(S:List UInt8)(w:World)(hL:Laid w)(hs:S.length<4294967281):Calls prog 123 #[.string (bsL S),.string ⟨#[10]⟩] w λe w'=>
  ∃(cap:Nat)(cs:Array Value),e=.returned (.slice (some ⟨w.heap.size,0,none⟩) (after S).length cap)/\(after S).length<=cap/\w'=w.alloc (.cells cs 9)/\∀k (h:k<(after S).length),cs[k]?=some (.string (bsL (after S)[k])):=by
 obtain⟨m,hm⟩:=hL.ml;have hsz:(bsL S).size=S.length:=by simp[bsL,ByteArray.size]
 have hcl:=Lib.countB_le ⟨#[10]⟩ (by decide) _ (bsL S) Znl
 have hN:((Lib.countB (bsL S) ⟨#[10]⟩+1:Nat):Int)=min (if(-1:Int)<0 then(Lib.countB (bsL S) ⟨#[10]⟩:Int)+1 else -1) (((bsL S).size:Int)+1):=by
  rw[if_pos (by decide)];omega
 have hd:(Lib.splitB ⟨#[10]⟩ 1 (Lib.countB (bsL S) ⟨#[10]⟩+1-1) (bsL S))=(after S).map bsL:=by
  rw[<-Qgf (Lib.splitB ⟨#[10]⟩ 1 (Lib.countB (bsL S) ⟨#[10]⟩+1-1) (bsL S)),Lib.splitB_data];rfl
 have hl:=Lib.splitB_length_le ⟨#[10]⟩ 1 (Lib.countB (bsL S) ⟨#[10]⟩+1-1) (bsL S);rw[hd,List.length_map]at hl;have Hd:=Zh hd;have Hl:=Zh hl;have HN:=Zh hN;have Hm:=Zh hm;clear hd hl hN hcl hm;go_enter func123,ntmps123;go_wp2_with fail
 refine(Tryz.strings_genSplit (bsL S) ⟨#[10]⟩ 1 (-1) (Lib.countB (bsL S) ⟨#[10]⟩+1) m w (by omega) Hm.o (by decide) (by decide) (by decide) (by decide) HN.o).mono ?_;rw[Hd.o,List.length_map];rintro e w1⟨rfl,rfl⟩;go_wp2;go_ret
 exact⟨_,_,rfl,by have:=Hl.o;omega,rfl,λk h=>by
  rw[Eg (by simpa using h)];simp⟩
theorem Qfw{s:List UInt8}(h:Lib.hasSuffix s [10]=true):10∈s:=by
 unfold Lib.hasSuffix at h;exact(List.isSuffixOf_iff_suffix.1 h).subset (by simp)
theorem Qfv(a:List UInt8):Lib.hasSuffix (a++[10]) [10]=true:=by
 unfold Lib.hasSuffix;exact List.isSuffixOf_iff_suffix.2 (List.suffix_append a [10])
theorem QgO(T:List UInt8)(w:World)(hs:T.length<=9223372036854775807)(h:10∉T):Calls prog 124 #[.string (bsL T),.string ⟨#[10]⟩] w λe w'=>e=.returned (.bool false)/\Below w.heap.size w w':=by
 refine(Tryz.strings_HasSuffix (bsL T) ⟨#[10]⟩ w (by simp[bsL,ByteArray.size];omega)).mono ?_;rintro e w1⟨rfl,rfl⟩
 have e1:Lib.hasSuffix (bsL T).data.toList (⟨#[10]⟩:ByteArray).data.toList=false:=by
  cases hx:Lib.hasSuffix (bsL T).data.toList (⟨#[10]⟩:ByteArray).data.toList with
  |false=>rfl
  |true=>exact absurd (Qfw hx) h
 rw[e1];exact⟨rfl,Below.refl _ _⟩
theorem Qfx(a:List UInt8)(w:World)(hs:a.length<=60000):Calls prog 124 #[.string (bsL (a++[10])),.string ⟨#[10]⟩] w λe w'=>e=.returned (.bool true)/\Below w.heap.size w w':=by
 refine(Tryz.strings_HasSuffix (bsL (a++[10])) ⟨#[10]⟩ w (by simp[bsL,ByteArray.size];omega)).mono ?_;rintro e w1⟨rfl,rfl⟩;have e1:Lib.hasSuffix (bsL (a++[10])).data.toList (⟨#[10]⟩:ByteArray).data.toList=true:=Qfv a;rw[e1];exact⟨rfl,Below.refl _ _⟩
end
end Go.Proofs.YthkgjohhbdipcaaGreatDoor
