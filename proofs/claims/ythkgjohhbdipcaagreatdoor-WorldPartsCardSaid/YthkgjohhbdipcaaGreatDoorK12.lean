/- Texts laid one behind the other: KNext, Same, KeepSame, Replay, WBase, DBox. No condition beyond theirs. -/
import Derived.Test.YthkgjohhbdipcaaGreatDoorK9
import Derived.Test.YthkgjohhbdipcaaGreatDoorK3
import Derived.Test.YthkgjohhbdipcaaGreatDoorK11
import Derived.Test.YthkgjohhbdipcaaGreatDoorK2
import Derived.Test.YthkgjohhbdipcaaGreatDoorK1
import Derived.Laws.StructEq
import Derived.KernelRfl
import Derived.Test.YthkgjohhbdipcaaGreatDoorK8
import Derived.Test.YthkgjohhbdipcaaGreatDoorK6
set_option linter.all false
namespace Go.Proofs.YthkgjohhbdipcaaGreatDoor
open Go.RowKit
attribute [local go_sem] gives givesUpon
theorem tup_tight {g B : Nat} {T : List (List TIns)} {te : Int} : stableG g (fun v W=>∃ a c,v = .tuple #[.slice a T.length c,.int .i64 te]∧RdChain W (Dg B g) (.slice a T.length c) T):=fun _ _ _ hg ⟨a,c,h1,h2⟩ =>
 ⟨a,c,h1,h2.keep (fun _ h _=>h) (fun b hb hl=>hg.block b hl (fun e=>hb.2 (by injection e))) hg.size⟩
theorem chain_stableD {g B : Nat} {l : List (List TIns)} : stableG g (fun v W=>∃ a c,v = .slice a l.length c∧RdChain W (Dg B g) v l):=fun _ _ _ hg ⟨a,c,h1,h2⟩ =>
 ⟨a,c,h1,h2.keep (fun _ h _=>h) (fun b hb hl=>hg.block b hl (fun e=>hb.2 (by injection e))) hg.size⟩
theorem pol_stableD {g B : Nat} {l : List TRule} {d : Int} : stableG g (fun v W=>∃ a c,v = polV (.slice a l.length c) d∧RdRules W (Dg B g) (.slice a l.length c) l):=fun _ _ _ hg ⟨a,c,h1,h2⟩ =>
 ⟨a,c,h1,h2.keep (fun _ h _=>h) (fun b hb hl=>hg.block b hl (fun e=>hb.2 (by injection e))) hg.size⟩
theorem OwnCells.put' {W : World} {B0 B g n c : Nat} {m : List TCell} {A : (Nat → Bool) → List TCell} {done : Nat → Bool} {w0 : World} (h : PutInv w0 B0 52 4 g n c (fun W=>cellR W (Dg B g)) A done W) (e : A done = m) : OwnCells W B0 B g n c m:=by
 subst e
 exact h.own
theorem cellR_below {B g : Nat} (W W' : World) (y : TCell) (cs : List Value) (hb : Below W.heap.size W W') (h : cellR W (Dg B g) y cs) : cellR W' (Dg B g) y cs:=h.keep (fun _ h _=>h) (fun b _ hl=>hb.block b hl) hb.size
theorem nil_cells (w : World) (D : Nat → Prop) : RdCells w D (.slice none 0 0) []:=⟨none,0,rfl,Nat.le_refl _,by decide,fun _=>rfl,fun h=>by cases h⟩
theorem below_put {w W : World} {B g k : Nat} {o : Bool} {u v : Value} {d : Int} (h : Below B w W) (hg : B≤g) : Below B w ((((W.setCell ⟨g,k * 4,none⟩ (.bool o)).setCell ⟨g,k * 4 + 1,none⟩ u).setCell ⟨g,k * 4 + 2,none⟩ v).setCell ⟨g,k * 4 + 3,none⟩ (.int .i64 d)) :=
 set_below (set_below (set_below (set_below h hg) hg) hg) hg
theorem nil_rules' (w : World) (D : Nat → Prop) : RdRules w D (.slice none 0 0) []:=⟨none,0,rfl,Nat.le_refl _,by decide,fun _=>rfl,fun h=>by cases h⟩
set_option maxRecDepth 100000 in
set_option maxHeartbeats 16000000 in
theorem next_any (v u : Value) (l : List TCell) (r : TRec) (D D' : Nat → Prop) (w : World) (h : RdCells w D v l) (h' : RdRules w D' u r.p.rules) :
  Calls Tryz.prog 98 #[v,recV r u] w fun e w'=>∃ a1 c1,e = .returned (.tuple #[.slice a1 (nextE l r).1.length c1,.int .i64 (nextE l r).2])∧RdCells w' (fun b=>w.heap.size≤b) (.slice a1 (nextE l r).1.length c1) (nextE l r).1∧Below w.heap.size w w':=by
 have H:=Lib.hid h
 have Hr : Hid (RdRules w (fun b=>b < w.heap.size) u r.p.rules):=h'.keep (fun _ _ hl=>hl) (fun _ _ _=>rfl) (Nat.le_refl _)
 obtain ⟨kd,cl,fr,p⟩:=r
 dsimp only at Hr h' ⊢
 obtain ⟨a,c,rfl,_⟩:=Sl.form h
 obtain ⟨ap,cp,rfl,_⟩:=Sl.form h'
 clear h h'
 go_enter Tryz.func98,Tryz.ntmps98
 go_wp2_with fail
 have HB:=Lib.hid (Bx.one (w:=w) (o:=.cells #[.int .i64 kd,.int .i64 cl,.int .i64 fr,.slice ap p.rules.length cp,.int .i64 p.dflt] 56))
 refine (kcheck_any _ l D _ (H.out.below HB.out.bel)).mono ?_
 rintro e w1 ⟨rfl,hb1⟩
 have HB1:=Lib.hid (HB.out.below hb1)
 have H1:=Lib.hid ((H.out.below HB.out.bel).below hb1)
 have Hr1:=Lib.hid (RdRules.below (RdRules.below Hr.out HB.out.bel) hb1)
 clear hb1 HB H Hr
 by_cases h0 : cellsE l = 0
 ·rw [h0]
  have H0:=Lib.hid h0
  have hq0:=HB1.out.cells0
  go_wp2_with fail
  refine (notecheck_any _ ⟨kd,cl,fr,p⟩ _ _ Hr1.out).mono ?_
  rintro e w2 ⟨rfl,hb2⟩
  have HB2:=Lib.hid (HB1.out.below hb2)
  have H2:=Lib.hid (H1.out.below hb2)
  have Hr2:=Lib.hid (RdRules.below Hr1.out hb2)
  clear hb2 HB1 H1 Hr1 hq0
  by_cases h3 : recE ⟨kd,cl,fr,p⟩ = 0
  ·rw [h3]
   obtain ⟨hk1,hk2,hcl0,hcl1,hfr0,hfr1,hnf,hno,hokp⟩:=recE_ok h3
   dsimp only at hk1 hk2 hcl0 hcl1 hfr0 hfr1 hokp
   clear hnf hno
   obtain ⟨hl4,hce⟩:=(cellsE_iff l).1 h0
   obtain ⟨k,rfl⟩ : ∃ k : Nat,cl = k:=⟨cl.toNat,by omega⟩
   obtain ⟨j,rfl⟩ : ∃ j : Nat,fr = j:=⟨fr.toNat,by omega⟩
   obtain ⟨x,hx⟩ : ∃ x,l[k]? = some x:=⟨_,List.getElem?_eq_getElem (by omega)⟩
   obtain ⟨y,hy⟩ : ∃ y,l[j]? = some y:=⟨_,List.getElem?_eq_getElem (by omega)⟩
   have hxk : cellAt l k = x:=by unfold cellAt;rw [Int.toNat_natCast,List.getD_eq_getElem?_getD,hx];rfl
   have hyj : cellAt l j = y:=by unfold cellAt;rw [Int.toNat_natCast,List.getD_eq_getElem?_getD,hy];rfl
   have HN : Hid (nextE l ⟨kd,k,j,p⟩ = if x.open_ = decide (kd = 1 ∨ kd = 3) then ([],6) else if (nextCell l ⟨kd,k,j,p⟩).2 ≠ 0 then ([],(nextCell l ⟨kd,k,j,p⟩).2) else (l.set k (nextCell l ⟨kd,k,j,p⟩).1,0)):=by
    show nextE _ _ = _
    unfold nextE
    rw [if_neg (by rw [h0];simp),if_neg (by rw [h3];simp)]
    dsimp only
    rw [hxk,Int.toNat_natCast]
   have Hx:=Lib.hid hx
   have Hy:=Lib.hid hy
   have Hxk:=Lib.hid hxk
   have Hyj:=Lib.hid hyj
   have Hsm : Hid (∀ c ∈ l,smallCell c):=fun c hc=>cell_small (hce c hc)
   have Hokp:=Lib.hid hokp
   have Hl4:=Lib.hid hl4
   have hkl : (k : Int) < (l.length : Int):=by omega
   have hjl : (j : Int) < (l.length : Int):=by omega
   have hk0 : (0 : Int)≤(k : Int):=by omega
   have hj0 : (0 : Int)≤(j : Int):=by omega
   have hkw : IntKind.i64.wrap (k : Int) = (k : Int):=IntWalk.i64_in _ (by omega)
   have hjw : IntKind.i64.wrap (j : Int) = (j : Int):=IntWalk.i64_in _ (by omega)
   have HT:=Lib.hid HB2.out.top
   clear h0 h3 hokp hce hl4 hxk hyj hx hy hcl0 hcl1 hfr0 hfr1
   have hq0:=HB2.out.cells0
   go_wp2_with fail
   refine (keepcopy_any _ l D _ H2.out (by have:=Hl4.out;omega) Hsm.out).mono ?_
   rintro e w3 ⟨v3,rfl,ho3,hb3⟩
   have HB3:=Lib.hid (HB2.out.below hb3)
   have Hr3:=Lib.hid (RdRules.below Hr2.out hb3)
   obtain ⟨a3,c3,rfl⟩:=ho3.slice
   obtain ⟨g,rfl,hgb,hgl,_⟩:=OwnSl.addr ho3 (by have:=Hl4.out;omega)
   have HO : Hid (OwnCells w3 w2.heap.size w2.heap.size g l.length c3 l):=ho3.monoR fun _ _ _ hy=>hy.keep (fun b hb _=>⟨hb.1,fun e=>hb.2 (by rw [e];rfl)⟩) (fun _ _ _=>rfl) (Nat.le_refl _)
   have Hg : Hid (w2.heap.size≤g∧w.heap.size + 1≤w2.heap.size):=⟨hgb,HT.out⟩
   have HBL3 : Hid (Below w.heap.size w w3):=HB3.out.bel
   clear ho3 hb3 hgb hgl hq0 HB2 H2 Hr2 Hsm
   obtain ⟨xa1,xa2,xc1,xc2,x0,x1,x2,x3,hxc,hxp⟩:=HO.out.cells Hx.out
   have Hxc:=Lib.hid hxc
   have Hxp:=Lib.hid hxp
   clear hxc hxp
   have hq0:=HB3.out.cells0
   have Hc0 : Hid (∀ W,Cls w3.heap.size w3 W → (∀ i,W.cell? ⟨w.heap.size,i,none⟩ = (#[Value.int .i64 kd,.int .i64 k,.int .i64 j,.slice ap p.rules.length cp,.int .i64 p.dflt] : Array Value)[i]?)∧W.cell? ⟨g,k * 4,none⟩ = some (.bool x.open_)):=fun W hC=>⟨(HB3.out.below hC.2).cells0,by obtain ⟨_,_,_,_,h,_⟩:=(HO.out.below hC.2).cells Hx.out;exact h⟩
   go_wp2_with fail
   have hkd : kd = 1 ∨ kd = 3 ∨ kd = 2 ∨ kd = 4:=by omega
   clear hk1 hk2
   rcases hkd with rfl | rfl | rfl | rfl
   ·cases xo : x.open_ with
    | true =>
     refine wp_region_exact3 w3.heap.size (Nat.le_refl _) (by kernel_rfl) (by kernel_rfl) ?_
     repeat (refine monoE_step (fun K hK=>?_);apply Exists.intro;refine ⟨fun W hC R hR=>?_,?_⟩;(have hcc:=Hc0.out W hC;rw [xo] at hcc;go_simp;exact hR _ _ (Below.refl _ _) rfl);(go_simp;refine hK _ ?_;clear hK K))
     intro w4 hC4
     have HB4:=Lib.hid (HB3.out.below hC4.2)
     have HO4:=Lib.hid (HO.out.below hC4.2)
     have Hr4:=Lib.hid (RdRules.below Hr3.out hC4.2)
     have HBL : Hid (Below w.heap.size w w4):=HB4.out.bel
     clear hC4 Hc0 HB3 HO Hr3 HBL3 Hxc Hxp x0 x1 x2 x3 hq0
     have HE : Hid (nextE l ⟨1,k,j,p⟩ = ([],6)):=by show nextE _ _ = _;rw [HN.out,if_pos (by rw [xo];decide)]
     go_wp2
     go_ret2
     rw [HE.out]
     exact ⟨_,_,rfl,nil_cells _ _,HBL.out⟩
    | false =>
     refine wp_region_exact3 w3.heap.size (Nat.le_refl _) (by kernel_rfl) (by kernel_rfl) ?_
     repeat (refine monoE_step (fun K hK=>?_);apply Exists.intro;refine ⟨fun W hC R hR=>?_,?_⟩;(have hcc:=Hc0.out W hC;rw [xo] at hcc;go_simp;exact hR _ _ (Below.refl _ _) rfl);(go_simp;refine hK _ ?_;clear hK K))
     intro w4 hC4
     have HB4:=Lib.hid (HB3.out.below hC4.2)
     have HO4:=Lib.hid (HO.out.below hC4.2)
     have Hr4:=Lib.hid (RdRules.below Hr3.out hC4.2)
     have HBL : Hid (Below w.heap.size w w4):=HB4.out.bel
     clear hC4 Hc0 HB3 HO Hr3 HBL3 Hxc Hxp x0 x1 x2 x3 hq0
     have HN' : Hid (nextE l ⟨1,k,j,p⟩ = if (nextCell l ⟨1,k,j,p⟩).2 ≠ 0 then ([],(nextCell l ⟨1,k,j,p⟩).2) else (l.set k (nextCell l ⟨1,k,j,p⟩).1,0)):=by show nextE _ _ = _;rw [HN.out,if_neg (by rw [xo];decide)]
     clear HN
     have HP:=Lib.hid (Bx.one (w:=w4) (o:=(.cells #[.slice ap p.rules.length cp,.int .i64 p.dflt] 38)))
     have HBq:=Lib.hid (HB4.out.below HP.out.bel)
     have HOq:=Lib.hid (HO4.out.below HP.out.bel)
     have Hrq:=Lib.hid (RdRules.below Hr4.out HP.out.bel)
     have hqp:=HP.out.cells0
     have hqb:=HBq.out.cells0
     have hq4:=HB4.out.cells0
     have HgL:=Lib.hid (HO4.out.lt (by have:=Hl4.out;omega)).2
     go_wp2_with fail
     refine (begin_any _ p _ _ Hrq.out).mono ?_
     obtain ⟨⟨Y,ye⟩,hY⟩ : ∃ E,beginE p = E:=⟨_,rfl⟩
     have HY:=Lib.hid hY
     have HNC : Hid (nextCell l ⟨1,k,j,p⟩ = (Y,ye)):=by show nextCell _ _ = _;unfold nextCell;rw [if_neg (by show ¬ (1 : Int) = 3;decide),if_pos rfl];exact hY
     clear hY
     rw [HY.out]
     rintro e w5 ⟨ya1,yc1,ya2,yc2,rfl,hyc,hyp,hb5⟩
     dsimp only at hyc hyp
     have HB5:=Lib.hid (HBq.out.below hb5)
     have HO5:=Lib.hid (HOq.out.below hb5)
     have hge : ∀ b,(w4.alloc (.cells #[.slice ap p.rules.length cp,.int .i64 p.dflt] 38)).heap.size≤b → Dg w2.heap.size g b:=fun b hb=>by
      have h1 : w4.heap.size + 1≤b:=by simpa using hb
      have h2:=Hg.out
      have h3:=HgL.out
      exact ⟨by omega,by omega⟩
     have HYC : Hid (RdChain w5 (Dg w2.heap.size g) (.slice ya1 Y.chain.length yc1) Y.chain):=hyc.keep (fun b hb _=>hge b hb) (fun _ _ _=>rfl) (Nat.le_refl _)
     have HYP : Hid (RdRules w5 (Dg w2.heap.size g) (.slice ya2 Y.p.rules.length yc2) Y.p.rules):=hyp.keep (fun b hb _=>hge b hb) (fun _ _ _=>rfl) (Nat.le_refl _)
     clear hge
     clear hyc hyp hb5
     obtain ⟨za1,za2,zc1,zc2,z0,z1,z2,z3,_,_⟩:=HO5.out.cells Hx.out
     have hfz:=HO5.out.frz (by have:=Hl4.out;omega)
     have HOw:=Lib.hid (HO5.out.put (y:=Y) Hx.out HYC.out HYP.out)
     have HBL5:=Lib.hid (below_put (k:=k) (o:=Y.open_) (u:=.slice ya1 Y.chain.length yc1) (v:=.slice ya2 Y.p.rules.length yc2) (d:=Y.p.dflt) HB5.out.bel (show w.heap.size≤g by have:=Hg.out;omega))
     clear hqp hqb hq4
     by_cases hye : ye = 0
     ·subst hye
      have HE : Hid (nextE l ⟨1,k,j,p⟩ = (l.set k Y,0)):=by show nextE _ _ = _;rw [HN'.out,HNC.out];simp
      have HRD:=Lib.hid (HOw.out.read (B':=w.heap.size) (by have:=Hg.out;omega) (by have:=Hg.out;omega))
      have hls : (l.set k Y).length = l.length:=List.length_set
      have Hls:=Lib.hid hls
      clear hls
      go_wp2
      go_ret2
      rw [HE.out]
      dsimp only
      rw [Hls.out]
      exact ⟨_,_,rfl,HRD.out,HBL5.out⟩
     ·have hne : (ye != 0) = true:=bne_iff_ne.2 hye
      have HE : Hid (nextE l ⟨1,k,j,p⟩ = ([],ye)):=by show nextE _ _ = _;rw [HN'.out,HNC.out];simp [hye]
      clear hye
      go_wp2
      go_ret2
      rw [HE.out]
      exact ⟨_,_,rfl,nil_cells _ _,HBL5.out⟩
   ·cases xo : x.open_ with
    | true =>
     refine wp_region_exact3 w3.heap.size (Nat.le_refl _) (by kernel_rfl) (by kernel_rfl) ?_
     repeat (refine monoE_step (fun K hK=>?_);apply Exists.intro;refine ⟨fun W hC R hR=>?_,?_⟩;(have hcc:=Hc0.out W hC;rw [xo] at hcc;go_simp;exact hR _ _ (Below.refl _ _) rfl);(go_simp;refine hK _ ?_;clear hK K))
     intro w4 hC4
     have HB4:=Lib.hid (HB3.out.below hC4.2)
     have HO4:=Lib.hid (HO.out.below hC4.2)
     have Hr4:=Lib.hid (RdRules.below Hr3.out hC4.2)
     have HBL : Hid (Below w.heap.size w w4):=HB4.out.bel
     clear hC4 Hc0 HB3 HO Hr3 HBL3 Hxc Hxp x0 x1 x2 x3 hq0
     have HE : Hid (nextE l ⟨3,k,j,p⟩ = ([],6)):=by show nextE _ _ = _;rw [HN.out,if_pos (by rw [xo];decide)]
     go_wp2
     go_ret2
     rw [HE.out]
     exact ⟨_,_,rfl,nil_cells _ _,HBL.out⟩
    | false =>
     refine wp_region_exact3 w3.heap.size (Nat.le_refl _) (by kernel_rfl) (by kernel_rfl) ?_
     repeat (refine monoE_step (fun K hK=>?_);apply Exists.intro;refine ⟨fun W hC R hR=>?_,?_⟩;(have hcc:=Hc0.out W hC;rw [xo] at hcc;go_simp;exact hR _ _ (Below.refl _ _) rfl);(go_simp;refine hK _ ?_;clear hK K))
     intro w4 hC4
     have HB4:=Lib.hid (HB3.out.below hC4.2)
     have HO4:=Lib.hid (HO.out.below hC4.2)
     have Hr4:=Lib.hid (RdRules.below Hr3.out hC4.2)
     have HBL : Hid (Below w.heap.size w w4):=HB4.out.bel
     clear hC4 Hc0 HB3 HO Hr3 HBL3 Hxc Hxp x0 x1 x2 x3 hq0
     have HN' : Hid (nextE l ⟨3,k,j,p⟩ = if (nextCell l ⟨3,k,j,p⟩).2 ≠ 0 then ([],(nextCell l ⟨3,k,j,p⟩).2) else (l.set k (nextCell l ⟨3,k,j,p⟩).1,0)):=by show nextE _ _ = _;rw [HN.out,if_neg (by rw [xo];decide)]
     clear HN
     have HP:=Lib.hid (Bx.one (w:=w4) (o:=(.cells #[.slice ap p.rules.length cp,.int .i64 p.dflt] 38)))
     have HBq:=Lib.hid (HB4.out.below HP.out.bel)
     have HOq:=Lib.hid (HO4.out.below HP.out.bel)
     have Hrq:=Lib.hid (RdRules.below Hr4.out HP.out.bel)
     have hqp:=HP.out.cells0
     have hqb:=HBq.out.cells0
     have hq4:=HB4.out.cells0
     have HgL:=Lib.hid (HO4.out.lt (by have:=Hl4.out;omega)).2
     obtain ⟨ja1,ja2,jc1,jc2,j0,j1,j2,j3,hjc,hjp⟩:=HOq.out.cells Hy.out
     have Hjp:=Lib.hid hjp
     clear hjc hjp
     cases yo : y.open_ with
     | false =>
      have HNC : Hid (nextCell l ⟨3,k,j,p⟩ = (zeroCell,5)):=by show nextCell _ _ = _;unfold nextCell;rw [if_pos rfl,Hyj.out,if_neg (by rw [yo];decide)]
      rw [yo] at j0
      have HBLq : Hid (Below w.heap.size w _):=HBq.out.bel
      have HE : Hid (nextE l ⟨3,k,j,p⟩ = ([],5)):=by show nextE _ _ = _;rw [HN'.out,HNC.out];simp
      go_wp2
      go_ret2
      rw [HE.out]
      exact ⟨_,_,rfl,nil_cells _ _,HBLq.out⟩
     | true =>
      rw [yo] at j0
      go_wp2_with fail
      refine (begin_any _ y.p _ _ Hjp.out).mono ?_
      clear j0 j1 j2 j3
      obtain ⟨⟨Y,ye⟩,hY⟩ : ∃ E,beginE y.p = E:=⟨_,rfl⟩
      have HY:=Lib.hid hY
      have HNC : Hid (nextCell l ⟨3,k,j,p⟩ = (Y,ye)):=by show nextCell _ _ = _;unfold nextCell;rw [if_pos rfl,Hyj.out,if_pos yo];exact hY
      clear hY
      rw [HY.out]
      rintro e w5 ⟨ya1,yc1,ya2,yc2,rfl,hyc,hyp,hb5⟩
      dsimp only at hyc hyp
      have HB5:=Lib.hid (HBq.out.below hb5)
      have HO5:=Lib.hid (HOq.out.below hb5)
      have hge : ∀ b,(w4.alloc (.cells #[.slice ap p.rules.length cp,.int .i64 p.dflt] 38)).heap.size≤b → Dg w2.heap.size g b:=fun b hb=>by
       have h1 : w4.heap.size + 1≤b:=by simpa using hb
       have h2:=Hg.out
       have h3:=HgL.out
       exact ⟨by omega,by omega⟩
      have HYC : Hid (RdChain w5 (Dg w2.heap.size g) (.slice ya1 Y.chain.length yc1) Y.chain):=hyc.keep (fun b hb _=>hge b hb) (fun _ _ _=>rfl) (Nat.le_refl _)
      have HYP : Hid (RdRules w5 (Dg w2.heap.size g) (.slice ya2 Y.p.rules.length yc2) Y.p.rules):=hyp.keep (fun b hb _=>hge b hb) (fun _ _ _=>rfl) (Nat.le_refl _)
      clear hge
      clear hyc hyp hb5
      obtain ⟨za1,za2,zc1,zc2,z0,z1,z2,z3,_,_⟩:=HO5.out.cells Hx.out
      have hfz:=HO5.out.frz (by have:=Hl4.out;omega)
      have HOw:=Lib.hid (HO5.out.put (y:=Y) Hx.out HYC.out HYP.out)
      have HBL5:=Lib.hid (below_put (k:=k) (o:=Y.open_) (u:=.slice ya1 Y.chain.length yc1) (v:=.slice ya2 Y.p.rules.length yc2) (d:=Y.p.dflt) HB5.out.bel (show w.heap.size≤g by have:=Hg.out;omega))
      clear hqp hqb hq4
      by_cases hye : ye = 0
      ·subst hye
       have HE : Hid (nextE l ⟨3,k,j,p⟩ = (l.set k Y,0)):=by show nextE _ _ = _;rw [HN'.out,HNC.out];simp
       have HRD:=Lib.hid (HOw.out.read (B':=w.heap.size) (by have:=Hg.out;omega) (by have:=Hg.out;omega))
       have hls : (l.set k Y).length = l.length:=List.length_set
       have Hls:=Lib.hid hls
       clear hls
       go_wp2
       go_ret2
       rw [HE.out]
       dsimp only
       rw [Hls.out]
       exact ⟨_,_,rfl,HRD.out,HBL5.out⟩
      ·have hne : (ye != 0) = true:=bne_iff_ne.2 hye
       have HE : Hid (nextE l ⟨3,k,j,p⟩ = ([],ye)):=by show nextE _ _ = _;rw [HN'.out,HNC.out];simp [hye]
       clear hye
       go_wp2
       go_ret2
       rw [HE.out]
       exact ⟨_,_,rfl,nil_cells _ _,HBL5.out⟩
   ·cases xo : x.open_ with
    | false =>
     refine wp_region_exact3 w3.heap.size (Nat.le_refl _) (by kernel_rfl) (by kernel_rfl) ?_
     repeat (refine monoE_step (fun K hK=>?_);apply Exists.intro;refine ⟨fun W hC R hR=>?_,?_⟩;(have hcc:=Hc0.out W hC;rw [xo] at hcc;go_simp;exact hR _ _ (Below.refl _ _) rfl);(go_simp;refine hK _ ?_;clear hK K))
     intro w4 hC4
     have HB4:=Lib.hid (HB3.out.below hC4.2)
     have HO4:=Lib.hid (HO.out.below hC4.2)
     have Hr4:=Lib.hid (RdRules.below Hr3.out hC4.2)
     have HBL : Hid (Below w.heap.size w w4):=HB4.out.bel
     clear hC4 Hc0 HB3 HO Hr3 HBL3 Hxc Hxp x0 x1 x2 x3 hq0
     have HE : Hid (nextE l ⟨2,k,j,p⟩ = ([],6)):=by show nextE _ _ = _;rw [HN.out,if_pos (by rw [xo];decide)]
     go_wp2
     go_ret2
     rw [HE.out]
     exact ⟨_,_,rfl,nil_cells _ _,HBL.out⟩
    | true =>
     refine wp_region_exact3 w3.heap.size (Nat.le_refl _) (by kernel_rfl) (by kernel_rfl) ?_
     repeat (refine monoE_step (fun K hK=>?_);apply Exists.intro;refine ⟨fun W hC R hR=>?_,?_⟩;(have hcc:=Hc0.out W hC;rw [xo] at hcc;go_simp;exact hR _ _ (Below.refl _ _) rfl);(go_simp;refine hK _ ?_;clear hK K))
     intro w4 hC4
     have HB4:=Lib.hid (HB3.out.below hC4.2)
     have HO4:=Lib.hid (HO.out.below hC4.2)
     have Hr4:=Lib.hid (RdRules.below Hr3.out hC4.2)
     have HBL : Hid (Below w.heap.size w w4):=HB4.out.bel
     clear hC4 Hc0 HB3 HO Hr3 HBL3 Hxc Hxp x0 x1 x2 x3 hq0
     have HN' : Hid (nextE l ⟨2,k,j,p⟩ = if (nextCell l ⟨2,k,j,p⟩).2 ≠ 0 then ([],(nextCell l ⟨2,k,j,p⟩).2) else (l.set k (nextCell l ⟨2,k,j,p⟩).1,0)):=by show nextE _ _ = _;rw [HN.out,if_neg (by rw [xo];decide)]
     clear HN
     have HP:=Lib.hid (Bx.one (w:=w4) (o:=(.cells #[.slice ap p.rules.length cp,.int .i64 p.dflt] 38)))
     have HBq:=Lib.hid (HB4.out.below HP.out.bel)
     have HOq:=Lib.hid (HO4.out.below HP.out.bel)
     have Hrq:=Lib.hid (RdRules.below Hr4.out HP.out.bel)
     have hqp:=HP.out.cells0
     have hqb:=HBq.out.cells0
     have hq4:=HB4.out.cells0
     have HgL:=Lib.hid (HO4.out.lt (by have:=Hl4.out;omega)).2
     go_wp2_with fail
     obtain ⟨⟨T,te⟩,hT⟩ : ∃ E,tightE x.chain x.p p = E:=⟨_,rfl⟩
     have HTt:=Lib.hid hT
     clear hT
     revert HP HBq HOq Hrq hqp hqb
     generalize hwq : (w4.alloc (.cells #[.slice ap p.rules.length cp,.int .i64 p.dflt] 38)) = wq
     intro HP HBq HOq Hrq hqp hqb
     have Hsq : Hid (w4.heap.size < wq.heap.size):=by rw [← hwq];show _ < _;simp
     clear hwq hqp hqb hq4
     refine wp_region_put g [ex (.pointer (some ⟨g,k * 4,none⟩)),ex (.pointer (some ⟨g,k * 4,none⟩)),ex (.pointer (some ⟨g,k * 4,none⟩)),ex (.pointer (some ⟨g,k * 4 + 1,none⟩)),pr (fun v W=>∃ a c,v = .slice a x.chain.length c∧RdChain W (Dg w2.heap.size g) v x.chain),ex (.pointer (some ⟨g,k * 4,none⟩)),ex (.pointer (some ⟨g,k * 4,none⟩)),ex (.pointer (some ⟨g,k * 4 + 2,none⟩)),pr (fun v W=>∃ a c,v = polV (.slice a x.p.rules.length c) x.p.dflt∧RdRules W (Dg w2.heap.size g) (.slice a x.p.rules.length c) x.p.rules),ex (polV (.slice ap p.rules.length cp) p.dflt),
       pr (fun v W=>∃ a c,v = .tuple #[.slice a T.length c,.int .i64 te]∧RdChain W (Dg w2.heap.size g) (.slice a T.length c) T),pr (fun v W=>∃ a c,v = .tuple #[.slice a T.length c,.int .i64 te]∧RdChain W (Dg w2.heap.size g) (.slice a T.length c) T),pr (fun v W=>∃ a c,v = .slice a T.length c∧RdChain W (Dg w2.heap.size g) v T),ex (.int .i64 te),ex (.pointer (some ⟨g,k * 4,none⟩)),ex (.pointer (some ⟨g,k * 4 + 1,none⟩)),ex undef,ex (.int .i64 te)]
      (PutInv wq w2.heap.size 52 4 g l.length c3 (fun W=>cellR W (Dg w2.heap.size g)) (fun done=>if done 16 then l.set k ⟨true,T,x.p⟩ else l)) (by kernel_rfl) (by kernel_rfl) ⟨.inl ⟨_,rfl⟩,.inl ⟨_,rfl⟩,.inl ⟨_,rfl⟩,.inl ⟨_,rfl⟩,.inr ⟨_,rfl,chain_stableD⟩,.inl ⟨_,rfl⟩,.inl ⟨_,rfl⟩,.inl ⟨_,rfl⟩,.inr ⟨_,rfl,pol_stableD⟩,.inl ⟨_,rfl⟩,.inr ⟨_,rfl,tup_tight⟩,.inr ⟨_,rfl,tup_tight⟩,.inr ⟨_,rfl,chain_stableD⟩,.inl ⟨_,rfl⟩,.inl ⟨_,rfl⟩,.inl ⟨_,rfl⟩,.inl ⟨_,rfl⟩,.inl ⟨_,rfl⟩,trivial⟩ ⟨HOq.out.below (Below.refl _ _).drew,grow_drew _ _⟩ _ rfl ?_
     (refine walkP_ex (fun K hK=>?_);refine ⟨fun done W hI h0 hd hn hf R hR=>?_,?_⟩;(clear h0 hd hn hf;go_simp;exact hR _ _ (hI.step cellR_below (Below.refl _ _) rfl) (below_grow (Below.refl _ _) _) rfl);(go_simp;refine hK _ ?_;clear hK K))
     (refine walkP_ex (fun K hK=>?_);refine ⟨fun done W hI h0 hd hn hf R hR=>?_,?_⟩;(clear h0 hd hn hf;go_simp;exact hR _ _ (hI.step cellR_below (Below.refl _ _) rfl) (below_grow (Below.refl _ _) _) rfl);(go_simp;refine hK _ ?_;clear hK K))
     (refine walkP_ex (fun K hK=>?_);refine ⟨fun done W hI h0 hd hn hf R hR=>?_,?_⟩;(clear h0 hd hn hf;go_simp;exact hR _ _ (hI.step cellR_below (Below.refl _ _) rfl) (below_grow (Below.refl _ _) _) rfl);(go_simp;refine hK _ ?_;clear hK K))
     (refine walkP_ex (fun K hK=>?_);refine ⟨fun done W hI h0 hd hn hf R hR=>?_,?_⟩;(clear h0 hd hn hf;go_simp;exact hR _ _ (hI.step cellR_below (Below.refl _ _) rfl) (below_grow (Below.refl _ _) _) rfl);(go_simp;refine hK _ ?_;clear hK K))
     (refine walkP_pr (fun K hK=>?_);refine ⟨fun done W hI h0 hd hn hf R hR=>?_,fun vA=>?_⟩;(have hno16 : done 16 = false:=hn 16 (by decide);have hOW : OwnCells W w2.heap.size w2.heap.size g l.length c3 l:=OwnCells.put' hI (by rw [hno16];rfl);obtain ⟨ka1,ka2,kc1,kc2,q0,q1,q2,q3,qc,qp⟩:=hOW.cells Hx.out;have Hqc:=Lib.hid qc;have Hqp:=Lib.hid qp;clear hOW qc qp hno16;clear h0 hd hn hf;go_simp;exact hR _ _ (hI.step cellR_below (Below.refl _ _) rfl) (below_grow (Below.refl _ _) _) ⟨_,_,rfl,Hqc.out⟩);(go_simp;refine hK _ _ ?_;clear hK K))
     (refine walkP_ex (fun K hK=>?_);refine ⟨fun done W hI h0 hd hn hf R hR=>?_,?_⟩;(clear h0 hd hn hf;go_simp;exact hR _ _ (hI.step cellR_below (Below.refl _ _) rfl) (below_grow (Below.refl _ _) _) rfl);(go_simp;refine hK _ ?_;clear hK K))
     (refine walkP_ex (fun K hK=>?_);refine ⟨fun done W hI h0 hd hn hf R hR=>?_,?_⟩;(clear h0 hd hn hf;go_simp;exact hR _ _ (hI.step cellR_below (Below.refl _ _) rfl) (below_grow (Below.refl _ _) _) rfl);(go_simp;refine hK _ ?_;clear hK K))
     (refine walkP_ex (fun K hK=>?_);refine ⟨fun done W hI h0 hd hn hf R hR=>?_,?_⟩;(clear h0 hd hn hf;go_simp;exact hR _ _ (hI.step cellR_below (Below.refl _ _) rfl) (below_grow (Below.refl _ _) _) rfl);(go_simp;refine hK _ ?_;clear hK K))
     (refine walkP_pr (fun K hK=>?_);refine ⟨fun done W hI h0 hd hn hf R hR=>?_,fun vB=>?_⟩;(have hno16 : done 16 = false:=hn 16 (by decide);have hOW : OwnCells W w2.heap.size w2.heap.size g l.length c3 l:=OwnCells.put' hI (by rw [hno16];rfl);obtain ⟨ka1,ka2,kc1,kc2,q0,q1,q2,q3,qc,qp⟩:=hOW.cells Hx.out;have Hqc:=Lib.hid qc;have Hqp:=Lib.hid qp;clear hOW qc qp hno16;clear h0 hd hn hf;go_simp;exact hR _ _ (hI.step cellR_below (Below.refl _ _) rfl) (below_grow (Below.refl _ _) _) ⟨_,_,rfl,Hqp.out⟩);(go_simp;refine hK _ _ ?_;clear hK K))
     (refine walkP_ex (fun K hK=>?_);refine ⟨fun done W hI h0 hd hn hf R hR=>?_,?_⟩;(have hcl : ∀ i,W.cell? ⟨w4.heap.size,i,none⟩ = _:=cells_of ((hI.gr.block _ Hsq.out (fun e=>by injection e with e;have:=HgL.out;omega)).trans (HP.out.at_ 0 _ rfl));clear h0 hd hn hf;go_simp;exact hR _ _ (hI.step cellR_below (Below.refl _ _) rfl) (below_grow (Below.refl _ _) _) rfl);(go_simp;refine hK _ ?_;clear hK K))
     (refine walkP_pr (fun K hK=>?_);refine ⟨fun done W hI h0 hd hn hf R hR=>?_,fun vC=>?_⟩;(have hA : ∃ a c,vA = .slice a x.chain.length c∧RdChain W (Dg w2.heap.size g) vA x.chain:=hf 4 (by decide);have hB : ∃ a c,vB = polV (.slice a x.p.rules.length c) x.p.dflt∧RdRules W (Dg w2.heap.size g) (.slice a x.p.rules.length c) x.p.rules:=hf 8 (by decide);obtain ⟨aA,cA,rfl,hA⟩:=hA;obtain ⟨aB,cB,rfl,hB⟩:=hB;have HA:=Lib.hid hA;have HBB:=Lib.hid (rules_true hB);have HPW:=Lib.hid (rules_true (Hrq.out.keep (w':=W) (D':=fun b=>b ≠ g) (fun b hb _=>by have h1 : b < w.heap.size:=hb;have:=Hg.out;show b ≠ g;omega) (fun b hb hl=>hI.gr.block b hl (fun e=>by have h1 : b < w.heap.size:=hb;injection e with e;have:=Hg.out;omega)) hI.gr.size));have HgW : Hid (g < W.heap.size∧w2.heap.size≤g):=⟨by have:=hI.gr.size;have:=HgL.out;have:=Hsq.out;omega,Hg.out.1⟩;clear hA hB;clear h0 hd hn hf;go_simp;go_at_call 138;refine (tighten_any _ _ _ x.chain x.p p _ W HA.out HBB.out HPW.out).mono ?_;rw [HTt.out];rintro e w9 ⟨v9,rfl,hr9,hb9⟩;obtain ⟨a9,c9,rfl,_⟩:=Sl.form hr9;exact ⟨_,rfl,hR _ _ (hI.step cellR_below hb9 rfl) (below_grow hb9 _) ⟨_,_,rfl,hr9.keep (fun b hb _=>⟨by have h1:=hb;have:=HgW.out;omega,by have h1:=hb;have:=HgW.out;omega⟩) (fun _ _ _=>rfl) (Nat.le_refl _)⟩⟩);(go_simp;refine hK _ _ ?_;clear hK K))
     (refine walkP_pr (fun K hK=>?_);refine ⟨fun done W hI h0 hd hn hf R hR=>?_,fun vD=>?_⟩;(have hC : ∃ a c,vC = .tuple #[.slice a T.length c,.int .i64 te]∧RdChain W (Dg w2.heap.size g) (.slice a T.length c) T:=hf 10 (by decide);have HC:=Lib.hid hC;clear hC;clear h0 hd hn hf;go_simp;exact hR _ _ (hI.step cellR_below (Below.refl _ _) rfl) (below_grow (Below.refl _ _) _) HC.out);(go_simp;refine hK _ _ ?_;clear hK K))
     (refine walkP_pr (fun K hK=>?_);refine ⟨fun done W hI h0 hd hn hf R hR=>?_,fun vE=>?_⟩;(have hC : ∃ a c,vD = .tuple #[.slice a T.length c,.int .i64 te]∧RdChain W (Dg w2.heap.size g) (.slice a T.length c) T:=hf 11 (by decide);obtain ⟨aC,cC,rfl,hC⟩:=hC;have HC:=Lib.hid hC;clear hC;clear h0 hd hn hf;go_simp;exact hR _ _ (hI.step cellR_below (Below.refl _ _) rfl) (below_grow (Below.refl _ _) _) ⟨_,_,rfl,HC.out⟩);(go_simp;refine hK _ _ ?_;clear hK K))
     (refine walkP_ex (fun K hK=>?_);refine ⟨fun done W hI h0 hd hn hf R hR=>?_,?_⟩;(have hC : ∃ a c,vD = .tuple #[.slice a T.length c,.int .i64 te]∧RdChain W (Dg w2.heap.size g) (.slice a T.length c) T:=hf 11 (by decide);obtain ⟨aC,cC,rfl,hC⟩:=hC;clear hC;clear h0 hd hn hf;go_simp;exact hR _ _ (hI.step cellR_below (Below.refl _ _) rfl) (below_grow (Below.refl _ _) _) rfl);(go_simp;refine hK _ ?_;clear hK K))
     (refine walkP_ex (fun K hK=>?_);refine ⟨fun done W hI h0 hd hn hf R hR=>?_,?_⟩;(clear h0 hd hn hf;go_simp;exact hR _ _ (hI.step cellR_below (Below.refl _ _) rfl) (below_grow (Below.refl _ _) _) rfl);(go_simp;refine hK _ ?_;clear hK K))
     (refine walkP_ex (fun K hK=>?_);refine ⟨fun done W hI h0 hd hn hf R hR=>?_,?_⟩;(clear h0 hd hn hf;go_simp;exact hR _ _ (hI.step cellR_below (Below.refl _ _) rfl) (below_grow (Below.refl _ _) _) rfl);(go_simp;refine hK _ ?_;clear hK K))
     (refine walkP_ex (fun K hK=>?_);refine ⟨fun done W hI h0 hd hn hf R hR=>?_,?_⟩;(have hC : ∃ a c,vE = .slice a T.length c∧RdChain W (Dg w2.heap.size g) vE T:=hf 12 (by decide);obtain ⟨aC,cC,rfl,hC⟩:=hC;have hOW : OwnCells W w2.heap.size w2.heap.size g l.length c3 l:=OwnCells.put' hI (by rw [h0];rfl);obtain ⟨ka1,ka2,kc1,kc2,q0,q1,q2,q3,_,_⟩:=hOW.cells Hx.out;have hfz:=hOW.frz (by have:=Hl4.out;omega) (k * 4 + 1);have hON:=hOW.chain Hx.out hC;rw [xo] at hON;have HN1 : Hid (PutInv wq w2.heap.size 52 4 g l.length c3 (fun W=>cellR W (Dg w2.heap.size g)) (fun done=>if done 16 then l.set k ⟨true,T,x.p⟩ else l) (updDone done 16) (W.setCell ⟨g,k * 4 + 1,none⟩ (.slice aC T.length cC))):=⟨hON,grow_trans hI.gr (grow_set W g _ _)⟩;have HT1:=Lib.hid (grow_set W g (k * 4 + 1) (.slice aC T.length cC));clear h0 hd hn hf hI hOW hON hC;go_simp;exact hR _ _ HN1.out HT1.out rfl);(go_simp;refine hK _ ?_;clear hK K))
     (refine walkP_ex (fun K hK=>?_);refine ⟨fun done W hI h0 hd hn hf R hR=>?_,?_⟩;(clear h0 hd hn hf;go_simp;exact hR _ _ (hI.step cellR_below (Below.refl _ _) rfl) (below_grow (Below.refl _ _) _) rfl);(go_simp;refine hK _ ?_;clear hK K))
     intro done w5 hdone hI _
     have h16 : done 16 = true:=hdone 16 (by decide)
     have HO5 : Hid (OwnCells w5 w2.heap.size w2.heap.size g l.length c3 (l.set k ⟨true,T,x.p⟩)):=OwnCells.put' hI (by rw [h16];rfl)
     have Hb5:=Lib.hid (below_of_grow HBq.out.bel hI.gr HBq.out.bel.size (show w.heap.size≤g by have:=Hg.out;omega))
     have Hr5 : Hid (RdRules w5 (fun b=>b ≠ g) (.slice ap p.rules.length cp) p.rules):=Hrq.out.keep (fun b hb _=>by have h1 : b < w.heap.size:=hb;have:=Hg.out;show b ≠ g;omega) (fun b hb hl=>hI.gr.block b hl (fun e=>by have h1 : b < w.heap.size:=hb;injection e with e;have:=Hg.out;omega)) hI.gr.size
     have hcp : ∀ i,w5.cell? ⟨w4.heap.size,i,none⟩ = _:=cells_of ((hI.gr.block _ Hsq.out (fun e=>by injection e with e;have:=HgL.out;omega)).trans (HP.out.at_ 0 _ rfl))
     clear h16 hdone hI
     by_cases hte : te = 0
     ·subst hte
      have HNC : Hid (nextCell l ⟨2,k,j,p⟩ = (⟨true,T,p⟩,0)):=by show nextCell _ _ = _;unfold nextCell;dsimp only;rw [if_neg (by decide),if_neg (by decide),if_pos rfl,Hxk.out,HTt.out];simp
      have HE : Hid (nextE l ⟨2,k,j,p⟩ = (l.set k ⟨true,T,p⟩,0)):=by show nextE _ _ = _;rw [HN'.out,HNC.out];simp
      go_wp2_with fail
      refine (polcopy_any _ p _ _ Hr5.out (by have:=(Hokp.out (by decide)).len;omega) (fun r hr=>by have:=((Hokp.out (by decide)).rules r hr).len;omega)).mono ?_
      rintro e w6 ⟨v6,rfl,hp6,hb6⟩
      have HO6:=Lib.hid (HO5.out.below hb6)
      have HBw6:=Lib.hid (bel_call Hb5.out hb6)
      have Hsz5 : Hid (g < w5.heap.size):=(HO5.out.lt (by rw [List.length_set];have:=Hl4.out;omega)).2
      have HP6 : Hid (RdRules w6 (Dg w2.heap.size g) v6 p.rules):=hp6.keep (fun b hb _=>⟨by have h1:=hb;have:=Hg.out;have:=Hsz5.out;omega,by have h1:=hb;have:=Hsz5.out;omega⟩) (fun _ _ _=>rfl) (Nat.le_refl _)
      obtain ⟨a6,c6,rfl,_⟩:=Sl.form hp6
      clear hp6 hb6
      have hsk : (l.set k ⟨true,T,x.p⟩)[k]? = some ⟨true,T,x.p⟩:=by rw [List.getElem?_set_self (by have:=Hl4.out;omega)]
      obtain ⟨za1,za2,zc1,zc2,z0,z1,z2,z3,_,_⟩:=HO6.out.cells hsk
      have hfz:=HO6.out.frz (by rw [List.length_set];have:=Hl4.out;omega)
      have hpo:=HO6.out.pol hsk HP6.out
      rw [set_set'] at hpo
      have HRD:=Lib.hid (OwnCells.read hpo (B':=w.heap.size) (by have:=Hg.out;omega) (by have:=Hg.out;omega))
      have hls : (l.set k (⟨true,T,p⟩ : TCell)).length = l.length:=List.length_set
      have Hls:=Lib.hid hls
      have HBL6:=Lib.hid (set_below (a:=⟨g,k * 4 + 3,none⟩) (v:=.int .i64 p.dflt) (set_below (a:=⟨g,k * 4 + 2,none⟩) (v:=.slice a6 p.rules.length c6) HBw6.out (show w.heap.size≤g by have:=Hg.out;omega)) (show w.heap.size≤g by have:=Hg.out;omega))
      clear hls hpo hsk hcp
      go_wp2
      go_ret2
      rw [HE.out]
      dsimp only
      rw [Hls.out]
      exact ⟨_,_,rfl,HRD.out,HBL6.out⟩
     ·have hne : (te == 0) = false:=by simpa using hte
      have hne' : (te != 0) = true:=bne_iff_ne.2 hte
      have HNC : Hid (nextCell l ⟨2,k,j,p⟩ = (zeroCell,te)):=by show nextCell _ _ = _;unfold nextCell;dsimp only;rw [if_neg (by decide),if_neg (by decide),if_pos rfl,Hxk.out,HTt.out];simp [hte]
      have HE : Hid (nextE l ⟨2,k,j,p⟩ = ([],te)):=by show nextE _ _ = _;rw [HN'.out,HNC.out];simp [hte]
      clear hte hcp
      go_wp2
      go_ret2
      rw [HE.out]
      exact ⟨_,_,rfl,nil_cells _ _,Hb5.out⟩
   ·cases xo : x.open_ with
    | false =>
     refine wp_region_exact3 w3.heap.size (Nat.le_refl _) (by kernel_rfl) (by kernel_rfl) ?_
     repeat (refine monoE_step (fun K hK=>?_);apply Exists.intro;refine ⟨fun W hC R hR=>?_,?_⟩;(have hcc:=Hc0.out W hC;rw [xo] at hcc;go_simp;exact hR _ _ (Below.refl _ _) rfl);(go_simp;refine hK _ ?_;clear hK K))
     intro w4 hC4
     have HB4:=Lib.hid (HB3.out.below hC4.2)
     have HO4:=Lib.hid (HO.out.below hC4.2)
     have Hr4:=Lib.hid (RdRules.below Hr3.out hC4.2)
     have HBL : Hid (Below w.heap.size w w4):=HB4.out.bel
     clear hC4 Hc0 HB3 HO Hr3 HBL3 Hxc Hxp x0 x1 x2 x3 hq0
     have HE : Hid (nextE l ⟨4,k,j,p⟩ = ([],6)):=by show nextE _ _ = _;rw [HN.out,if_pos (by rw [xo];decide)]
     go_wp2
     go_ret2
     rw [HE.out]
     exact ⟨_,_,rfl,nil_cells _ _,HBL.out⟩
    | true =>
     refine wp_region_exact3 w3.heap.size (Nat.le_refl _) (by kernel_rfl) (by kernel_rfl) ?_
     repeat (refine monoE_step (fun K hK=>?_);apply Exists.intro;refine ⟨fun W hC R hR=>?_,?_⟩;(have hcc:=Hc0.out W hC;rw [xo] at hcc;go_simp;exact hR _ _ (Below.refl _ _) rfl);(go_simp;refine hK _ ?_;clear hK K))
     intro w4 hC4
     have HB4:=Lib.hid (HB3.out.below hC4.2)
     have HO4:=Lib.hid (HO.out.below hC4.2)
     have Hr4:=Lib.hid (RdRules.below Hr3.out hC4.2)
     have HBL : Hid (Below w.heap.size w w4):=HB4.out.bel
     clear hC4 Hc0 HB3 HO Hr3 HBL3 Hxc Hxp x0 x1 x2 x3 hq0
     have HN' : Hid (nextE l ⟨4,k,j,p⟩ = if (nextCell l ⟨4,k,j,p⟩).2 ≠ 0 then ([],(nextCell l ⟨4,k,j,p⟩).2) else (l.set k (nextCell l ⟨4,k,j,p⟩).1,0)):=by show nextE _ _ = _;rw [HN.out,if_neg (by rw [xo];decide)]
     clear HN
     have HP:=Lib.hid (Bx.one (w:=w4) (o:=(.cells #[.slice ap p.rules.length cp,.int .i64 p.dflt] 38)))
     have HBq:=Lib.hid (HB4.out.below HP.out.bel)
     have HOq:=Lib.hid (HO4.out.below HP.out.bel)
     have Hrq:=Lib.hid (RdRules.below Hr4.out HP.out.bel)
     have hqp:=HP.out.cells0
     have hqb:=HBq.out.cells0
     have hq4:=HB4.out.cells0
     have HgL:=Lib.hid (HO4.out.lt (by have:=Hl4.out;omega)).2
     have HNC : Hid (nextCell l ⟨4,k,j,p⟩ = (zeroCell,0)):=by show nextCell _ _ = _;unfold nextCell;simp
     have HE : Hid (nextE l ⟨4,k,j,p⟩ = (l.set k zeroCell,0)):=by show nextE _ _ = _;rw [HN'.out,HNC.out];simp
     obtain ⟨za1,za2,zc1,zc2,z0,z1,z2,z3,_,_⟩:=HOq.out.cells Hx.out
     have hfz:=HOq.out.frz (by have:=Hl4.out;omega)
     have HOw:=Lib.hid (HOq.out.put (y:=zeroCell) Hx.out (nil_chain _ _) (nil_rules' _ _))
     have HRD:=Lib.hid (HOw.out.read (B':=w.heap.size) (by have:=Hg.out;omega) (by have:=Hg.out;omega))
     have hls : (l.set k zeroCell).length = l.length:=List.length_set
     have Hls:=Lib.hid hls
     have HBLq:=Lib.hid (below_put (k:=k) (o:=false) (u:=.slice none 0 0) (v:=.slice none 0 0) (d:=0) HBq.out.bel (show w.heap.size≤g by have:=Hg.out;omega))
     clear hls
     go_wp2
     go_ret2
     rw [HE.out]
     dsimp only
     rw [Hls.out]
     exact ⟨_,_,rfl,HRD.out,HBLq.out⟩
  ·have HE : Hid (nextE l ⟨kd,cl,fr,p⟩ = ([],recE ⟨kd,cl,fr,p⟩)):=by show nextE _ _ = _;unfold nextE;rw [if_neg (by rw [H0.out];simp),if_pos h3]
   have HBL : Hid (Below w.heap.size w w2):=HB2.out.bel
   have hne : (recE ⟨kd,cl,fr,p⟩ != 0) = true:=bne_iff_ne.2 h3
   generalize recE ⟨kd,cl,fr,p⟩ = E at *
   clear h3
   go_wp2
   go_ret2
   rw [HE.out]
   exact ⟨_,_,rfl,nil_cells _ _,HBL.out⟩
 ·have HE : Hid (nextE l ⟨kd,cl,fr,p⟩ = ([],cellsE l)):=by show nextE _ _ = _;unfold nextE;rw [if_pos h0]
  have HBL : Hid (Below w.heap.size w w1):=HB1.out.bel
  have hne : (cellsE l != 0) = true:=bne_iff_ne.2 h0
  generalize cellsE l = E at *
  clear h0
  go_wp2
  go_ret2
  rw [HE.out]
  exact ⟨_,_,rfl,nil_cells _ _,HBL.out⟩
end Go.Proofs.YthkgjohhbdipcaaGreatDoor
namespace Go.Proofs.YthkgjohhbdipcaaGreatDoor
open Go.RowKit
attribute [local go_sem] gives givesUpon
theorem take_eq_step' {α : Type} {xs ys : List α} {k : Nat} (hx : k < xs.length) (hy : k < ys.length) (h : xs.take k = ys.take k) (e : xs[k] = ys[k]) : xs.take (k + 1) = ys.take (k + 1):=by
 rw [List.take_succ_eq_append_getElem hx,List.take_succ_eq_append_getElem hy,h,e]
theorem ne_of_get' {α : Type} {xs ys : List α} {k : Nat} (hx : k < xs.length) (hy : k < ys.length) (e : xs[k] ≠ ys[k]) : xs ≠ ys:=fun h=>e (by subst h;rfl)
theorem run_neq_cond (c d : TCond) (w : World) : (binOp .neq 153 (.agg #[.int .i64 c.f,.int .i64 c.op,.int .i64 c.v]) (.agg #[.int .i64 d.f,.int .i64 d.op,.int .i64 d.v])).run Tryz.prog w = .ok (.bool (!decide (c = d))) w:=by
 obtain ⟨f,o,v⟩:=c
 obtain ⟨f',o',v'⟩:=d
 dsimp only
 have hd : decide ((⟨f,o,v⟩ : TCond) = ⟨f',o',v'⟩) = (decide (f = f') && decide (o = o') && decide (v = v')):=by
  rw [Bool.eq_iff_iff];simp [and_assoc]
 rw [hd]
 clear hd
 by_cases h1 : f = f'
 ·have b1 : (f == f') = true:=beq_iff_eq.2 h1
  by_cases h2 : o = o'
  ·have b2 : (o == o') = true:=beq_iff_eq.2 h2
   by_cases h3 : v = v'
   ·have b3 : (v == v') = true:=beq_iff_eq.2 h3
    rw [decide_eq_true h1,decide_eq_true h2,decide_eq_true h3]
    clear h1 h2 h3
    go_simp
   ·have b3 : (v == v') = false:=beq_eq_false_iff_ne.2 h3
    rw [decide_eq_true h1,decide_eq_true h2,decide_eq_false h3]
    clear h1 h2 h3
    go_simp
  ·have b2 : (o == o') = false:=beq_eq_false_iff_ne.2 h2
   rw [decide_eq_true h1,decide_eq_false h2]
   clear h1 h2
   go_simp
 ·have b1 : (f == f') = false:=beq_eq_false_iff_ne.2 h1
  rw [decide_eq_false h1]
  clear h1
  go_simp
attribute [-go_sem] run_neq_struct
set_option maxHeartbeats 1000000 in
theorem eqconds_any (v u : Value) (xs ys : List TCond) (D : Nat → Prop) (w : World) (h : RdConds w D v xs) (h' : RdConds w D u ys) :
  Calls Tryz.prog 116 #[v,u] w fun e w'=>e = .returned (.bool (decide (xs = ys)))∧Below w.heap.size w w':=by
 obtain ⟨a,c,rfl,hlc,hcm,hat⟩:=Sl.form h
 obtain ⟨a',c',rfl,hlc',hcm',hat'⟩:=Sl.form h'
 have H:=Lib.hid h
 have H':=Lib.hid h'
 clear h h'
 by_cases hl : xs.length = ys.length
 ·have b0 : ((xs.length : Int) != (ys.length : Int)) = false:=bne_eq_false_iff_eq.2 (by omega)
  have hl':=Lib.hid hl
  have hl1 : xs.length≤ys.length:=by omega
  have hl2 : ys.length≤xs.length:=by omega
  clear hl
  go_enter Tryz.func116,Tryz.ntmps116
  go_wp2_with fail
  go_loopw [13] (fun i wr=>∃ k : Nat,k≤xs.length∧i = .int .i64 k∧xs.take k = ys.take k∧Below w.heap.size w wr) (fun i _=>xs.length - (intOf i).toNat)
  case atStart=>exact ⟨0,by omega,rfl,rfl,Below.refl _ _⟩
  case round =>
   obtain ⟨k,hk,rfl,htk,hbw⟩:=hrel
   have Ht:=Lib.hid htk
   have hsz:=hbw.size
   clear htk
   by_cases hlt : k < xs.length
   ·obtain ⟨b,o,rfl,hDb,hb⟩:=hat (by omega)
    obtain ⟨b',o',rfl,hDb',hb'⟩:=hat' (by omega)
    have hlt' : k < ys.length:=by omega
    have hc : ∀ W,Cls w.heap.size wr W → (W.cell? ⟨b,o + k * 3,none⟩ = some (.int .i64 xs[k].f)∧W.cell? ⟨b,o + k * 3 + 1,none⟩ = some (.int .i64 xs[k].op)∧W.cell? ⟨b,o + k * 3 + 2,none⟩ = some (.int .i64 xs[k].v)) ∧
      (W.cell? ⟨b',o' + k * 3,none⟩ = some (.int .i64 ys[k].f)∧W.cell? ⟨b',o' + k * 3 + 1,none⟩ = some (.int .i64 ys[k].op)∧W.cell? ⟨b',o' + k * 3 + 2,none⟩ = some (.int .i64 ys[k].v)):=fun W hW =>
     ⟨RdConds.cells (H.out.below (hbw.trans hW.2)) hlt,RdConds.cells (H'.out.below (hbw.trans hW.2)) hlt'⟩
    have Hc:=Lib.hid hc
    have hne:=run_neq_cond xs[k] ys[k]
    clear hc
    go_wp2_with fail
    refine wp_region_exact3 w.heap.size hsz (by kernel_rfl) (by kernel_rfl) ?_
    repeat (refine monoE_step (fun K hK=>?_);apply Exists.intro;refine ⟨fun W hC R hR=>?_,?_⟩;(first
     | (have hne':=hne W;clear hne;go_simp;exact hR _ _ (Below.refl _ _) rfl)
     | (have hcc:=Hc.out W hC;go_simp;exact hR _ _ (Below.refl _ _) rfl));(go_simp;refine hK _ ?_;clear hK K))
    intro w2 hC2
    clear hne
    by_cases he : xs[k] = ys[k]
    ·have Hn:=Lib.hid (take_eq_step' hlt hlt' Ht.out he)
     have d : decide (xs[k] = ys[k]) = true:=decide_eq_true he
     clear he
     simp only [d]
     go_wp2
     go_roundw
     case rel=>exact ⟨k + 1,by omega,by go_num,Hn.out,hbw.trans hC2.2⟩
     case measure=>simp [intOf];omega
    ·have Hn:=Lib.hid (ne_of_get' hlt hlt' he)
     have d : decide (xs[k] = ys[k]) = false:=decide_eq_false he
     clear he
     simp only [d]
     go_wp2
     go_ret
     exact ⟨ret_bool (decide_eq_false Hn.out).symm,hbw.trans hC2.2⟩
   ·obtain rfl : k = xs.length:=by omega
    have Hn : Hid (xs = ys):=by
     have:=Ht.out
     rw [List.take_length,hl'.out,List.take_length] at this
     exact this
    go_wp2
    go_ret
    exact ⟨ret_bool (decide_eq_true Hn.out).symm,hbw⟩
 ·have b0 : ((xs.length : Int) != (ys.length : Int)) = true:=bne_iff_ne.2 (by omega)
  have hn : decide (xs = ys) = false:=decide_eq_false fun e=>hl (by rw [e])
  rw [hn]
  clear hn hl
  go_enter Tryz.func116,Tryz.ntmps116
  go_wp2
  go_ret
  exact ⟨rfl,Below.refl _ _⟩
set_option maxHeartbeats 1000000 in
theorem same1_any (v u : Value) (r q : TRule) (D : Nat → Prop) (w : World) (h : RdConds w D v r.conds) (h' : RdConds w D u q.conds) :
  Calls Tryz.prog 115 #[.agg #[v,.int .i64 r.verdict],.agg #[u,.int .i64 q.verdict]] w fun e w'=>e = .returned (.bool (decide (r = q)))∧Below w.heap.size w w':=by
 obtain ⟨rc,rv⟩:=r
 obtain ⟨qc,qv⟩:=q
 dsimp only at h h' ⊢
 have H:=Lib.hid h
 have H':=Lib.hid h'
 clear h h'
 by_cases hv : rv = qv
 ·have b0 : (rv == qv) = true:=beq_iff_eq.2 hv
  have hd : decide ((⟨rc,rv⟩ : TRule) = ⟨qc,qv⟩) = decide (rc = qc):=by rw [decide_eq_decide];simp [hv]
  rw [hd]
  clear hd hv
  go_enter Tryz.func115,Tryz.ntmps115
  go_wp2_with fail
  refine (eqconds_any v u rc qc D _ (RdConds.below H.out (bel_alloc (bel_alloc (Below.refl _ _) _) _)) (RdConds.below H'.out (bel_alloc (bel_alloc (Below.refl _ _) _) _))).mono ?_
  rintro e w1 ⟨rfl,hb1⟩
  have hb1' : Below (w.heap.size + 2) _ w1:=hb1.mono (by simp)
  go_wp2
  go_ret
  exact ⟨rfl,bel_box2 hb1'⟩
 ·have b0 : (rv == qv) = false:=beq_eq_false_iff_ne.2 hv
  have hd : decide ((⟨rc,rv⟩ : TRule) = ⟨qc,qv⟩) = false:=decide_eq_false fun e=>hv (by injection e)
  rw [hd]
  clear hd hv
  go_enter Tryz.func115,Tryz.ntmps115
  go_wp2
  go_ret
  exact ⟨rfl,bel_alloc (bel_alloc (Below.refl _ _) _) _⟩
set_option maxHeartbeats 1000000 in
theorem eqrules_any (v u : Value) (xs ys : List TRule) (D : Nat → Prop) (w : World) (h : RdRules w D v xs) (h' : RdRules w D u ys) :
  Calls Tryz.prog 114 #[v,u,.func (.func 115) #[] #[]] w fun e w'=>e = .returned (.bool (decide (xs = ys)))∧Below w.heap.size w w':=by
 obtain ⟨a,c,rfl,hlc,hcm,hat⟩:=Sl.form h
 obtain ⟨a',c',rfl,hlc',hcm',hat'⟩:=Sl.form h'
 have H:=Lib.hid h
 have H':=Lib.hid h'
 clear h h'
 by_cases hl : xs.length = ys.length
 ·have b0 : ((xs.length : Int) != (ys.length : Int)) = false:=bne_eq_false_iff_eq.2 (by omega)
  have hl':=Lib.hid hl
  have hl1 : xs.length≤ys.length:=by omega
  have hl2 : ys.length≤xs.length:=by omega
  clear hl
  go_enter Tryz.func114,Tryz.ntmps114
  go_wp2_with fail
  go_loopw [17] (fun i wr=>∃ k : Nat,k≤xs.length∧i = .int .i64 k∧xs.take k = ys.take k∧Below w.heap.size w wr) (fun i _=>xs.length - (intOf i).toNat)
  case atStart=>exact ⟨0,by omega,rfl,rfl,Below.refl _ _⟩
  case round =>
   obtain ⟨k,hk,rfl,htk,hbw⟩:=hrel
   have Ht:=Lib.hid htk
   have hsz:=hbw.size
   clear htk
   by_cases hlt : k < xs.length
   ·obtain ⟨b,o,rfl,hDb,hb⟩:=hat (by omega)
    obtain ⟨b',o',rfl,hDb',hb'⟩:=hat' (by omega)
    have hlt' : k < ys.length:=by omega
    obtain ⟨ra,rc,k0,k1,hr,hlr,hcr,_⟩:=RdRules.cells (RdRules.below H.out hbw) hlt
    obtain ⟨qa,qc,q0,q1,hq,hlq,hcq,_⟩:=RdRules.cells (RdRules.below H'.out hbw) hlt'
    have Hr:=Lib.hid hr
    have Hq:=Lib.hid hq
    have hbr : b' < wr.heap.size:=by omega
    have q0' : ∀ O,(wr.alloc O).cell? ⟨b',o' + k * 2,none⟩ = some (.slice qa ys[k].conds.length qc):=fun O=>(World.cell?_alloc_lt _ _ _ hbr).trans q0
    have q1' : ∀ O,(wr.alloc O).cell? ⟨b',o' + k * 2 + 1,none⟩ = some (.int .i64 ys[k].verdict):=fun O=>(World.cell?_alloc_lt _ _ _ hbr).trans q1
    clear hr hq q0 q1
    go_wp2_with fail
    refine (same1_any _ _ xs[k] ys[k] D _ (RdConds.below Hr.out (bel_alloc (bel_alloc (Below.refl _ _) _) _)) (RdConds.below Hq.out (bel_alloc (bel_alloc (Below.refl _ _) _) _))).mono ?_
    rintro e w1 ⟨rfl,hb1⟩
    have hb2 : Below (wr.heap.size + 2) _ w1:=hb1.mono (by simp)
    have Hb:=Lib.hid (hbw.trans ((bel_box2 hb2).mono hbw.size))
    clear hb1 hb2 k0 k1 q0' q1'
    by_cases he : xs[k] = ys[k]
    ·have Hn:=Lib.hid (take_eq_step' hlt hlt' Ht.out he)
     rw [decide_eq_true he]
     clear he
     go_wp2
     go_roundw
     case rel=>exact ⟨k + 1,by omega,by go_num,Hn.out,Hb.out⟩
     case measure=>simp [intOf];omega
    ·have Hn:=Lib.hid (ne_of_get' hlt hlt' he)
     rw [decide_eq_false he]
     clear he
     go_wp2
     go_ret
     exact ⟨ret_bool (decide_eq_false Hn.out).symm,Hb.out⟩
   ·obtain rfl : k = xs.length:=by omega
    have Hn : Hid (xs = ys):=by
     have:=Ht.out
     rw [List.take_length,hl'.out,List.take_length] at this
     exact this
    go_wp2
    go_ret
    exact ⟨ret_bool (decide_eq_true Hn.out).symm,hbw⟩
 ·have b0 : ((xs.length : Int) != (ys.length : Int)) = true:=bne_iff_ne.2 (by omega)
  have hn : decide (xs = ys) = false:=decide_eq_false fun e=>hl (by rw [e])
  rw [hn]
  clear hn hl
  go_enter Tryz.func114,Tryz.ntmps114
  go_wp2
  go_ret
  exact ⟨rfl,Below.refl _ _⟩
set_option maxHeartbeats 1000000 in
theorem same_any (v u : Value) (p q : TPol) (D : Nat → Prop) (w : World) (h : RdRules w D v p.rules) (h' : RdRules w D u q.rules) :
  Calls Tryz.prog 73 #[polV v p.dflt,polV u q.dflt] w fun e w'=>e = .returned (.bool (decide (p = q)))∧Below w.heap.size w w':=by
 obtain ⟨pr,pd⟩:=p
 obtain ⟨qr,qd⟩:=q
 dsimp only at h h' ⊢
 have H:=Lib.hid h
 have H':=Lib.hid h'
 have hmk : ∀ (fn : Fn) (first cap : Array Value) (w : World),(Instr.makeFunc fn first cap).run Tryz.prog w = .ok (.func fn first cap) w:=fun _ _ _ _=>rfl
 clear h h'
 by_cases hv : pd = qd
 ·have b0 : (pd == qd) = true:=beq_iff_eq.2 hv
  have hd : decide ((⟨pr,pd⟩ : TPol) = ⟨qr,qd⟩) = decide (pr = qr):=by rw [decide_eq_decide];simp [hv]
  rw [hd]
  clear hd hv
  go_enter Tryz.func73,Tryz.ntmps73
  go_wp2_with fail
  refine (eqrules_any v u pr qr D _ (RdRules.below H.out (bel_alloc (bel_alloc (Below.refl _ _) _) _)) (RdRules.below H'.out (bel_alloc (bel_alloc (Below.refl _ _) _) _))).mono ?_
  rintro e w1 ⟨rfl,hb1⟩
  have hb1' : Below (w.heap.size + 2) _ w1:=hb1.mono (by simp)
  go_wp2
  go_ret
  exact ⟨rfl,bel_box2 hb1'⟩
 ·have b0 : (pd == qd) = false:=beq_eq_false_iff_ne.2 hv
  have hd : decide ((⟨pr,pd⟩ : TPol) = ⟨qr,qd⟩) = false:=decide_eq_false fun e=>hv (by injection e)
  rw [hd]
  clear hd hv
  go_enter Tryz.func73,Tryz.ntmps73
  go_wp2
  go_ret
  exact ⟨rfl,bel_alloc (bel_alloc (Below.refl _ _) _) _⟩
end Go.Proofs.YthkgjohhbdipcaaGreatDoor
namespace Go.Proofs.YthkgjohhbdipcaaGreatDoor
open Go.RowKit
theorem Below.cell_alloc' {w : World} {ad : Addr} {v : Value} (O : Obj) (h : w.cell? ad = some v) : (w.alloc O).cell? ad = some v:=by
 obtain ⟨b,i,s⟩:=ad
 have hlt : b < w.heap.size:=by
  apply Classical.byContradiction
  intro hn
  unfold World.cell? at h
  rw [Array.getElem?_eq_none (by show w.heap.size≤b;omega)] at h
  cases h
 unfold World.cell? at h ⊢
 rw [show (w.alloc O).heap[b]? = w.heap[b]? from Below.heap_alloc w O b hlt]
 exact h
@[reducible] def cellV (c : TCell) (a1 : Option Addr) (c1 : Nat) (a2 : Option Addr) (c2 : Nat) : Value:=.agg #[.bool c.open_,.slice a1 c.chain.length c1,.slice a2 c.p.rules.length c2,.int .i64 c.p.dflt]
theorem cells_true {w : World} {D : Nat → Prop} {v : Value} {l : List TCell} (h : RdCells w D v l) : RdCells w (fun _=>True) v l:=h.keep (fun _ _ _=>trivial) (fun _ _ _=>rfl) (Nat.le_refl _)
set_option maxHeartbeats 4000000 in
theorem kksame1_any (x y : TCell) (a1 a2 b1 b2 : Option Addr) (c1 c2 d1 d2 : Nat) (w : World) (h1 : RdChain w (fun _=>True) (.slice a1 x.chain.length c1) x.chain) (h2 : RdRules w (fun _=>True) (.slice a2 x.p.rules.length c2) x.p.rules) (h3 : RdChain w (fun _=>True) (.slice b1 y.chain.length d1) y.chain) (h4 : RdRules w (fun _=>True) (.slice b2 y.p.rules.length d2) y.p.rules) :
  Calls Tryz.prog 99 #[cellV x a1 c1 a2 c2,cellV y b1 d1 b2 d2] w fun e w'=>e = .returned (.bool (decide (x = y)))∧Below w.heap.size w w':=by
 have H1:=Lib.hid h1
 have H2:=Lib.hid h2
 have H3:=Lib.hid h3
 have H4:=Lib.hid h4
 clear h1 h2 h3 h4
 obtain ⟨ox,cx,px⟩:=x
 obtain ⟨oy,cy,py⟩:=y
 dsimp only at H1 H2 H3 H4 ⊢
 have HB:=Lib.hid (Bx.two (w:=w) (o:=.cells #[.bool ox,.slice a1 cx.length c1,.slice a2 px.rules.length c2,.int .i64 px.dflt] 52) (o':=.cells #[.bool oy,.slice b1 cy.length d1,.slice b2 py.rules.length d2,.int .i64 py.dflt] 52))
 have HD : Hid (decide ((⟨ox,cx,px⟩ : TCell) = ⟨oy,cy,py⟩) = (decide (ox = oy) && decide (cx = cy) && decide (px = py))):=by show _ = _;simp [Bool.and_assoc]
 by_cases ho : ox = oy
 ·subst ho
  go_enter Tryz.func99,Tryz.ntmps99
  go_wp2_with fail
  refine (chsame_any _ _ cx cy _ (H1.out.below HB.out.bel) (H3.out.below HB.out.bel)).mono ?_
  rintro e w1 ⟨rfl,hb1⟩
  have HB1:=Lib.hid (HB.out.below hb1)
  clear hb1
  by_cases hc : cx = cy
  ·have d1 : decide (cx = cy) = true:=decide_eq_true hc
   have HD' : Hid (decide ((⟨ox,cx,px⟩ : TCell) = ⟨ox,cy,py⟩) = decide (px = py)):=by show _ = _;rw [HD.out,d1];simp
   rw [d1]
   clear hc HD d1
   have hq0:=HB1.out.cells0
   have hq1:=HB1.out.cells1
   go_wp2_with fail
   refine (same_any _ _ px py (fun _=>True) _ (RdRules.below H2.out HB1.out.bel) (RdRules.below H4.out HB1.out.bel)).mono ?_
   rintro e w2 ⟨rfl,hb2⟩
   have HB2:=Lib.hid (HB1.out.below hb2)
   clear hq0 hq1 hb2
   go_wp2
   go_ret
   exact ⟨by rw [HD'.out];rfl,HB2.out.bel⟩
  ·have d1 : decide (cx = cy) = false:=decide_eq_false hc
   have HD' : Hid (decide ((⟨ox,cx,px⟩ : TCell) = ⟨ox,cy,py⟩) = false):=by show _ = _;rw [HD.out,d1];simp
   rw [d1]
   clear hc HD d1
   go_wp2
   go_ret
   exact ⟨by rw [HD'.out];rfl,HB1.out.bel⟩
 ·have d1 : (ox == oy) = false:=by simpa using ho
  have HD' : Hid (decide ((⟨ox,cx,px⟩ : TCell) = ⟨oy,cy,py⟩) = false):=by show _ = _;rw [HD.out];simp [ho]
  clear ho HD
  have HBL : Hid (Below w.heap.size w _):=HB.out.bel
  go_enter Tryz.func99,Tryz.ntmps99
  go_wp2
  go_ret
  exact ⟨by rw [HD'.out];rfl,HBL.out⟩
set_option maxRecDepth 100000 in
set_option maxHeartbeats 4000000 in
theorem kkeq_any (v u : Value) (xs ys : List TCell) (w : World) (h : RdCells w (fun _=>True) v xs) (h' : RdCells w (fun _=>True) u ys) :
  Calls Tryz.prog 89 #[v,u,.func (.func 99) #[] #[]] w fun e w'=>e = .returned (.bool (decide (xs = ys)))∧Below w.heap.size w w':=by
 have H:=Lib.hid h
 have H':=Lib.hid h'
 obtain ⟨a,c,rfl,hlc,hcm,hat⟩:=Sl.form h
 obtain ⟨a',c',rfl,hlc',hcm',hat'⟩:=Sl.form h'
 clear h h'
 by_cases hl : xs.length = ys.length
 ·have Hl:=Lib.hid hl
  have hln : ((xs.length : Int) != (ys.length : Int)) = false:=by rw [hl];simp
  clear hl
  go_enter Tryz.func89,Tryz.ntmps89
  go_wp2_with fail
  go_loopw [17] (fun i wr=>∃ k : Nat,k≤xs.length∧i = .int .i64 k∧xs.take k = ys.take k∧Below w.heap.size w wr) (fun i _=>xs.length - (intOf i).toNat)
  case atStart=>exact ⟨0,by omega,rfl,rfl,Below.refl _ _⟩
  case round =>
   obtain ⟨k,hk,rfl,htk,hbw⟩:=hrel
   have Ht:=Lib.hid htk
   have Hb:=Lib.hid hbw
   clear htk hbw
   by_cases hlt : k < xs.length
   ·obtain ⟨b,o,rfl,_,_⟩:=hat (by omega)
    obtain ⟨b',o',rfl,_,_⟩:=hat' (by rw [← Hl.out];omega)
    have hlt' : k < ys.length:=by rw [← Hl.out];exact hlt
    obtain ⟨a1,a2,c1,c2,x0,x1,x2,x3,hr1,hp1⟩:=RdCells.cells (H.out.below Hb.out) hlt
    obtain ⟨b1,b2,d1,d2,y0,y1,y2,y3,hr2,hp2⟩:=RdCells.cells (H'.out.below Hb.out) hlt'
    have Hr1:=Lib.hid hr1
    have Hr2:=Lib.hid hr2
    have Hp1:=Lib.hid hp1
    have Hp2:=Lib.hid hp2
    have HC:=Lib.hid (Bx.two (w:=wr) (o:=.cells #[.bool xs[k].open_,.slice a1 xs[k].chain.length c1,.slice a2 xs[k].p.rules.length c2,.int .i64 xs[k].p.dflt] 52) (o':=.cells #[.bool ys[k].open_,.slice b1 ys[k].chain.length d1,.slice b2 ys[k].p.rules.length d2,.int .i64 ys[k].p.dflt] 52))
    have q0 : ∀ O,(wr.alloc O).cell? ⟨b',o' + k * 4,none⟩ = _:=fun O=>(Below.cell_alloc' O y0)
    have q1 : ∀ O,(wr.alloc O).cell? ⟨b',o' + k * 4 + 1,none⟩ = _:=fun O=>(Below.cell_alloc' O y1)
    have q2 : ∀ O,(wr.alloc O).cell? ⟨b',o' + k * 4 + 2,none⟩ = _:=fun O=>(Below.cell_alloc' O y2)
    have q3 : ∀ O,(wr.alloc O).cell? ⟨b',o' + k * 4 + 3,none⟩ = _:=fun O=>(Below.cell_alloc' O y3)
    clear hr1 hr2 hp1 hp2
    go_wp2_with fail
    refine (kksame1_any xs[k] ys[k] _ _ _ _ _ _ _ _ _ (Hr1.out.below HC.out.bel) (RdRules.below Hp1.out HC.out.bel) (Hr2.out.below HC.out.bel) (RdRules.below Hp2.out HC.out.bel)).mono ?_
    rintro e w1 ⟨rfl,hb1⟩
    have Hb1:=Lib.hid (bel_call (bel_call Hb.out HC.out.bel) hb1)
    clear hb1 x0 x1 x2 x3 y0 y1 y2 y3 q0 q1 q2 q3 HC
    by_cases he : xs[k] = ys[k]
    ·have Hn:=Lib.hid (take_eq_step4 hlt hlt' Ht.out he)
     have d : decide (xs[k] = ys[k]) = true:=decide_eq_true he
     clear he
     rw [d]
     go_wp2
     go_roundw
     case rel=>first | exact ⟨k + 1,by omega,by go_num,Hn.out,Hb1.out⟩ | ((repeat apply Exists.intro);exact ⟨⟨k + 1,by omega,by go_num,Hn.out,Hb1.out⟩,rfl⟩)
     case measure=>simp [intOf];omega
    ·have Hn:=Lib.hid (ne_of_get4 hlt hlt' he)
     have d : decide (xs[k] = ys[k]) = false:=decide_eq_false he
     clear he
     rw [d]
     go_wp2
     go_ret
     exact ⟨by rw [decide_eq_false Hn.out];rfl,Hb1.out⟩
   ·obtain rfl : k = xs.length:=by omega
    have Hn : Hid (xs = ys):=by
     have:=Ht.out
     rw [List.take_length,Hl.out,List.take_length] at this
     exact this
    go_wp2
    go_ret
    exact ⟨by rw [decide_eq_true Hn.out];rfl,Hb.out⟩
 ·have hn : xs ≠ ys:=fun e=>hl (by rw [e])
  have hl' : ((xs.length : Int) != (ys.length : Int)) = true:=bne_iff_ne.2 (by omega)
  have HD:=Lib.hid (decide_eq_false hn)
  clear hn
  go_enter Tryz.func89,Tryz.ntmps89
  go_wp2
  go_ret
  exact ⟨by rw [HD.out];rfl,Below.refl _ _⟩
set_option maxHeartbeats 1000000 in
theorem keepsame_any (v u : Value) (xs ys : List TCell) (w : World) (h : RdCells w (fun _=>True) v xs) (h' : RdCells w (fun _=>True) u ys) :
  Calls Tryz.prog 60 #[v,u] w fun e w'=>e = .returned (.bool (decide (xs = ys)))∧Below w.heap.size w w':=by
 have H:=Lib.hid h
 have H':=Lib.hid h'
 obtain ⟨a,c,rfl,_⟩:=Sl.form h
 obtain ⟨a',c',rfl,_⟩:=Sl.form h'
 clear h h'
 go_enter Tryz.func60,Tryz.ntmps60
 go_wp2_with fail
 refine (kkeq_any _ _ xs ys w H.out H'.out).mono ?_
 rintro e w1 ⟨rfl,hb1⟩
 go_wp2
 go_ret
 exact ⟨rfl,hb1⟩
end Go.Proofs.YthkgjohhbdipcaaGreatDoor
namespace Go.Proofs.YthkgjohhbdipcaaGreatDoor
open Go.RowKit
theorem replayGo_drop (l : List TRec) (k : Nat) (h : k < l.length) (c : List TCell) : replayGo (l.drop k) c = if (nextE c l[k]).2 ≠ 0 then ([],(nextE c l[k]).2) else replayGo (l.drop (k + 1)) (nextE c l[k]).1:=by
 rw [List.drop_eq_getElem_cons h];rfl
set_option maxRecDepth 100000 in
set_option maxHeartbeats 8000000 in
theorem replay_any (v : Value) (l : List TRec) (D : Nat → Prop) (w : World) (h : RdRecs w D v l) :
  Calls Tryz.prog 59 #[v] w fun e w'=>∃ a1 c1,e = .returned (.tuple #[.slice a1 (replayE l).1.length c1,.int .i64 (replayE l).2])∧RdCells w' (fun b=>w.heap.size≤b) (.slice a1 (replayE l).1.length c1) (replayE l).1∧Below w.heap.size w w':=by
 have H:=Lib.hid h
 obtain ⟨a,c,rfl,hlc,hcm,hat⟩:=Sl.form h
 clear h
 by_cases h40 : 40 < l.length
 ·have HE : Hid (replayE l = ([],2)):=by show replayE l = _;unfold replayE;rw [if_pos h40]
  have hz : 40 < (l.length : Int):=by omega
  clear h40 hat
  go_enter Tryz.func59,Tryz.ntmps59
  go_wp2
  go_ret2
  rw [HE.out]
  exact ⟨_,_,rfl,nil_cells _ _,Below.refl _ _⟩
 ·have HE : Hid (replayE l = replayGo l newCells):=by show replayE l = _;unfold replayE;rw [if_neg h40]
  have hz : ¬ 40 < (l.length : Int):=by omega
  clear h40
  go_enter Tryz.func59,Tryz.ntmps59
  go_wp2_with fail
  refine (keepnew_any _).mono ?_
  rintro e w1 ⟨v1,rfl,hr1,hb1⟩
  have Hr1:=Lib.hid hr1
  have Hb1:=Lib.hid hb1
  obtain ⟨a1,c1,rfl,_⟩:=Sl.form hr1
  clear hr1 hb1
  go_wp2_with fail
  go_loopw [4,14] (fun ov kv wr=>∃ (k : Nat) (ls : List TCell) (a2 : Option Addr) (c2 : Nat),kv = .int .i64 k∧ov = .slice a2 ls.length c2∧k≤l.length∧replayGo l newCells = replayGo (l.drop k) ls∧RdCells wr (fun b=>w.heap.size≤b) (.slice a2 ls.length c2) ls∧Below w.heap.size w wr) (fun _ kv _=>l.length - (intOf kv).toNat)
  case atStart=>exact ⟨0,newCells,_,_,rfl,rfl,by omega,rfl,Hr1.out,Hb1.out⟩
  case round =>
   obtain ⟨k,ls,a2,c2,rfl,rfl,hk,hgo,hrd,hbw⟩:=hrel
   have Hgo:=Lib.hid hgo
   have Hrd:=Lib.hid hrd
   have Hb:=Lib.hid hbw
   clear hgo hrd hbw
   by_cases hlt : k < l.length
   ·obtain ⟨b,o,rfl,_,_⟩:=hat (by omega)
    obtain ⟨a3,c3,x0,x1,x2,x3,x4,hp⟩:=RdRecs.cells (H.out.below Hb.out) hlt
    have Hp:=Lib.hid hp
    have Hd:=Lib.hid (replayGo_drop l k hlt ls)
    have HC:=Lib.hid (Bx.one (w:=wr) (o:=.cells #[.int .i64 l[k].kind,.int .i64 l[k].cell,.int .i64 l[k].from_,.slice a3 l[k].p.rules.length c3,.int .i64 l[k].p.dflt] 56))
    have hq0:=HC.out.cells0
    clear hp
    go_wp2_with fail
    refine (next_any _ _ ls l[k] _ _ _ (Hrd.out.below HC.out.bel) (RdRules.below Hp.out HC.out.bel)).mono ?_
    obtain ⟨⟨N,ne⟩,hN⟩ : ∃ E,nextE ls l[k] = E:=⟨_,rfl⟩
    have HN:=Lib.hid hN
    clear hN
    rw [HN.out]
    rintro e w2 ⟨a4,c4,rfl,hr2,hb2⟩
    have Hr2 : Hid (RdCells w2 (fun b=>w.heap.size≤b) (.slice a4 N.length c4) N):=hr2.keep (fun b hb _=>Nat.le_trans (bel_call Hb.out HC.out.bel).size hb) (fun _ _ _=>rfl) (Nat.le_refl _)
    have Hb2:=Lib.hid (bel_call (bel_call Hb.out HC.out.bel) hb2)
    clear hr2 hb2 x0 x1 x2 x3 x4 HC hq0
    by_cases h0 : ne = 0
    ·subst h0
     have Hn : Hid (replayGo l newCells = replayGo (l.drop (k + 1)) N):=by show replayGo _ _ = _;rw [Hgo.out,Hd.out,HN.out,if_neg (by simp)]
     go_wp2
     go_roundw
     case rel=>exact ⟨k + 1,N,a4,c4,by go_num,rfl,by omega,Hn.out,Hr2.out,Hb2.out⟩
     case measure=>simp [intOf];omega
    ·have HE2 : Hid (replayE l = ([],ne)):=by show replayE l = _;rw [HE.out,Hgo.out,Hd.out,HN.out,if_pos h0]
     have hne : (ne != 0) = true:=bne_iff_ne.2 h0
     clear h0
     go_wp2
     go_ret2
     rw [HE2.out]
     exact ⟨_,_,rfl,nil_cells _ _,Hb2.out⟩
   ·obtain rfl : k = l.length:=by omega
    have HE2 : Hid (replayE l = (ls,0)):=by show replayE l = _;rw [HE.out,Hgo.out,List.drop_length];rfl
    go_wp2
    go_ret2
    rw [HE2.out]
    exact ⟨_,_,rfl,Hrd.out,Hb.out⟩
end Go.Proofs.YthkgjohhbdipcaaGreatDoor
namespace Go.Proofs.YthkgjohhbdipcaaGreatDoor
open Go.RowKit
attribute [local go_sem] gives givesUpon
theorem world_off {b : Nat} {W W' : World} {c u v : Value} {t : TWorld} (h : RdWorld W (fun x=>b + 1≤x) c u v t) (hg : W.grownBy W' (some b)) : RdWorld W' (fun x=>b≤x + 1) c u v t :=
 h.keep (fun x hx _=>by have h1 : b + 1≤x:=hx;show b≤x + 1;omega) (fun x hx hl=>grow_keep hg hl (by have h1 : b + 1≤x:=hx;omega)) hg.size
theorem world_small {t : TWorld} (h : worldE t = 0) : cellsE t.cells = 0∧t.d.safe.length + t.d.wait.length≤60000:=by
 obtain ⟨l,ok⟩:=ok_world h
 refine ⟨?_,(diskE_ok ok.disk.1).1⟩
 cases hu : t.up with
 | true=>exact (ok.cellsE hu).1
 | false=>rw [ok.down hu];decide
set_option maxHeartbeats 1000000 in
theorem wnew_any (w : World) : Calls Tryz.prog 21 #[] w fun e w'=>∃ c,e = .returned (worldV c (.slice none 0 0) (.slice none 0 0) true)∧RdWorld w' (fun b=>w.heap.size≤b) c (.slice none 0 0) (.slice none 0 0) newWorld∧Below w.heap.size w w':=by
 go_enter Tryz.func21,Tryz.ntmps21
 go_wp2_with fail
 have HB:=Lib.hid (Bx.one (w:=w) (o:=.cells #[.slice none 0 0,.slice none 0 0,.slice none 0 0,.bool false] 27))
 refine (keepnew_any _).mono ?_
 rintro e w1 ⟨v1,rfl,hr1,hb1⟩
 have HB1:=Lib.hid (HB.out.below hb1)
 obtain ⟨a1,c1,rfl,_⟩:=Sl.form hr1
 have hq0:=HB1.out.cells0
 have hf0:=HB1.out.free0
 have HS:=Lib.hid (HB1.out.put4 (.slice a1 newCells.length c1) (.slice none 0 0) (.slice none 0 0) (.bool true) rfl)
 have hqs:=HS.out.cells0
 have HBL:=Lib.hid HS.out.bel
 have HRD : Hid (RdWorld _ (fun b=>w.heap.size≤b) (.slice a1 newCells.length c1) (.slice none 0 0) (.slice none 0 0) newWorld):=⟨RdCells.keep hr1 (fun b hb _=>by have h1 : _≤b:=hb;simp at h1;show _≤_;omega) (fun b hb hl=>grow_keep (puts4_grow (b:=w.heap.size) (.slice a1 newCells.length c1) (.slice none 0 0) (.slice none 0 0) (.bool true)) hl (by have h1 : _≤b:=hb;simp at h1;omega)) (puts4_grow (b:=w.heap.size) (.slice a1 newCells.length c1) (.slice none 0 0) (.slice none 0 0) (.bool true)).size,nil_disk _ _⟩
 clear hr1 hb1 HS HB HB1
 go_wp2
 refine bodyPost_ret (v:=worldV (.slice a1 newCells.length c1) (.slice none 0 0) (.slice none 0 0) true) ?_ rfl ⟨_,rfl,HRD.out,HBL.out⟩
 simp [results,Tryz.results21,go_sem,hqs]
def PFinW (w0 : World) (β : Nat) (c : Value) (l m : List UInt8) (up : Bool) (W : World) : Prop:=∃ x y,W.heap[β]? = some (.cells #[c,x,y,.bool up] 27)∧RdDisk W (fun b=>w0.heap.size≤b) x y ⟨l,m⟩∧w0.grownBy W (some β)
theorem puts12_grow {W : World} {β : Nat} (x y : Value) : W.grownBy ((W.setCell ⟨β,1,none⟩ x).setCell ⟨β,2,none⟩ y) (some β):=grow_trans (grow_set _ _ _ _) (grow_set _ _ _ _)
theorem keep_puts12 {B β : Nat} {W : World} {x y : Value} (hβ : β < B) : KeepFrom B W ((W.setCell ⟨β,1,none⟩ x).setCell ⟨β,2,none⟩ y) :=
 ⟨(puts12_grow (W:=W) (β:=β) x y).size,fun k hk hl=>grow_keep (puts12_grow x y) hl (by omega)⟩
theorem put_finW {w0 W : World} {β : Nat} {l m : List UInt8} {x y c c0 c1 : Value} {up : Bool} (hb : Below w0.heap.size w0 W) (_hs : w0.heap.size≤W.heap.size) (hβ : W.heap[β]? = some (.cells #[c,c0,c1,.bool up] 27)) (hlt : β < w0.heap.size) (hx : PBy w0.heap.size l x W) (hy : PBy w0.heap.size m y W) :
  PFinW w0 β c l m up ((W.setCell ⟨β,1,none⟩ x).setCell ⟨β,2,none⟩ y) :=
 ⟨x,y,set_at (set_at hβ),⟨PBy_stable _ _ _ (keep_puts12 hlt) hx,PBy_stable _ _ _ (keep_puts12 hlt) hy⟩,grown_trans_below hb (puts12_grow x y)⟩
set_option maxRecDepth 100000 in
set_option maxHeartbeats 16000000 in
theorem wcopy_any (c u v : Value) (t : TWorld) (D : Nat → Prop) (w : World) (h : RdWorld w D c u v t) (hc : cellsE t.cells = 0) (hs : t.d.safe.length + t.d.wait.length≤60000) :
  Calls Tryz.prog 49 #[worldV c u v t.up] w fun e w'=>∃ c' u' v',e = .returned (worldV c' u' v' t.up)∧RdWorld w' (fun b=>w.heap.size≤b) c' u' v' t∧Below w.heap.size w w':=by
 have Ht:=Lib.hid (RdWorld.true h)
 have Hs : Hid (t.d.safe.length + t.d.wait.length≤60000):=hs
 have Hc:=Lib.hid ((cellsE_iff t.cells).1 hc)
 obtain ⟨a0,c0,rfl,hf0⟩:=Sl.form h.cells
 obtain ⟨a1,c1,rfl,hf1⟩:=Sl.form h.disk.1
 obtain ⟨a2,c2,rfl,hf2⟩:=Sl.form h.disk.2
 clear h hc hs hf0 hf1 hf2
 go_enter Tryz.func49,Tryz.ntmps49
 go_wp2_with fail
 have HB:=Lib.hid (Bx.two (w:=w) (o:=.cells #[.slice a0 t.cells.length c0,.slice a1 t.d.safe.length c1,.slice a2 t.d.wait.length c2,.bool t.up] 27) (o':=.cells #[.slice none 0 0,.slice none 0 0,.slice none 0 0,.bool false] 27))
 refine (keepcopy_any _ t.cells _ _ (Ht.out.cells.below HB.out.bel) (by have:=Hc.out.1;omega) (fun c hc=>cell_small (Hc.out.2 c hc))).mono ?_
 rintro e w1 ⟨v3,rfl,ho3,hb1⟩
 have HB1:=Lib.hid (HB.out.below hb1)
 have Hsz1 : Hid (w.heap.size + 2≤((w.alloc (.cells #[.slice a0 t.cells.length c0,.slice a1 t.d.safe.length c1,.slice a2 t.d.wait.length c2,.bool t.up] 27)).alloc (.cells #[.slice none 0 0,.slice none 0 0,.slice none 0 0,.bool false] 27)).heap.size):=HB.out.top
 have hrc : RdCells w1 (fun b=>w.heap.size + 2≤b) v3 t.cells:=OwnSl.sl (OwnSl.monoR ho3 fun _ _ _ hr=>hr.keep (fun b hb _=>by have h1:=hb.1;have:=Hsz1.out;show _≤_;omega) (fun _ _ _=>rfl) (Nat.le_refl _)) (fun b hb=>by have:=Hsz1.out;omega)
 obtain ⟨a3,c3,rfl,hf3⟩:=Sl.form hrc
 have Hrc:=Lib.hid hrc
 have hq0:=HB1.out.cells0
 have hf0:=HB1.out.free0
 have HB2:=Lib.hid (HB1.out.set (i:=0) rfl 0 (.slice a3 t.cells.length c3))
 have hqs:=HB2.out.cells0
 have Hrc2 : Hid (RdCells (w1.setCell ⟨w.heap.size,0,none⟩ (.slice a3 t.cells.length c3)) (fun b=>w.heap.size + 2≤b) (.slice a3 t.cells.length c3) t.cells):=RdCells.keep Hrc.out (fun _ hx _=>hx) (fun x hx hl=>set_other (by have h1 : w.heap.size + 2≤x:=hx;show x ≠ w.heap.size;omega)) (by rw [set_size];exact Nat.le_refl _)
 have Hd2:=Lib.hid (RdDisk.below Ht.out.disk HB2.out.bel)
 clear hrc ho3 hb1 HB HB1 Hrc hf3
 go_wp2_with fail
 clear hq0 hf0 hqs
 revert HB2 Hrc2 Hd2
 generalize (w1.setCell ⟨w.heap.size,0,none⟩ (.slice a3 t.cells.length c3)) = w0
 intro HB2 Hrc2 Hd2
 have Hsz : Hid (w.heap.size < w0.heap.size):=by show _ < _;have:=HB2.out.top;simp at this;omega
 refine wp_region_lastop 10 w0.heap.size [ex (.pointer (some ⟨w.heap.size,1,none⟩)),ex (.pointer (some ⟨w.heap.size,1,none⟩)),ex (.slice a1 t.d.safe.length c1),pr (PBy w0.heap.size t.d.safe),ex (.pointer (some ⟨w.heap.size,1,none⟩)),ex (.pointer (some ⟨w.heap.size,2,none⟩)),ex (.slice a2 t.d.wait.length c2),pr (PBy w0.heap.size t.d.wait),pr (PDk w0.heap.size t.d.safe t.d.wait),ex (.pointer (some ⟨w.heap.size,1,none⟩)),ex (undef)] (PFinW w0 w.heap.size (.slice a3 t.cells.length c3) t.d.safe t.d.wait t.up) (by kernel_rfl) (by kernel_rfl) ⟨.inl ⟨_,rfl⟩,.inl ⟨_,rfl⟩,.inl ⟨_,rfl⟩,.inr ⟨_,rfl,PBy_stable⟩,.inl ⟨_,rfl⟩,.inl ⟨_,rfl⟩,.inl ⟨_,rfl⟩,.inr ⟨_,rfl,PBy_stable⟩,.inr ⟨_,rfl,PDk_stable⟩,.inl ⟨_,rfl⟩,.inl ⟨_,rfl⟩,trivial⟩ _ rfl ?_
 (refine walkP_ex (fun K hK=>?_);refine ⟨fun done W hI h0 hd hn hf R hR=>?_,?_⟩;(have hno : done 10 = false:=hn 10 (by decide);have hC:=hI.before hno;clear h0 hd hn hf;go_simp;exact hR _ _ (hI.step hno (by decide) (Below.refl _ _)) (KeepFrom.of_below (Below.refl _ _)) rfl);(go_simp;refine hK _ ?_;clear hK K))
 (refine walkP_ex (fun K hK=>?_);refine ⟨fun done W hI h0 hd hn hf R hR=>?_,?_⟩;(have hno : done 10 = false:=hn 10 (by decide);have hC:=hI.before hno;clear h0 hd hn hf;go_simp;exact hR _ _ (hI.step hno (by decide) (Below.refl _ _)) (KeepFrom.of_below (Below.refl _ _)) rfl);(go_simp;refine hK _ ?_;clear hK K))
 (refine walkP_ex (fun K hK=>?_);refine ⟨fun done W hI h0 hd hn hf R hR=>?_,?_⟩;(have hno : done 10 = false:=hn 10 (by decide);have hC:=hI.before hno;have hqb:=(HB2.out.below hC.2).cells0;clear h0 hd hn hf;go_simp;exact hR _ _ (hI.step hno (by decide) (Below.refl _ _)) (KeepFrom.of_below (Below.refl _ _)) rfl);(go_simp;refine hK _ ?_;clear hK K))
 (refine walkP_pr (fun K hK=>?_);refine ⟨fun done W hI h0 hd hn hf R hR=>?_,fun v3=>?_⟩;(have hno : done 10 = false:=hn 10 (by decide);have hC:=hI.before hno;have hsz0 : w0.heap.size≤W.heap.size:=hC.1;have HSZ:=Lib.hid hsz0;clear hsz0;have HRW:=Lib.hid (RdBytes.below Hd2.out.1 hC.2);clear h0 hd hn hf;go_simp;go_at_call 80;refine (cloneByte_any byteR oneByteP _ t.d.safe _ W HRW.out (by have:=Hs.out;omega)).mono ?_;rintro e w9 ⟨v9,rfl,ho9,hb9⟩;have hro:=OwnB.read ho9;have HRO:=Lib.hid hro;clear hro ho9;exact ⟨_,rfl,hR _ _ (hI.step hno (by decide) hb9) (KeepFrom.of_below hb9) (HRO.out.keep (fun b hb _=>by have h1 : _≤b:=hb;have:=HSZ.out;show _≤_;omega) (fun _ _ _=>rfl) (Nat.le_refl _))⟩);(go_simp;refine hK _ _ ?_;clear hK K))
 (refine walkP_ex (fun K hK=>?_);refine ⟨fun done W hI h0 hd hn hf R hR=>?_,?_⟩;(have hno : done 10 = false:=hn 10 (by decide);have hC:=hI.before hno;clear h0 hd hn hf;go_simp;exact hR _ _ (hI.step hno (by decide) (Below.refl _ _)) (KeepFrom.of_below (Below.refl _ _)) rfl);(go_simp;refine hK _ ?_;clear hK K))
 (refine walkP_ex (fun K hK=>?_);refine ⟨fun done W hI h0 hd hn hf R hR=>?_,?_⟩;(have hno : done 10 = false:=hn 10 (by decide);have hC:=hI.before hno;clear h0 hd hn hf;go_simp;exact hR _ _ (hI.step hno (by decide) (Below.refl _ _)) (KeepFrom.of_below (Below.refl _ _)) rfl);(go_simp;refine hK _ ?_;clear hK K))
 (refine walkP_ex (fun K hK=>?_);refine ⟨fun done W hI h0 hd hn hf R hR=>?_,?_⟩;(have hno : done 10 = false:=hn 10 (by decide);have hC:=hI.before hno;have hqb:=(HB2.out.below hC.2).cells0;clear h0 hd hn hf;go_simp;exact hR _ _ (hI.step hno (by decide) (Below.refl _ _)) (KeepFrom.of_below (Below.refl _ _)) rfl);(go_simp;refine hK _ ?_;clear hK K))
 (refine walkP_pr (fun K hK=>?_);refine ⟨fun done W hI h0 hd hn hf R hR=>?_,fun v7=>?_⟩;(have hno : done 10 = false:=hn 10 (by decide);have hC:=hI.before hno;have hsz0 : w0.heap.size≤W.heap.size:=hC.1;have HSZ:=Lib.hid hsz0;clear hsz0;have HRW:=Lib.hid (RdBytes.below Hd2.out.2 hC.2);clear h0 hd hn hf;go_simp;go_at_call 80;refine (cloneByte_any byteR oneByteP _ t.d.wait _ W HRW.out (by have:=Hs.out;omega)).mono ?_;rintro e w9 ⟨v9,rfl,ho9,hb9⟩;have hro:=OwnB.read ho9;have HRO:=Lib.hid hro;clear hro ho9;exact ⟨_,rfl,hR _ _ (hI.step hno (by decide) hb9) (KeepFrom.of_below hb9) (HRO.out.keep (fun b hb _=>by have h1 : _≤b:=hb;have:=HSZ.out;show _≤_;omega) (fun _ _ _=>rfl) (Nat.le_refl _))⟩);(go_simp;refine hK _ _ ?_;clear hK K))
 (refine walkP_pr (fun K hK=>?_);refine ⟨fun done W hI h0 hd hn hf R hR=>?_,fun v8=>?_⟩;(have hno : done 10 = false:=hn 10 (by decide);have hC:=hI.before hno;have h3 : PBy w0.heap.size t.d.safe v3 W:=hf 3 (by decide);have h7 : PBy w0.heap.size t.d.wait v7 W:=hf 7 (by decide);obtain ⟨x1,y1,rfl,_⟩:=Sl.form h3;obtain ⟨x2,y2,rfl,_⟩:=Sl.form h7;have H3:=Lib.hid h3;have H7:=Lib.hid h7;clear h3 h7 hC;clear h0 hd hn hf;go_simp;exact hR _ _ (hI.step hno (by decide) (Below.refl _ _)) (KeepFrom.of_below (Below.refl _ _)) ⟨_,_,rfl,H3.out,H7.out⟩);(go_simp;refine hK _ _ ?_;clear hK K))
 (refine walkP_ex (fun K hK=>?_);refine ⟨fun done W hI h0 hd hn hf R hR=>?_,?_⟩;(have hno : done 10 = false:=hn 10 (by decide);have hC:=hI.before hno;clear h0 hd hn hf;go_simp;exact hR _ _ (hI.step hno (by decide) (Below.refl _ _)) (KeepFrom.of_below (Below.refl _ _)) rfl);(go_simp;refine hK _ ?_;clear hK K))
 (refine walkP_ex (fun K hK=>?_);refine ⟨fun done W hI h0 hd hn hf R hR=>?_,?_⟩;(have hno : done 10 = false:=h0;have hC:=hI.before hno;have h8 : PDk w0.heap.size t.d.safe t.d.wait v8 W:=hf 8 (by decide);obtain ⟨x,y,rfl,hx,hy⟩:=h8;have HX:=Lib.hid hx;have HY:=Lib.hid hy;obtain ⟨x1,y1,rfl,_⟩:=Sl.form hx;obtain ⟨x2,y2,rfl,_⟩:=Sl.form hy;have hBW:=HB2.out.below hC.2;have hq1:=hBW.cells0;have hf1:=hBW.free0;have HFn:=Lib.hid (put_finW (β:=w.heap.size) hC.2 hC.1 (hBW.at_ 0 _ rfl) Hsz.out HX.out HY.out);have HKF : Hid (KeepFrom w0.heap.size W ((W.setCell ⟨w.heap.size,1,none⟩ (.slice x1 t.d.safe.length y1)).setCell ⟨w.heap.size,2,none⟩ (.slice x2 t.d.wait.length y2))):=keep_puts12 Hsz.out;clear hx hy hBW hC;clear h0 hd hn hf;go_simp;exact hR _ _ (LastI.at_ HFn.out) HKF.out rfl);(go_simp;refine hK _ ?_;clear hK K))
 intro done w5 hdone hI _
 have hFin:=hI.after (hdone 10 (by decide))
 clear hdone hI
 obtain ⟨x,y,hbx,hrd,hg⟩:=hFin
 have Hrd:=Lib.hid hrd
 obtain ⟨x1,y1,rfl,_⟩:=Sl.form hrd.1
 obtain ⟨x2,y2,rfl,_⟩:=Sl.form hrd.2
 have hqb:=cells_of hbx
 have HBX : Hid (Bx w [.cells #[.slice a3 t.cells.length c3,.slice x1 t.d.safe.length y1,.slice x2 t.d.wait.length y2,.bool t.up] 27,.cells #[.slice none 0 0,.slice none 0 0,.slice none 0 0,.bool false] 27] w5):=by
  refine ⟨Below.grown HB2.out.bel hg HB2.out.bel.size (fun g e=>by injection e with e;omega),fun i o ho=>?_⟩
  match i,ho with
  | 0,ho=>simp at ho;subst ho;exact hbx
  | 1,ho=>simp at ho;subst ho;rw [grow_keep hg (by have:=HB2.out.top;simp at this;omega) (by omega)];exact HB2.out.at_ 1 _ rfl
 have hq1:=HBX.out.cells1
 have hf1:=HBX.out.free1
 have HRW : Hid (RdWorld w5 (fun b=>w.heap.size + 2≤b) (.slice a3 t.cells.length c3) (.slice x1 t.d.safe.length y1) (.slice x2 t.d.wait.length y2) t):=⟨RdCells.keep Hrc2.out (fun _ hx _=>hx) (fun b hb hl=>grow_keep hg hl (by have h1 : w.heap.size + 2≤b:=hb;omega)) hg.size,Hrd.out.keep (fun b hb _=>by have h1 : w0.heap.size≤b:=hb;have:=HB2.out.top;simp at this;show _≤_;omega) (fun _ _ _=>rfl) (Nat.le_refl _)⟩
 have HS:=Lib.hid ((((HBX.out.set (i:=1) rfl 0 (.slice a3 t.cells.length c3)).set (i:=1) rfl 1 (.slice x1 t.d.safe.length y1)).set (i:=1) rfl 2 (.slice x2 t.d.wait.length y2)).set (i:=1) rfl 3 (.bool t.up))
 have hqs:=HS.out.cells1
 have HBL:=Lib.hid HS.out.bel
 have HRF : Hid (RdWorld _ (fun x=>w.heap.size≤x) _ _ _ t):=RdWorld.keep (D':=fun x=>w.heap.size≤x) (world_off HRW.out (puts4_grow (b:=w.heap.size + 1) (.slice a3 t.cells.length c3) (.slice x1 t.d.safe.length y1) (.slice x2 t.d.wait.length y2) (.bool t.up))) (fun x hx _=>by have h1 : w.heap.size + 1≤x + 1:=hx;show w.heap.size≤x;omega) (fun _ _ _=>rfl) (Nat.le_refl _)
 clear hrd hbx hg HS
 dsimp only at hqb
 go_wp2
 refine bodyPost_ret (v:=worldV (.slice a3 t.cells.length c3) (.slice x1 t.d.safe.length y1) (.slice x2 t.d.wait.length y2) t.up) ?_ rfl ⟨_,_,_,rfl,HRF.out,HBL.out⟩
 simp [results,Tryz.results49,go_sem,hqs]
set_option maxRecDepth 100000 in
set_option maxHeartbeats 16000000 in
theorem wcheck_any (c u v : Value) (t : TWorld) (D : Nat → Prop) (w : World) (h : RdWorld w D c u v t) (hL : Laid w) :
  Calls Tryz.prog 19 #[worldV c u v t.up] w fun e w'=>e = .returned (.int .i64 (worldE t))∧Below w.heap.size w w':=by
 have HL:=Lib.hid hL
 have Ht:=Lib.hid (RdWorld.true h)
 obtain ⟨a0,c0,rfl,hf0⟩:=Sl.form h.cells
 obtain ⟨a1,c1,rfl,hf1⟩:=Sl.form h.disk.1
 obtain ⟨a2,c2,rfl,hf2⟩:=Sl.form h.disk.2
 clear h hL hf0 hf1 hf2
 go_enter Tryz.func19,Tryz.ntmps19
 go_wp2_with fail
 have HB:=Lib.hid (Bx.one (w:=w) (o:=.cells #[.slice a0 t.cells.length c0,.slice a1 t.d.safe.length c1,.slice a2 t.d.wait.length c2,.bool t.up] 27))
 refine (drecover_any _ _ t.d _ _ (RdDisk.below Ht.out.disk HB.out.bel) (HL.out.below HB.out.bel)).mono ?_
 obtain ⟨⟨rd,rl,re⟩,hr⟩ : ∃ E,recoverE t.d = E:=⟨_,rfl⟩
 have HR:=Lib.hid hr
 rw [hr]
 rintro e w1 ⟨u1,v1,vl,rfl,hd1,hl1,hb1⟩
 dsimp only at hd1 hl1
 obtain ⟨x1,y1,rfl,_⟩:=Sl.form hd1.1
 obtain ⟨x2,y2,rfl,_⟩:=Sl.form hd1.2
 obtain ⟨al,cl,rfl,_⟩:=Sl.form hl1
 have HB1:=Lib.hid (HB.out.below hb1)
 have HA:=Lib.hid (bel_alloc (Below.refl w1.heap.size w1) (.cells #[.slice x1 rd.safe.length y1,.slice x2 rd.wait.length y2] 25))
 have HB2:=Lib.hid (HB1.out.below HA.out)
 have Hl2:=Lib.hid (recs_true (RdRecs.below hl1 HA.out))
 have HL2:=Lib.hid (HL.out.below HB2.out.bel)
 have hq0:=HB2.out.cells0
 clear hr hd1 hl1 hb1 HB HB1
 dsimp only
 by_cases hre : re = 0
 ·subst hre
  cases hu : t.up with
  | true =>
   by_cases hw : t.d.wait = []
   ·have hw0 : ((t.d.wait.length : Nat) : Int) = 0:=by rw [hw];rfl
    have hwl : ¬ (0 : Int) < (t.d.wait.length : Int):=by omega
    have HE : Hid (worldE t = if (replayE rl).2 ≠ 0 then (replayE rl).2 else if (replayE rl).1 = t.cells then 0 else 4):=by
     have e : recsOf t = rl:=by unfold recsOf;rw [hu,HR.out];rfl
     show _ = _
     unfold worldE
     rw [e,HR.out,if_neg (by simp),if_neg (by simp [hw])]
    rw [hu] at hq0 HB2
    clear hw hu
    go_wp2_with fail
    clear hw0 hwl
    refine (replay_any _ rl _ _ Hl2.out).mono ?_
    obtain ⟨⟨N,ne⟩,hN⟩ : ∃ E,replayE rl = E:=⟨_,rfl⟩
    rw [hN] at HE ⊢
    rintro e w3 ⟨a3,c3,rfl,hr3,hb3⟩
    dsimp only at hr3 HE
    have HB3:=Lib.hid (HB2.out.below hb3)
    have Hr3:=Lib.hid (cells_true hr3)
    have hq3:=HB3.out.cells0
    clear hr3 hb3 hN hq0
    dsimp only
    by_cases hne : ne = 0
    ·subst hne
     go_wp2_with fail
     clear hq3
     refine (keepsame_any _ _ N t.cells _ Hr3.out (Ht.out.cells.below HB3.out.bel)).mono ?_
     rintro e w4 ⟨rfl,hb4⟩
     have HBf:=Lib.hid (HB3.out.below hb4).bel
     clear hb4
     by_cases hs : N = t.cells
     ·have HE' : Hid (worldE t = 0):=by show _ = _;rw [HE.out,if_neg (by simp),if_pos hs]
      rw [decide_eq_true hs]
      clear hs HE
      go_wp2
      go_ret
      exact ⟨by rw [HE'.out];rfl,HBf.out⟩
     ·have HE' : Hid (worldE t = 4):=by show _ = _;rw [HE.out,if_neg (by simp),if_neg hs]
      rw [decide_eq_false hs]
      clear hs HE
      go_wp2
      go_ret
      exact ⟨by rw [HE'.out];rfl,HBf.out⟩
    ·have HE' : Hid (worldE t = ne):=by show _ = _;rw [HE.out];exact if_pos hne
     have hnz : (ne == 0) = false:=beq_eq_false_iff_ne.2 hne
     have HBf:=Lib.hid HB3.out.bel
     clear hne HE
     go_wp2
     go_ret
     exact ⟨by rw [HE'.out];rfl,HBf.out⟩
   ·have hwl : (0 : Int) < (t.d.wait.length : Int):=by have:=List.length_pos_iff.2 hw;omega
    have HE : Hid (worldE t = 4):=by show _ = _;unfold worldE;rw [HR.out,if_neg (by simp),if_pos ⟨hu,hw⟩]
    have HBf:=Lib.hid HB2.out.bel
    rw [hu] at hq0
    clear hw hu
    go_wp2
    go_ret
    exact ⟨by rw [HE.out];rfl,HBf.out⟩
  | false =>
   have HE : Hid (worldE t = if (replayE []).2 ≠ 0 then (replayE []).2 else if (replayE []).1 = t.cells then 0 else 4):=by
    have e : recsOf t = []:=by unfold recsOf;rw [hu];rfl
    show _ = _
    unfold worldE
    rw [e,HR.out,if_neg (by simp),if_neg (by simp [hu])]
   rw [hu] at hq0 HB2
   clear hu
   go_wp2_with fail
   refine (replay_any _ [] _ _ (nil_recs _ (fun _=>True))).mono ?_
   obtain ⟨⟨N,ne⟩,hN⟩ : ∃ E,replayE [] = E:=⟨_,rfl⟩
   rw [hN] at HE ⊢
   rintro e w3 ⟨a3,c3,rfl,hr3,hb3⟩
   dsimp only at hr3 HE
   have HB3:=Lib.hid (HB2.out.below hb3)
   have Hr3:=Lib.hid (cells_true hr3)
   have hq3:=HB3.out.cells0
   clear hr3 hb3 hN hq0
   dsimp only
   by_cases hne : ne = 0
   ·subst hne
    go_wp2_with fail
    clear hq3
    refine (keepsame_any _ _ N t.cells _ Hr3.out (Ht.out.cells.below HB3.out.bel)).mono ?_
    rintro e w4 ⟨rfl,hb4⟩
    have HBf:=Lib.hid (HB3.out.below hb4).bel
    clear hb4
    by_cases hs : N = t.cells
    ·have HE' : Hid (worldE t = 0):=by show _ = _;rw [HE.out,if_neg (by simp),if_pos hs]
     rw [decide_eq_true hs]
     clear hs HE
     go_wp2
     go_ret
     exact ⟨by rw [HE'.out];rfl,HBf.out⟩
    ·have HE' : Hid (worldE t = 4):=by show _ = _;rw [HE.out,if_neg (by simp),if_neg hs]
     rw [decide_eq_false hs]
     clear hs HE
     go_wp2
     go_ret
     exact ⟨by rw [HE'.out];rfl,HBf.out⟩
   ·have HE' : Hid (worldE t = ne):=by show _ = _;rw [HE.out];exact if_pos hne
    have hnz : (ne == 0) = false:=beq_eq_false_iff_ne.2 hne
    have HBf:=Lib.hid HB3.out.bel
    clear hne HE
    go_wp2
    go_ret
    exact ⟨by rw [HE'.out];rfl,HBf.out⟩
 ·have hne : (re != 0) = true:=bne_iff_ne.2 hre
  have HE : Hid (worldE t = re):=by show _ = _;unfold worldE;rw [HR.out];exact if_pos hre
  have HBf:=Lib.hid HB2.out.bel
  clear hre
  go_wp2
  go_ret
  exact ⟨by rw [HE.out];rfl,HBf.out⟩
end Go.Proofs.YthkgjohhbdipcaaGreatDoor
namespace Go.Proofs.YthkgjohhbdipcaaGreatDoor
open Go.RowKit
structure DBox (w W : World) (bx : Nat) (u v : Value) (d : TDisk) : Prop where
 bel : Below w.heap.size w W
 ge : w.heap.size≤bx
 box : W.heap[bx]? = some (.cells #[u,v] 25)
 rd : RdDisk W (fun b=>b ≠ bx) u v d
section
variable {w W W' W1 : World} {bx : Nat} {u v u' v' : Value} {d d' : TDisk} {D : Nat → Prop}
theorem DBox.below (h : DBox w W bx u v d) (hb : Below W.heap.size W W') : DBox w W' bx u v d:=⟨bel_call h.bel hb,h.ge,blk_below h.box hb,RdDisk.below h.rd hb⟩
theorem DBox.new (hb : Below w.heap.size w W) (hr : RdDisk W D u v d) : DBox w (W.alloc (.cells #[u,v] 25)) W.heap.size u v d :=
 ⟨bel_alloc hb _,hb.size,heap_last _ _,RdDisk.below (RdDisk.keep hr (fun b _ hl=>by show b ≠ _;omega) (fun _ _ _=>rfl) (Nat.le_refl _)) (bel_alloc (Below.refl _ _) _)⟩
theorem DBox.put (h : DBox w W bx u v d) (hb : Below W.heap.size W W1) (hr : RdDisk W1 (fun b=>W.heap.size≤b) u' v' d') : DBox w ((W1.setCell ⟨bx,0,none⟩ u').setCell ⟨bx,1,none⟩ v') bx u' v' d':=by
 have hlt:=(Array.getElem?_eq_some_iff.1 h.box).1
 have hg : W1.grownBy ((W1.setCell ⟨bx,0,none⟩ u').setCell ⟨bx,1,none⟩ v') (some bx):=puts2_grow u' v'
 have hb1:=bel_call h.bel hb
 exact ⟨below_of_grow hb1 hg hb1.size h.ge,h.ge,puts2_at u' v' (blk_below h.box hb),RdDisk.keep hr (fun b hb' _=>by have h1 : W.heap.size≤b:=hb';show b ≠ bx;omega) (fun b hb' hl=>grow_keep hg hl (by have h1 : W.heap.size≤b:=hb';omega)) hg.size⟩
theorem DBox.cells (h : DBox w W bx u v d) (i : Nat) : W.cell? ⟨bx,i,none⟩ = (#[u,v] : Array Value)[i]?:=cells_of h.box i
end
end Go.Proofs.YthkgjohhbdipcaaGreatDoor
