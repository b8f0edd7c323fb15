/- Texts laid one behind the other: PolCopy, CloneCell, ChainCopy, KeepCopy, KNew, KCheck, EqIns, ChainSame, RulesOf, Gather, MWhole. No condition beyond theirs. -/
import Derived.Test.YthkgjohhbdipcaaGreatDoorK6
import Derived.Test.YthkgjohhbdipcaaGreatDoorK8
import Derived.Test.YthkgjohhbdipcaaGreatDoorK2
import Derived.Laws.MakeOwn
import Derived.Test.YthkgjohhbdipcaaGreatDoorK1
import Derived.Test.YthkgjohhbdipcaaGreatDoorProg
import Derived.Laws.StructEq
import Derived.KernelRfl
import Derived.Test.YthkgjohhbdipcaaGreatDoorK7
import Derived.Test.YthkgjohhbdipcaaGreatDoorK3
import Derived.Test.YthkgjohhbdipcaaGreatDoorK5
set_option linter.all false
namespace Go.Proofs.YthkgjohhbdipcaaGreatDoor
open Go.RowKit
attribute [local go_sem] gives givesUpon
def ruleC (g B : Nat) (W : World) (y : TRule × Bool) (cs : List Value) : Prop:=∃ v,cs = [v,.int .i64 y.1.verdict]∧RdConds W (fun b=>b ≠ g∧(y.2 = true → B≤b)) v y.1.conds
theorem ruleC_below {g B : Nat} (W W' : World) (y : TRule × Bool) (cs : List Value) (hb : Below W.heap.size W W') (h : ruleC g B W y cs) : ruleC g B W' y cs:=by
 obtain ⟨v,h1,h2⟩:=h
 exact ⟨v,h1,h2.below hb⟩
theorem ruleC_set {g B i : Nat} {u : Value} {W : World} (y : TRule × Bool) (cs : List Value) (h : ruleC g B W y cs) : ruleC g B (W.setCell ⟨g,i,none⟩ u) y cs:=by
 obtain ⟨v,h1,h2⟩:=h
 exact ⟨v,h1,h2.keep (fun _ h _=>h) (fun b hb _=>set_other (by exact hb.1)) (by rw [set_size];exact Nat.le_refl _)⟩
theorem condR_one (y : TCond) (cs : List Value) (h : condR y cs) : ∀ c ∈ cs,c.oneCell' = true:=by
 unfold condR at h;subst h;simp [Value.oneCell']
theorem conds_stable {g B : Nat} {cs : List TCond} : stableG g (fun v W=>∃ a c,v = .slice a cs.length c∧RdConds W (fun b=>B≤b∧b ≠ g) v cs):=fun _ _ _ hg ⟨a,c,h1,h2⟩ =>
 ⟨a,c,h1,h2.keep (fun _ h _=>h) (fun b hb hl=>hg.block b hl (fun e=>hb.2 (by injection e))) hg.size⟩
set_option maxRecDepth 100000 in
set_option maxHeartbeats 8000000 in
theorem polcopy_any (v : Value) (p : TPol) (D : Nat → Prop) (w : World) (h : RdRules w D v p.rules) (hn : p.rules.length≤1000000) (hc : ∀ r ∈ p.rules,r.conds.length≤1000000) :
  Calls Tryz.prog 128 #[polV v p.dflt] w fun e w'=>∃ v',e = .returned (polV v' p.dflt)∧RdRules w' (fun b=>w.heap.size≤b) v' p.rules∧Below w.heap.size w w':=by
 obtain ⟨rules,dflt⟩:=p
 dsimp only at h hn hc ⊢
 have H:=Lib.hid h
 have Hc:=Lib.hid hc
 obtain ⟨a,c,rfl,hlc,hcm,hat⟩:=Sl.form h
 clear h hc hat
 go_enter Tryz.func128,Tryz.ntmps128
 go_wp2_with fail
 have HB:=Lib.hid (Bx.two (w:=w) (o:=.cells #[.slice a rules.length c,.int .i64 dflt] 38) (o':=.cells #[.slice none 0 0,.int .i64 0] 38))
 have HbA:=Lib.hid HB.out.bel
 obtain ⟨wA,hwA⟩ : ∃ W,((w.alloc (.cells #[.slice a rules.length c,.int .i64 dflt] 38)).alloc (.cells #[.slice none 0 0,.int .i64 0] 38)) = W:=⟨_,rfl⟩
 rw [hwA] at HB HbA ⊢
 have hsA : wA.heap.size = w.heap.size + 1 + 1:=by rw [← hwA];simp
 have HsA:=Lib.hid hsA
 clear hwA hsA
 have H0 : Hid (Sl wA D 2 (ruleR wA (fun b=>b < w.heap.size)) (.slice a rules.length c) rules):=Sl.mono H.out (fun _ h _=>h) (fun b _ hl=>HbA.out.block b hl) HbA.out.size (fun _ _ _ ⟨u,h1,h2⟩=>⟨u,h1,h2.keep (fun _ _ hl=>hl) (fun b _ hl=>HbA.out.block b hl) HbA.out.size⟩)
 refine (cloneRule_any (ruleR wA (fun b=>b < w.heap.size)) (fun y cs h=>ruleR_oneP y cs h) _ rules D wA H0.out (by omega)).mono ?_
 rintro e w1 ⟨v1,rfl,ho1,hb1⟩
 have HB1:=Lib.hid (HB.out.below hb1)
 have ho1' : OwnSl w1 wA.heap.size 147 2 (ruleR w1 (fun b=>b < w.heap.size)) v1 rules:=ho1.monoR fun _ _ _ ⟨u,h1,h2⟩=>⟨u,h1,h2.below hb1⟩
 have hsz1:=hb1.size
 obtain ⟨a1,c1,rfl⟩:=ho1.slice
 have HB2 : Hid (Bx w [.cells #[.slice a1 rules.length c1,.int .i64 dflt] 38,.cells #[.slice none 0 0,.int .i64 0] 38] (w1.setCell ⟨w.heap.size,0,none⟩ (.slice a1 rules.length c1))):=HB1.out.set (i:=0) rfl 0 (.slice a1 rules.length c1)
 have Ho2 : Hid (OwnSl (w1.setCell ⟨w.heap.size,0,none⟩ (.slice a1 rules.length c1)) wA.heap.size 147 2 (ruleR (w1.setCell ⟨w.heap.size,0,none⟩ (.slice a1 rules.length c1)) (fun b=>b < w.heap.size)) (.slice a1 rules.length c1) rules) :=
  (ho1'.kept (fun b hb _=>set_other (by have:=HsA.out;show b ≠ w.heap.size;omega))).monoR fun _ _ _ ⟨u,h1,h2⟩=>⟨u,h1,h2.keep (fun _ h _=>h) (fun b hb _=>set_other (by show b ≠ w.heap.size;omega)) (by rw [set_size];exact Nat.le_refl _)⟩
 clear ho1 ho1' hb1 hsz1 H0 HbA
 have hq0:=HB1.out.cells0
 have hf0:=HB1.out.free0
 have hq2:=HB2.out.cells0
 rcases Nat.eq_zero_or_pos rules.length with h0 | hpos
 ·have hl0 : rules = []:=List.length_eq_zero_iff.1 h0
  subst hl0
  have hlen0 : ([] : List TRule).length = 0:=rfl
  have hRe : ∀ W D',RdRules W D' (.slice a1 0 c1) []:=fun W D'=>by
   obtain ⟨a',c',hv,h1,h2,h3,_⟩:=OwnSl.sl Ho2.out (D:=fun _=>True) (fun _ _=>trivial)
   injection hv with e1 e2 e3
   subst e1 e3
   exact ⟨_,_,rfl,h1,h2,h3,fun h=>by cases h⟩
  have HRe:=Lib.hid hRe
  clear hRe
  generalize hw2 : w1.setCell ⟨w.heap.size,0,none⟩ (.slice a1 0 c1) = w2 at *
  go_wp2_with fail
  clear hw2 hq0 hf0 hq2 HB1 HB Ho2
  go_loopw [12] (fun kv wr=>kv = .int .i64 0∧wr = w2) (fun _ _=>0)
  case atStart=>exact ⟨rfl,rfl⟩
  case round =>
   obtain ⟨rfl,rfl⟩:=hrel
   have HS1 : Hid (Bx w [.cells #[.slice a1 0 c1,.int .i64 dflt] 38,.cells #[.slice a1 0 c1,.int .i64 0] 38] (wr.setCell ⟨w.heap.size + 1,0,none⟩ (.slice a1 0 c1))):=HB2.out.set (i:=1) rfl 0 _
   have HS2 : Hid (Bx w [.cells #[.slice a1 0 c1,.int .i64 dflt] 38,.cells #[.slice a1 0 c1,.int .i64 dflt] 38] ((wr.setCell ⟨w.heap.size + 1,0,none⟩ (.slice a1 0 c1)).setCell ⟨w.heap.size + 1,1,none⟩ (.int .i64 dflt))):=HS1.out.set (i:=1) rfl 1 _
   have hq0:=HB2.out.cells0
   have hq1:=HB2.out.cells1
   have hf1:=HB2.out.free1
   have hqs:=HS2.out.cells1
   go_wp2
   exact bodyPost_ret (v:=polV (.slice a1 0 c1) dflt) (by simp [results,Tryz.results128,go_sem,hqs]) rfl ⟨_,rfl,HRe.out _ _,HS2.out.bel⟩
 ·obtain ⟨g,rfl,hgb,hgl,cur,hcur⟩:=OwnSl.addr Ho2.out hpos
  generalize hw2 : w1.setCell ⟨w.heap.size,0,none⟩ (.slice (some ⟨g,0,none⟩) rules.length c1) = w2 at *
  have HM : Hid (OwnSl w2 wA.heap.size 147 2 (ruleC g wA.heap.size w2) (.slice (some ⟨g,0,none⟩) rules.length c1) (marks rules 0 true false)):=by
   show OwnSl _ _ _ _ _ _ _
   rw [marks_zero]
   exact Ho2.out.mark' fun x cs ⟨u,h1,h2⟩=>⟨u,h1,h2.keep (fun b hb _=>⟨by have:=HsA.out;omega,fun h=>by cases h⟩) (fun _ _ _=>rfl) (Nat.le_refl _)⟩
  have Hg:=Lib.hid hgb
  clear hcur
  go_wp2_with fail
  clear hw2 hq0 hf0 hq2 HB1 HB Ho2
  go_loopw [12] (fun kv wr=>∃ k : Nat,kv = .int .i64 k∧k≤rules.length∧OwnSl wr wA.heap.size 147 2 (ruleC g wA.heap.size wr) (.slice (some ⟨g,0,none⟩) rules.length c1) (marks rules k true false)∧Bx w [.cells #[.slice (some ⟨g,0,none⟩) rules.length c1,.int .i64 dflt] 38,.cells #[.slice none 0 0,.int .i64 0] 38] wr) (fun kv _=>rules.length - (intOf kv).toNat)
  case atStart=>exact ⟨0,rfl,by omega,HM.out,HB2.out⟩
  case round =>
   obtain ⟨k,rfl,hk,hown,hbx⟩:=hrel
   have Hown:=Lib.hid hown
   have Hbx:=Lib.hid hbx
   clear hown hbx
   have hqb:=Hbx.out.cells0
   by_cases hlt : k < rules.length
   ·obtain ⟨r,hr⟩ : ∃ r,rules[k]? = some r:=⟨_,List.getElem?_eq_getElem hlt⟩
    have Hrk:=Lib.hid hr
    have Hck:=Lib.hid (Hc.out r (List.mem_of_getElem? hr))
    have hown0 : PutInv wr wA.heap.size 147 2 g rules.length c1 (ruleC g wA.heap.size) (fun done=>markm rules k r true (done 8) false) (fun _=>false) wr :=
     ⟨by show OwnSl _ _ _ _ _ _ _;rw [markm_lo hr];exact Hown.out,below_grow (Below.refl _ _) _⟩
    obtain ⟨cs,_,⟨u,hu,hrd⟩,hcell⟩:=hown0.cells (markm_get hlt)
    have Hrd:=Lib.hid hrd
    have Hg2:=Lib.hid (hown0.blk (by rw [markm_len hlt];omega)).2.1
    obtain ⟨ac,cc,rfl,_⟩:=Sl.form hrd
    subst hu
    have hck0:=hcell 0 _ rfl
    have hck1:=hcell 1 _ rfl
    simp only [Nat.add_zero] at hck0
    clear hcell hrd hown0 hr
    go_wp2_with fail
    have HC:=Lib.hid (Bx.one (w:=wr) (o:=.cells #[.slice ac r.conds.length cc,.int .i64 r.verdict] 147))
    have HBq:=Lib.hid (Hbx.out.below HC.out.bel)
    have Hownq : Hid (OwnSl (wr.alloc (.cells #[.slice ac r.conds.length cc,.int .i64 r.verdict] 147)) wA.heap.size 147 2 (ruleC g wA.heap.size (wr.alloc (.cells #[.slice ac r.conds.length cc,.int .i64 r.verdict] 147))) (.slice (some ⟨g,0,none⟩) rules.length c1) (markm rules k r true false false)):=by
     show OwnSl _ _ _ _ _ _ _
     rw [markm_lo Hrk.out]
     exact (Hown.out.below HC.out.bel).monoR fun _ _ _ hy=>ruleC_below _ _ _ _ HC.out.bel hy
    have Hrdq:=Lib.hid (RdConds.below Hrd.out HC.out.bel)
    have Hsq : Hid ((wr.alloc (.cells #[.slice ac r.conds.length cc,.int .i64 r.verdict] 147)).heap.size = wr.heap.size + 1):=by show _ = _;simp
    revert HC HBq Hownq Hrdq Hsq
    generalize (wr.alloc (.cells #[.slice ac r.conds.length cc,.int .i64 r.verdict] 147)) = wq
    intro HC HBq Hownq Hrdq Hsq
    clear hck0 hck1 hqb
    have hk0 : (0 : Int)≤(k : Int):=by omega
    have hkl : (k : Int) < (rules.length : Int):=by omega
    have hkw : IntKind.i64.wrap (k : Int) = (k : Int):=IntWalk.i64_in _ (by omega)
    have Hlt:=Lib.hid hlt
    refine wp_region_put g [ex (.pointer (some ⟨w.heap.size,0,none⟩)),ex (.slice (some ⟨g,0,none⟩) rules.length c1),ex (.int .i64 k),ex (.pointer (some ⟨wr.heap.size,0,none⟩)),ex (.slice ac r.conds.length cc),pr (fun v W=>∃ a c,v = .slice a r.conds.length c∧RdConds W (fun b=>wA.heap.size≤b∧b ≠ g) v r.conds),ex (.pointer (some ⟨g,k * 2,none⟩)),ex (.pointer (some ⟨g,k * 2,none⟩)),ex undef]
     (PutInv wq wA.heap.size 147 2 g rules.length c1 (ruleC g wA.heap.size) (fun done=>markm rules k r true (done 8) false)) (by kernel_rfl) (by kernel_rfl) ⟨.inl ⟨_,rfl⟩,.inl ⟨_,rfl⟩,.inl ⟨_,rfl⟩,.inl ⟨_,rfl⟩,.inl ⟨_,rfl⟩,.inr ⟨_,rfl,conds_stable⟩,.inl ⟨_,rfl⟩,.inl ⟨_,rfl⟩,.inl ⟨_,rfl⟩,trivial⟩ ⟨(Hownq.out.below (Below.refl _ _).drew).monoR fun _ _ _ hy=>ruleC_below _ _ _ _ (Below.refl _ _).drew hy,grow_drew _ _⟩ _ rfl ?_
    (refine walkP_ex (fun K hK=>?_);refine ⟨fun done W hI h0 hd hn hf R hR=>?_,?_⟩;(clear h0 hd hn hf;go_simp;exact hR _ _ (hI.step ruleC_below (Below.refl _ _) rfl) (below_grow (Below.refl _ _) _) rfl);(go_simp;refine hK _ ?_;clear hK K))
    (refine walkP_ex (fun K hK=>?_);refine ⟨fun done W hI h0 hd hn hf R hR=>?_,?_⟩;(have hcl : ∀ j,W.cell? ⟨w.heap.size,j,none⟩ = _:=cells_of ((hI.gr.block _ (HBq.out.size (i:=0) (by simp)) (fun e=>by injection e with e;have:=Hg.out;have:=HsA.out;omega)).trans (HBq.out.at_ 0 _ rfl));clear h0 hd hn hf;go_simp;exact hR _ _ (hI.step ruleC_below (Below.refl _ _) rfl) (below_grow (Below.refl _ _) _) rfl);(go_simp;refine hK _ ?_;clear hK K))
    (refine walkP_ex (fun K hK=>?_);refine ⟨fun done W hI h0 hd hn hf R hR=>?_,?_⟩;(clear h0 hd hn hf;go_simp;exact hR _ _ (hI.step ruleC_below (Below.refl _ _) rfl) (below_grow (Below.refl _ _) _) rfl);(go_simp;refine hK _ ?_;clear hK K))
    (refine walkP_ex (fun K hK=>?_);refine ⟨fun done W hI h0 hd hn hf R hR=>?_,?_⟩;(clear h0 hd hn hf;go_simp;exact hR _ _ (hI.step ruleC_below (Below.refl _ _) rfl) (below_grow (Below.refl _ _) _) rfl);(go_simp;refine hK _ ?_;clear hK K))
    (refine walkP_ex (fun K hK=>?_);refine ⟨fun done W hI h0 hd hn hf R hR=>?_,?_⟩;(have hcl : ∀ j,W.cell? ⟨wr.heap.size,j,none⟩ = _:=cells_of ((hI.gr.block _ (by have:=Hsq.out;omega) (fun e=>by injection e with e;have:=Hg2.out;omega)).trans (HC.out.at_ 0 _ rfl));clear h0 hd hn hf;go_simp;exact hR _ _ (hI.step ruleC_below (Below.refl _ _) rfl) (below_grow (Below.refl _ _) _) rfl);(go_simp;refine hK _ ?_;clear hK K))
    (refine walkP_pr (fun K hK=>?_);refine ⟨fun done W hI h0 hd hn hf R hR=>?_,fun v5=>?_⟩;(have Hrw : Hid (RdConds W (fun b=>b ≠ g) (.slice ac r.conds.length cc) r.conds):=Hrdq.out.keep (fun _ h _=>h.1) (fun b hb hl=>hI.gr.block b hl (fun e=>hb.1 (by injection e))) hI.gr.size;have HgW : Hid (g < W.heap.size∧wA.heap.size≤W.heap.size):=⟨by have:=hI.gr.size;have:=Hg2.out;have:=Hsq.out;omega,by have:=hI.gr.size;have:=Hg.out;have:=Hg2.out;have:=Hsq.out;omega⟩;clear h0 hd hn hf;go_simp;go_at_call 156;refine (cloneCond_any condR condR_one _ r.conds _ W Hrw.out (by have:=Hck.out;omega)).mono ?_;rintro e w5 ⟨v6,rfl,ho6,hb6⟩;exact ⟨_,rfl,hR _ _ (hI.step ruleC_below hb6 rfl) (below_grow hb6 _) (by obtain ⟨a6,c6,rfl⟩:=ho6.slice;exact ⟨a6,c6,rfl,ho6.sl fun b hb=>⟨by have:=HgW.out.2;omega,by have:=HgW.out.1;omega⟩⟩)⟩);(go_simp;refine hK _ _ ?_;clear hK K))
    (refine walkP_ex (fun K hK=>?_);refine ⟨fun done W hI h0 hd hn hf R hR=>?_,?_⟩;(clear h0 hd hn hf;go_simp;exact hR _ _ (hI.step ruleC_below (Below.refl _ _) rfl) (below_grow (Below.refl _ _) _) rfl);(go_simp;refine hK _ ?_;clear hK K))
    (refine walkP_ex (fun K hK=>?_);refine ⟨fun done W hI h0 hd hn hf R hR=>?_,?_⟩;(clear h0 hd hn hf;go_simp;exact hR _ _ (hI.step ruleC_below (Below.refl _ _) rfl) (below_grow (Below.refl _ _) _) rfl);(go_simp;refine hK _ ?_;clear hK K))
    (refine walkP_ex (fun K hK=>?_);refine ⟨fun done W hI h0 hd hn hf R hR=>?_,?_⟩;(have h5 : ∃ a c,v5 = .slice a r.conds.length c∧RdConds W (fun b=>wA.heap.size≤b∧b ≠ g) v5 r.conds:=hf 5 (by decide);obtain ⟨a5,c5,rfl,hr5⟩:=h5;have hI0:=hI;obtain ⟨_,_,⟨u9,rfl,hr9⟩,hcell⟩:=hI.cells (by exact markm_get Hlt.out);have hck:=hcell 0 _ rfl;simp only [Nat.add_zero] at hck;have hfz:=hI.frz (by rw [markm_len Hlt.out];have:=Hlt.out;omega) (k * 2);have HN:=Lib.hid (hI.put (done':=updDone done 8) (i:=k) (j:=0) (u:=.slice a5 r.conds.length c5) (y':=(r,true)) (by decide) (by exact markm_get Hlt.out) (fun cs0 hcs=>by obtain ⟨v0,rfl,_⟩:=hcs;exact ⟨_,rfl,hr5.keep (fun b hb _=>⟨hb.2,fun _=>hb.1⟩) (fun b hb _=>set_other (by exact hb.2)) (by rw [set_size];exact Nat.le_refl _)⟩) (fun z cs0 hz=>ruleC_set z cs0 hz) (by rw [markm_set Hlt.out];rfl));have HT:=Lib.hid (grow_set W g (k * 2) (.slice a5 r.conds.length c5));clear h0 hd hn hf hcell hI hI0 hr9 hr5;go_simp;exact hR _ _ HN.out HT.out rfl);(go_simp;refine hK _ ?_;clear hK K))
    intro done W hdone hI _
    have h8 : done 8 = true:=hdone 8 (by decide)
    have ho:=hI.own
    rw [h8,markm_hi Hrk.out] at ho
    have HO:=Lib.hid ho
    have Hbw:=Lib.hid (below_of_grow (B:=wA.heap.size) (Below.refl _ wq) hI.gr (by have:=Hg.out;have:=Hg2.out;have:=Hsq.out;omega) Hg.out)
    have HBw:=Lib.hid (HBq.out.lift Hbw.out (by have:=HsA.out;show w.heap.size + 2≤_;omega))
    clear hI hdone h8 ho
    go_wp2
    go_roundw
    case rel=>exact ⟨k + 1,by go_num,by omega,HO.out,HBw.out⟩
    case measure=>simp [intOf];omega
   ·obtain rfl : k = rules.length:=by omega
    have ho:=Hown.out
    rw [marks_all] at ho
    have hR : RdRules wr (fun b=>wA.heap.size≤b) (.slice (some ⟨g,0,none⟩) rules.length c1) rules:=Sl.mono ((ho.unmark' (R:=ruleR wr (fun b=>wA.heap.size≤b)) fun x cs ⟨u,h1,h2⟩=>⟨u,h1,h2.keep (fun b hb _=>hb.2 rfl) (fun _ _ _=>rfl) (Nat.le_refl _)⟩).sl (D:=fun b=>wA.heap.size≤b) (fun _ h=>h)) (fun _ h _=>h) (fun _ _ _=>rfl) (Nat.le_refl _) (fun _ _ _ h=>h)
    have HR:=Lib.hid hR
    have HS1 : Hid (Bx w [.cells #[.slice (some ⟨g,0,none⟩) rules.length c1,.int .i64 dflt] 38,.cells #[.slice (some ⟨g,0,none⟩) rules.length c1,.int .i64 0] 38] (wr.setCell ⟨w.heap.size + 1,0,none⟩ (.slice (some ⟨g,0,none⟩) rules.length c1))):=Hbx.out.set (i:=1) rfl 0 _
    have HS2 : Hid (Bx w [.cells #[.slice (some ⟨g,0,none⟩) rules.length c1,.int .i64 dflt] 38,.cells #[.slice (some ⟨g,0,none⟩) rules.length c1,.int .i64 dflt] 38] ((wr.setCell ⟨w.heap.size + 1,0,none⟩ (.slice (some ⟨g,0,none⟩) rules.length c1)).setCell ⟨w.heap.size + 1,1,none⟩ (.int .i64 dflt))):=HS1.out.set (i:=1) rfl 1 _
    have HR2 : Hid (RdRules ((wr.setCell ⟨w.heap.size + 1,0,none⟩ (.slice (some ⟨g,0,none⟩) rules.length c1)).setCell ⟨w.heap.size + 1,1,none⟩ (.int .i64 dflt)) (fun b=>w.heap.size≤b) (.slice (some ⟨g,0,none⟩) rules.length c1) rules):=HR.out.keep (fun b hb _=>by have h : wA.heap.size≤b:=hb;have:=HsA.out;omega) (fun b hb _=>by have h : wA.heap.size≤b:=hb;have:=HsA.out;rw [set_other (by show b ≠ w.heap.size + 1;omega),set_other (by show b ≠ w.heap.size + 1;omega)]) (by rw [set_size,set_size];exact Nat.le_refl _)
    have hq1:=Hbx.out.cells1
    have hf1:=Hbx.out.free1
    have hqs:=HS2.out.cells1
    clear hR ho
    go_wp2
    exact bodyPost_ret (v:=polV (.slice (some ⟨g,0,none⟩) rules.length c1) dflt) (by simp [results,Tryz.results128,go_sem,hqs]) rfl ⟨_,rfl,HR2.out,HS2.out.bel⟩
end Go.Proofs.YthkgjohhbdipcaaGreatDoor
namespace Go.Proofs.YthkgjohhbdipcaaGreatDoor
open Go.RowKit
theorem infocCell : (Tryz.prog.info? 52).map (fun i=>(i.zero,i.size,i.bytes)) = some (some (.agg #[.bool false,.slice none 0 0,.slice none 0 0,.int .i64 0]),4,64):=by kernel_rfl
set_option maxRecDepth 100000 in
set_option maxHeartbeats 1000000 in
theorem cloneCell_any {α : Type} (R : α → List Value → Prop) (h1R : ∀ (y : α) (cs : List Value),R y cs → ∀ c ∈ cs,c.oneCell' = true) (v : Value) (xs : List α) (D : Nat → Prop) (w : World) (h : Sl w D 4 R v xs) (hn : xs.length * 64≤140737488355328) :
  Calls Tryz.prog 126 #[v] w fun e w'=>∃ v',e = .returned v'∧OwnSl w' w.heap.size 52 4 R v' xs∧Below w.heap.size w w':=by
 obtain ⟨i0,hi,hz0,hz1,hz2⟩:=info_parts infocCell
 have H:=Lib.hid h
 obtain ⟨a,c,rfl,hlc,hcm,hnil,hat⟩:=h
 have Hi:=Lib.hid hi
 clear hi
 cases a with
 | none =>
  have hc:=hnil rfl
  subst hc
  have hx : xs = []:=List.length_eq_zero_iff.1 (by omega)
  subst hx
  have hq:=fun (a : Option Addr) (n c : Nat) (W : World)=>Lib.run_eql_slice_nil (P:=Tryz.prog) W 22 52 a n c 0 0 Tryz.underlying22
  go_enter Tryz.func126,Tryz.ntmps126
  go_wp2
  go_ret
  exact ⟨_,rfl,OwnSl.nil,Below.refl _ _⟩
 | some ad =>
  have H2:=Lib.hid (H.out.belowR (bel_alloc (Below.refl _ w) (.cells #[] 52)) (fun _ _ _ h=>h))
  have Hown : Hid (OwnSl (w.alloc (.cells #[] 52)) w.heap.size 52 4 R (.slice (some ⟨w.heap.size,0,none⟩) 0 0) ([] : List α)) :=
   ⟨[],RowsOf.nil,by simp,.inr ⟨w.heap.size,0,#[],rfl,Nat.le_refl _,heap_last _ _,by simp,by simp,by simp,by simp⟩⟩
  clear hat hnil
  have hq:=fun (a : Option Addr) (n c : Nat) (W : World)=>Lib.run_eql_slice_nil (P:=Tryz.prog) W 22 52 a n c 0 0 Tryz.underlying22
  go_enter Tryz.func126,Tryz.ntmps126
  go_wp2_with (at_builtin;refine wpList_app rfl _ _ 22 rfl w.heap.size 52 i0 _ 4 64 Tryz.underlying22 Hi.out hz0 hz1 hz2 rfl (by decide) _ _ rfl Hown.out _ _ rfl H2.out (fun y _ cs h=>h1R y cs h) (by show 0 + _≤maxLen;unfold maxLen;omega) (by show (0 + _) * 64≤_;omega) (by simp) ?_;intro v' w3 hown' hg)
  go_ret
  exact ⟨_,rfl,hown',Hown.out.grown (bel_alloc (Below.refl _ _) _) hg (by simp) (Nat.le_refl _)⟩
end Go.Proofs.YthkgjohhbdipcaaGreatDoor
namespace Go.Proofs.YthkgjohhbdipcaaGreatDoor
open Go.RowKit
theorem insR_one (y : TIns) (cs : List Value) (h : insR y cs) : ∀ c ∈ cs,c.oneCell' = true:=by
 unfold insR at h;subst h;simp [Value.oneCell']
theorem chainR_one {w : World} {D : Nat → Prop} (y : List TIns) (cs : List Value) (h : chainR w D y cs) : ∀ c ∈ cs,c.oneCell' = true:=by
 obtain ⟨u,rfl,h⟩:=h
 obtain ⟨a,c,rfl,_⟩:=Sl.form h
 simp [Value.oneCell']
def copyR (w : World) (g B : Nat) (y : List TIns × Bool) (cs : List Value) : Prop:=∃ u,cs = [u]∧RdCode w (fun b=>b ≠ g∧(y.2 = true → B≤b)) u y.1
theorem OwnSl.unmark {w : World} {base B g : Nat} {e : TypeId} {v : Value} {l : List (List TIns)} (h : OwnSl w base e 1 (copyR w g B) v (l.map fun f=>(f,true))) : OwnSl w base e 1 (chainR w (fun b=>B≤b∧b ≠ g)) v l:=by
 obtain ⟨rows,hr,ho⟩:=h
 refine ⟨rows,⟨by simpa using hr.len,hr.size,fun i x r hx hk=>?_⟩,by simpa using ho⟩
 obtain ⟨u,h1,h2⟩:=hr.rel i (x,true) r (by rw [List.getElem?_map,hx];rfl) hk
 exact ⟨u,h1,h2.keep (fun _ hb _=>⟨hb.2 rfl,hb.1⟩) (fun _ _ _=>rfl) (Nat.le_refl _)⟩
theorem OwnSl.mark {w : World} {base B g : Nat} {e : TypeId} {D : Nat → Prop} {v : Value} {l : List (List TIns)} (h : OwnSl w base e 1 (chainR w D) v l) (hD : ∀ b,D b → b ≠ g) : OwnSl w base e 1 (copyR w g B) v (l.map fun f=>(f,false)):=by
 obtain ⟨rows,hr,ho⟩:=h
 refine ⟨rows,⟨by simpa using hr.len,hr.size,fun i x r hx hk=>?_⟩,by simpa using ho⟩
 rw [List.getElem?_map] at hx
 cases hy : l[i]? with
 | none=>rw [hy] at hx;cases hx
 | some y =>
  rw [hy] at hx
  injection hx with hx
  subst hx
  obtain ⟨u,h1,h2⟩:=hr.rel i y r hy hk
  exact ⟨u,h1,h2.keep (fun b hb _=>⟨hD b hb,fun h=>by cases h⟩) (fun _ _ _=>rfl) (Nat.le_refl _)⟩
def marked (l : List (List TIns)) (k : Nat) : List (List TIns × Bool):=(l.take k).map (fun f=>(f,true)) ++ (l.drop k).map (fun f=>(f,false))
theorem marked_len (l : List (List TIns)) (k : Nat) (h : k≤l.length) : (marked l k).length = l.length:=by simp [marked];omega
theorem marked_get {l : List (List TIns)} {k : Nat} (h : k < l.length) : (marked l k)[k]'(by rw [marked_len l k (by omega)];exact h) = (l[k],false):=by
 unfold marked
 rw [List.getElem_append_right (by simp;omega)]
 simp
 congr 1
 omega
theorem marked_set {l : List (List TIns)} {k : Nat} (h : k < l.length) : (marked l k).set k (l[k],true) = marked l (k + 1):=by
 unfold marked
 have e : ((l.take k).map fun f=>(f,true)).length = k:=by simp;omega
 rw [List.set_append_right _ _ (by rw [e];exact Nat.le_refl _),e,Nat.sub_self,List.drop_eq_getElem_cons h,List.map_cons,List.set_cons_zero,List.take_succ_eq_append_getElem h,List.map_append]
 simp
theorem marked_zero (l : List (List TIns)) : marked l 0 = l.map fun f=>(f,false):=by simp [marked]
theorem marked_all (l : List (List TIns)) : marked l l.length = l.map fun f=>(f,true):=by simp [marked]
set_option maxRecDepth 100000 in
set_option maxHeartbeats 8000000 in
theorem copy_any (v : Value) (l : List (List TIns)) (D : Nat → Prop) (w : World) (h : RdChain w D v l) (hn : l.length≤1000000) (hc : ∀ f ∈ l,f.length≤1000000) :
  Calls Tryz.prog 127 #[v] w fun e w'=>∃ v',e = .returned v'∧OwnSl w' w.heap.size 98 1 (chainR w' (fun b=>w.heap.size≤b∧v'.ownBlock ≠ some b)) v' l∧Below w.heap.size w w':=by
 have H:=Lib.hid h
 have Hc:=Lib.hid hc
 obtain ⟨a,c,rfl,hlc,hcm,hat⟩:=Sl.form h
 clear h hc
 go_enter Tryz.func127,Tryz.ntmps127
 go_wp2_with fail
 have H0 : Hid (Sl w D 1 (chainR w (fun b=>D b∧b < w.heap.size)) (.slice a l.length c) l):=Sl.mono H.out (fun _ h _=>h) (fun _ _ _=>rfl) (Nat.le_refl _) (fun _ _ _ ⟨u,h1,h2⟩=>⟨u,h1,h2.keep (fun _ h hl=>⟨h,hl⟩) (fun _ _ _=>rfl) (Nat.le_refl _)⟩)
 refine (cloneChain_any (chainR w (fun b=>D b∧b < w.heap.size)) (fun y cs h=>chainR_one y cs h) _ l D w H0.out (by omega)).mono ?_
 rintro e w1 ⟨v1,rfl,ho1,hb1⟩
 have ho1' : OwnSl w1 w.heap.size 98 1 (chainR w1 (fun b=>D b∧b < w.heap.size)) v1 l:=ho1.monoR fun _ _ _ ⟨u,h1,h2⟩=>⟨u,h1,h2.below hb1⟩
 have Ho1:=Lib.hid ho1'
 have Hb1:=Lib.hid hb1
 obtain ⟨a1,c1,rfl⟩:=ho1.slice
 clear ho1 ho1' hb1
 rcases Nat.eq_zero_or_pos l.length with h0 | hpos
 ·have hl0 : l = []:=List.length_eq_zero_iff.1 h0
  subst hl0
  have hlen0 : ([] : List (List TIns)).length = 0:=rfl
  go_wp2_with fail
  go_loopw [9] (fun kv wr=>kv = .int .i64 0∧wr = w1) (fun _ _=>0)
  case atStart=>exact ⟨rfl,rfl⟩
  case round =>
   obtain ⟨rfl,rfl⟩:=hrel
   go_wp2
   go_ret
   exact ⟨_,rfl,Ho1.out.monoR (fun x hx=>by cases hx),Hb1.out⟩
 ·obtain ⟨g,rfl,hgb,hgl,cur,hcur⟩:=OwnSl.addr Ho1.out hpos
  have HM : Hid (OwnSl w1 w.heap.size 98 1 (copyR w1 g w.heap.size) (.slice (some ⟨g,0,none⟩) l.length c1) (marked l 0)):=by
   show OwnSl _ _ _ _ _ _ _
   rw [marked_zero]
   exact Ho1.out.mark (fun b hb=>by omega)
  clear hcur
  go_wp2_with fail
  go_loopw [9] (fun kv wr=>∃ k : Nat,kv = .int .i64 k∧k≤l.length∧OwnSl wr w.heap.size 98 1 (copyR wr g w.heap.size) (.slice (some ⟨g,0,none⟩) l.length c1) (marked l k)∧Below w.heap.size w wr) (fun kv _=>l.length - (intOf kv).toNat)
  case atStart=>exact ⟨0,rfl,by omega,HM.out,Hb1.out⟩
  case round =>
   obtain ⟨k,rfl,hk,hown,hb⟩:=hrel
   have Hown:=Lib.hid hown
   have Hb:=Lib.hid hb
   clear hown hb
   by_cases hlt : k < l.length
   ·have hml:=marked_len l k (by omega)
    have hg2 : g < wr.heap.size:=by
     obtain ⟨b,e,_,hl,_⟩:=OwnSl.addr Hown.out (by omega)
     injection e with e;injection e with e;rw [e];exact hl
    have hsl : Sl wr (fun _=>True) 1 (copyR wr g w.heap.size) (.slice (some ⟨g,0,none⟩) l.length c1) (marked l k):=Hown.out.sl (fun _ _=>trivial)
    obtain ⟨cs,_,⟨u,hu,hr⟩,hcell⟩:=Sl.get hsl (i:=k) (by omega)
    rw [marked_get hlt] at hr
    have Hr : Hid (RdCode wr (fun b=>b ≠ g) u l[k]):=hr.keep (fun _ h _=>h.1) (fun _ _ _=>rfl) (Nat.le_refl _)
    have Hck:=Lib.hid (Hc.out l[k] (List.getElem_mem hlt))
    have Hset:=Lib.hid (marked_set hlt)
    obtain ⟨f,hf⟩ : ∃ f,l[k] = f:=⟨_,rfl⟩
    rw [hf] at Hr Hck Hset
    obtain ⟨cf,cc,rfl,_⟩:=Sl.form Hr.out
    subst hu
    have hck:=hcell 0 _ rfl
    simp only [Nat.mul_one,Nat.zero_add,Nat.add_zero] at hck
    have hcl:=Hck.out
    clear hr hcell hf hsl
    go_wp2_with fail
    refine (cloneIns_any insR insR_one _ f (fun b=>b ≠ g) wr Hr.out (by omega)).mono ?_
    rintro e w2 ⟨v2,rfl,ho2,hb2⟩
    have Hb2:=Lib.hid (bel_call Hb.out hb2)
    have hown2 : OwnSl w2 w.heap.size 98 1 (copyR w2 g w.heap.size) (.slice (some ⟨g,0,none⟩) l.length c1) (marked l k):=(Hown.out.below hb2).monoR fun _ _ _ ⟨u,h1,h2⟩=>⟨u,h1,h2.below hb2⟩
    obtain ⟨b',e',_,hgl2,cur2,hcur2⟩:=OwnSl.addr hown2 (by omega)
    obtain rfl : g = b':=by injection e' with e';injection e' with e'
    have hfg:=not_frozen hcur2 k
    have hcg:=(OwnSl.sl hown2 (D:=fun _=>True) (fun _ _=>trivial))
    obtain ⟨cs3,_,⟨u3,hu3,_⟩,hcell3⟩:=Sl.get hcg (i:=k) (by omega)
    subst hu3
    have hck2:=hcell3 0 _ rfl
    simp only [Nat.mul_one,Nat.zero_add,Nat.add_zero] at hck2
    obtain ⟨a2,c2,rfl⟩:=ho2.slice
    have Hw3 : Hid (Below w.heap.size w (w2.setCell ⟨g,k,none⟩ (.slice a2 f.length c2))):=set_below Hb2.out hgb
    have hsz2:=Hb2.out.size
    have Hown3 : Hid (OwnSl (w2.setCell ⟨g,k,none⟩ (.slice a2 f.length c2)) w.heap.size 98 1 (copyR (w2.setCell ⟨g,k,none⟩ (.slice a2 f.length c2)) g w.heap.size) (.slice (some ⟨g,0,none⟩) l.length c1) (marked l (k + 1))):=by
     have hm : OwnSl w2 w.heap.size 98 1 (copyR (w2.setCell ⟨g,k,none⟩ (.slice a2 f.length c2)) g w.heap.size) (.slice (some ⟨g,0,none⟩) l.length c1) (marked l k):=hown2.monoR fun _ _ _ ⟨u,h1,h2⟩=>⟨u,h1,h2.keep (fun _ h _=>h) (fun b hb _=>set_other (by exact hb.1)) (by rw [set_size];exact Nat.le_refl _)⟩
     have hp:=OwnSl.put (i:=k) (j:=0) hm (by omega) (by decide) (y:=(f,true)) (u:=.slice a2 f.length c2) (fun r hr=>by
      obtain ⟨u,rfl,_⟩:=hr
      refine ⟨.slice a2 f.length c2,rfl,?_⟩
      have hs : Sl w2 (fun b=>wr.heap.size≤b) 4 insR (.slice a2 f.length c2) f:=ho2.sl fun _ h=>h
      exact Sl.mono hs (fun b hb _=>by have h1 : wr.heap.size≤b:=hb;exact ⟨by omega,fun _=>by omega⟩) (fun b hb _=>set_other (by have h1 : wr.heap.size≤b:=hb;show b ≠ g;omega)) (by rw [set_size];exact Nat.le_refl _) (fun _ _ _ h=>h))
     rw [Hset.out] at hp
     show OwnSl _ _ _ _ _ _ _
     simpa using hp
    clear ho2 hb2 hown2 hcur2 hcell3 hcg
    go_wp2
    go_roundw
    case rel=>exact ⟨k + 1,by go_num,by omega,Hown3.out,Hw3.out⟩
    case measure=>simp [intOf];omega
   ·obtain rfl : k = l.length:=by omega
    have HR : Hid (OwnSl wr w.heap.size 98 1 (chainR wr (fun b=>w.heap.size≤b∧(Value.slice (some ⟨g,0,none⟩) l.length c1).ownBlock ≠ some b)) (.slice (some ⟨g,0,none⟩) l.length c1) l):=by
     have:=Hown.out
     rw [marked_all] at this
     exact this.unmark.monoR fun _ _ _ ⟨u,h1,h2⟩=>⟨u,h1,h2.keep (fun b hb _=>⟨hb.1,fun e=>hb.2 (by simpa [Value.ownBlock] using e.symm)⟩) (fun _ _ _=>rfl) (Nat.le_refl _)⟩
    go_wp2
    go_ret
    exact ⟨_,rfl,HR.out,Hb.out⟩
end Go.Proofs.YthkgjohhbdipcaaGreatDoor
namespace Go.Proofs.YthkgjohhbdipcaaGreatDoor
open Go.RowKit
attribute [local go_sem] gives givesUpon
def smallCell (c : TCell) : Prop:=(c.chain.length≤1000000∧∀ f ∈ c.chain,f.length≤1000000)∧c.p.rules.length≤1000000∧∀ r ∈ c.p.rules,r.conds.length≤1000000
def cellC (g B : Nat) (W : World) (y : TCell × (Bool × Bool)) (cs : List Value) : Prop:=∃ u v,cs = [.bool y.1.open_,u,v,.int .i64 y.1.p.dflt]∧RdChain W (fun b=>b ≠ g∧(y.2.1 = true → B≤b)) u y.1.chain∧RdRules W (fun b=>b ≠ g∧(y.2.2 = true → B≤b)) v y.1.p.rules
theorem cellC_below {g B : Nat} (W W' : World) (y : TCell × (Bool × Bool)) (cs : List Value) (hb : Below W.heap.size W W') (h : cellC g B W y cs) : cellC g B W' y cs:=by
 obtain ⟨u,v,h1,h2,h3⟩:=h
 exact ⟨u,v,h1,h2.below hb,h3.below hb⟩
theorem cellC_set {g B i : Nat} {x : Value} {W : World} (y : TCell × (Bool × Bool)) (cs : List Value) (h : cellC g B W y cs) : cellC g B (W.setCell ⟨g,i,none⟩ x) y cs:=by
 obtain ⟨u,v,h1,h2,h3⟩:=h
 exact ⟨u,v,h1,h2.keep (fun _ h _=>h) (fun b hb _=>set_other (by exact hb.1)) (by rw [set_size];exact Nat.le_refl _),h3.keep (fun _ h _=>h) (fun b hb _=>set_other (by exact hb.1)) (by rw [set_size];exact Nat.le_refl _)⟩
theorem chain_stableG {g B : Nat} {l : List (List TIns)} : stableG g (fun v W=>∃ a c,v = .slice a l.length c∧RdChain W (fun b=>B≤b∧b ≠ g) v l):=fun _ _ _ hg ⟨a,c,h1,h2⟩ =>
 ⟨a,c,h1,h2.keep (fun _ h _=>h) (fun b hb hl=>hg.block b hl (fun e=>hb.2 (by injection e))) hg.size⟩
theorem pol_stableG {g B : Nat} {l : List TRule} {d : Int} : stableG g (fun v W=>∃ a c,v = polV (.slice a l.length c) d∧RdRules W (fun b=>B≤b∧b ≠ g) (.slice a l.length c) l):=fun _ _ _ hg ⟨a,c,h1,h2⟩ =>
 ⟨a,c,h1,h2.keep (fun _ h _=>h) (fun b hb hl=>hg.block b hl (fun e=>hb.2 (by injection e))) hg.size⟩
set_option maxRecDepth 100000 in
set_option maxHeartbeats 8000000 in
theorem keepcopy_any (v : Value) (l : List TCell) (D : Nat → Prop) (w : World) (h : RdCells w D v l) (hn : l.length≤1000000) (hc : ∀ c ∈ l,smallCell c) :
  Calls Tryz.prog 87 #[v] w fun e w'=>∃ v',e = .returned v'∧OwnSl w' w.heap.size 52 4 (cellR w' (fun b=>w.heap.size≤b∧v'.ownBlock ≠ some b)) v' l∧Below w.heap.size w w':=by
 have H:=Lib.hid h
 have Hc:=Lib.hid hc
 obtain ⟨a,c,rfl,hlc,hcm,hat⟩:=Sl.form h
 clear h hc hat
 go_enter Tryz.func87,Tryz.ntmps87
 go_wp2_with fail
 have H0 : Hid (Sl w D 4 (cellR w (fun b=>b < w.heap.size)) (.slice a l.length c) l):=Sl.mono H.out (fun _ h _=>h) (fun _ _ _=>rfl) (Nat.le_refl _) (fun _ _ _ hy=>cellR.keep hy (fun _ _ hl=>hl) (fun _ _ _=>rfl) (Nat.le_refl _))
 refine (cloneCell_any (cellR w (fun b=>b < w.heap.size)) (fun y cs h=>cellR_one y cs h) _ l D w H0.out (by omega)).mono ?_
 rintro e w1 ⟨v1,rfl,ho1,hb1⟩
 have Ho1 : Hid (OwnSl w1 w.heap.size 52 4 (cellR w1 (fun b=>b < w.heap.size)) v1 l):=ho1.monoR fun _ _ _ hy=>cellR.keep hy (fun _ h _=>h) (fun b _ hl=>hb1.block b hl) hb1.size
 have Hb1:=Lib.hid hb1
 obtain ⟨a1,c1,rfl⟩:=ho1.slice
 clear ho1 hb1 H0
 rcases Nat.eq_zero_or_pos l.length with h0 | hpos
 ·have hl0 : l = []:=List.length_eq_zero_iff.1 h0
  subst hl0
  have hlen0 : ([] : List TCell).length = 0:=rfl
  go_wp2_with fail
  go_loopw [9] (fun kv wr=>kv = .int .i64 0∧wr = w1) (fun _ _=>0)
  case atStart=>exact ⟨rfl,rfl⟩
  case round =>
   obtain ⟨rfl,rfl⟩:=hrel
   go_wp2
   go_ret
   exact ⟨_,rfl,Ho1.out.monoR (fun x hx=>by cases hx),Hb1.out⟩
 ·obtain ⟨g,rfl,hgb,hgl,cur,hcur⟩:=OwnSl.addr Ho1.out hpos
  have HM : Hid (OwnSl w1 w.heap.size 52 4 (cellC g w.heap.size w1) (.slice (some ⟨g,0,none⟩) l.length c1) (marks l 0 (true,true) (false,false))):=by
   show OwnSl _ _ _ _ _ _ _
   rw [marks_zero]
   exact Ho1.out.mark' fun x cs ⟨u,v,h1,h2,h3⟩=>⟨u,v,h1,h2.keep (fun b hb _=>⟨by omega,fun h=>by cases h⟩) (fun _ _ _=>rfl) (Nat.le_refl _),h3.keep (fun b hb _=>⟨by omega,fun h=>by cases h⟩) (fun _ _ _=>rfl) (Nat.le_refl _)⟩
  have Hg:=Lib.hid hgb
  clear hcur
  go_wp2_with fail
  go_loopw [9] (fun kv wr=>∃ k : Nat,kv = .int .i64 k∧k≤l.length∧OwnSl wr w.heap.size 52 4 (cellC g w.heap.size wr) (.slice (some ⟨g,0,none⟩) l.length c1) (marks l k (true,true) (false,false))∧Below w.heap.size w wr) (fun kv _=>l.length - (intOf kv).toNat)
  case atStart=>exact ⟨0,rfl,by omega,HM.out,Hb1.out⟩
  case round =>
   obtain ⟨k,rfl,hk,hown,hbx⟩:=hrel
   have Hown:=Lib.hid hown
   have Hbx:=Lib.hid hbx
   clear hown hbx
   by_cases hlt : k < l.length
   ·obtain ⟨c,hr⟩ : ∃ c,l[k]? = some c:=⟨_,List.getElem?_eq_getElem hlt⟩
    have Hrk:=Lib.hid hr
    have Hck:=Lib.hid (Hc.out c (List.mem_of_getElem? hr))
    have hown0 : PutInv wr w.heap.size 52 4 g l.length c1 (cellC g w.heap.size) (fun done=>markm l k c (true,true) (done 12,done 15) (false,false)) (fun _=>false) wr :=
     ⟨by show OwnSl _ _ _ _ _ _ _;rw [markm_lo hr];exact Hown.out,below_grow (Below.refl _ _) _⟩
    obtain ⟨cs,_,⟨u,v,hu,hrc,hrp⟩,hcell⟩:=hown0.cells (markm_get hlt)
    have Hrc:=Lib.hid hrc
    have Hrp:=Lib.hid hrp
    have Hg2:=Lib.hid (hown0.blk (by rw [markm_len hlt];omega)).2.1
    obtain ⟨ac,cc,rfl,_⟩:=Sl.form hrc
    obtain ⟨ap,cp,rfl,_⟩:=Sl.form hrp
    subst hu
    have hck0:=hcell 0 _ rfl
    have hck1:=hcell 1 _ rfl
    have hck2:=hcell 2 _ rfl
    have hck3:=hcell 3 _ rfl
    simp only [Nat.add_zero] at hck0
    clear hcell hrc hrp hown0 hr
    go_wp2_with fail
    have HC:=Lib.hid (Bx.one (w:=wr) (o:=(.cells #[.bool c.open_,.slice ac c.chain.length cc,.slice ap c.p.rules.length cp,.int .i64 c.p.dflt] 52)))
    have HBq:=Lib.hid (bel_call Hbx.out HC.out.bel)
    have Hownq : Hid (OwnSl (wr.alloc (.cells #[.bool c.open_,.slice ac c.chain.length cc,.slice ap c.p.rules.length cp,.int .i64 c.p.dflt] 52)) w.heap.size 52 4 (cellC g w.heap.size (wr.alloc (.cells #[.bool c.open_,.slice ac c.chain.length cc,.slice ap c.p.rules.length cp,.int .i64 c.p.dflt] 52))) (.slice (some ⟨g,0,none⟩) l.length c1) (markm l k c (true,true) (false,false) (false,false))):=by
     show OwnSl _ _ _ _ _ _ _
     rw [markm_lo Hrk.out]
     exact (Hown.out.below HC.out.bel).monoR fun _ _ _ hy=>cellC_below _ _ _ _ HC.out.bel hy
    have HrC:=Lib.hid (RdChain.below Hrc.out HC.out.bel)
    have HrP:=Lib.hid (RdRules.below Hrp.out HC.out.bel)
    have Hsq : Hid ((wr.alloc (.cells #[.bool c.open_,.slice ac c.chain.length cc,.slice ap c.p.rules.length cp,.int .i64 c.p.dflt] 52)).heap.size = wr.heap.size + 1):=by show _ = _;simp
    revert HC HBq Hownq HrC HrP Hsq
    generalize (wr.alloc (.cells #[.bool c.open_,.slice ac c.chain.length cc,.slice ap c.p.rules.length cp,.int .i64 c.p.dflt] 52)) = wq
    intro HC HBq Hownq HrC HrP Hsq
    clear hck0 hck1 hck2 hck3
    have hk0 : (0 : Int)≤(k : Int):=by omega
    have hkl : (k : Int) < (l.length : Int):=by omega
    have hkw : IntKind.i64.wrap (k : Int) = (k : Int):=IntWalk.i64_in _ (by omega)
    have Hlt:=Lib.hid hlt
    refine wp_region_put g [ex (.slice (some ⟨g,0,none⟩) l.length c1),ex (.int .i64 k),ex (.slice (some ⟨g,0,none⟩) l.length c1),ex (.int .i64 k),ex (.pointer (some ⟨wr.heap.size,1,none⟩)),ex (.slice ac c.chain.length cc),pr (fun v W=>∃ a c',v = .slice a c.chain.length c'∧RdChain W (fun b=>w.heap.size≤b∧b ≠ g) v c.chain),ex (.pointer (some ⟨wr.heap.size,2,none⟩)),ex (polV (.slice ap c.p.rules.length cp) c.p.dflt),
      pr (fun v W=>∃ a c',v = polV (.slice a c.p.rules.length c') c.p.dflt∧RdRules W (fun b=>w.heap.size≤b∧b ≠ g) (.slice a c.p.rules.length c') c.p.rules),ex (.pointer (some ⟨g,k * 4,none⟩)),ex (.pointer (some ⟨g,k * 4 + 1,none⟩)),ex undef,ex (.pointer (some ⟨g,k * 4,none⟩)),ex (.pointer (some ⟨g,k * 4 + 2,none⟩)),ex undef]
     (PutInv wq w.heap.size 52 4 g l.length c1 (cellC g w.heap.size) (fun done=>markm l k c (true,true) (done 12,done 15) (false,false))) (by kernel_rfl) (by kernel_rfl) ⟨.inl ⟨_,rfl⟩,.inl ⟨_,rfl⟩,.inl ⟨_,rfl⟩,.inl ⟨_,rfl⟩,.inl ⟨_,rfl⟩,.inl ⟨_,rfl⟩,.inr ⟨_,rfl,chain_stableG⟩,.inl ⟨_,rfl⟩,.inl ⟨_,rfl⟩,.inr ⟨_,rfl,pol_stableG⟩,.inl ⟨_,rfl⟩,.inl ⟨_,rfl⟩,.inl ⟨_,rfl⟩,.inl ⟨_,rfl⟩,.inl ⟨_,rfl⟩,.inl ⟨_,rfl⟩,trivial⟩ ⟨(Hownq.out.below (Below.refl _ _).drew).monoR fun _ _ _ hy=>cellC_below _ _ _ _ (Below.refl _ _).drew hy,grow_drew _ _⟩ _ rfl ?_
    (refine walkP_ex (fun K hK=>?_);refine ⟨fun done W hI h0 hd hn hf R hR=>?_,?_⟩;(clear h0 hd hn hf;go_simp;exact hR _ _ (hI.step cellC_below (Below.refl _ _) rfl) (below_grow (Below.refl _ _) _) rfl);(go_simp;refine hK _ ?_;clear hK K))
    (refine walkP_ex (fun K hK=>?_);refine ⟨fun done W hI h0 hd hn hf R hR=>?_,?_⟩;(clear h0 hd hn hf;go_simp;exact hR _ _ (hI.step cellC_below (Below.refl _ _) rfl) (below_grow (Below.refl _ _) _) rfl);(go_simp;refine hK _ ?_;clear hK K))
    (refine walkP_ex (fun K hK=>?_);refine ⟨fun done W hI h0 hd hn hf R hR=>?_,?_⟩;(clear h0 hd hn hf;go_simp;exact hR _ _ (hI.step cellC_below (Below.refl _ _) rfl) (below_grow (Below.refl _ _) _) rfl);(go_simp;refine hK _ ?_;clear hK K))
    (refine walkP_ex (fun K hK=>?_);refine ⟨fun done W hI h0 hd hn hf R hR=>?_,?_⟩;(clear h0 hd hn hf;go_simp;exact hR _ _ (hI.step cellC_below (Below.refl _ _) rfl) (below_grow (Below.refl _ _) _) rfl);(go_simp;refine hK _ ?_;clear hK K))
    (refine walkP_ex (fun K hK=>?_);refine ⟨fun done W hI h0 hd hn hf R hR=>?_,?_⟩;(clear h0 hd hn hf;go_simp;exact hR _ _ (hI.step cellC_below (Below.refl _ _) rfl) (below_grow (Below.refl _ _) _) rfl);(go_simp;refine hK _ ?_;clear hK K))
    (refine walkP_ex (fun K hK=>?_);refine ⟨fun done W hI h0 hd hn hf R hR=>?_,?_⟩;(have hcl : ∀ j,W.cell? ⟨wr.heap.size,j,none⟩ = _:=cells_of ((hI.gr.block _ (by have:=Hsq.out;omega) (fun e=>by injection e with e;have:=Hg2.out;omega)).trans (HC.out.at_ 0 _ rfl));clear h0 hd hn hf;go_simp;exact hR _ _ (hI.step cellC_below (Below.refl _ _) rfl) (below_grow (Below.refl _ _) _) rfl);(go_simp;refine hK _ ?_;clear hK K))
    (refine walkP_pr (fun K hK=>?_);refine ⟨fun done W hI h0 hd hn hf R hR=>?_,fun v6c=>?_⟩;(have Hrw:=Lib.hid (HrC.out.keep (w':=W) (D':=fun b=>b ≠ g) (fun _ h _=>h.1) (fun b hb hl=>hI.gr.block b hl (fun e=>hb.1 (by injection e))) hI.gr.size);have HgW : Hid (g < W.heap.size):=(by have:=hI.gr.size;have:=Hg2.out;have:=Hsq.out;show g < _;omega);have HwW : Hid (w.heap.size≤W.heap.size):=Nat.le_trans HBq.out.size hI.gr.size;clear h0 hd hn hf;go_simp;go_at_call 127;refine (copy_any _ c.chain _ W Hrw.out Hck.out.1.1 Hck.out.1.2).mono ?_;rintro e w5 ⟨v6,rfl,ho6,hb6⟩;exact ⟨_,rfl,hR _ _ (hI.step cellC_below hb6 rfl) (below_grow hb6 _) (by obtain ⟨a6,c6,rfl⟩:=ho6.slice;exact ⟨a6,c6,rfl,Sl.mono (ho6.sl (D:=fun b=>W.heap.size≤b) (fun _ h=>h)) (fun b hb _=>⟨Nat.le_trans HwW.out hb,by have h1 : W.heap.size≤b:=hb;have:=HgW.out;omega⟩) (fun _ _ _=>rfl) (Nat.le_refl _) (fun _ _ _ ⟨u,h1,h2⟩=>⟨u,h1,h2.keep (fun b hb _=>⟨Nat.le_trans HwW.out hb.1,by have h1:=hb.1;have:=HgW.out;omega⟩) (fun _ _ _=>rfl) (Nat.le_refl _)⟩)⟩)⟩);(go_simp;refine hK _ _ ?_;clear hK K))
    (refine walkP_ex (fun K hK=>?_);refine ⟨fun done W hI h0 hd hn hf R hR=>?_,?_⟩;(clear h0 hd hn hf;go_simp;exact hR _ _ (hI.step cellC_below (Below.refl _ _) rfl) (below_grow (Below.refl _ _) _) rfl);(go_simp;refine hK _ ?_;clear hK K))
    (refine walkP_ex (fun K hK=>?_);refine ⟨fun done W hI h0 hd hn hf R hR=>?_,?_⟩;(have hcl : ∀ j,W.cell? ⟨wr.heap.size,j,none⟩ = _:=cells_of ((hI.gr.block _ (by have:=Hsq.out;omega) (fun e=>by injection e with e;have:=Hg2.out;omega)).trans (HC.out.at_ 0 _ rfl));clear h0 hd hn hf;go_simp;exact hR _ _ (hI.step cellC_below (Below.refl _ _) rfl) (below_grow (Below.refl _ _) _) rfl);(go_simp;refine hK _ ?_;clear hK K))
    (refine walkP_pr (fun K hK=>?_);refine ⟨fun done W hI h0 hd hn hf R hR=>?_,fun v9p=>?_⟩;(have Hrw:=Lib.hid (HrP.out.keep (w':=W) (D':=fun b=>b ≠ g) (fun _ h _=>h.1) (fun b hb hl=>hI.gr.block b hl (fun e=>hb.1 (by injection e))) hI.gr.size);have HgW : Hid (g < W.heap.size):=(by have:=hI.gr.size;have:=Hg2.out;have:=Hsq.out;show g < _;omega);have HwW : Hid (w.heap.size≤W.heap.size):=Nat.le_trans HBq.out.size hI.gr.size;clear h0 hd hn hf;go_simp;go_at_call 128;refine (polcopy_any _ c.p _ W Hrw.out Hck.out.2.1 Hck.out.2.2).mono ?_;rintro e w5 ⟨v6,rfl,ho6,hb6⟩;exact ⟨_,rfl,hR _ _ (hI.step cellC_below hb6 rfl) (below_grow hb6 _) (by obtain ⟨a6,c6,rfl,_⟩:=Sl.form ho6;exact ⟨a6,c6,rfl,ho6.keep (fun b hb _=>⟨Nat.le_trans HwW.out hb,by have h1 : W.heap.size≤b:=hb;have:=HgW.out;omega⟩) (fun _ _ _=>rfl) (Nat.le_refl _)⟩)⟩);(go_simp;refine hK _ _ ?_;clear hK K))
    (refine walkP_ex (fun K hK=>?_);refine ⟨fun done W hI h0 hd hn hf R hR=>?_,?_⟩;(clear h0 hd hn hf;go_simp;exact hR _ _ (hI.step cellC_below (Below.refl _ _) rfl) (below_grow (Below.refl _ _) _) rfl);(go_simp;refine hK _ ?_;clear hK K))
    (refine walkP_ex (fun K hK=>?_);refine ⟨fun done W hI h0 hd hn hf R hR=>?_,?_⟩;(clear h0 hd hn hf;go_simp;exact hR _ _ (hI.step cellC_below (Below.refl _ _) rfl) (below_grow (Below.refl _ _) _) rfl);(go_simp;refine hK _ ?_;clear hK K))
    (refine walkP_ex (fun K hK=>?_);refine ⟨fun done W hI h0 hd hn hf R hR=>?_,?_⟩;(have h6 : ∃ a c',v6c = .slice a c.chain.length c'∧RdChain W (fun b=>w.heap.size≤b∧b ≠ g) v6c c.chain:=hf 6 (by decide);obtain ⟨a6,c6,rfl,hr6⟩:=h6;obtain ⟨_,_,⟨u9,v9,rfl,hr9,hs9⟩,hcell⟩:=hI.cells (by exact markm_get Hlt.out);have hck:=hcell 1 _ rfl;have hfz:=hI.frz (by rw [markm_len Hlt.out];have:=Hlt.out;omega) (k * 4 + 1);have HN:=Lib.hid (hI.put (done':=updDone done 12) (i:=k) (j:=1) (u:=.slice a6 c.chain.length c6) (y':=(c,(true,done 15))) (by decide) (by exact markm_get Hlt.out) (fun cs0 hcs=>by obtain ⟨v0,v1,rfl,_,h3⟩:=hcs;exact ⟨_,_,rfl,hr6.keep (fun b hb _=>⟨hb.2,fun _=>hb.1⟩) (fun b hb _=>set_other (by exact hb.2)) (by rw [set_size];exact Nat.le_refl _),h3⟩) (fun z cs0 hz=>cellC_set z cs0 hz) (by rw [markm_set Hlt.out];rfl));have HT:=Lib.hid (grow_set W g (k * 4 + 1) (.slice a6 c.chain.length c6));clear h0 hd hn hf hcell hI hs9 hr9 hr6;go_simp;exact hR _ _ HN.out HT.out rfl);(go_simp;refine hK _ ?_;clear hK K))
    (refine walkP_ex (fun K hK=>?_);refine ⟨fun done W hI h0 hd hn hf R hR=>?_,?_⟩;(clear h0 hd hn hf;go_simp;exact hR _ _ (hI.step cellC_below (Below.refl _ _) rfl) (below_grow (Below.refl _ _) _) rfl);(go_simp;refine hK _ ?_;clear hK K))
    (refine walkP_ex (fun K hK=>?_);refine ⟨fun done W hI h0 hd hn hf R hR=>?_,?_⟩;(clear h0 hd hn hf;go_simp;exact hR _ _ (hI.step cellC_below (Below.refl _ _) rfl) (below_grow (Below.refl _ _) _) rfl);(go_simp;refine hK _ ?_;clear hK K))
    (refine walkP_ex (fun K hK=>?_);refine ⟨fun done W hI h0 hd hn hf R hR=>?_,?_⟩;(have h9 : ∃ a c',v9p = polV (.slice a c.p.rules.length c') c.p.dflt∧RdRules W (fun b=>w.heap.size≤b∧b ≠ g) (.slice a c.p.rules.length c') c.p.rules:=hf 9 (by decide);obtain ⟨a6,c6,rfl,hr6⟩:=h9;obtain ⟨_,_,⟨u9,v9,rfl,hr9,hs9⟩,hcell⟩:=hI.cells (by exact markm_get Hlt.out);have hck:=hcell 2 _ rfl;have hck3:=hcell 3 _ rfl;have hfz:=hI.frz (by rw [markm_len Hlt.out];have:=Hlt.out;omega);have hN1:=(hI.put (done':=updDone done 15) (i:=k) (j:=2) (u:=.slice a6 c.p.rules.length c6) (y':=(c,(done 12,true))) (by decide) (by exact markm_get Hlt.out) (fun cs0 hcs=>by obtain ⟨v0,v1,rfl,h3,_⟩:=hcs;exact ⟨_,_,rfl,h3,hr6.keep (fun b hb _=>⟨hb.2,fun _=>hb.1⟩) (fun b hb _=>set_other (by exact hb.2)) (by rw [set_size];exact Nat.le_refl _)⟩) (fun z cs0 hz=>cellC_set z cs0 hz) (by rw [markm_set Hlt.out];rfl));have HN:=Lib.hid (hN1.put (done':=updDone done 15) (i:=k) (j:=3) (u:=.int .i64 c.p.dflt) (y':=(c,(done 12,true))) (by decide) (by exact markm_get Hlt.out) (fun cs0 hcs=>by obtain ⟨v0,v1,rfl,h3,h4⟩:=hcs;exact ⟨_,_,rfl,h3,h4⟩) (fun z cs0 hz=>cellC_set z cs0 hz) (by rw [markm_set Hlt.out];rfl));have HT:=Lib.hid (grow_trans (grow_set W g (k * 4 + 2) (.slice a6 c.p.rules.length c6)) (grow_set _ g (k * 4 + 3) (.int .i64 c.p.dflt)));clear h0 hd hn hf hcell hI hN1 hs9 hr9 hr6;go_simp;exact hR _ _ HN.out HT.out rfl);(go_simp;refine hK _ ?_;clear hK K))
    intro done W hdone hI _
    have h12 : done 12 = true:=hdone 12 (by decide)
    have h15 : done 15 = true:=hdone 15 (by decide)
    have ho:=hI.own
    rw [h12,h15,markm_hi Hrk.out] at ho
    have HO:=Lib.hid ho
    have HBw:=Lib.hid (below_of_grow HBq.out hI.gr HBq.out.size Hg.out)
    clear hI hdone h12 h15 ho
    go_wp2
    go_roundw
    case rel=>exact ⟨k + 1,by go_num,by omega,HO.out,HBw.out⟩
    case measure=>simp [intOf];omega
   ·obtain rfl : k = l.length:=by omega
    have ho:=Hown.out
    rw [marks_all] at ho
    have HR : Hid (OwnSl wr w.heap.size 52 4 (cellR wr (fun b=>w.heap.size≤b∧(Value.slice (some ⟨g,0,none⟩) l.length c1).ownBlock ≠ some b)) (.slice (some ⟨g,0,none⟩) l.length c1) l) :=
     ho.unmark' fun x cs ⟨u,v,h1,h2,h3⟩=>⟨u,v,h1,h2.keep (fun b hb _=>⟨hb.2 rfl,fun e=>hb.1 (by simpa [Value.ownBlock] using e.symm)⟩) (fun _ _ _=>rfl) (Nat.le_refl _),h3.keep (fun b hb _=>⟨hb.2 rfl,fun e=>hb.1 (by simpa [Value.ownBlock] using e.symm)⟩) (fun _ _ _=>rfl) (Nat.le_refl _)⟩
    clear ho
    go_wp2
    go_ret
    exact ⟨_,rfl,HR.out,Hbx.out⟩
end Go.Proofs.YthkgjohhbdipcaaGreatDoor
namespace Go.Proofs.YthkgjohhbdipcaaGreatDoor
open Go.RowKit
set_option maxRecDepth 100000 in
theorem keepnew_any (w : World) : Calls Tryz.prog 61 #[] w fun e w'=>∃ v,e = .returned v∧RdCells w' (fun b=>w.heap.size≤b) v newCells∧Below w.heap.size w w':=by
 obtain ⟨i0,hi,hz0,hz1,hz2⟩:=info_parts infocCell
 have hmk:=fun (W : World)=>run_make (P:=Tryz.prog) W 22 52 i0 (.agg #[.bool false,.slice none 0 0,.slice none 0 0,.int .i64 0]) Tryz.underlying22 hi hz0 .i64 .i64 4 4 (by decide) (by decide) (by rw [hz2];decide) (by decide)
 have hcs : madeCells (Value.agg #[.bool false,.slice none 0 0,.slice none 0 0,.int .i64 0]).cells ((4 : Int).toNat * i0.size) = #[.bool false,.slice none 0 0,.slice none 0 0,.int .i64 0,.bool false,.slice none 0 0,.slice none 0 0,.int .i64 0,.bool false,.slice none 0 0,.slice none 0 0,.int .i64 0,.bool false,.slice none 0 0,.slice none 0 0,.int .i64 0]:=by rw [hz1];kernel_rfl
 rw [hcs,show (4 : Int).toNat = 4 from rfl] at hmk
 have hrd : ∀ W : World,RdCells (W.alloc (.cells #[.bool false,.slice none 0 0,.slice none 0 0,.int .i64 0,.bool false,.slice none 0 0,.slice none 0 0,.int .i64 0,.bool false,.slice none 0 0,.slice none 0 0,.int .i64 0,.bool false,.slice none 0 0,.slice none 0 0,.int .i64 0] 52)) (fun b=>W.heap.size≤b) (.slice (some ⟨W.heap.size,0,none⟩) 4 4) newCells:=fun W=>by
  have hz : ∀ W' D',cellR W' D' zeroCell [.bool false,.slice none 0 0,.slice none 0 0,.int .i64 0]:=fun W' D'=>⟨_,_,rfl,⟨none,0,rfl,Nat.le_refl _,by decide,fun _=>rfl,fun h=>by cases h⟩,⟨none,0,rfl,Nat.le_refl _,by decide,fun _=>rfl,fun h=>by cases h⟩⟩
  exact sl_block (xs:=newCells) (RowsOf.cons (RowsOf.cons (RowsOf.cons (RowsOf.cons RowsOf.nil (hz _ _) rfl) (hz _ _) rfl) (hz _ _) rfl) (hz _ _) rfl) (heap_last _ _) rfl (Nat.le_refl _) (by simp [maxLen,newCells])
 have Hrd:=Lib.hid hrd
 clear hrd hcs hi hz0 hz1 hz2
 go_enter Tryz.func61,Tryz.ntmps61
 go_wp2
 go_ret
 exact ⟨_,rfl,Hrd.out w,bel_alloc (Below.refl _ _) _⟩
end Go.Proofs.YthkgjohhbdipcaaGreatDoor
namespace Go.Proofs.YthkgjohhbdipcaaGreatDoor
open Go.RowKit
set_option maxRecDepth 100000 in
set_option maxHeartbeats 8000000 in
theorem kcheck_any (v : Value) (l : List TCell) (D : Nat → Prop) (w : World) (h : RdCells w D v l) :
  Calls Tryz.prog 136 #[v] w fun e w'=>e = .returned (.int .i64 (cellsE l))∧Below w.heap.size w w':=by
 obtain ⟨a,c,rfl,hlc,hcm,hat⟩:=Sl.form h
 have H:=Lib.hid h
 clear h
 by_cases h4 : l.length = 4
 ·have He:=Lib.hid (show cellsE l = cellsGo l by unfold cellsE;rw [if_pos h4])
  have hz : ((l.length : Int) != 4) = false:=by simp [h4]
  have H4:=Lib.hid h4
  have hat':=hat (by omega)
  obtain ⟨b,o,rfl,hDb,hb⟩:=hat'
  clear hat h4
  go_enter Tryz.func136,Tryz.ntmps136
  go_wp2_with fail
  go_loopw [12] (fun i wr=>∃ k : Nat,k≤l.length∧i = .int .i64 k∧cellsGo l = cellsGo (l.drop k)∧Below w.heap.size w wr) (fun i _=>l.length - (intOf i).toNat)
  case atStart=>exact ⟨0,by omega,rfl,rfl,Below.refl _ _⟩
  case round =>
   obtain ⟨k,hk,rfl,hgo,hbw⟩:=hrel
   have Hgo:=Lib.hid hgo
   have Hbw:=Lib.hid hbw
   clear hgo hbw
   by_cases hlt : k < l.length
   ·obtain ⟨a1,a2,c1,c2,k0,k1,k2,k3,hrc,hrp⟩:=RdCells.cells (H.out.below Hbw.out) hlt
    have bad : ∀ e : Int,cellE l[k] = e → e ≠ 0 → ∀ wz,Below w.heap.size w wz → Ending.returned (.int .i64 e) = .returned (.int .i64 (cellsE l))∧Below w.heap.size w wz:=fun e he h0 wz hz=>by
     refine ⟨ret_int ?_,hz⟩
     rw [He.out,Hgo.out,cellsGo_drop l k hlt,he,if_neg h0]
    have good : cellE l[k] = 0 → cellsGo l = cellsGo (l.drop (k + 1)):=fun he=>by rw [Hgo.out,cellsGo_drop l k hlt,if_pos he]
    have Hbad:=Lib.hid bad
    have Hgood:=Lib.hid good
    clear bad good
    generalize hX : l[k] = X at *
    clear hX
    obtain ⟨op,ch,⟨rs,d⟩⟩:=X
    dsimp only at k0 k1 k2 k3 hrc hrp
    have Hrc:=Lib.hid hrc
    have Hrp:=Lib.hid hrp
    have Hsl : Hid (ch.length≤9223372036854775807∧rs.length≤9223372036854775807):=by
     obtain ⟨_,_,hv1,h1,h2,_⟩:=Sl.form hrc
     obtain ⟨_,_,hv2,h3,h4,_⟩:=Sl.form hrp
     exact ⟨by omega,by omega⟩
    clear hrc hrp
    cases op with
    | false =>
     rcases Nat.eq_zero_or_pos ch.length with hc0 | hc0
     ·obtain rfl : ch = []:=List.length_eq_zero_iff.1 hc0
      have e1 : ([] : List (List TIns)).length = 0:=rfl
      by_cases hd : d = 0
      ·subst hd
       rcases Nat.eq_zero_or_pos rs.length with hr0 | hr0
       ·obtain rfl : rs = []:=List.length_eq_zero_iff.1 hr0
        have Hg:=Lib.hid (Hgood.out (by unfold cellE;simp [noPol]))
        have e2 : ([] : List TRule).length = 0:=rfl
        go_wp2
        go_roundw
        case rel=>exact ⟨k + 1,by omega,by go_num,Hg.out,bel_alloc Hbw.out _⟩
        case measure=>simp [intOf];omega
       ·have Hb:=Lib.hid (Hbad.out 4 (by unfold cellE;rw [if_neg (by simp),if_neg (by intro h;have:=h.2.2;dsimp only at this;rw [this] at hr0;simp at hr0)]) (by decide))
        have z2 : 0 < (rs.length : Int):=by omega
        have z0 : rs ≠ []:=fun e=>by rw [e] at hr0;simp at hr0
        clear hc0 hr0
        go_wp2
        go_ret
        exact Hb.out _ (bel_alloc Hbw.out _)
      ·have Hb:=Lib.hid (Hbad.out 4 (by unfold cellE;rw [if_neg (by simp),if_neg (by intro h;exact hd h.2.1)]) (by decide))
       have z2 : (d != 0) = true:=bne_iff_ne.2 hd
       clear hc0 hd
       go_wp2
       go_ret
       exact Hb.out _ (bel_alloc Hbw.out _)
     ·have Hb:=Lib.hid (Hbad.out 4 (by unfold cellE;rw [if_neg (by simp),if_neg (by intro h;have:=h.1;dsimp only at this;rw [this] at hc0;simp at hc0)]) (by decide))
      have z1 : 0 < (ch.length : Int):=by omega
      have z0 : ch ≠ []:=fun e=>by rw [e] at hc0;simp at hc0
      clear hc0
      go_wp2
      go_ret
      exact Hb.out _ (bel_alloc Hbw.out _)
    | true =>
     rcases Nat.eq_zero_or_pos ch.length with hc0 | hc0
     ·obtain rfl : ch = []:=List.length_eq_zero_iff.1 hc0
      have Hb:=Lib.hid (Hbad.out 4 (by unfold cellE;simp) (by decide))
      have e1 : ([] : List (List TIns)).length = 0:=rfl
      clear hc0
      go_wp2
      go_ret
      exact Hb.out _ (bel_alloc Hbw.out _)
     ·have hne : ch ≠ []:=fun e=>by rw [e] at hc0;simp at hc0
      have Hce : Hid (cellE ⟨true,ch,⟨rs,d⟩⟩ = if chainE ch ≠ 0 then chainE ch else polE ⟨rs,d⟩):=by show cellE _ = _;unfold cellE;simp [hne]
      have z1 : ((ch.length : Int) == 0) = false:=by simpa using (show ¬ (ch.length : Int) = 0 by omega)
      have HC:=Lib.hid (Bx.one (w:=wr) (o:=.cells #[.bool true,.slice a1 ch.length c1,.slice a2 rs.length c2,.int .i64 d] 52))
      have HbC:=Lib.hid (bel_call Hbw.out HC.out.bel)
      clear hc0 hne
      go_wp2_with fail
      refine (chcheck_any _ ch D _ (Hrc.out.below HC.out.bel)).mono ?_
      rintro e w1 ⟨rfl,hb1⟩
      have HC1:=Lib.hid (HC.out.below hb1)
      have HbC1:=Lib.hid (bel_call HbC.out hb1)
      have Hrp1:=Lib.hid ((Hrp.out.below HC.out.bel).below hb1)
      clear hb1 HC
      by_cases he : chainE ch = 0
      ·rw [he]
       have hq:=HC1.out.cells0
       go_wp2_with fail
       refine (polcheck_any _ ⟨rs,d⟩ D _ Hrp1.out).mono ?_
       rintro e w2 ⟨rfl,hb2⟩
       have HbC2:=Lib.hid (bel_call HbC1.out hb2)
       clear hq hb2
       by_cases hp : polE ⟨rs,d⟩ = 0
       ·have Hg:=Lib.hid (Hgood.out (by rw [Hce.out,if_neg (by simp [he]),hp]))
        rw [hp]
        go_wp2
        go_roundw
        case rel=>exact ⟨k + 1,by omega,by go_num,Hg.out,HbC2.out⟩
        case measure=>simp [intOf];omega
       ·have Hb:=Lib.hid (Hbad.out (polE ⟨rs,d⟩) (by rw [Hce.out,if_neg (by simp [he])]) hp)
        have hp' : (polE ⟨rs,d⟩ != 0) = true:=bne_iff_ne.2 hp
        generalize polE ⟨rs,d⟩ = E at Hb hp' ⊢
        clear hp
        go_wp2
        go_ret
        exact Hb.out _ HbC2.out
      ·have Hb:=Lib.hid (Hbad.out (chainE ch) (by rw [Hce.out,if_pos he]) he)
       have hp' : (chainE ch != 0) = true:=bne_iff_ne.2 he
       generalize chainE ch = E at Hb hp' ⊢
       clear he
       go_wp2
       go_ret
       exact Hb.out _ HbC1.out
   ·obtain rfl : k = l.length:=by omega
    go_wp2
    go_ret
    exact ⟨ret_int (by rw [He.out,Hgo.out,List.drop_length];rfl),Hbw.out⟩
 ·have He:=Lib.hid (show cellsE l = 4 by unfold cellsE;rw [if_neg h4])
  have hz : ((l.length : Int) != 4) = true:=bne_iff_ne.2 (by omega)
  clear h4 hat
  go_enter Tryz.func136,Tryz.ntmps136
  go_wp2
  go_ret
  exact ⟨ret_int (by rw [He.out]),Below.refl _ _⟩
end Go.Proofs.YthkgjohhbdipcaaGreatDoor
namespace Go.Proofs.YthkgjohhbdipcaaGreatDoor
open Go.RowKit
attribute [local go_sem] gives givesUpon
theorem run_neq_ins (c d : TIns) (w : World) : (binOp .neq 141 (.agg #[.int .i64 c.k,.int .i64 c.a,.int .i64 c.b,.int .i64 c.c]) (.agg #[.int .i64 d.k,.int .i64 d.a,.int .i64 d.b,.int .i64 d.c])).run Tryz.prog w = .ok (.bool (!decide (c = d))) w:=by
 obtain ⟨k,a,b,c⟩:=c
 obtain ⟨k',a',b',c'⟩:=d
 dsimp only
 have hd : decide ((⟨k,a,b,c⟩ : TIns) = ⟨k',a',b',c'⟩) = (decide (k = k') && decide (a = a') && decide (b = b') && decide (c = c')):=by
  rw [Bool.eq_iff_iff];simp [and_assoc]
 rw [hd]
 clear hd
 by_cases h0 : k = k'
 ·have b0 : (k == k') = true:=beq_iff_eq.2 h0
  by_cases h1 : a = a'
  ·have b1 : (a == a') = true:=beq_iff_eq.2 h1
   by_cases h2 : b = b'
   ·have b2 : (b == b') = true:=beq_iff_eq.2 h2
    by_cases h3 : c = c'
    ·have b3 : (c == c') = true:=beq_iff_eq.2 h3
     rw [decide_eq_true h0,decide_eq_true h1,decide_eq_true h2,decide_eq_true h3]
     clear h0 h1 h2 h3
     go_simp
    ·have b3 : (c == c') = false:=beq_eq_false_iff_ne.2 h3
     rw [decide_eq_true h0,decide_eq_true h1,decide_eq_true h2,decide_eq_false h3]
     clear h0 h1 h2 h3
     go_simp
   ·have b2 : (b == b') = false:=beq_eq_false_iff_ne.2 h2
    rw [decide_eq_true h0,decide_eq_true h1,decide_eq_false h2]
    clear h0 h1 h2
    go_simp
  ·have b1 : (a == a') = false:=beq_eq_false_iff_ne.2 h1
   rw [decide_eq_true h0,decide_eq_false h1]
   clear h0 h1
   go_simp
 ·have b0 : (k == k') = false:=beq_eq_false_iff_ne.2 h0
  rw [decide_eq_false h0]
  clear h0
  go_simp
theorem take_eq_step4 {α : Type} {xs ys : List α} {k : Nat} (hx : k < xs.length) (hy : k < ys.length) (h : xs.take k = ys.take k) (e : xs[k] = ys[k]) : xs.take (k + 1) = ys.take (k + 1):=by
 rw [List.take_succ_eq_append_getElem hx,List.take_succ_eq_append_getElem hy,h,e]
theorem ne_of_get4 {α : Type} {xs ys : List α} {k : Nat} (hx : k < xs.length) (hy : k < ys.length) (e : xs[k] ≠ ys[k]) : xs ≠ ys:=fun h=>e (by subst h;rfl)
attribute [-go_sem] run_neq_struct
set_option maxHeartbeats 1000000 in
theorem eqins_any (v u : Value) (xs ys : List TIns) (D : Nat → Prop) (w : World) (h : RdCode w D v xs) (h' : RdCode w D u ys) :
  Calls Tryz.prog 131 #[v,u] w fun e w'=>e = .returned (.bool (decide (xs = ys)))∧Below w.heap.size w w':=by
 obtain ⟨a,c,rfl,hlc,hcm,hat⟩:=Sl.form h
 obtain ⟨a',c',rfl,hlc',hcm',hat'⟩:=Sl.form h'
 have H:=Lib.hid h
 have H':=Lib.hid h'
 clear h h'
 by_cases hl : xs.length = ys.length
 ·have b0 : ((xs.length : Int) != (ys.length : Int)) = false:=bne_eq_false_iff_eq.2 (by omega)
  have hl':=Lib.hid hl
  have hl1 : xs.length≤ys.length:=by omega
  have hl2 : ys.length≤xs.length:=by omega
  clear hl
  go_enter Tryz.func131,Tryz.ntmps131
  go_wp2_with fail
  go_loopw [13] (fun i wr=>∃ k : Nat,k≤xs.length∧i = .int .i64 k∧xs.take k = ys.take k∧Below w.heap.size w wr) (fun i _=>xs.length - (intOf i).toNat)
  case atStart=>exact ⟨0,by omega,rfl,rfl,Below.refl _ _⟩
  case round =>
   obtain ⟨k,hk,rfl,htk,hbw⟩:=hrel
   have Ht:=Lib.hid htk
   have hsz:=hbw.size
   clear htk
   by_cases hlt : k < xs.length
   ·obtain ⟨b,o,rfl,hDb,hb⟩:=hat (by omega)
    obtain ⟨b',o',rfl,hDb',hb'⟩:=hat' (by omega)
    have hlt' : k < ys.length:=by omega
    have hc : ∀ W,Cls w.heap.size wr W → (W.cell? ⟨b,o + k * 4,none⟩ = some (.int .i64 xs[k].k)∧W.cell? ⟨b,o + k * 4 + 1,none⟩ = some (.int .i64 xs[k].a)∧W.cell? ⟨b,o + k * 4 + 2,none⟩ = some (.int .i64 xs[k].b)∧W.cell? ⟨b,o + k * 4 + 3,none⟩ = some (.int .i64 xs[k].c)) ∧
      (W.cell? ⟨b',o' + k * 4,none⟩ = some (.int .i64 ys[k].k)∧W.cell? ⟨b',o' + k * 4 + 1,none⟩ = some (.int .i64 ys[k].a)∧W.cell? ⟨b',o' + k * 4 + 2,none⟩ = some (.int .i64 ys[k].b)∧W.cell? ⟨b',o' + k * 4 + 3,none⟩ = some (.int .i64 ys[k].c)):=fun W hW =>
     ⟨RdCode.cells (H.out.below (hbw.trans hW.2)) hlt,RdCode.cells (H'.out.below (hbw.trans hW.2)) hlt'⟩
    have Hc:=Lib.hid hc
    have hne:=run_neq_ins xs[k] ys[k]
    clear hc
    go_wp2_with fail
    refine wp_region_exact3 w.heap.size hsz (by kernel_rfl) (by kernel_rfl) ?_
    repeat (refine monoE_step (fun K hK=>?_);apply Exists.intro;refine ⟨fun W hC R hR=>?_,?_⟩;(first
     | (have hne':=hne W;clear hne;go_simp;exact hR _ _ (Below.refl _ _) rfl)
     | (have hcc:=Hc.out W hC;go_simp;exact hR _ _ (Below.refl _ _) rfl));(go_simp;refine hK _ ?_;clear hK K))
    intro w2 hC2
    clear hne
    by_cases he : xs[k] = ys[k]
    ·have Hn:=Lib.hid (take_eq_step4 hlt hlt' Ht.out he)
     have d : decide (xs[k] = ys[k]) = true:=decide_eq_true he
     clear he
     simp only [d]
     go_wp2
     go_roundw
     case rel=>exact ⟨k + 1,by omega,by go_num,Hn.out,hbw.trans hC2.2⟩
     case measure=>simp [intOf];omega
    ·have Hn:=Lib.hid (ne_of_get4 hlt hlt' he)
     have d : decide (xs[k] = ys[k]) = false:=decide_eq_false he
     clear he
     simp only [d]
     go_wp2
     go_ret
     exact ⟨ret_bool (decide_eq_false Hn.out).symm,hbw.trans hC2.2⟩
   ·obtain rfl : k = xs.length:=by omega
    have Hn : Hid (xs = ys):=by
     have:=Ht.out
     rw [List.take_length,hl'.out,List.take_length] at this
     exact this
    go_wp2
    go_ret
    exact ⟨ret_bool (decide_eq_true Hn.out).symm,hbw⟩
 ·have b0 : ((xs.length : Int) != (ys.length : Int)) = true:=bne_iff_ne.2 (by omega)
  have hn : decide (xs = ys) = false:=decide_eq_false fun e=>hl (by rw [e])
  rw [hn]
  clear hn hl
  go_enter Tryz.func131,Tryz.ntmps131
  go_wp2
  go_ret
  exact ⟨rfl,Below.refl _ _⟩
end Go.Proofs.YthkgjohhbdipcaaGreatDoor
namespace Go.Proofs.YthkgjohhbdipcaaGreatDoor
open Go.RowKit
set_option maxHeartbeats 1000000 in
theorem chsame1_any (v u : Value) (f g : List TIns) (w : World) (h : RdCode w (fun _=>True) v f) (h' : RdCode w (fun _=>True) u g) :
  Calls Tryz.prog 139 #[v,u] w fun e w'=>e = .returned (.bool (decide (f = g)))∧Below w.heap.size w w':=by
 have H:=Lib.hid h
 have H':=Lib.hid h'
 obtain ⟨a,c,rfl,_⟩:=Sl.form h
 obtain ⟨a',c',rfl,_⟩:=Sl.form h'
 clear h h'
 go_enter Tryz.func139,Tryz.ntmps139
 go_wp2_with fail
 refine (eqins_any _ _ f g _ w H.out H'.out).mono ?_
 rintro e w1 ⟨rfl,hb1⟩
 go_wp2
 go_ret
 exact ⟨rfl,hb1⟩
set_option maxHeartbeats 4000000 in
theorem cheq_any (v u : Value) (xs ys : List (List TIns)) (w : World) (h : RdChain w (fun _=>True) v xs) (h' : RdChain w (fun _=>True) u ys) :
  Calls Tryz.prog 129 #[v,u,.func (.func 139) #[] #[]] w fun e w'=>e = .returned (.bool (decide (xs = ys)))∧Below w.heap.size w w':=by
 have H:=Lib.hid h
 have H':=Lib.hid h'
 obtain ⟨a,c,rfl,hlc,hcm,hat⟩:=Sl.form h
 obtain ⟨a',c',rfl,hlc',hcm',hat'⟩:=Sl.form h'
 clear h h'
 by_cases hl : xs.length = ys.length
 ·have Hl:=Lib.hid hl
  have hln : ((xs.length : Int) != (ys.length : Int)) = false:=by rw [hl];simp
  clear hl
  go_enter Tryz.func129,Tryz.ntmps129
  go_wp2_with fail
  go_loopw [17] (fun i wr=>∃ k : Nat,k≤xs.length∧i = .int .i64 k∧xs.take k = ys.take k∧Below w.heap.size w wr) (fun i _=>xs.length - (intOf i).toNat)
  case atStart=>exact ⟨0,by omega,rfl,rfl,Below.refl _ _⟩
  case round =>
   obtain ⟨k,hk,rfl,htk,hbw⟩:=hrel
   have Ht:=Lib.hid htk
   have Hb:=Lib.hid hbw
   clear htk hbw
   by_cases hlt : k < xs.length
   ·obtain ⟨b,o,rfl,_,_⟩:=hat (by omega)
    obtain ⟨b',o',rfl,_,_⟩:=hat' (by rw [← Hl.out];omega)
    have hlt' : k < ys.length:=by rw [← Hl.out];exact hlt
    obtain ⟨a1,c1,hc1,hr1⟩:=RdChain.cells (H.out.below Hb.out) hlt
    obtain ⟨a2,c2,hc2,hr2⟩:=RdChain.cells (H'.out.below Hb.out) hlt'
    have Hr1:=Lib.hid hr1
    have Hr2:=Lib.hid hr2
    clear hr1 hr2
    go_wp2_with fail
    refine (chsame1_any _ _ xs[k] ys[k] _ Hr1.out Hr2.out).mono ?_
    rintro e w1 ⟨rfl,hb1⟩
    have Hb1:=Lib.hid (bel_call Hb.out hb1)
    clear hb1 hc1 hc2
    by_cases he : xs[k] = ys[k]
    ·have Hn:=Lib.hid (take_eq_step4 hlt hlt' Ht.out he)
     have d : decide (xs[k] = ys[k]) = true:=decide_eq_true he
     clear he
     rw [d]
     go_wp2
     go_roundw
     case rel=>first | exact ⟨k + 1,by omega,by go_num,Hn.out,Hb1.out⟩ | ((repeat apply Exists.intro);exact ⟨⟨k + 1,by omega,by go_num,Hn.out,Hb1.out⟩,rfl⟩)
     case measure=>simp [intOf];omega
    ·have Hn:=Lib.hid (ne_of_get4 hlt hlt' he)
     have d : decide (xs[k] = ys[k]) = false:=decide_eq_false he
     clear he
     rw [d]
     go_wp2
     go_ret
     exact ⟨by rw [decide_eq_false Hn.out];rfl,Hb1.out⟩
   ·obtain rfl : k = xs.length:=by omega
    have Hn : Hid (xs = ys):=by
     have:=Ht.out
     rw [List.take_length,Hl.out,List.take_length] at this
     exact this
    go_wp2
    go_ret
    exact ⟨by rw [decide_eq_true Hn.out];rfl,Hb.out⟩
 ·have hn : xs ≠ ys:=fun e=>hl (by rw [e])
  have hl' : ((xs.length : Int) != (ys.length : Int)) = true:=bne_iff_ne.2 (by omega)
  have HD:=Lib.hid (decide_eq_false hn)
  clear hn
  go_enter Tryz.func129,Tryz.ntmps129
  go_wp2
  go_ret
  exact ⟨by rw [HD.out];rfl,Below.refl _ _⟩
set_option maxHeartbeats 1000000 in
theorem chsame_any (v u : Value) (xs ys : List (List TIns)) (w : World) (h : RdChain w (fun _=>True) v xs) (h' : RdChain w (fun _=>True) u ys) :
  Calls Tryz.prog 100 #[v,u] w fun e w'=>e = .returned (.bool (decide (xs = ys)))∧Below w.heap.size w w':=by
 have H:=Lib.hid h
 have H':=Lib.hid h'
 obtain ⟨a,c,rfl,_⟩:=Sl.form h
 obtain ⟨a',c',rfl,_⟩:=Sl.form h'
 clear h h'
 go_enter Tryz.func100,Tryz.ntmps100
 go_wp2_with fail
 refine (cheq_any _ _ xs ys w H.out H'.out).mono ?_
 rintro e w1 ⟨rfl,hb1⟩
 go_wp2
 go_ret
 exact ⟨rfl,hb1⟩
end Go.Proofs.YthkgjohhbdipcaaGreatDoor
namespace Go.Proofs.YthkgjohhbdipcaaGreatDoor
open Go.RowKit
theorem ruleR_one {w : World} {D : Nat → Prop} (y : TRule) (cs : List Value) (h : ruleR w D y cs) : ∀ c ∈ cs,c.oneCell' = true:=by
 obtain ⟨v,rfl,h⟩:=h
 obtain ⟨a,c,rfl,_⟩:=Sl.form h
 intro u hu
 simp at hu
 rcases hu with rfl | rfl <;> rfl
theorem OwnSl.app1 {α : Type} {w : World} {base n : Nat} {e : TypeId} {sz : Nat} {R : α → List Value → Prop} {v : Value} {xs : List α} {rows : List (List Value)} {y : α} {r : List Value} (hr : RowsOf sz R xs rows) (hy : R y r) (hl : r.length = sz) (h : w.ownsRow base e sz v n (rows.flatten ++ r)) (hn : n = xs.length + 1) : OwnSl w base e sz R v (xs ++ [y]):=by
 subst hn
 refine ⟨rows ++ [r],hr.app (RowsOf.cons (x:=y) (r:=r) RowsOf.nil hy hl),?_⟩
 simpa using h
end Go.Proofs.YthkgjohhbdipcaaGreatDoor
namespace Go.Proofs.YthkgjohhbdipcaaGreatDoor
open Go.RowKit
def NotPol (W : World) (b : Nat) : Prop:=∀ cs fr,W.heap[b]? ≠ some (.cells cs 38 fr)
theorem NotPol.keep {w w' : World} {b : Nat} (h : NotPol w b) (e : w'.heap[b]? = w.heap[b]?) : NotPol w' b:=fun cs fr=>by rw [e];exact h cs fr
def ButP (W : World) (B : Nat) (pv : Value) (b : Nat) : Prop:=B≤b∧pv.ownBlock ≠ some b∧NotPol W b
theorem OwnSl.typedSl {α : Type} {w : World} {base : Nat} {e : TypeId} {sz : Nat} {R : α → List Value → Prop} {v : Value} {xs : List α} (h : OwnSl w base e sz R v xs) (he : e ≠ 38) : Sl w (fun b=>base≤b∧NotPol w b) sz R v xs:=by
 have hs : Sl w (fun b=>base≤b) sz R v xs:=h.sl fun _ h=>h
 by_cases h0 : 0 < xs.length
 ·obtain ⟨a,c,rfl⟩:=h.slice
  obtain ⟨b,rfl,hb,hlt,cur,hcur⟩:=h.addr h0
  obtain ⟨a',c',hv,hl,hm,hn,hat⟩:=hs
  refine ⟨a',c',hv,hl,hm,hn,fun h1=>?_⟩
  obtain ⟨b',o,ha,hD,hlt',hr⟩:=hat h1
  injection hv with hv _ _
  rw [ha] at hv
  injection hv with hv
  injection hv with hv _ _
  subst hv
  refine ⟨b,o,ha,⟨hD,fun cs fr e'=>?_⟩,hlt',hr⟩
  rw [hcur] at e'
  injection e' with e'
  injection e' with _ e' _
  exact he e'
 ·obtain ⟨a',c',hv,hl,hm,hn,hat⟩:=hs
  exact ⟨a',c',hv,hl,hm,hn,fun h1=>absurd h1 h0⟩
theorem ruleT_np : 147 ≠ 38:=by decide
theorem condT_np : 153 ≠ 38:=by decide
structure GatherI (B β : Nat) (d : Value) (wB : World) (pv0 : Value) (wi : World) (pv : Value) (rs : List TRule) : Prop where
 os : wi.os = wB.os
 tape : wi.tape = wB.tape
 output : wi.output = wB.output
 size : wB.heap.size≤wi.heap.size
 blk : ∀ b,b < wB.heap.size → b ≠ β → some b ≠ pv0.ownBlock → wi.heap[b]? = wB.heap[b]?
 box : wi.heap[β]? = some (.cells #[pv,d] 38)
 own : OwnSl wi B 147 2 (ruleR wi (ButP wi B pv)) pv rs
 hob : pv.ownBlock = pv0.ownBlock ∨ ∀ g,pv.ownBlock = some g → wB.heap.size≤g
section
variable {B β : Nat} {d : Value} {wA wB wi W : World} {pvA pv0 pv : Value} {rs rs' : List TRule}
theorem GatherI.start (hbox : wB.heap[β]? = some (.cells #[pv0,d] 38)) (hown : OwnSl wB B 147 2 (ruleR wB (ButP wB B pv0)) pv0 rs) : GatherI B β d wB pv0 wB pv0 rs:=⟨rfl,rfl,rfl,Nat.le_refl _,fun _ _ _ _=>rfl,hbox,hown,.inl rfl⟩
theorem GatherI.below (h : GatherI B β d wB pv0 wi pv rs) (hb : Below wi.heap.size wi W) : GatherI B β d wB pv0 W pv rs where
 os:=hb.os.trans h.os
 tape:=hb.tape.trans h.tape
 output:=hb.output.trans h.output
 size:=Nat.le_trans h.size hb.size
 blk:=fun b hl hn ho=>(hb.block b (Nat.lt_of_lt_of_le hl h.size)).trans (h.blk b hl hn ho)
 box:=blk_below h.box hb
 own:=(h.own.below hb).monoR fun _ _ _ ⟨v,h1,h2⟩=>⟨v,h1,h2.keep (fun b hb' hl=>⟨hb'.1,hb'.2.1,hb'.2.2.keep (hb.block b hl)⟩) (fun b _ hl=>hb.block b hl) hb.size⟩
 hob:=h.hob
theorem GatherI.trans (h : GatherI B β d wA pvA wB pv0 rs) (h' : GatherI B β d wB pv0 wi pv rs') : GatherI B β d wA pvA wi pv rs' where
 os:=h'.os.trans h.os
 tape:=h'.tape.trans h.tape
 output:=h'.output.trans h.output
 size:=Nat.le_trans h.size h'.size
 blk:=fun b hl hn ho=>(h'.blk b (Nat.lt_of_lt_of_le hl h.size) hn (fun e=>by
  rcases h.hob with e' | e'
  ·exact ho (e.trans e')
  ·have:=e' b e.symm;omega)).trans (h.blk b hl hn ho)
 box:=h'.box
 own:=h'.own
 hob:=by
  rcases h'.hob with e | e
  ·rcases h.hob with e' | e'
   ·exact .inl (e.trans e')
   ·exact .inr fun g hg=>e' g (e.symm.trans hg)
  ·exact .inr fun g hg=>Nat.le_trans h.size (e g hg)
theorem GatherI.belowB {C : Nat} {w : World} (h : GatherI B β d wB pv0 wi pv rs) (hb : Below C w wB) (hC : C≤wB.heap.size) (hβ : C≤β) (h0 : ∀ g,pv0.ownBlock = some g → C≤g) : Below C w wi :=
 hb.trans ⟨h.os,h.tape,h.output,h.size,fun b hl=>h.blk b (by omega) (by omega) (fun e=>by have:=h0 b e.symm;omega)⟩
theorem GatherI.rules (h : GatherI B β d wB pv0 wi pv rs) : RdRules wi (fun b=>B≤b∧NotPol wi b) pv rs :=
 (h.own.monoR fun _ _ _ ⟨v,h1,h2⟩=>⟨v,h1,h2.keep (fun _ hb _=>⟨hb.1,hb.2.2⟩) (fun _ _ _=>rfl) (Nat.le_refl _)⟩).typedSl ruleT_np
theorem conds_but {w : World} {B C : Nat} {v pv : Value} {cs : List TCond} {E : TypeId} {n : Nat} {cells : List Value} (h : OwnSl w C 153 3 condR v cs) (hB : B≤C) (ho : w.ownsRow B E 2 pv n cells) (hE : E ≠ 153) : RdConds w (ButP w B pv) v cs:=by
 have hs : RdConds w (fun b=>C≤b∧NotPol w b) v cs:=h.typedSl condT_np
 by_cases h0 : 0 < cs.length
 ·obtain ⟨a,c,rfl⟩:=h.slice
  obtain ⟨b,rfl,hb,hlt,cur,hcur⟩:=h.addr h0
  have hs2:=hs
  obtain ⟨a',c',hv,hl,hm,hn,hat⟩:=hs2
  refine ⟨a',c',hv,hl,hm,hn,fun h1=>?_⟩
  obtain ⟨b',o,ha,hD,hlt',hr⟩:=hat h1
  refine ⟨b',o,ha,⟨Nat.le_trans hB hD.1,fun e=>?_,hD.2⟩,hlt',hr⟩
  injection hv with hv _ _
  rw [ha] at hv
  injection hv with hv
  injection hv with hv _ _
  subst hv
  rcases ho.2 with ⟨hp,_⟩ | ⟨g,cap,cur',hp,_,hh,_⟩
  ·subst hp;simp [Value.ownBlock] at e
  ·subst hp
   simp [Value.ownBlock] at e
   subst e
   rw [hcur] at hh
   injection hh with hh
   injection hh with _ hh _
   exact hE hh.symm
 ·obtain ⟨a',c',hv,hl,hm,hn,hat⟩:=hs
  exact ⟨a',c',hv,hl,hm,hn,fun h1=>absurd h1 h0⟩
theorem GatherI.step {w0 : World} {pv' cv : Value} {cs : List TCond} {vd : Int} {rows : List (List Value)} {ia is : Nat} {done : Nat → Bool} {cells : List Value} (h : GatherI B β d wB pv0 wi pv rs) (hb : Below wi.heap.size wi w0) (hβ : β < B) (hB : B≤w0.heap.size)
  (hI : ApInv w0 β 38 #[pv,d] B 147 2 pv rs.length cells ia is done W) (hro : RowsOf 2 (ruleR wi (ButP wi B pv)) rs rows)
  (hrow : W.ownsRow B 147 2 pv' (rs.length + 1) (rows.flatten ++ [cv,.int .i64 vd])) (hat : pv'.ownBlock = pv.ownBlock ∨ ∀ g,pv'.ownBlock = some g → w0.heap.size≤g)
  (hbox : W.heap[β]? = some (.cells (#[pv,d].setIfInBounds 0 pv') 38)) (hcv : OwnSl W w0.heap.size 153 3 condR cv cs) (hT : 147 ≠ 153) : GatherI B β d wB pv0 W pv' (rs ++ [⟨cs,vd⟩]) where
 os:=hI.os.trans (hb.os.trans h.os)
 tape:=hI.tape.trans (hb.tape.trans h.tape)
 output:=hI.output.trans (hb.output.trans h.output)
 size:=Nat.le_trans (Nat.le_trans h.size hb.size) hI.size
 blk:=fun b hl hn ho=>by
  have h1 : b < wi.heap.size:=Nat.lt_of_lt_of_le hl h.size
  rw [hI.blk b (Nat.lt_of_lt_of_le h1 hb.size) hn (fun e=>by
   rcases h.hob with e' | e'
   ·exact ho (e.trans e')
   ·have:=e' b e.symm;omega),hb.block b h1]
  exact h.blk b hl hn ho
 box:=by simpa using hbox
 own:=by
  refine OwnSl.app1 (rows:=rows) (r:=[cv,.int .i64 vd]) (hro.mono fun x _ c hx=>?_) ⟨cv,rfl,conds_but hcv hB hrow hT⟩ rfl hrow rfl
  obtain ⟨v,e1,e2⟩:=hx
  have hsame : ∀ b,ButP wi B pv b → b < wi.heap.size → W.heap[b]? = wi.heap[b]?:=fun b hb' hlt=>by
   rw [hI.blk b (Nat.lt_of_lt_of_le hlt hb.size) (by have:=hb'.1;omega) (fun e=>hb'.2.1 e.symm)]
   exact hb.block b hlt
  exact ⟨v,e1,e2.keep (fun b hb' hlt=>⟨hb'.1,fun e=>by
   rcases hat with h' | h'
   ·exact hb'.2.1 (h'.symm.trans e)
   ·have:=h' b e;have:=hb.size;omega,hb'.2.2.keep (hsame b hb' hlt)⟩) hsame (Nat.le_trans hb.size hI.size)⟩
 hob:=by
  have hs:=h.size
  have hs':=hb.size
  rcases hat with e | e
  ·rcases h.hob with e' | e'
   ·exact .inl (e.trans e')
   ·exact .inr fun g hg=>e' g (e.symm.trans hg)
  ·exact .inr fun g hg=>by have:=e g hg;omega
end
theorem rules_ne {w W : World} {B β : Nat} {D : Nat → Prop} {v : Value} {l : List TRule} (h : OwnSl W B 147 2 (ruleR w D) v l) (hb : Below w.heap.size w W) (h1 : β < B) (h2 : ∀ b,D b → b ≠ β) : RdRules W (fun b=>b ≠ β) v l :=
 (h.monoR fun _ _ _ ⟨u,e1,e2⟩=>⟨u,e1,e2.keep (fun b hd _=>h2 b hd) (fun b _ hlt=>hb.block b hlt) hb.size⟩).sl fun b hb'=>by omega
theorem rules_lt {w : World} {v : Value} {l : List TRule} (h : RdRules w (fun _=>True) v l) : RdRules w (fun b=>b < w.heap.size) v l:=h.keep (fun _ _ hlt=>hlt) (fun _ _ _=>rfl) (Nat.le_refl _)
end Go.Proofs.YthkgjohhbdipcaaGreatDoor
namespace Go.Proofs.YthkgjohhbdipcaaGreatDoor
open Go.RowKit
attribute [local go_sem] gives givesUpon
theorem nil_conds (w : World) (D : Nat → Prop) : RdConds w D (.slice none 0 0) []:=⟨none,0,rfl,Nat.le_refl _,by unfold maxLen;simp,fun _=>rfl,fun h=>by cases h⟩
set_option maxRecDepth 100000 in
set_option maxHeartbeats 4000000 in
theorem mwhole_any (v : Value) (p : TPol) (D : Nat → Prop) (w : World) (h : RdRules w D v p.rules) (hn : p.rules.length≤120) :
  Calls Tryz.prog 226 #[polV v p.dflt] w fun e w'=>∃ u,e = .returned u∧OwnSl w' w.heap.size 147 2 (ruleR w D) u (wholeOf p)∧Below w.heap.size w w':=by
 have H:=Lib.hid h
 obtain ⟨a,c,rfl,_⟩:=Sl.form h
 clear h
 obtain ⟨i0,hi,hz0,hz1,hz2⟩:=info_parts infocRule
 have Hi:=Lib.hid hi
 clear hi
 have HS : Hid (∀ W,Cls (w.heap.size + 1) (w.alloc (.cells #[.slice a p.rules.length c,.int .i64 p.dflt] 38)) W → ∀ j,W.cell? ⟨w.heap.size,j,none⟩ = (#[.slice a p.rules.length c,.int .i64 p.dflt] : Array Value)[j]?):=fun W hW=>(Bx.one.lift hW.2 (by simp)).cells0
 have HR : Hid (∀ W,Cls (w.heap.size + 1) (w.alloc (.cells #[.slice a p.rules.length c,.int .i64 p.dflt] 38)) W → Sl W D 2 (ruleR w D) (.slice a p.rules.length c) p.rules):=fun W hW=>H.out.belowR ((bel_alloc (Below.refl _ _) _).trans (hW.2.mono (by omega))) (fun _ _ _ h=>h)
 go_enter Tryz.func226,Tryz.ntmps226
 go_wp2_with fail
 refine wp_region_ap1 (w.heap.size + 1) (by simp) 2 6 7 (fun v W=>OwnSl W (w.heap.size + 1) 147 2 (ruleR w D) v p.rules) (NewRow (w.heap.size + 1) 147 1 #[.slice none 0 0,.int .i64 p.dflt]) (fun v W=>OwnSl W (w.heap.size + 1) 147 2 (ruleR w D) v (p.rules ++ [⟨[],p.dflt⟩])) (by kernel_rfl) (by kernel_rfl) _ rfl
  (fun _ _ _ hb h=>h.below hb) (fun _ _ _ hb h=>h.below hb) (fun _ _ _ hb h=>h.below hb) ?_
 iterate 2 (refine rel_ex (fun K hK=>?_);apply Exists.intro;refine ⟨fun done vf W hI h0 hd hn hf R hR=>?_,?_,?_⟩;(have hcell:=HS.out W hI;clear h0 hd hn hf;go_simp;exact hR _ _ (Cls.step hI (Below.refl _ _)) (fun _=>Below.refl _ _) rfl trivial);exact (fun _ _ _=>rfl);(go_simp;refine hK _ ?_;clear hK K))
 (refine rel_pr (fun K hK=>?_);refine ⟨fun done vf W hI h0 hd hn hf R hR=>?_,?_⟩;(have hsl:=HR.out W hI;clear h0 hd hn hf;go_simp;go_at_call 155;refine (cloneRule_any (ruleR w D) (fun y cs h=>ruleR_one y cs h) _ p.rules D W hsl (by omega)).mono ?_;(rintro e w4 ⟨v4,rfl,hr4,hb4⟩;exact ⟨_,rfl,hR _ _ (Cls.step hI hb4) (fun _=>hb4) trivial (fun _=>hr4.base hI.1)⟩));(go_simp;refine hK _ ?_;clear hK K))
 iterate 3 (refine rel_ex (fun K hK=>?_);apply Exists.intro;refine ⟨fun done vf W hI h0 hd hn hf R hR=>?_,?_,?_⟩;(have hcell:=HS.out W hI;clear h0 hd hn hf;go_simp;exact hR _ _ (Cls.step hI (Below.refl _ _)) (fun _=>Below.refl _ _) rfl trivial);exact (fun _ _ _=>rfl);(go_simp;refine hK _ ?_;clear hK K))
 (refine rel_pr (fun K hK=>?_);refine ⟨fun done vf W hI h0 hd hn hf R hR=>?_,?_⟩;(clear h0 hd hn hf;go_simp;exact hR _ _ (Cls.step hI (bel_alloc (Below.refl _ _) _)) (fun _=>bel_alloc (Below.refl _ _) _) trivial (fun _=>⟨_,rfl,hI.1,heap_last _ _⟩));(go_simp;refine hK _ ?_;clear hK K))
 (refine rel_pr (fun K hK=>?_);refine ⟨fun done vf W hI h0 hd hn hf R hR=>?_,?_⟩;(have h2 : OwnSl W (w.heap.size + 1) 147 2 (ruleR w D) (vf 2) p.rules:=hf 2 (hd 2 (by decide)) h0;have h6 : NewRow (w.heap.size + 1) 147 1 #[.slice none 0 0,.int .i64 p.dflt] (vf 6) W:=hf 6 (hd 6 (by decide)) h0;obtain ⟨bn,hbv,hbn,hcn⟩:=h6;have hblk:=h2.block;obtain ⟨rows,hrows,hown⟩:=h2;refine ob_plain rfl ?_;refine gives_append_at (.tmp 5) (.tmp 9) 36 rfl (w.heap.size + 1) 147 i0 _ 2 32 Tryz.underlying36 Hi.out hz0 hz1 hz2 rfl (by omega) (vf 2) p.rules.length rows.flatten (by rfl) hown ⟨bn,0,none⟩ 1 1 [.slice none 0 0,.int .i64 p.dflt] (by exact hbv) (by rfl) (World.news_of_block hcn) (by simp [Value.oneCell']) (by omega) (by unfold maxLen;omega) (by omega) hI.1 (fun v' w' h1 h2 _=>hR _ _ ⟨Nat.le_trans hI.1 h2.size,Below.grown hI.2 h2 hI.1 hblk⟩ (fun h=>absurd rfl h) trivial (OwnSl.app1 hrows ⟨_,rfl,nil_conds _ _⟩ rfl h1 rfl)));(go_simp;refine hK _ ?_;clear hK K))
 (refine rel_ex (fun K hK=>?_);apply Exists.intro;refine ⟨fun done vf W hI h0 hd hn hf R hR=>?_,?_,?_⟩;(clear h0 hd hn hf;go_simp;exact hR _ _ (Cls.step hI (Below.refl _ _)) (fun _=>Below.refl _ _) rfl trivial);exact (fun f g h=>h 7 (by decide));(go_simp;refine hK _ ?_;clear hK K))
 intro done vf w3 hd hI hF
 have h7 : OwnSl w3 (w.heap.size + 1) 147 2 (ruleR w D) (vf 7) (p.rules ++ [⟨[],p.dflt⟩]):=hF 7 (by decide)
 have H7:=Lib.hid (h7.base (base':=w.heap.size) (by omega))
 have HB:=Lib.hid ((bel_alloc (Below.refl w.heap.size w) (.cells #[.slice a p.rules.length c,.int .i64 p.dflt] 38)).trans (hI.2.mono (by omega)))
 clear hd hI hF h7
 go_wp2
 go_ret
 exact ⟨_,rfl,H7.out,HB.out⟩
theorem except_any (a b : Int) (w : World) : Calls Tryz.prog 219 #[.int .i64 a,.int .i64 b] w fun e w'=>e = .returned (.int .i64 (exceptOf a b))∧w = w':=by
 go_enter Tryz.func219,Tryz.ntmps219
 by_cases h : a < b
 ·go_wp2
  go_ret
  exact ⟨ret_int (by unfold exceptOf;rw [if_pos h]),rfl⟩
 ·go_wp2
  go_ret
  exact ⟨ret_int (by unfold exceptOf;rw [if_neg (by omega)]),rfl⟩
end Go.Proofs.YthkgjohhbdipcaaGreatDoor
