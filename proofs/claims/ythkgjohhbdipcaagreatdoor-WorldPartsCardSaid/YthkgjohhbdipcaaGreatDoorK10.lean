/- Texts laid one behind the other: Pair, Meet, ShortSpec, BoolMap, Cuts0, DelF, ShelfSort, SortI, Cuts, CutsE, Points. No condition beyond theirs. -/
import Derived.Test.YthkgjohhbdipcaaGreatDoorK9
import Derived.Test.YthkgjohhbdipcaaGreatDoorK8
import Derived.Test.YthkgjohhbdipcaaGreatDoorK2
import Derived.Laws.ResultCell
import Derived.Test.YthkgjohhbdipcaaGreatDoorK3
import Derived.Test.YthkgjohhbdipcaaGreatDoorProg
import Derived.Maps.OwnSet
import Derived.KernelRfl
import Derived.Test.YthkgjohhbdipcaaGreatDoorK5
import Derived.Lib.SliceRun
import Derived.Deep.MidRow
import Derived.Shelf.Strings.Builder1
import Derived.Shelf.Small.Utf8
import Derived.Shelf.Small.Bits
import Derived.Shelf.Small.Strs
import Derived.Shelf.Small.Wraps
import Derived.Shelf.Utf8.RuneCount
import Derived.Shelf.Strconv.Atoi
import Derived.Shelf.Strconv.Itoa0
import Derived.Shelf.Strconv.Itoa1
import Derived.Shelf.LaysM
import Derived.Shelf.Strconv.Itoa2
import Derived.Shelf.Strconv.Itoa3
import Derived.Shelf.Strconv.Itoa4
import Derived.Shelf.Strconv.AtoiErrFast
import Derived.Shelf.Strconv.ParseIntEmpty
import Derived.Shelf.Strconv.AtoiFail
import Derived.Shelf.Strconv.Clone
import Derived.Shelf.Strconv.SyntaxError
import Derived.Shelf.LaysC
import Derived.Shelf.Strconv.ToError
import Derived.Shelf.Strconv.Lower
import Derived.Shelf.Strconv.ParseUint10
import Derived.Shelf.Strconv.ParseUint10Empty
import Derived.Shelf.Strconv.ParseUint10Any
import Derived.Shelf.Strconv.ParseInt10
import Derived.Shelf.Strconv.AtoiLong
import Derived.Shelf.Strconv.AtoiInnerAll
import Derived.Shelf.Strconv.RangeError
import Derived.Shelf.Strconv.ToErrorRange
import Derived.Shelf.Strconv.AtoiAll
import Derived.Shelf.Strconv.ParseUintEmpty
import Derived.Shelf.Strconv.ParseUint10b64
import Derived.Shelf.Strconv.ParseUint10b32
import Derived.Shelf.Strconv.ParseUint10b16
import Derived.Shelf.Strconv.ParseUint10b8
import Derived.Shelf.Strconv.ParseUint10At
import Derived.Shelf.Strconv.ParseInt10At64
import Derived.Shelf.Strconv.ParseInt10At32
import Derived.Shelf.Strconv.ParseInt10At16
import Derived.Shelf.Strconv.ParseInt10At8
import Derived.Shelf.Strconv.ParseInt10All
import Derived.Shelf.Strconv.ParseIntPublic10
import Derived.Shelf.Strconv.ErrVarParseInt
import Derived.Shelf.Strings.Search1
import Derived.Shelf.Strings.Search2
import Derived.Shelf.Strings.Search3
import Derived.Shelf.Strings.Cut
import Derived.Shelf.Strings.Count
import Derived.Shelf.Strings.Shaped
import Derived.Shelf.Sort.Plain
import Derived.Shelf.Strings.Prefix
import Derived.Shelf.Strings.Split
import Derived.Shelf.Strings.Fields
import Derived.Shelf.Strings.SplitShaped
import Derived.Shelf.Unicode.Latin
import Derived.Shelf.Unicode.Decode
import Derived.Shelf.Strings.Runes
import Derived.Shelf.Strings.RuneCount
import Derived.Shelf.Strings.IndexAny
import Derived.Shelf.Strings.AsciiSet
import Derived.Shelf.Strings.IndexAnyAll
import Derived.Shelf.Strings.Explode
import Derived.Shelf.Unicode.DecodeSlow
import Derived.Shelf.Unicode.DecodeAny
import Derived.Shelf.Unicode.Is16White
import Derived.Shelf.Unicode.IsSpaceAny
import Derived.Shelf.Unicode.Is16Any
import Derived.Shelf.Unicode.Is32Any
import Derived.Shelf.Unicode.ExclAny
import Derived.Shelf.Slices.Turned
import Derived.Ground.Names2Prog
import Derived.Shelf.Slices.CompactI
import Derived.Shelf.Slices.SearchI
import Derived.Shelf.Slices.Cells
import Derived.Shelf.Slices.In.SortNone
import Derived.Lib.SlicesCompact
import Derived.Sort.OwnSortedInts
set_option linter.all false
namespace Go.Proofs.YthkgjohhbdipcaaGreatDoor
open Go.RowKit
attribute [local go_sem] gives givesUpon
theorem ruleT_ne : 147 ≠ 153:=by decide
def pairG (w0 : World) (ca cb : Value) (cs : List TCond) (vd : Int) (k : Nat) (vf : Nat → Value) (W : World) : Prop :=
 if k = 6 then NewRow w0.heap.size 145 2 #[ca,cb] (vf 6) W else if k = 7 then OwnSl W w0.heap.size 153 3 condR (vf 7) cs else if k = 14 then OwnSl W w0.heap.size 153 3 condR (vf 7) cs else if k = 15 then NewRow w0.heap.size 147 1 #[vf 7,.int .i64 vd] (vf 15) W∧OwnSl W w0.heap.size 153 3 condR (vf 7) cs else True
theorem pairG_keep {w0 w w' : World} {ca cb : Value} {cs : List TCond} {vd : Int} {k : Nat} {vf : Nat → Value} (hb : ∀ b,w0.heap.size≤b → b < w.heap.size → w'.heap[b]? = w.heap[b]?) (h : pairG w0 ca cb cs vd k vf w) : pairG w0 ca cb cs vd k vf w':=by
 unfold pairG at h ⊢
 split
 ·rename_i e;rw [if_pos e] at h;exact h.keep hb
 ·rename_i e
  rw [if_neg e] at h
  split
  ·rename_i e2;rw [if_pos e2] at h;exact h.keepFrom hb
  ·rename_i e2
   rw [if_neg e2] at h
   split
   ·rename_i e3;rw [if_pos e3] at h;exact h.keepFrom hb
   ·rename_i e3
    rw [if_neg e3] at h
    split
    ·rename_i e4;rw [if_pos e4] at h;exact ⟨h.1.keep hb,h.2.keepFrom hb⟩
    ·trivial
theorem two_conds {W : World} {b : Nat} {T : TypeId} {u v : Value} {p q : List TCond} (hb : W.heap[b]? = some (.cells #[u,v] T)) (hp : RdConds W (fun _=>True) u p) (hq : RdConds W (fun _=>True) v q) : Sl W (fun _=>True) 1 (rowsRCond W (fun _=>True)) (.slice (some ⟨b,0,none⟩) 2 2) [p,q] :=
 sl_block (xs:=[p,q]) (rows:=[[u],[v]]) (RowsOf.cons (RowsOf.cons RowsOf.nil ⟨_,rfl,hq⟩ rfl) ⟨_,rfl,hp⟩ rfl) hb rfl trivial (by simp [maxLen])
theorem lenTo_two {α : Type} (p q : List α) : lenTo [p,q] [p,q].length = p.length + q.length:=by simp [lenTo]
theorem nil_rules (w : World) (D : Nat → Prop) : RdRules w D (.slice none 0 0) []:=⟨none,0,rfl,Nat.le_refl _,by unfold maxLen;simp,fun _=>rfl,fun h=>by cases h⟩
theorem pairs_take {of : Int → Int → Int} {l m : List TRule} {k : Nat} (h : k < l.length) : pairs of (l.take (k + 1)) m = pairs of (l.take k) m ++ m.map (pairRule of l[k]):=by
 unfold pairs
 rw [List.take_succ_eq_append_getElem h,List.flatMap_append]
 simp
theorem polsE_two (p q : TPol) : polsE [p,q] = if polE p = 0 then polE q else polE p:=by
 simp only [polsE]
 split
 ·rename_i h
  split
  ·rename_i h2;exact h2.symm
  ·rfl
 ·rfl
theorem pairs_size {of : Int → Int → Int} {p q : TPol} (hp : OkPol p) (hq : OkPol q) (k : Nat) : (pairs of ((wholeOf p).take k) (wholeOf q)).length + (wholeOf q).length≤20000:=by
 rw [pairs_len,List.length_take,wholeOf_len,wholeOf_len]
 have h1:=hp.len
 have h2:=hq.len
 have h3 : min k (p.rules.length + 1) * (q.rules.length + 1)≤121 * 121:=Nat.mul_le_mul (by omega) (by omega)
 omega
theorem wholeOf_conds {p : TPol} (h : OkPol p) {r : TRule} (hr : r ∈ wholeOf p) : r.conds.length≤10:=by
 unfold wholeOf at hr
 rcases List.mem_append.1 hr with hr | hr
 ·exact (h.rules r hr).len
 ·simp at hr;subst hr;simp
set_option maxRecDepth 100000 in
set_option maxHeartbeats 16000000 in
theorem pair_any (of : Int → Int → Int) (fn : FuncId) (hcf : ∀ (args : Array Value) (W : World),Sem.run Tryz.prog (callFunc fn args) W = .ok (.enter fn args) W) (hof : ∀ (a b : Int) (w : World),Calls Tryz.prog fn #[.int .i64 a,.int .i64 b] w fun e w'=>e = .returned (.int .i64 (of a b))∧w = w') (u v : Value) (p q : TPol) (w : World)
  (hp : RdRules w (fun _=>True) u p.rules) (hq : RdRules w (fun _=>True) v q.rules) :
  Calls Tryz.prog 218 #[polV u p.dflt,polV v q.dflt,.func (.func fn) #[] #[]] w fun e w'=>∃ r,e = .returned (.tuple #[polV r (pairE of p q).1.dflt,.int .i64 (pairE of p q).2])∧RdRules w' (fun b=>w.heap.size≤b∧NotPol w' b) r (pairE of p q).1.rules∧Below w.heap.size w w':=by
 have Hof:=Lib.hid hof
 have Hcf:=Lib.hid hcf
 have Hp:=Lib.hid hp
 have Hq:=Lib.hid hq
 obtain ⟨ap,cp,rfl,_⟩:=Sl.form hp
 obtain ⟨aq,cq,rfl,_⟩:=Sl.form hq
 clear hp hq hof hcf
 have hx0 : ∀ W : World,(Instr.index 288 (.agg #[.slice ap p.rules.length cp,.int .i64 p.dflt,.slice aq q.rules.length cq,.int .i64 q.dflt]) (.int .i64 0)).run Tryz.prog W = .ok (.agg #[.slice ap p.rules.length cp,.int .i64 p.dflt]) W:=fun W=>by kernel_rfl
 have hx1 : ∀ W : World,(Instr.index 288 (.agg #[.slice ap p.rules.length cp,.int .i64 p.dflt,.slice aq q.rules.length cq,.int .i64 q.dflt]) (.int .i64 1)).run Tryz.prog W = .ok (.agg #[.slice aq q.rules.length cq,.int .i64 q.dflt]) W:=fun W=>by kernel_rfl
 go_enter Tryz.func218,Tryz.ntmps218
 go_wp2_with fail
 go_loopw [21] (fun iv wr=>∃ i : Nat,iv = .int .i64 i∧i≤2∧(0 < i → polE p = 0)∧(1 < i → polE q = 0)∧Bx w [.cells #[.slice ap p.rules.length cp,.int .i64 p.dflt] 38,.cells #[.slice aq q.rules.length cq,.int .i64 q.dflt] 38,.cells #[.slice none 0 0,.int .i64 0] 38] wr) (fun iv _=>2 - (intOf iv).toNat)
 case atStart=>exact ⟨0,rfl,by omega,fun h=>absurd h (by omega),fun h=>absurd h (by omega),Bx.three⟩
 case round =>
  obtain ⟨i,rfl,hi,hpe,hqe,hB⟩:=hrel
  have HB:=Lib.hid hB
  have Hpe:=Lib.hid hpe
  have Hqe:=Lib.hid hqe
  clear hB hpe hqe
  by_cases hlt : i < 2
  ·rcases (by omega : i = 0 ∨ i = 1) with rfl | rfl
   ·go_wp2_with fail
    refine (polcheck_any _ p (fun _=>True) _ (Hp.out.below (HB.out.alloc _).bel)).mono ?_
    rintro e w1 ⟨rfl,hb1⟩
    have HB1:=Lib.hid ((HB.out.alloc _).below hb1)
    clear hb1
    by_cases h0 : polE p = 0
    ·have H0:=Lib.hid h0
     rw [h0]
     clear h0
     go_wp2
     go_roundw
     case rel=>exact ⟨1,rfl,by omega,fun _=>H0.out,fun h=>absurd h (by omega),HB1.out⟩
     case measure=>simp [intOf]
    ·have hb0 : (polE p != 0) = true:=bne_iff_ne.2 h0
     have HE : Hid (pairE of p q = (zeroPol,polE p)):=by show pairE of p q = _;unfold pairE;rw [polsE_two,if_neg h0,if_pos h0]
     have hc2:=HB1.out.cells2
     have hf2:=HB1.out.free2
     have HB2:=Lib.hid (HB1.out.set (i:=2) rfl 0 (.slice none 0 0))
     have HB3:=Lib.hid (HB2.out.set (i:=2) rfl 1 (.int .i64 0))
     have hc3:=HB3.out.cells2
     clear h0
     go_wp2
     refine bodyPost_ret (v:=.tuple #[polV (.slice none 0 0) 0,.int .i64 (polE p)]) ?_ rfl (by rw [HE.out];exact ⟨_,rfl,nil_rules _ _,HB3.out.bel⟩)
     rw [results_cell_tmp rfl]
     go_simp
   ·have H0:=Hpe.out (by omega)
    have H0:=Lib.hid H0
    go_wp2_with fail
    refine (polcheck_any _ q (fun _=>True) _ (Hq.out.below (HB.out.alloc _).bel)).mono ?_
    rintro e w1 ⟨rfl,hb1⟩
    have HB1:=Lib.hid ((HB.out.alloc _).below hb1)
    clear hb1
    by_cases h0 : polE q = 0
    ·have H1:=Lib.hid h0
     rw [h0]
     clear h0
     go_wp2
     go_roundw
     case rel=>exact ⟨2,rfl,by omega,fun _=>H0.out,fun _=>H1.out,HB1.out⟩
     case measure=>simp [intOf]
    ·have hb0 : (polE q != 0) = true:=bne_iff_ne.2 h0
     have HE : Hid (pairE of p q = (zeroPol,polE q)):=by show pairE of p q = _;unfold pairE;rw [polsE_two,if_pos H0.out,if_pos h0]
     have hc2:=HB1.out.cells2
     have hf2:=HB1.out.free2
     have HB2:=Lib.hid (HB1.out.set (i:=2) rfl 0 (.slice none 0 0))
     have HB3:=Lib.hid (HB2.out.set (i:=2) rfl 1 (.int .i64 0))
     have hc3:=HB3.out.cells2
     clear h0
     go_wp2
     refine bodyPost_ret (v:=.tuple #[polV (.slice none 0 0) 0,.int .i64 (polE q)]) ?_ rfl (by rw [HE.out];exact ⟨_,rfl,nil_rules _ _,HB3.out.bel⟩)
     rw [results_cell_tmp rfl]
     go_simp
  ·obtain rfl : i = 2:=by omega
   obtain ⟨wo,rfl⟩ : ∃ wo : World,wo = wr:=⟨_,rfl⟩
   have hokp:=(okPol_iff p).1 (Hpe.out (by omega))
   have hokq:=(okPol_iff q).1 (Hqe.out (by omega))
   have Hokp:=Lib.hid hokp
   have Hokq:=Lib.hid hokq
   have hlp:=hokp.len
   have hlq:=hokq.len
   have HBa:=Lib.hid (HB.out.alloc (.cells #[.slice none 0 0,.int .i64 0] 38))
   have hbox:=Lib.hid (heap_last wo (.cells #[.slice none 0 0,.int .i64 0] 38))
   have hc0:=HBa.out.cells0
   have htop:=HB.out.top
   have htop' : w.heap.size + 3≤wo.heap.size:=htop
   clear hokp hokq htop
   go_wp2_with fail
   clear hc0
   refine (mwhole_any _ p (fun b=>b < w.heap.size) _ ((rules_lt Hp.out).below HBa.out.bel) hlp).mono ?_
   rintro e wA ⟨vA,rfl,hoA,hbA⟩
   have HBA:=Lib.hid (HBa.out.below hbA)
   have HboxA:=Lib.hid (blk_below hbox.out hbA)
   have HA : Hid (RdRules wA (fun b=>b ≠ wo.heap.size∧b < wA.heap.size) vA (wholeOf p)):=(rules_ne (B:=wo.heap.size + 1) (β:=wo.heap.size) (by have:=hoA;simpa using this) hbA (by omega) (fun b hb=>by omega)).keep (fun _ h hl=>⟨h,hl⟩) (fun _ _ _=>rfl) (Nat.le_refl _)
   have hszA : wo.heap.size + 1≤wA.heap.size:=by have:=hbA.size;simpa using this
   obtain ⟨aA,cA,rfl⟩:=hoA.slice
   obtain ⟨i0,hi,hz0,hz1,hz2⟩:=info_parts infocRule
   have Hi:=Lib.hid hi
   have hlA : (wholeOf p).length = p.rules.length + 1:=wholeOf_len p
   have hlB : (wholeOf q).length = q.rules.length + 1:=wholeOf_len q
   clear hoA hbA hi
   go_wp2_with fail
   go_loopw [34] (fun kv wk=>∃ (k : Nat) (pk : Value),kv = .int .i64 k∧k≤(wholeOf p).length∧GatherI wA.heap.size wo.heap.size (.int .i64 0) wA (.slice none 0 0) wk pk (pairs of ((wholeOf p).take k) (wholeOf q))) (fun kv _=>(wholeOf p).length - (intOf kv).toNat)
   case atStart=>exact ⟨0,_,rfl,by omega,GatherI.start HboxA.out OwnSl.nil⟩
   case round =>
    obtain ⟨k,pk,rfl,hk,hG⟩:=hrel
    obtain ⟨wk,rfl⟩ : ∃ wk : World,wk = wr:=⟨_,rfl⟩
    have HG:=Lib.hid hG
    clear hG
    have HAk : Hid (RdRules wk (fun b=>b ≠ wo.heap.size∧b < wA.heap.size) (.slice aA (wholeOf p).length cA) (wholeOf p)):=HA.out.keep (fun _ h _=>h) (fun b hb hl=>HG.out.blk b hl hb.1 (by simp [Value.ownBlock])) HG.out.size
    have HBk : Hid (Bx w [.cells #[.slice ap p.rules.length cp,.int .i64 p.dflt] 38,.cells #[.slice aq q.rules.length cq,.int .i64 q.dflt] 38,.cells #[.slice none 0 0,.int .i64 0] 38] wk):=HBA.out.lift (B:=w.heap.size + 3) (HG.out.belowB (Below.refl _ _) (by omega) (by omega) (fun g hg=>by simp [Value.ownBlock] at hg)) (by simp)
    have hszk:=HG.out.size
    by_cases hlt : k < (wholeOf p).length
    ·obtain ⟨ba,oa,rfl,hDa,hba⟩:=Sl.at_ HAk.out (by omega)
     obtain ⟨ca,cca,hca0,hca1,hra,hla,hma,_⟩:=RdRules.cells HAk.out hlt
     have Hmem:=Lib.hid (List.getElem_mem hlt)
     have Htk:=Lib.hid (pairs_take (of:=of) (m:=wholeOf q) hlt)
     obtain ⟨ra,hrae⟩ : ∃ ra,(wholeOf p)[k] = ra:=⟨_,rfl⟩
     rw [hrae] at hca0 hca1 hra hla Hmem Htk
     have Hra:=Lib.hid hra
     have hcl:=wholeOf_conds Hokp.out Hmem.out
     have HBx:=Lib.hid (HBk.out.alloc (.cells #[.slice ca ra.conds.length cca,.int .i64 ra.verdict] 147))
     have hc1:=HBx.out.cells1
     clear hra hrae
     go_wp2_with fail
     clear hc1 hca0 hca1
     refine (mwhole_any _ q (fun b=>b < w.heap.size) _ ((rules_lt Hq.out).below HBx.out.bel) hlq).mono ?_
     rintro e wB ⟨vB,rfl,hoB,hbB⟩
     have HGB:=Lib.hid ((HG.out.below (bel_alloc (Below.refl _ _) (.cells #[.slice ca ra.conds.length cca,.int .i64 ra.verdict] 147))).below hbB)
     have H13B : Hid (wB.heap[wk.heap.size]? = some (.cells #[.slice ca ra.conds.length cca,.int .i64 ra.verdict] 147)):=blk_below (heap_last _ _) hbB
     have HraB : Hid (RdConds wB (fun b=>b ≠ wo.heap.size∧b < wA.heap.size) (.slice ca ra.conds.length cca) ra.conds):=Hra.out.below (bel_call (bel_alloc (Below.refl _ _) _) hbB)
     have HBv : Hid (RdRules wB (fun b=>b ≠ wo.heap.size∧(b < w.heap.size ∨ wk.heap.size + 1≤b)) vB (wholeOf q)):=by
      have h1:=hoB
      simp only [World.size_alloc] at h1
      exact (h1.monoR fun _ _ _ ⟨u,e1,e2⟩=>⟨u,e1,e2.keep (fun b hd _=>⟨by omega,.inl hd⟩) (fun b _ hl=>hbB.block b hl) hbB.size⟩).sl fun b hb'=>⟨by omega,.inr hb'⟩
     have hszB : wk.heap.size + 1≤wB.heap.size:=by have:=hbB.size;simpa using this
     obtain ⟨aB,cB,rfl⟩:=hoB.slice
     have Hpk : Hid (∀ g,pk.ownBlock = some g → g < wk.heap.size∧wA.heap.size≤g):=fun g hg=>by
      obtain ⟨rows,_,ho⟩:=HG.out.own
      exact ⟨(ho.lt g hg).2,(ho.lt g hg).1⟩
     clear hoB hbB
     go_wp2_with fail
     go_loopw [41] (fun jv wj=>∃ (j : Nat) (pj : Value),jv = .int .i64 j∧j≤(wholeOf q).length∧GatherI wA.heap.size wo.heap.size (.int .i64 0) wB pk wj pj (pairs of ((wholeOf p).take k) (wholeOf q) ++ ((wholeOf q).take j).map (pairRule of ra))) (fun jv _=>(wholeOf q).length - (intOf jv).toNat)
     case atStart=>exact ⟨0,_,rfl,by omega,by simpa using GatherI.start HGB.out.box HGB.out.own⟩
     case round =>
      obtain ⟨j,pv,rfl,hj,hJ⟩:=hrel
      obtain ⟨wj,rfl⟩ : ∃ wj : World,wj = wr:=⟨_,rfl⟩
      have HJ:=Lib.hid hJ
      clear hJ
      have hszj:=HJ.out.size
      by_cases hjt : j < (wholeOf q).length
      ·have HBj : Hid (RdRules wj (fun b=>b ≠ wo.heap.size∧(b < w.heap.size ∨ wk.heap.size + 1≤b)) (.slice aB (wholeOf q).length cB) (wholeOf q)):=HBv.out.keep (fun _ h _=>h) (fun b hb hl=>HJ.out.blk b hl hb.1 (fun e=>by have:=Hpk.out b e.symm;omega)) HJ.out.size
       obtain ⟨bb,ob,rfl,hDb,hbb⟩:=Sl.at_ HBj.out (by omega)
       obtain ⟨cb,ccb,hcb0,hcb1,hrb,hlb,hmb,_⟩:=RdRules.cells HBj.out hjt
       have Hmemb:=Lib.hid (List.getElem_mem hjt)
       have Htj:=Lib.hid (List.take_succ_eq_append_getElem hjt)
       obtain ⟨rb,hrbe⟩ : ∃ rb,(wholeOf q)[j] = rb:=⟨_,rfl⟩
       rw [hrbe] at hcb0 hcb1 hrb hlb Hmemb Htj
       have hcm:=wholeOf_conds Hokq.out Hmemb.out
       have Hlen:=Lib.hid (pairs_size (of:=of) Hokp.out Hokq.out k)
       obtain ⟨rs,hrs⟩ : ∃ rs,pairs of ((wholeOf p).take k) (wholeOf q) ++ ((wholeOf q).take j).map (pairRule of ra) = rs:=⟨_,rfl⟩
       have hrl : rs.length≤20000:=by rw [← hrs,List.length_append,List.length_map,List.length_take];have:=Hlen.out;omega
       have Hrs:=Lib.hid hrs
       rw [hrs] at HJ
       have H15 : Hid ((wj.alloc (.cells #[.slice cb rb.conds.length ccb,.int .i64 rb.verdict] 147)).heap[wj.heap.size]? = some (.cells #[.slice cb rb.conds.length ccb,.int .i64 rb.verdict] 147)):=heap_last _ _
       have H13 : Hid ((wj.alloc (.cells #[.slice cb rb.conds.length ccb,.int .i64 rb.verdict] 147)).heap[wk.heap.size]? = some (.cells #[.slice ca ra.conds.length cca,.int .i64 ra.verdict] 147)):=blk_old ((HJ.out.blk wk.heap.size (by omega) (by omega) (fun e=>by have:=Hpk.out _ e.symm;omega)).trans H13B.out)
       have Hra0 : Hid (RdConds (wj.alloc (.cells #[.slice cb rb.conds.length ccb,.int .i64 rb.verdict] 147)) (fun b=>b ≠ wo.heap.size) (.slice ca ra.conds.length cca) ra.conds):=(HraB.out.keep (D':=fun b=>b ≠ wo.heap.size) (fun _ h _=>h.1) (fun b hb hl=>HJ.out.blk b hl hb.1 (fun e=>by have:=Hpk.out b e.symm;omega)) HJ.out.size).below (bel_alloc (Below.refl _ _) _)
       have Hrb0 : Hid (RdConds (wj.alloc (.cells #[.slice cb rb.conds.length ccb,.int .i64 rb.verdict] 147)) (fun b=>b ≠ wo.heap.size) (.slice cb rb.conds.length ccb) rb.conds):=(hrb.keep (D':=fun b=>b ≠ wo.heap.size) (fun _ h _=>h.1) (fun _ _ _=>rfl) (Nat.le_refl _)).below (bel_alloc (Below.refl _ _) _)
       have Hbox0 : Hid ((wj.alloc (.cells #[.slice cb rb.conds.length ccb,.int .i64 rb.verdict] 147)).heap[wo.heap.size]? = some (.cells #[pv,.int .i64 0] 38)):=blk_old HJ.out.box
       obtain ⟨rows,hro,hrow⟩:=HJ.out.own
       have Hcv : Hid (∀ g,pv.ownBlock = some g → g ≠ wo.heap.size):=fun g hg=>by have:=(hrow.lt g hg).1;omega
       have Hro:=Lib.hid hro
       have Hrow : Hid ((wj.alloc (.cells #[.slice cb rb.conds.length ccb,.int .i64 rb.verdict] 147)).ownsRow wA.heap.size 147 2 pv rs.length rows.flatten):=ownsRow_keep1 hrow fun b _ hl _=>(bel_alloc (Below.refl wj.heap.size wj) _).block b hl
       have Hβ0 : Hid (wo.heap.size < (wj.alloc (.cells #[.slice cb rb.conds.length ccb,.int .i64 rb.verdict] 147)).heap.size):=by show _ < _;simp;omega
       have H13lt : Hid (wk.heap.size < (wj.alloc (.cells #[.slice cb rb.conds.length ccb,.int .i64 rb.verdict] 147)).heap.size):=by show _ < _;simp;omega
       have H13ne : Hid (wk.heap.size ≠ wo.heap.size):=by show _ ≠ _;omega
       have H15lt : Hid (wj.heap.size < (wj.alloc (.cells #[.slice cb rb.conds.length ccb,.int .i64 rb.verdict] 147)).heap.size):=by show _ < _;simp
       have H15ne : Hid (wj.heap.size ≠ wo.heap.size):=by show _ ≠ _;omega
       have HwA : Hid (wA.heap.size≤(wj.alloc (.cells #[.slice cb rb.conds.length ccb,.int .i64 rb.verdict] 147)).heap.size):=by show _≤_;simp;omega
       obtain ⟨vd,hvd⟩ : ∃ vd,of ra.verdict rb.verdict = vd:=⟨_,rfl⟩
       have Hvd:=Lib.hid hvd
       clear hrs hrbe hro hrow hvd hrb
       go_wp2_with fail
       clear hcb0 hcb1
       revert H15 H13 Hra0 Hrb0 Hbox0 Hrow Hβ0 H13lt H15lt HwA
       obtain ⟨w0,hw0⟩ : ∃ w0,wj.alloc (.cells #[.slice cb rb.conds.length ccb,.int .i64 rb.verdict] 147) = w0:=⟨_,rfl⟩
       have HbJ : Hid (Below wj.heap.size wj w0):=by show Below _ _ _;rw [← hw0];exact bel_alloc (Below.refl _ _) _
       rw [hw0]
       clear hw0
       intro H15 H13 Hra0 Hrb0 Hbox0 Hrow Hβ0 H13lt H15lt HwA
       refine wp_region_apr wo.heap.size 38 #[pv,.int .i64 0] 0 wA.heap.size 147 2 pv rs.length rows.flatten 1 (fun vf=>[vf 7,.int .i64 vd]) 16 18 (pairG w0 (.slice ca ra.conds.length cca) (.slice cb rb.conds.length ccb) (ra.conds ++ rb.conds) vd) (by kernel_rfl) (by kernel_rfl) _ rfl Hbox0.out Hrow.out (by omega) Hcv.out (by decide) (by decide) (fun k vf w1 w2 hb _ h=>pairG_keep hb h)
        (fun k f g w1 hfg hk h=>by
         unfold pairG at h ⊢
         split
         ·rename_i e;subst e;rw [if_pos rfl,hk] at h;exact h
         ·rename_i e
          rw [if_neg e] at h
          split
          ·rename_i e2;subst e2;rw [if_pos rfl,hk] at h;exact h
          ·rename_i e2
           rw [if_neg e2] at h
           split
           ·rename_i e3;subst e3;rw [if_pos rfl,hfg 7 (by decide)] at h;exact h
           ·rename_i e3
            rw [if_neg e3] at h
            split
            ·rename_i e4;subst e4;rw [if_pos rfl,hk,hfg 7 (by decide)] at h;exact h
            ·trivial) (fun f g h=>by show [f 7,_] = [g 7,_];rw [h 7 (by decide)]) ?_
       (refine rel_ex (fun K hK=>?_);apply Exists.intro;refine ⟨fun done vf W hI h0 hd hn hf R hR=>?_,?_,?_⟩;(clear h0 hd hn hf;go_simp;exact hR _ _ (hI.step (Below.refl _ _) (by decide) (by decide) Hβ0.out) (ApT.of_below (Below.refl _ _)) rfl trivial);exact (fun _ _ _=>rfl);(go_simp;refine hK _ ?_;clear hK K))
       (refine rel_ex (fun K hK=>?_);apply Exists.intro;refine ⟨fun done vf W hI h0 hd hn hf R hR=>?_,?_,?_⟩;(have hcell:=cells_of (hI.before (hn 18 (by decide)));clear h0 hd hn hf;go_simp;exact hR _ _ (hI.step (Below.refl _ _) (by decide) (by decide) Hβ0.out) (ApT.of_below (Below.refl _ _)) rfl trivial);exact (fun _ _ _=>rfl);(go_simp;refine hK _ ?_;clear hK K))
       (refine rel_ex (fun K hK=>?_);apply Exists.intro;refine ⟨fun done vf W hI h0 hd hn hf R hR=>?_,?_,?_⟩;(clear h0 hd hn hf;go_simp;exact hR _ _ (hI.step (Below.refl _ _) (by decide) (by decide) Hβ0.out) (ApT.of_below (Below.refl _ _)) rfl trivial);exact (fun _ _ _=>rfl);(go_simp;refine hK _ ?_;clear hK K))
       (refine rel_ex (fun K hK=>?_);apply Exists.intro;refine ⟨fun done vf W hI h0 hd hn hf R hR=>?_,?_,?_⟩;(have hcell:=cells_of ((hI.old (hn 16 (by decide)) _ H13lt.out H13ne.out).trans H13.out);clear h0 hd hn hf;go_simp;exact hR _ _ (hI.step (Below.refl _ _) (by decide) (by decide) Hβ0.out) (ApT.of_below (Below.refl _ _)) rfl trivial);exact (fun _ _ _=>rfl);(go_simp;refine hK _ ?_;clear hK K))
       (refine rel_ex (fun K hK=>?_);apply Exists.intro;refine ⟨fun done vf W hI h0 hd hn hf R hR=>?_,?_,?_⟩;(clear h0 hd hn hf;go_simp;exact hR _ _ (hI.step (Below.refl _ _) (by decide) (by decide) Hβ0.out) (ApT.of_below (Below.refl _ _)) rfl trivial);exact (fun _ _ _=>rfl);(go_simp;refine hK _ ?_;clear hK K))
       (refine rel_ex (fun K hK=>?_);apply Exists.intro;refine ⟨fun done vf W hI h0 hd hn hf R hR=>?_,?_,?_⟩;(have hcell:=cells_of ((hI.old (hn 16 (by decide)) _ H15lt.out H15ne.out).trans H15.out);clear h0 hd hn hf;go_simp;exact hR _ _ (hI.step (Below.refl _ _) (by decide) (by decide) Hβ0.out) (ApT.of_below (Below.refl _ _)) rfl trivial);exact (fun _ _ _=>rfl);(go_simp;refine hK _ ?_;clear hK K))
       (refine rel_pr (fun K hK=>?_);refine ⟨fun done vf W hI h0 hd hn hf R hR=>?_,?_⟩;(clear h0 hd hn hf;go_simp;exact hR _ _ (hI.step (bel_alloc (Below.refl _ _) _) (by decide) (by decide) Hβ0.out) (ApT.of_below (bel_alloc (Below.refl _ _) _)) trivial ⟨_,rfl,hI.size,heap_last _ _⟩);(go_simp;refine hK _ ?_;clear hK K))
       (refine rel_pr (fun K hK=>?_);refine ⟨fun done vf W hI h0 hd hn hf R hR=>?_,?_⟩;(have h6 : NewRow w0.heap.size 145 2 #[.slice ca ra.conds.length cca,.slice cb rb.conds.length ccb] (vf 6) W:=hf 6 (hd 6 (by decide));obtain ⟨b6,h6,hb6,hc6⟩:=h6;have Hc6:=Lib.hid hc6;have HW:=Lib.hid (hI.old (hn 16 (by decide)));have Hsz:=Lib.hid hI.size;clear h0 hd hn hf hc6;go_simp;go_at_call 191;refine (concatCond_any (.slice (some ⟨b6,0,none⟩) 2 2) [ra.conds,rb.conds] (fun _=>True) W (two_conds Hc6.out (Hra0.out.keep (fun _ _ _=>trivial) (fun b hb hl=>HW.out b hl hb) Hsz.out) (Hrb0.out.keep (fun _ _ _=>trivial) (fun b hb hl=>HW.out b hl hb) Hsz.out)) (by rw [lenTo_two];omega)).mono ?_;(rintro e w5 ⟨v5,rfl,ho5,hb5⟩;exact ⟨_,rfl,hR _ _ (hI.step hb5 (by decide) (by decide) Hβ0.out) (ApT.of_below hb5) trivial (show OwnSl w5 w0.heap.size 153 3 condR v5 (ra.conds ++ rb.conds) by have:=ho5.base Hsz.out;simpa using this)⟩));(go_simp;refine hK _ ?_;clear hK K))
       (refine rel_ex (fun K hK=>?_);apply Exists.intro;refine ⟨fun done vf W hI h0 hd hn hf R hR=>?_,?_,?_⟩;(clear h0 hd hn hf;go_simp;exact hR _ _ (hI.step (Below.refl _ _) (by decide) (by decide) Hβ0.out) (ApT.of_below (Below.refl _ _)) rfl trivial);exact (fun _ _ _=>rfl);(go_simp;refine hK _ ?_;clear hK K))
       (refine rel_ex (fun K hK=>?_);apply Exists.intro;refine ⟨fun done vf W hI h0 hd hn hf R hR=>?_,?_,?_⟩;(clear h0 hd hn hf;go_simp;exact hR _ _ (hI.step (Below.refl _ _) (by decide) (by decide) Hβ0.out) (ApT.of_below (Below.refl _ _)) rfl trivial);exact (fun _ _ _=>rfl);(go_simp;refine hK _ ?_;clear hK K))
       (refine rel_ex (fun K hK=>?_);apply Exists.intro;refine ⟨fun done vf W hI h0 hd hn hf R hR=>?_,?_,?_⟩;(have hcell:=cells_of ((hI.old (hn 16 (by decide)) _ H13lt.out H13ne.out).trans H13.out);clear h0 hd hn hf;go_simp;exact hR _ _ (hI.step (Below.refl _ _) (by decide) (by decide) Hβ0.out) (ApT.of_below (Below.refl _ _)) rfl trivial);exact (fun _ _ _=>rfl);(go_simp;refine hK _ ?_;clear hK K))
       (refine rel_ex (fun K hK=>?_);apply Exists.intro;refine ⟨fun done vf W hI h0 hd hn hf R hR=>?_,?_,?_⟩;(clear h0 hd hn hf;go_simp;exact hR _ _ (hI.step (Below.refl _ _) (by decide) (by decide) Hβ0.out) (ApT.of_below (Below.refl _ _)) rfl trivial);exact (fun _ _ _=>rfl);(go_simp;refine hK _ ?_;clear hK K))
       (refine rel_ex (fun K hK=>?_);apply Exists.intro;refine ⟨fun done vf W hI h0 hd hn hf R hR=>?_,?_,?_⟩;(have hcell:=cells_of ((hI.old (hn 16 (by decide)) _ H15lt.out H15ne.out).trans H15.out);clear h0 hd hn hf;go_simp;exact hR _ _ (hI.step (Below.refl _ _) (by decide) (by decide) Hβ0.out) (ApT.of_below (Below.refl _ _)) rfl trivial);exact (fun _ _ _=>rfl);(go_simp;refine hK _ ?_;clear hK K))
       (refine rel_ex (fun K hK=>?_);apply Exists.intro;refine ⟨fun done vf W hI h0 hd hn hf R hR=>?_,?_,?_⟩;(have hcf:=Hcf.out;clear h0 hd hn hf;go_simp;refine (Hof.out _ _ _).mono ?_;rintro e w5 ⟨rfl,rfl⟩;exact ⟨_,rfl,hR _ _ (hI.step (Below.refl _ _) (by decide) (by decide) Hβ0.out) (ApT.of_below (Below.refl _ _)) rfl trivial⟩);exact (fun _ _ _=>rfl);(go_simp;refine hK _ ?_;clear hK K))
       (refine rel_ex (fun K hK=>?_);refine ⟨fun vf=>.agg #[vf 7,.int .i64 vd],fun done vf W hI h0 hd hn hf R hR=>?_,?_,?_⟩;(have h7 : OwnSl W w0.heap.size 153 3 condR (vf 7) (ra.conds ++ rb.conds):=hf 7 (hd 7 (by decide));have h7k:=h7;obtain ⟨a7,c7,h7⟩:=h7.slice;generalize (ra.conds ++ rb.conds).length = n7 at h7;clear h0 hd hn hf;go_simp;exact hR _ _ (hI.step (Below.refl _ _) (by decide) (by decide) Hβ0.out) (ApT.of_below (Below.refl _ _)) (by show _ = Value.agg #[vf 7,.int .i64 vd];rw [h7,← Hvd.out]) h7k);exact (fun f g h=>by show Value.agg #[f 7,_] = Value.agg #[g 7,_];rw [h 7 (by decide)]);(go_simp;refine hK _ ?_;clear hK K))
       (refine rel_pr (fun K hK=>?_);refine ⟨fun done vf W hI h0 hd hn hf R hR=>?_,?_⟩;(have h7 : OwnSl W w0.heap.size 153 3 condR (vf 7) (ra.conds ++ rb.conds):=hf 14 (hd 14 (by decide));have H7k:=Lib.hid h7;obtain ⟨a7,c7,h7⟩:=h7.slice;generalize (ra.conds ++ rb.conds).length = n7 at h7;have H7:=Lib.hid h7;clear h0 hd hn hf;go_simp;exact hR _ _ (hI.step (bel_alloc (Below.refl _ _) _) (by decide) (by decide) Hβ0.out) (ApT.of_below (bel_alloc (Below.refl _ _) _)) trivial ⟨⟨_,rfl,hI.size,by rw [heap_last];show some (Obj.cells #[.slice a7 n7 c7,.int .i64 vd] _) = some (Obj.cells #[vf 7,.int .i64 vd] _);rw [H7.out]⟩,H7k.out.below (bel_alloc (Below.refl _ _) _)⟩);(go_simp;refine hK _ ?_;clear hK K))
       (refine rel_pr (fun K hK=>?_);refine ⟨fun done vf W hI h0 hd hn hf R hR=>?_,?_⟩;(have h15 : NewRow w0.heap.size 147 1 #[vf 7,.int .i64 vd] (vf 15) W∧OwnSl W w0.heap.size 153 3 condR (vf 7) (ra.conds ++ rb.conds):=hf 15 (hd 15 (by decide));obtain ⟨⟨bn,hbv,hbn,hcn⟩,h7⟩:=h15;obtain ⟨a7,c7,h7⟩:=h7.slice;refine ob_plain rfl ?_;refine gives_append_at (.tmp 46) (.tmp 60) 36 rfl wA.heap.size 147 i0 _ 2 32 Tryz.underlying36 Hi.out hz0 hz1 hz2 rfl (by omega) pv rs.length rows.flatten (by rfl) (hI.own h0) ⟨bn,0,none⟩ 1 1 [vf 7,.int .i64 vd] (by exact hbv) (by rfl) (World.news_of_block hcn) (by rw [h7];simp [Value.oneCell']) (by omega) (by unfold maxLen;omega) (by omega) (by have:=hI.size;have:=HwA.out;omega) (fun v' w' h1 h2 h3=>hR _ _ (hI.appended (hn 18 (by decide)) Hcv.out h2 Hβ0.out) (ApT.of_grown h2) trivial ⟨by exact h1,by rcases h3 with h3 | h3;exact .inl h3;exact .inr (fun g hg=>by have h9 : v'.ownBlock = some g:=hg;rw [h3] at h9;injection h9 with h9;have:=hI.size;omega)⟩));(go_simp;refine hK _ ?_;clear hK K))
       (refine rel_ex (fun K hK=>?_);apply Exists.intro;refine ⟨fun done vf W hI h0 hd hn hf R hR=>?_,?_,?_⟩;(clear h0 hd hn hf;go_simp;exact hR _ _ (hI.step (Below.refl _ _) (by decide) (by decide) Hβ0.out) (ApT.of_below (Below.refl _ _)) rfl trivial);exact (fun _ _ _=>rfl);(go_simp;refine hK _ ?_;clear hK K))
       (refine rel_ex (fun K hK=>?_);apply Exists.intro;refine ⟨fun done vf W hI h0 hd hn hf R hR=>?_,?_,?_⟩;(have h16 : W.ownsRow wA.heap.size 147 2 (vf 16) (rs.length + 1) (rows.flatten ++ [vf 7,.int .i64 vd])∧_:=hf 16 (hd 16 (by decide));obtain ⟨gv,cpv,hv16,_,_⟩:=World.ownsRow.form h16.1 (by omega);have hst:=hI.stored (off:=0) (v:=vf 16) (hd 16 (by decide)) (by decide);have hbf:=hI.before h0;have hcb:=cells_of hbf;have hfb:=not_frozen hbf;have Hst:=Lib.hid hst;have Hset:=Lib.hid (set_at (o:=0) (v:=vf 16) hbf);have H16:=Lib.hid hv16;clear hd hn hf h16 hst hbf;go_simp;rw [← H16.out];exact hR _ _ Hst.out ApT.of_store rfl Hset.out);exact (fun _ _ _=>rfl);(go_simp;refine hK _ ?_;clear hK K))
       intro done vf W hd hI hF
       have h7 : OwnSl W w0.heap.size 153 3 condR (vf 7) (ra.conds ++ rb.conds):=hF 7 (by decide)
       have h16 : W.ownsRow wA.heap.size 147 2 (vf 16) (rs.length + 1) (rows.flatten ++ [vf 7,.int .i64 vd])∧((vf 16).ownBlock = pv.ownBlock ∨ ∀ g,(vf 16).ownBlock = some g → w0.heap.size≤g):=hF 16 (by decide)
       have h18 : W.heap[wo.heap.size]? = some (.cells (#[pv,.int .i64 0].setIfInBounds 0 (vf 16)) 38):=hF 18 (by decide)
       have HN:=Lib.hid (GatherI.step HJ.out HbJ.out (by omega) HwA.out hI Hro.out h16.1 h16.2 h18 h7 ruleT_ne)
       clear hd hI hF h7 h16 h18
       go_wp2
       go_roundw
       case rel=>exact ⟨j + 1,vf 16,by go_num,by omega,by rw [Htj.out,List.map_append,← List.append_assoc,Hrs.out];have:=HN.out;rw [← Hvd.out] at this;exact this⟩
       case measure=>simp [intOf];omega
      ·obtain rfl : j = (wholeOf q).length:=by omega
       have HN:=Lib.hid (HGB.out.trans HJ.out)
       go_wp2
       go_roundw
       case rel=>exact ⟨k + 1,pv,by go_num,by omega,by rw [Htk.out];have:=HN.out;rw [List.take_length] at this;exact this⟩
       case measure=>simp [intOf];omega
    ·obtain rfl : k = (wholeOf p).length:=by omega
     obtain ⟨P,hP⟩ : ∃ P,pairPol of p q = P:=⟨_,rfl⟩
     obtain ⟨vD,hvD⟩ : ∃ vD,of p.dflt q.dflt = vD:=⟨_,rfl⟩
     have hPd : P.dflt = vD:=by rw [← hP,← hvD];rfl
     have HL : Hid (RdRules wk (fun b=>wA.heap.size≤b∧NotPol wk b) pk (P.rules ++ [⟨[],vD⟩])):=by
      have:=HG.out.rules
      rw [List.take_length,pairs_last,hP,hvD] at this
      exact this
     have HPl:=Lib.hid (pairPol_len of p q)
     rw [hP] at HPl
     have HPE : Hid (pairE of p q = if polE P = 0 then (P,0) else (zeroPol,polE P)):=by
      show pairE of p q = _
      unfold pairE
      rw [polsE_two,if_pos (Hpe.out (by omega)),Hqe.out (by omega),if_neg (by simp),hP]
      by_cases h : polE P = 0
      ·rw [if_neg (by simp [h]),if_pos h]
      ·rw [if_pos h,if_neg h]
     obtain ⟨n,hn⟩ : ∃ n,P.rules.length = n:=⟨_,rfl⟩
     have hlen : (P.rules ++ [(⟨[],vD⟩ : TRule)]).length = n + 1:=by simp [hn]
     obtain ⟨aP,cP,hpk,hcP,hcM,_⟩:=Sl.form HL.out
     rw [hlen] at hpk hcP
     subst hpk
     obtain ⟨bP,oP,rfl,hDP,hbP⟩:=Sl.at_ HL.out (by rw [hlen];omega)
     obtain ⟨cx,ccx,_,hv1,_⟩:=RdRules.cells HL.out (i:=n) (by rw [hlen];omega)
     have hget : (P.rules ++ [(⟨[],vD⟩ : TRule)])[n]'(by rw [hlen];omega) = ⟨[],vD⟩:=by
      rw [List.getElem_append_right (by omega)]
      simp
     rw [hget] at hv1
     have hcb:=cells_of HG.out.box
     have hfb:=not_frozen HG.out.box
     have hs1:=cells_of (set_at (o:=1) (v:=.int .i64 vD) HG.out.box)
     have hfb1:=not_frozen (set_at (o:=1) (v:=.int .i64 vD) HG.out.box)
     have Hst : Hid (((wk.setCell ⟨wo.heap.size,1,none⟩ (.int .i64 vD)).setCell ⟨wo.heap.size,0,none⟩ (.slice (some ⟨bP,oP,none⟩) n cP)).heap[wo.heap.size]? = some (.cells #[.slice (some ⟨bP,oP,none⟩) n cP,.int .i64 vD] 38)):=set_at (set_at HG.out.box)
     have hs2:=cells_of Hst.out
     have Hbs : Hid (Below wo.heap.size wk ((wk.setCell ⟨wo.heap.size,1,none⟩ (.int .i64 vD)).setCell ⟨wo.heap.size,0,none⟩ (.slice (some ⟨bP,oP,none⟩) n cP))):=set_below (set_below (Below.refl _ _) (Nat.le_refl _)) (Nat.le_refl _)
     have HR2 : Hid (RdRules ((wk.setCell ⟨wo.heap.size,1,none⟩ (.int .i64 vD)).setCell ⟨wo.heap.size,0,none⟩ (.slice (some ⟨bP,oP,none⟩) n cP)) (fun b=>wA.heap.size≤b∧NotPol ((wk.setCell ⟨wo.heap.size,1,none⟩ (.int .i64 vD)).setCell ⟨wo.heap.size,0,none⟩ (.slice (some ⟨bP,oP,none⟩) n cP)) b) (.slice (some ⟨bP,oP,none⟩) n cP) P.rules):=by
      have h1 : RdRules wk (fun b=>wA.heap.size≤b∧NotPol wk b) (.slice (some ⟨bP,oP,none⟩) n cP) ((P.rules ++ [(⟨[],vD⟩ : TRule)]).take n):=Sl.take HL.out (by omega)
      rw [← hn,List.take_left' rfl,hn] at h1
      have hsame : ∀ b,wA.heap.size≤b → ((wk.setCell ⟨wo.heap.size,1,none⟩ (.int .i64 vD)).setCell ⟨wo.heap.size,0,none⟩ (.slice (some ⟨bP,oP,none⟩) n cP)).heap[b]? = wk.heap[b]?:=fun b hb=>by rw [set_other (by show b ≠ wo.heap.size;omega),set_other (by show b ≠ wo.heap.size;omega)]
      exact h1.keep (fun b h _=>⟨h.1,h.2.keep (hsame b h.1)⟩) (fun b hb _=>hsame b hb.1) (by rw [set_size,set_size];exact Nat.le_refl _)
     have HB2:=Lib.hid (HBk.out.lift (B:=w.heap.size + 3) (Hbs.out.mono (by omega)) (by simp))
     have Hn:=Lib.hid hn
     have Hpd:=Lib.hid hPd
     have Hsz2 : Hid (wo.heap.size < ((wk.setCell ⟨wo.heap.size,1,none⟩ (.int .i64 vD)).setCell ⟨wo.heap.size,0,none⟩ (.slice (some ⟨bP,oP,none⟩) n cP)).heap.size):=by show _ < _;rw [set_size,set_size];omega
     clear hget hP hvD hPd
     go_wp2_with fail
     clear hcb hfb hs1 hfb1 hs2 hv1
     revert Hst Hbs HR2 HB2 Hsz2
     generalize ((wk.setCell ⟨wo.heap.size,1,none⟩ (.int .i64 vD)).setCell ⟨wo.heap.size,0,none⟩ (.slice (some ⟨bP,oP,none⟩) n cP)) = wz
     intro Hst Hbs HR2 HB2 Hsz2
     have HC : Hid (Calls Tryz.prog 74 #[polV (.slice (some ⟨bP,oP,none⟩) n cP) vD] wz fun e w'=>e = .returned (.int .i64 (polE P))∧Below wz.heap.size wz w'):=by
      have:=polcheck_any (.slice (some ⟨bP,oP,none⟩) n cP) P _ wz HR2.out
      rw [Hpd.out] at this
      exact this
     refine HC.out.mono ?_
     rintro e w6 ⟨rfl,hb6⟩
     have HB6:=Lib.hid (HB2.out.below hb6)
     have Hst6:=Lib.hid (blk_below Hst.out hb6)
     have HR6 : Hid (RdRules w6 (fun b=>wA.heap.size≤b∧NotPol w6 b) (.slice (some ⟨bP,oP,none⟩) n cP) P.rules):=HR2.out.keep (fun b h hl=>⟨h.1,h.2.keep (hb6.block b hl)⟩) (fun b _ hl=>hb6.block b hl) hb6.size
     clear hb6
     have hc2:=HB6.out.cells2
     have hf2:=HB6.out.free2
     by_cases h0 : polE P = 0
     ·have HE : Hid (pairE of p q = (P,0)):=by show pairE of p q = _;rw [HPE.out,if_pos h0]
      rw [h0]
      have hcb:=cells_of Hst6.out
      have HB7:=Lib.hid (HB6.out.set (i:=2) rfl 0 (.slice (some ⟨bP,oP,none⟩) n cP))
      have HB8:=Lib.hid (HB7.out.set (i:=2) rfl 1 (.int .i64 vD))
      have hc3:=HB8.out.cells2
      have HR8 : Hid (RdRules ((w6.setCell ⟨w.heap.size + 2,0,none⟩ (.slice (some ⟨bP,oP,none⟩) n cP)).setCell ⟨w.heap.size + 2,1,none⟩ (.int .i64 vD)) (fun b=>w.heap.size≤b∧NotPol ((w6.setCell ⟨w.heap.size + 2,0,none⟩ (.slice (some ⟨bP,oP,none⟩) n cP)).setCell ⟨w.heap.size + 2,1,none⟩ (.int .i64 vD)) b) (.slice (some ⟨bP,oP,none⟩) n cP) P.rules):=by
       have hsame : ∀ b,wA.heap.size≤b → ((w6.setCell ⟨w.heap.size + 2,0,none⟩ (.slice (some ⟨bP,oP,none⟩) n cP)).setCell ⟨w.heap.size + 2,1,none⟩ (.int .i64 vD)).heap[b]? = w6.heap[b]?:=fun b hb=>by rw [set_other (by show b ≠ w.heap.size + 2;omega),set_other (by show b ≠ w.heap.size + 2;omega)]
       exact HR6.out.keep (fun b h _=>⟨by have:=h.1;omega,h.2.keep (hsame b h.1)⟩) (fun b hb _=>hsame b hb.1) (by rw [set_size,set_size];exact Nat.le_refl _)
      clear h0
      go_wp2
      refine bodyPost_ret (v:=.tuple #[polV (.slice (some ⟨bP,oP,none⟩) n cP) vD,.int .i64 0]) ?_ rfl (by rw [HE.out];exact ⟨_,by rw [Hpd.out],HR8.out,HB8.out.bel⟩)
      rw [results_cell_tmp rfl]
      go_simp
     ·have hb0 : (polE P != 0) = true:=bne_iff_ne.2 h0
      have HE : Hid (pairE of p q = (zeroPol,polE P)):=by show pairE of p q = _;rw [HPE.out,if_neg h0]
      have HB7:=Lib.hid (HB6.out.set (i:=2) rfl 0 (.slice none 0 0))
      have HB8:=Lib.hid (HB7.out.set (i:=2) rfl 1 (.int .i64 0))
      have hc3:=HB8.out.cells2
      clear h0
      go_wp2
      refine bodyPost_ret (v:=.tuple #[polV (.slice none 0 0) 0,.int .i64 (polE P)]) ?_ rfl (by rw [HE.out];exact ⟨_,rfl,nil_rules _ _,HB8.out.bel⟩)
      rw [results_cell_tmp rfl]
      go_simp
end Go.Proofs.YthkgjohhbdipcaaGreatDoor
namespace Go.Proofs.YthkgjohhbdipcaaGreatDoor
open Go.RowKit
theorem except_cf (args : Array Value) (W : World) : Sem.run Tryz.prog (callFunc 219 args) W = .ok (.enter 219 args) W:=by kernel_rfl
set_option maxHeartbeats 4000000 in
theorem exceptPol_any (u v : Value) (p q : TPol) (w : World) (hp : RdRules w (fun _=>True) u p.rules) (hq : RdRules w (fun _=>True) v q.rules) :
  Calls Tryz.prog 194 #[polV u p.dflt,polV v q.dflt] w fun e w'=>∃ r,e = .returned (.tuple #[polV r (pairE exceptOf p q).1.dflt,.int .i64 (pairE exceptOf p q).2])∧RdRules w' (fun b=>w.heap.size≤b∧NotPol w' b) r (pairE exceptOf p q).1.rules∧Below w.heap.size w w':=by
 have Hp:=Lib.hid hp
 have Hq:=Lib.hid hq
 obtain ⟨ap,cp,rfl,_⟩:=Sl.form hp
 obtain ⟨aq,cq,rfl,_⟩:=Sl.form hq
 clear hp hq
 obtain ⟨⟨E1,E2⟩,hE⟩ : ∃ E,pairE exceptOf p q = E:=⟨_,rfl⟩
 have HE:=Lib.hid hE
 rw [hE]
 clear hE
 go_enter Tryz.func194,Tryz.ntmps194
 go_wp2_with fail
 have HB:=Lib.hid (Bx.three (w:=w) (o:=.cells #[.slice ap p.rules.length cp,.int .i64 p.dflt] 38) (o':=.cells #[.slice aq q.rules.length cq,.int .i64 q.dflt] 38) (o2:=.cells #[.slice none 0 0,.int .i64 0] 38))
 refine (pair_any exceptOf 219 except_cf except_any (.slice ap p.rules.length cp) (.slice aq q.rules.length cq) p q _ (Hp.out.below HB.out.bel) (Hq.out.below HB.out.bel)).mono ?_
 rw [HE.out]
 rintro e w1 ⟨r,rfl,hr1,hb1⟩
 have HB1:=Lib.hid (HB.out.below hb1)
 have Hr1:=Lib.hid hr1
 obtain ⟨ar,cr,rfl,_⟩:=Sl.form hr1
 clear hr1 hb1
 have hc2:=HB1.out.cells2
 have hf2:=HB1.out.free2
 have HB2:=Lib.hid (HB1.out.set (i:=2) rfl 0 (.slice ar E1.rules.length cr))
 have HB3:=Lib.hid (HB2.out.set (i:=2) rfl 1 (.int .i64 E1.dflt))
 have hc3:=HB3.out.cells2
 go_wp2
 refine bodyPost_ret (v:=.tuple #[polV (.slice ar E1.rules.length cr) E1.dflt,.int .i64 E2]) ?_ rfl ⟨_,rfl,?_,HB3.out.bel⟩
 ·rw [results_cell_tmp rfl]
  go_simp
 ·have hsame : ∀ b,(((w.alloc (.cells #[.slice ap p.rules.length cp,.int .i64 p.dflt] 38)).alloc (.cells #[.slice aq q.rules.length cq,.int .i64 q.dflt] 38)).alloc (.cells #[.slice none 0 0,.int .i64 0] 38)).heap.size≤b → ((w1.setCell ⟨w.heap.size + 2,0,none⟩ (.slice ar E1.rules.length cr)).setCell ⟨w.heap.size + 2,1,none⟩ (.int .i64 E1.dflt)).heap[b]? = w1.heap[b]?:=fun b hb=>by
   simp at hb
   rw [set_other (by show b ≠ w.heap.size + 2;omega),set_other (by show b ≠ w.heap.size + 2;omega)]
  exact Hr1.out.keep (fun b h _=>⟨by have h1:=h.1;simp at h1;omega,h.2.keep (hsame b h.1)⟩) (fun b hb _=>hsame b hb.1) (by rw [set_size,set_size];exact Nat.le_refl _)
end Go.Proofs.YthkgjohhbdipcaaGreatDoor
namespace Go.Proofs.YthkgjohhbdipcaaGreatDoor
theorem used_append (ks : List Nat) : ∀ (l m : List TRule) (i : Nat),usedRules ks (l ++ m) i = usedRules ks l i ++ usedRules ks m (i + l.length)
 | [],m,i=>by simp [usedRules]
 | r :: l,m,i=>by
  have e : i + (l.length + 1) = i + 1 + l.length:=by omega
  simp only [List.cons_append,usedRules,List.length_cons,used_append ks l m (i + 1),e]
  split <;> simp
theorem used_take {ks : List Nat} {l : List TRule} {k : Nat} (h : k < l.length) : usedRules ks (l.take (k + 1)) 0 = usedRules ks (l.take k) 0 ++ if ks.contains k then [l[k]] else []:=by
 rw [List.take_succ_eq_append_getElem h,used_append]
 have e : 0 + (l.take k).length = k:=by rw [List.length_take];omega
 rw [e]
 simp only [usedRules]
theorem trim_snoc (d : Int) (r : TRule) : ∀ l : List TRule,trimD d (l ++ [r]) = if r.verdict = d then trimD d l else l ++ [r]
 | []=>by
  simp only [List.nil_append,trimD]
  split <;> simp_all
 | s :: l=>by
  simp only [List.cons_append,trimD,trim_snoc d r l]
  split
  ·rfl
  ·rename_i h
   simp
theorem trim_down {d : Int} {l : List TRule} {n : Nat} (h : n < l.length) (hv : l[n].verdict = d) : trimD d (l.take (n + 1)) = trimD d (l.take n):=by
 rw [List.take_succ_eq_append_getElem h,trim_snoc,if_pos hv]
theorem trim_stop {d : Int} {l : List TRule} {n : Nat} (h : n < l.length) (hv : l[n].verdict ≠ d) : trimD d (l.take (n + 1)) = l.take (n + 1):=by
 rw [List.take_succ_eq_append_getElem h,trim_snoc,if_neg hv]
theorem used_len (ks : List Nat) (l : List TRule) : (usedRules ks l 0).length≤l.length:=(usedRules_sub ks l 0).length_le
end Go.Proofs.YthkgjohhbdipcaaGreatDoor
namespace Go.Proofs.YthkgjohhbdipcaaGreatDoor
open Go.RowKit Go.Maps
theorem keyInt : Keyed Tryz.prog 3:=int_keyed Tryz.underlying3
def BoolMap (w : World) (b n : Nat) (f : Int → Bool) : Prop :=
 ∃ D : DataW Unit,w.ownsMap Tryz.prog 3 (plainElem Tryz.prog 4) b n D∧∀ z : Int,D.atKey (.int .i64 z) (.lit (.bool false)) = .lit (.bool (f z))
theorem BoolMap.made (w : World) : BoolMap (w.alloc (.map #[] 0)) w.heap.size 0 (fun _=>false):=⟨.map [],World.ownsMap_made _ _ _ _,fun _=>rfl⟩
theorem BoolMap.below {w w' : World} {b n : Nat} {f : Int → Bool} (h : BoolMap w b n f) (hb : Below w.heap.size w w') : BoolMap w' b n f:=by
 obtain ⟨D,⟨es,clock,hbk,F,hs,hD⟩,hat⟩:=h
 exact ⟨D,⟨es,clock,blk_below hbk hb,F,hs,hD⟩,hat⟩
theorem BoolMap.keep {w w' : World} {b n : Nat} {f : Int → Bool} (h : BoolMap w b n f) (hb : w'.heap[b]? = w.heap[b]?) : BoolMap w' b n f:=by
 obtain ⟨D,⟨es,clock,hbk,F,hs,hD⟩,hat⟩:=h
 exact ⟨D,⟨es,clock,hb.trans hbk,F,hs,hD⟩,hat⟩
theorem BoolMap.lt {w : World} {b n : Nat} {f : Int → Bool} (h : BoolMap w b n f) : b < w.heap.size:=by
 obtain ⟨D,ho,_⟩:=h
 exact ho.lt
set_option maxRecDepth 100000 in
theorem plainElem_bool_inv {v : Value} {x : Bool} {ps : List MemPlace} (h : plainElem (H:=Unit) Tryz.prog 4 v = some (.lit (.bool x),ps)) : v = .bool x:=by
 have hu:=Tryz.underlying4
 unfold plainElem at h
 generalize Tryz.prog.underlying 4 = u at h hu
 subst hu
 cases v <;> first | (cases h;rfl) | (cases h)
theorem wfInt {z : Int} (h0 : -9223372036854775808≤z) (h1 : z≤9223372036854775807) : (Lit.int .i64 z).wf = true:=by
 simp [Lit.wf,IntKind.min,IntKind.max,IntKind.signed,IntKind.bits];omega
theorem BoolMap.look {w : World} {b n : Nat} {f : Int → Bool} (h : BoolMap w b n f) {z : Int} (h0 : -9223372036854775808≤z) (h1 : z≤9223372036854775807) :
  (Instr.lookup 273 (.map (some b)) (.int .i64 z) false).run Tryz.prog w = .ok (.bool (f z)) w:=by
 obtain ⟨D,ho,hat⟩:=h
 obtain ⟨v,ps,hrun,hv⟩:=ho.lookup keyInt Tryz.underlying273 (z:=.bool false) (by kernel_rfl) (plainElem_bool Tryz.underlying4 false) (keyOf_int_mk Tryz.underlying3 (wfInt h0 h1))
 rw [hat z] at hv
 rw [plainElem_bool_inv hv] at hrun
 exact hrun
theorem wpList_putBool {w : World} {ops : Array Oper} {rest : List Oper} {o : Oper} {a : Act} {Q : Exit → Act → World → Prop} (hg : o.guard = none) (m x v : Operand) (hop : o.op = Op.mapUpdate 273 m x v)
  (b n : Nat) (f : Int → Bool) (hm : a.eval m = .map (some b)) (hown : BoolMap w b n f) (hn : n < maxLen) (z : Int) (h0 : -9223372036854775808≤z) (h1 : z≤9223372036854775807) (y : Bool) (hx : a.eval x = .int .i64 z) (hv : a.eval v = .bool y)
  (hK : ∀ w',BoolMap w' b (n + 1) (fun t=>if t = z then y else f t) → w.grownBy w' (some b) → wpList Tryz.prog ops Q rest (a.put o.dst undef) w') : wpList Tryz.prog ops Q (o :: rest) a w:=by
 obtain ⟨D,ho,hat⟩:=hown
 have hkey:=keyOf_int_mk (P:=Tryz.prog) Tryz.underlying3 (wfInt h0 h1)
 refine wpList_mapUpdate_own w hg m x v _ hop _ _ keyInt Tryz.underlying273 _ b n D hm ho hn _ _ _ hx hv hkey (.lit (.bool y)) [] (plainElem_bool Tryz.underlying4 y) fun w' ho' hgr=>hK w' ⟨_,ho',fun t=>?_⟩ hgr
 show _ = DataW.lit (.bool (if t = z then y else f t))
 by_cases e : t = z
 ·subst e
  rw [if_pos rfl,atKey_put_same ho.isMap (keyInt.key hkey)]
 ·rw [if_neg e,atKey_put_other (fun e'=>by injection e' with _ e';exact e e')]
  exact hat t
end Go.Proofs.YthkgjohhbdipcaaGreatDoor
namespace Go.Proofs.YthkgjohhbdipcaaGreatDoor
open Go.RowKit
theorem infoInt : (Tryz.prog.info? 3).map (fun i=>(i.zero,i.size,i.bytes)) = some (some (.int .i64 0),1,8):=by kernel_rfl
theorem intR_one (y : Int) (cs : List Value) (h : intR y cs) : ∀ c ∈ cs,c.oneCell' = true:=by
 unfold intR at h;subst h;intro c hc;simp at hc;subst hc;rfl
theorem RdPols.cells {w : World} {D : Nat → Prop} {b o n c : Nat} {s : Option Nat} {l : List TPol} (h : RdPols w D (.slice (some ⟨b,o,s⟩) n c) l) {i : Nat} (hi : i < l.length) :
  ∃ (a' : Option Addr) (c' : Nat),w.cell? ⟨b,o + i * 2,none⟩ = some (.slice a' l[i].rules.length c')∧w.cell? ⟨b,o + i * 2 + 1,none⟩ = some (.int .i64 l[i].dflt)∧RdRules w D (.slice a' l[i].rules.length c') l[i].rules ∧
   l[i].rules.length≤c'∧c'≤9223372036854775807∧(0 < l[i].rules.length → ∃ b o,a' = some ⟨b,o,none⟩∧D b∧b < w.heap.size):=by
 obtain ⟨cs,hcs,⟨u,hu,hr⟩,hcell⟩:=Sl.get h hi
 obtain ⟨a',c',hv,h1,h2,h3⟩:=Sl.form hr
 subst hu hv
 exact ⟨a',c',hcell 0 _ rfl,hcell 1 _ rfl,hr,h1,h2,h3⟩
theorem flatMap_take {α β : Type} (g : α → List β) (l : List α) (k : Nat) (h : k < l.length) : (l.take (k + 1)).flatMap g = (l.take k).flatMap g ++ g l[k]:=by
 rw [List.take_succ_eq_append_getElem h,List.flatMap_append];simp
theorem flatMap_take_le {α β : Type} (g : α → List β) (l : List α) (k : Nat) : ((l.take k).flatMap g).length≤(l.flatMap g).length:=by
 have:=congrArg (fun m=>(m.flatMap g).length) (List.take_append_drop k l)
 simp only [List.flatMap_append,List.length_append] at this
 omega
theorem one_int {W : World} {x : Int} {T : TypeId} {b : Nat} (hb : b = W.heap.size) : RdInts (W.alloc (.cells #[.int .i64 x] T)) (fun _=>True) (.slice (some ⟨b,0,none⟩) 1 1) [x] :=
 sl_block (R:=intR) (sz:=1) (xs:=[x]) (rows:=[[.int .i64 x]]) (RowsOf.cons RowsOf.nil rfl rfl) (blk_at hb) rfl trivial (by simp [maxLen])
end Go.Proofs.YthkgjohhbdipcaaGreatDoor
namespace Go.Proofs.YthkgjohhbdipcaaGreatDoor
open Go.RowKit
theorem cuts1_any (n f : Int) (bf : Nat) (w : World) (hx : w.cell? ⟨bf,0,none⟩ = some (.int .i64 f)) :
  Calls Tryz.prog 245 #[.int .i64 n,.pointer (some ⟨bf,0,none⟩)] w fun e w'=>e = .returned (.bool (decide (mostOf f < n)))∧w = w':=by
 go_enter Tryz.func245,Tryz.ntmps245
 go_wp2_with (go_at_call 135;refine (most_any _ _).mono ?_;rintro e w1 ⟨rfl,rfl⟩)
 go_ret
 exact ⟨rfl,rfl⟩
@[reducible] def cutFn (bf : Nat) : Value:=.func (.func 245) #[] #[.pointer (some ⟨bf,0,none⟩)]
set_option maxHeartbeats 1000000 in
theorem indexFuncI_any (v : Value) (l : List Int) (f : Int) (bf : Nat) (D : Nat → Prop) (w : World) (h : RdInts w D v l) (hx : w.cell? ⟨bf,0,none⟩ = some (.int .i64 f)) :
  Calls Tryz.prog 253 #[v,cutFn bf] w fun e w' =>
   ∃ n : Int,e = .returned (.int .i64 n)∧((n = -1∧∀ x ∈ l,x≤mostOf f) ∨ ∃ (i : Nat) (h : i < l.length),n = i∧mostOf f < l[i]∧∀ x ∈ l.take i,x≤mostOf f)∧w = w':=by
 obtain ⟨a,c,rfl,hlc,hcm,hat⟩:=Sl.form h
 have H:=Lib.hid h
 clear h
 go_enter Tryz.func253,Tryz.ntmps253
 go_wp2_with fail
 go_loop [8] (fun i=>∃ k : Nat,k≤l.length∧i = .int .i64 k∧∀ x ∈ l.take k,x≤mostOf f) (fun i=>l.length - (intOf i).toNat)
 case atStart=>exact ⟨0,by omega,rfl,by simp⟩
 case round =>
  obtain ⟨k,hk,rfl,hall⟩:=hrel
  have Hall:=Lib.hid hall
  clear hall
  by_cases hlt : k < l.length
  ·obtain ⟨b,o,rfl,hDb,hb⟩:=hat (by omega)
   have c0:=RdInts.cell H.out hlt
   have Hta:=Lib.hid (List.take_succ_eq_append_getElem hlt)
   obtain ⟨x,hx'⟩ : ∃ x,l[k] = x:=⟨_,rfl⟩
   rw [hx'] at c0 Hta
   have Hxk:=Lib.hid hx'
   clear hx'
   by_cases hgt : mostOf f < x
   ·have hd : decide (mostOf f < x) = true:=decide_eq_true hgt
    have Hgt:=Lib.hid hgt
    clear hgt
    go_wp2_with fail
    refine (cuts1_any x f bf _ hx).mono ?_
    rintro e w1 ⟨rfl,rfl⟩
    go_wp2
    go_ret
    exact ⟨_,rfl,.inr ⟨k,hlt,rfl,by rw [Hxk.out];exact Hgt.out,Hall.out⟩,rfl⟩
   ·have hd : decide (mostOf f < x) = false:=decide_eq_false hgt
    have Hgt:=Lib.hid hgt
    clear hgt
    go_wp2_with fail
    refine (cuts1_any x f bf _ hx).mono ?_
    rintro e w1 ⟨rfl,rfl⟩
    go_wp2
    go_round
    case rel=>exact ⟨k + 1,by omega,by go_num,fun y hy=>by
     rw [Hta.out] at hy
     rcases List.mem_append.1 hy with hy | hy
     ·exact Hall.out y hy
     ·simp at hy;rw [hy];have:=Hgt.out;omega⟩
    case measure=>simp [intOf];omega
  ·obtain rfl : k = l.length:=by omega
   go_wp2
   go_ret
   exact ⟨_,rfl,.inl ⟨rfl,by have:=Hall.out;rwa [List.take_length] at this⟩,rfl⟩
theorem rising_get {l : List Int} (h : Rising l) {i j : Nat} (hi : i < l.length) (hj : j < l.length) (hij : i≤j) : l[i]≤l[j]:=by
 rcases Nat.lt_or_ge i j with hlt | hge
 ·have:=List.pairwise_iff_getElem.1 h i j hi hj hlt;omega
 ·obtain rfl : i = j:=by omega
  exact Int.le_refl _
theorem filter_take {l : List Int} (hr : Rising l) {m : Int} {i : Nat} (hi : i < l.length) (hgt : m < l[i]) (hle : ∀ x ∈ l.take i,x≤m) : l.filter (fun n=>decide (n≤m)) = l.take i:=by
 have e : l = l.take i ++ l.drop i:=(List.take_append_drop i l).symm
 have h1 : (l.take i).filter (fun n=>decide (n≤m)) = l.take i:=List.filter_eq_self.2 fun x hx=>by simpa using hle x hx
 have h2 : (l.drop i).filter (fun n=>decide (n≤m)) = []:=List.filter_eq_nil_iff.2 fun x hx=>by
  obtain ⟨k,hk⟩:=List.getElem?_of_mem hx
  rw [List.getElem?_drop] at hk
  obtain ⟨hlt,he⟩:=List.getElem?_eq_some_iff.1 hk
  have:=rising_get hr hi hlt (by omega)
  simp;omega
 conv=>lhs;rw [e]
 rw [List.filter_append,h1,h2,List.append_nil]
set_option maxRecDepth 100000 in
set_option maxHeartbeats 2000000 in
theorem deleteFuncI_any (v : Value) (l : List Int) (f : Int) (bf base : Nat) (w : World) (hown : OwnSl w base 3 1 intR v l) (hr : Rising l) (hx : w.cell? ⟨bf,0,none⟩ = some (.int .i64 f)) (hbf : v.ownBlock ≠ some bf) :
  Calls Tryz.prog 244 #[v,cutFn bf] w fun e w'=>∃ v',e = .returned v'∧OwnSl w' base 3 1 intR v' (l.filter fun n=>decide (n≤mostOf f))∧w.grownBy w' v.ownBlock∧v'.ownBlock = v.ownBlock:=by
 have H : Hid (RdInts w (fun _=>True) v l):=hown.sl (fun _ _=>trivial)
 have Hown:=Lib.hid hown
 obtain ⟨a,c,rfl,hlc,hcm,hat⟩:=Sl.form H.out
 have Hr:=Lib.hid hr
 clear hown hr
 go_enter Tryz.func244,Tryz.ntmps244
 go_wp2_with fail
 refine (indexFuncI_any _ l f bf _ _ H.out hx).mono ?_
 rintro e w1 ⟨n,rfl,hn,rfl⟩
 rcases hn with ⟨rfl,hall⟩ | ⟨i,hi,rfl,hgt,hle⟩
 ·have hf : Hid (l.filter (fun n=>decide (n≤mostOf f)) = l):=List.filter_eq_self.2 fun x hx=>by simpa using hall x hx
  clear hall
  go_wp2
  go_ret
  rw [hf.out]
  exact ⟨_,rfl,Hown.out,⟨rfl,rfl,rfl,Nat.le_refl _,fun _ _ _=>rfl⟩,rfl⟩
 ·have hf : Hid (l.filter (fun n=>decide (n≤mostOf f)) = l.take i):=filter_take Hr.out hi hgt hle
  have Hgt : Hid (∀ j (h : j < l.length),i≤j → mostOf f < l[j]):=fun j h hij=>by have:=rising_get Hr.out hi h hij;omega
  have hb0 : ((i : Int) == -1) = false:=beq_eq_false_iff_ne.2 (by omega)
  obtain ⟨rows,hrr,h1,h2⟩:=Hown.out
  rcases h2 with ⟨_,h0⟩ | ⟨g,cap,cur,hv,hg,hh,hnc,hcm',hcs,htk⟩
  ·omega
  injection hv with ha _ hc
  subst ha hc
  have hw1 : IntKind.i64.wrap ((i : Int) + 1) = (i : Int) + 1:=by rw [IntKind.wrap_i64];omega
  clear hgt hle
  go_wp2_with fail
  go_loop [5,6] (fun iv jv=>∃ j : Nat,iv = .int .i64 i∧jv = .int .i64 j∧i < j∧j≤l.length) (fun _ jv=>l.length - (intOf jv).toNat)
  case atStart=>exact ⟨i + 1,rfl,by go_num,by omega,by omega⟩
  case round =>
   obtain ⟨j,rfl,rfl,hij,hj⟩:=hrel
   by_cases hlt : j < l.length
   ·have c0:=RdInts.cell H.out hlt
    rw [Nat.zero_add] at c0
    have Hgj:=Lib.hid (Hgt.out j hlt (by omega))
    obtain ⟨x,hx'⟩ : ∃ x,l[j] = x:=⟨_,rfl⟩
    rw [hx'] at c0 Hgj
    have hd : decide (mostOf f < x) = true:=decide_eq_true Hgj.out
    clear hx'
    go_wp2_with fail
    refine (cuts1_any x f bf _ hx).mono ?_
    rintro e w1 ⟨rfl,rfl⟩
    go_wp2
    go_round
    case rel=>exact ⟨j + 1,rfl,by go_num,by omega,by omega⟩
    case measure=>simp [intOf];omega
   ·obtain rfl : j = l.length:=by omega
    have hne : ¬ (c = i):=by omega
    have hcl:=fun ty=>Lib.run_clear_slice (P:=Tryz.prog) w 231 3 ty (.int .i64 0) Tryz.underlying231 (fun w=>by kernel_rfl) rfl rfl g i (l.length - i) (c - i) (by omega) (fun j hj=>by rw [cells_of hh,Array.getElem?_eq_getElem (by omega)];rfl) (fun j hj=>not_frozen hh _)
    have Hh:=Lib.hid hh
    have Htk:=Lib.hid htk
    have Hrr:=Lib.hid hrr
    have H1:=Lib.hid h1
    clear hh htk hrr h1
    go_wp2
    go_ret
    rw [hf.out]
    obtain ⟨c2,hs2,hb2⟩:=blk_setCells (List.replicate (l.length - i) (.int .i64 0)) i w cur Hh.out
    obtain ⟨k1,k2,k3,k4,k5⟩:=heap_setCells g (List.replicate (l.length - i) (.int .i64 0)) i w
    have hli : (l.take i).length = i:=by simp;omega
    have hri : (rows.take i).flatten.length = i:=by rw [flat_len _ (fun r hr=>Hrr.out.size r (List.mem_of_mem_take hr)),List.length_take,Hrr.out.len];omega
    refine ⟨.slice (some ⟨g,0,none⟩) i c,rfl,⟨rows.take i,⟨by simp [Hrr.out.len],fun r hr=>Hrr.out.size r (List.mem_of_mem_take hr),fun k x r hx hr=>?_⟩,by rw [hli,hri,Nat.mul_one],.inr ⟨g,c,c2,by rw [hli],hg,hb2,by rw [hli];omega,hcm',by rw [hs2,hcs],?_⟩⟩,⟨k1,k2,k3,by rw [k4];exact Nat.le_refl _,fun k _ hk=>k5 k (fun e=>hk (by rw [e];rfl))⟩,rfl⟩
    ·have hk : k < i:=by have:=(List.getElem?_eq_some_iff.1 hx).1;omega
     rw [List.getElem?_take_of_lt hk] at hx hr
     exact Hrr.out.rel k x r hx hr
    ·rw [hli,Nat.mul_one]
     have hsp : rows.flatten = (rows.take i).flatten ++ (rows.drop i).flatten:=by rw [← List.flatten_append,List.take_append_drop]
     apply List.ext_getElem?
     intro t
     by_cases ht : t < i
     ·have e1 : (w.setCells g i (List.replicate (l.length - i) (.int .i64 0))).cell? ⟨g,t,none⟩ = w.cell? ⟨g,t,none⟩:=World.cell?_setCells_out g _ _ _ _ (fun _ _=>.inl ht)
      rw [cells_of hb2,cells_of Hh.out] at e1
      have e2 : rows.flatten[t]? = (rows.take i).flatten[t]?:=by rw [hsp,List.getElem?_append_left (by omega)]
      rw [List.getElem?_take_of_lt ht,Array.getElem?_toList,e1,← e2,← Htk.out,List.getElem?_take_of_lt (by omega),Array.getElem?_toList]
     ·rw [List.getElem?_eq_none (by rw [List.length_take];omega),List.getElem?_eq_none (by omega)]
end Go.Proofs.YthkgjohhbdipcaaGreatDoor
namespace Go.Proofs
open Go.Shelf
def Tryz.lays189_ren : Go.Shelf.Ren:=⟨fun | 189=>222 | 125=>228 | 257=>227 | 128=>242 | 129=>197 | 294=>233 | 295=>234 | 296=>235 | 297=>236 | 298=>237 | 299=>238 | 216=>239 | 300=>240 | 301=>241 | 328=>247 | 329=>248 | 330=>249 | 331=>250 | 332=>251 | 215=>252 | 343=>254 | n=>n,fun | 28=>231 | 3=>3 | 46=>208 | 0=>0 | 51=>223 | 53=>200 | 4=>4 | 183=>298 | 182=>297 | 131=>107 | 5=>5 | 9=>9 | 218=>307 | 222=>311 | 228=>314 | 229=>99 | n=>n,fun | n=>n⟩
theorem Tryz.lays189 : Go.Proofs.Lays.n189 Tryz.prog Tryz.lays189_ren:={
 mixed:=by kernel_rfl
 f125:=Tryz.func228.trans (congrArg some (by kernel_rfl))
 f128:=Tryz.func242.trans (congrArg some (by kernel_rfl))
 f129:=Tryz.func197.trans (congrArg some (by kernel_rfl))
 f189:=Tryz.func222.trans (congrArg some (by kernel_rfl))
 f215:=Tryz.func252.trans (congrArg some (by kernel_rfl))
 f216:=Tryz.func239.trans (congrArg some (by kernel_rfl))
 f257:=Tryz.func227.trans (congrArg some (by kernel_rfl))
 f294:=Tryz.func233.trans (congrArg some (by kernel_rfl))
 f295:=Tryz.func234.trans (congrArg some (by kernel_rfl))
 f296:=Tryz.func235.trans (congrArg some (by kernel_rfl))
 f297:=Tryz.func236.trans (congrArg some (by kernel_rfl))
 f298:=Tryz.func237.trans (congrArg some (by kernel_rfl))
 f299:=Tryz.func238.trans (congrArg some (by kernel_rfl))
 f300:=Tryz.func240.trans (congrArg some (by kernel_rfl))
 f301:=Tryz.func241.trans (congrArg some (by kernel_rfl))
 f328:=Tryz.func247.trans (congrArg some (by kernel_rfl))
 f329:=Tryz.func248.trans (congrArg some (by kernel_rfl))
 f330:=Tryz.func249.trans (congrArg some (by kernel_rfl))
 f331:=Tryz.func250.trans (congrArg some (by kernel_rfl))
 f332:=Tryz.func251.trans (congrArg some (by kernel_rfl))
 f343:=Tryz.func254.trans (congrArg some (by kernel_rfl))
 t0:=Tryz.underlying0
 a0:=Tryz.isAgg0
 z0:=Tryz.sizeOf0
 v0:=Tryz.zeroValue0
 t3:=Tryz.underlying3
 a3:=Tryz.isAgg3
 z3:=Tryz.sizeOf3
 v3:=Tryz.zeroValue3
 t4:=Tryz.underlying4
 a4:=Tryz.isAgg4
 z4:=Tryz.sizeOf4
 v4:=Tryz.zeroValue4
 t5:=Tryz.underlying5
 a5:=Tryz.isAgg5
 z5:=Tryz.sizeOf5
 v5:=Tryz.zeroValue5
 t9:=Tryz.underlying9
 a9:=Tryz.isAgg9
 z9:=Tryz.sizeOf9
 v9:=Tryz.zeroValue9
 t28:=Tryz.underlying231
 a28:=Tryz.isAgg231
 z28:=Tryz.sizeOf231
 v28:=Tryz.zeroValue231
 t46:=Tryz.underlying208
 a46:=Tryz.isAgg208
 z46:=Tryz.sizeOf208
 v46:=Tryz.zeroValue208
 t51:=Tryz.underlying223
 a51:=Tryz.isAgg223
 z51:=Tryz.sizeOf223
 v51:=Tryz.zeroValue223
 t53:=Tryz.underlying200
 a53:=Tryz.isAgg200
 z53:=Tryz.sizeOf200
 v53:=Tryz.zeroValue200
 t131:=Tryz.underlying107
 a131:=Tryz.isAgg107
 z131:=Tryz.sizeOf107
 v131:=Tryz.zeroValue107
 t182:=Tryz.underlying297
 a182:=Tryz.isAgg297
 z182:=Tryz.sizeOf297
 v182:=Tryz.zeroValue297
 t183:=Tryz.underlying298
 a183:=Tryz.isAgg298
 z183:=Tryz.sizeOf298
 v183:=Tryz.zeroValue298
 t218:=Tryz.underlying307
 a218:=Tryz.isAgg307
 z218:=Tryz.sizeOf307
 v218:=Tryz.zeroValue307
 t222:=Tryz.underlying311
 a222:=Tryz.isAgg311
 z222:=Tryz.sizeOf311
 v222:=Tryz.zeroValue311
 t228:=Tryz.underlying314
 a228:=Tryz.isAgg314
 z228:=Tryz.sizeOf314
 v228:=Tryz.zeroValue314
 t229:=Tryz.underlying99
 a229:=Tryz.isAgg99
 z229:=Tryz.sizeOf99
 v229:=Tryz.zeroValue99 }
open Go.Sort Go.RowKit in
theorem Tryz.slices_Sort_int (blk off cap : Nat) (zs : List Int) (w : World) (hH : Holds (Value.int .i64) w blk off zs.toArray) (hblk : blk < w.heap.size) (hsz : zs.length < 4611686018427387904) :
  Calls Tryz.prog 222 #[.slice (some ⟨blk,off,none⟩) zs.length cap] w fun e w' =>
   e = .returned (.tuple #[])∧∃ n os,w' = grow (putRow (Value.int .i64) (Sort.ahead w n) blk off (zs.mergeSort fun x y=>decide (x≤y)).toArray) os:=Any.slices_Sort_int Tryz.lays189 blk off cap zs w hH hblk hsz
def Tryz.laysNm220_ren : Go.Shelf.Ren:=⟨fun | 20=>243 | n=>n,fun | 22=>231 | 3=>3 | 4=>4 | 0=>0 | n=>n,fun | n=>n⟩
theorem Tryz.laysNm220 : Go.Proofs.Lays2.n20 Tryz.prog Tryz.laysNm220_ren:={
 mixed:=by kernel_rfl
 f20:=Tryz.func243.trans (congrArg some (by kernel_rfl))
 t0:=Tryz.underlying0
 a0:=Tryz.isAgg0
 z0:=Tryz.sizeOf0
 v0:=Tryz.zeroValue0
 t3:=Tryz.underlying3
 a3:=Tryz.isAgg3
 z3:=Tryz.sizeOf3
 v3:=Tryz.zeroValue3
 t4:=Tryz.underlying4
 a4:=Tryz.isAgg4
 z4:=Tryz.sizeOf4
 v4:=Tryz.zeroValue4
 t22:=Tryz.underlying231
 a22:=Tryz.isAgg231
 z22:=Tryz.sizeOf231
 v22:=Tryz.zeroValue231
 i3:=by kernel_rfl }
open Go.RowKit Go.Lib Go.Sort in
theorem Tryz.slices_Compact_int (blk off cap : Nat) (zs : List Int) (w : World) (hH : Holds (Value.int .i64) w blk off zs.toArray) (hsz : zs.length≤9223372036854775807) (hcap : zs.length≤cap) :
  Calls Tryz.prog 243 #[.slice (some ⟨blk,off,none⟩) zs.length cap] w fun e w'=>e = .returned (.slice (some ⟨blk,off,none⟩) (Lib.compact zs).length cap)∧∃ q,w' = putRow (Value.int .i64) (Sort.ahead w q) blk off (Lib.compact zs ++ List.replicate (zs.length - (Lib.compact zs).length) 0).toArray:=Any.slices_Compact_int Tryz.laysNm220 blk off cap zs w hH hsz hcap
end Go.Proofs
namespace Go.Proofs.YthkgjohhbdipcaaGreatDoor
open Go.RowKit Go.Sort
theorem rows_ints : ∀ (l : List Int) (rows : List (List Value)),RowsOf 1 intR l rows → rows = l.map fun x=>[Value.int .i64 x]:=by
 intro l rows h
 apply List.ext_getElem?
 intro i
 rw [List.getElem?_map]
 rcases Nat.lt_or_ge i l.length with hi | hi
 ·have hr : i < rows.length:=by rw [h.len];exact hi
  have:=h.rel i l[i] rows[i] (List.getElem?_eq_getElem hi) (List.getElem?_eq_getElem hr)
  rw [List.getElem?_eq_getElem hi,List.getElem?_eq_getElem hr]
  exact congrArg some this
 ·rw [List.getElem?_eq_none (by rw [h.len];exact hi),List.getElem?_eq_none hi];rfl
theorem flat_ints : ∀ l : List Int,(l.map fun x=>[Value.int .i64 x]).flatten = l.map (Value.int .i64)
 | []=>rfl
 | x :: l=>by simp [flat_ints l]
theorem OwnSl.ints {w : World} {base : Nat} {e : TypeId} {v : Value} {l : List Int} (h : OwnSl w base e 1 intR v l) : w.ownsRow base e 1 v l.length (l.map (Value.int .i64)):=by
 obtain ⟨rows,hr,ho⟩:=h
 rw [rows_ints l rows hr,flat_ints] at ho
 exact ho
theorem OwnSl.of_ints {w : World} {base : Nat} {e : TypeId} {v : Value} {l : List Int} (h : w.ownsRow base e 1 v l.length (l.map (Value.int .i64))) : OwnSl w base e 1 intR v l:=by
 refine ⟨l.map fun x=>[.int .i64 x],⟨by simp,fun r hr=>?_,fun i x r hx hr=>?_⟩,by rw [flat_ints];exact h⟩
 ·obtain ⟨x,_,rfl⟩:=List.mem_map.1 hr;rfl
 ·rw [List.getElem?_map,hx] at hr;simp at hr;exact hr.symm
theorem put_ints {w : World} {base g cap q : Nat} {e : TypeId} {os : Array Obj} {cur : Array Value} {l ts : List Int} (hl : ts.length = l.length) (hbase : base≤g) (hb : w.heap[g]? = some (.cells cur e (0,0))) (h1 : l.length≤cap) (h2 : cap≤maxLen) (h3 : cur.size = cap * 1) {m : Nat} (hm : m≤ts.length) :
  OwnSl (grow (putRow (Value.int .i64) (Sort.ahead w q) g 0 ts.toArray) os) base e 1 intR (.slice (some ⟨g,0,none⟩) m cap) (ts.take m):=by
 have hlm : (ts.take m).length = m:=by rw [List.length_take];omega
 refine OwnSl.of_ints ⟨by simp,.inr ⟨g,cap,_,by rw [hlm],hbase,heap_sortedI _ hb,by omega,h2,by simp [putCells,h3],?_⟩⟩
 rw [hlm,Nat.mul_one,List.map_take,← take_putCellsI cur ts (by omega),List.take_take,Nat.min_eq_left hm]
theorem getElem!_int (zs : List Int) (j : Nat) (h : j < zs.length) : (zs.toArray)[j]! = zs[j]:=by
 rw [getElem!_pos _ j (by simpa using h)];simp
theorem compact_mem (zs : List Int) (x : Int) : x ∈ Lib.compact zs ↔ x ∈ zs:=by
 unfold Lib.compact Lib.compactUpTo
 rw [List.mem_map]
 constructor
 ·rintro ⟨j,hj,rfl⟩
  have hlt:=List.mem_range.1 (List.mem_filter.1 hj).1
  rw [getElem!_int zs j hlt];exact List.getElem_mem hlt
 ·intro hx
  obtain ⟨j,hj,rfl⟩:=List.getElem_of_mem hx
  have key : ∀ (n j : Nat) (hj : j < zs.length),j≤n → ∃ a,a ∈ (List.range zs.length).filter (Lib.keeps zs.toArray)∧zs.toArray[a]! = zs[j]:=by
   intro n
   induction n with
   | zero =>
    intro j hj hn
    obtain rfl : j = 0:=by omega
    exact ⟨0,List.mem_filter.2 ⟨List.mem_range.2 hj,Lib.keeps_lt_one _ 0 (by omega)⟩,getElem!_int zs 0 hj⟩
   | succ n ih =>
    intro j hj hn
    by_cases hk : Lib.keeps zs.toArray j = true
    ·exact ⟨j,List.mem_filter.2 ⟨List.mem_range.2 hj,hk⟩,getElem!_int zs j hj⟩
    ·have h0 : j ≠ 0∧zs.toArray[j]! = zs.toArray[j - 1]!:=by
      simp only [Lib.keeps,decide_eq_true_eq,not_or,Decidable.not_not] at hk
      exact hk
     obtain ⟨a,h1,h2⟩:=ih (j - 1) (by omega) (by omega)
     refine ⟨a,h1,?_⟩
     rw [h2,← getElem!_int zs (j - 1) (by omega),← h0.2,getElem!_int zs j hj]
  exact key j j hj (Nat.le_refl _)
theorem compact_rising (zs : List Int) (hs : zs.Pairwise (·≤·)) : Rising (Lib.compact zs):=by
 unfold Rising Lib.compact Lib.compactUpTo
 rw [List.pairwise_map]
 have h0 : (List.range zs.length).Pairwise (· < ·):=List.pairwise_lt_range
 have h1 : ((List.range zs.length).filter (Lib.keeps zs.toArray)).Pairwise (· < ·):=List.Pairwise.sublist List.filter_sublist h0
 refine List.Pairwise.imp_of_mem (fun {i j} hi hj hij=>?_) h1
 have hil:=List.mem_range.1 (List.mem_filter.1 hi).1
 have hjl:=List.mem_range.1 (List.mem_filter.1 hj).1
 have hk:=(List.mem_filter.1 hj).2
 simp only [Lib.keeps,decide_eq_true_eq] at hk
 have hne : zs.toArray[j]! ≠ zs.toArray[j - 1]!:=by rcases hk with h | h;omega;exact h
 rw [getElem!_int zs j hjl,getElem!_int zs (j - 1) (by omega)] at hne
 rw [getElem!_int zs i hil,getElem!_int zs j hjl]
 have a1 : zs[i]≤zs[j - 1]:=by
  rcases Nat.lt_or_ge i (j - 1) with h | h
  ·exact List.pairwise_iff_getElem.1 hs i (j - 1) hil (by omega) h
  ·obtain rfl : i = j - 1:=by omega
   exact Int.le_refl _
 have a2:=List.pairwise_iff_getElem.1 hs (j - 1) j (by omega) hjl (by omega)
 omega
theorem sort_compact (vals : List Int) : Lib.compact (vals.mergeSort fun x y=>decide (x≤y)) = setOf vals:=by
 have hs : (vals.mergeSort fun x y=>decide (x≤y)).Pairwise (·≤·):=by
  have:=List.pairwise_mergeSort (le:=fun x y : Int=>decide (x≤y)) (fun a b c h1 h2=>by simp at h1 h2 ⊢;omega) (fun a b=>by simp;omega) vals
  exact this.imp (by intro a b h;simpa using h)
 refine rising_unique _ _ (compact_rising _ hs) (rising_setOf _) fun z=>?_
 rw [compact_mem,mem_setOf,List.mem_mergeSort]
set_option maxHeartbeats 1000000 in
theorem sortI_any (v : Value) (l : List Int) (base : Nat) (w : World) (hown : OwnSl w base 3 1 intR v l) (hl : l ≠ []) (hsz : l.length < 4611686018427387904) :
  Calls Tryz.prog 222 #[v] w fun e w'=>e = .returned (.tuple #[])∧OwnSl w' base 3 1 intR v (l.mergeSort fun x y=>decide (x≤y))∧w.grownBy w' v.ownBlock:=by
 obtain ⟨h1,h2⟩:=hown.ints
 rcases h2 with ⟨_,h0⟩ | ⟨g,cap,cur,rfl,hg,hh,hnc,hcm,hcs,htk⟩
 ·exact absurd (List.length_eq_zero_iff.1 h0) hl
 rw [Nat.mul_one] at htk
 refine (Tryz.slices_Sort_int g 0 cap l w (holds_of_blockI hh htk) (Array.getElem?_eq_some_iff.1 hh).1 hsz).mono ?_
 rintro e w' ⟨rfl,n,os,rfl⟩
 refine ⟨rfl,?_,grownBy_sortedI _⟩
 have hml : (l.mergeSort fun x y=>decide (x≤y)).length = l.length:=List.length_mergeSort ..
 have:=put_ints (q:=n) (os:=os) (base:=base) (e:=3) hml hg hh hnc hcm hcs (m:=l.length) (by omega)
 rwa [List.take_of_length_le (by omega)] at this
set_option maxHeartbeats 1000000 in
theorem compactI_any (v : Value) (l : List Int) (base : Nat) (w : World) (hown : OwnSl w base 3 1 intR v l) (hl : l ≠ []) (hsz : l.length≤9223372036854775807) :
  Calls Tryz.prog 243 #[v] w fun e w'=>∃ v',e = .returned v'∧OwnSl w' base 3 1 intR v' (Lib.compact l)∧w.grownBy w' v.ownBlock∧v'.ownBlock = v.ownBlock:=by
 obtain ⟨h1,h2⟩:=hown.ints
 rcases h2 with ⟨_,h0⟩ | ⟨g,cap,cur,rfl,hg,hh,hnc,hcm,hcs,htk⟩
 ·exact absurd (List.length_eq_zero_iff.1 h0) hl
 rw [Nat.mul_one] at htk
 refine (Tryz.slices_Compact_int g 0 cap l w (holds_of_blockI hh htk) hsz hnc).mono ?_
 rintro e w' ⟨rfl,q,rfl⟩
 have hc : (Lib.compact l).length≤l.length:=by
  unfold Lib.compact Lib.compactUpTo
  rw [List.length_map]
  exact Nat.le_trans (List.length_filter_le _ _) (by simp)
 obtain ⟨ts,hts⟩ : ∃ ts,ts = Lib.compact l ++ List.replicate (l.length - (Lib.compact l).length) 0:=⟨_,rfl⟩
 have htl : ts.length = l.length:=by rw [hts,List.length_append,List.length_replicate];omega
 have:=put_ints (q:=q) (os:=#[]) (base:=base) (e:=3) htl hg hh hnc hcm hcs (m:=(Lib.compact l).length) (by omega)
 have e1 : ts.take (Lib.compact l).length = Lib.compact l:=by rw [hts];exact List.take_left' rfl
 rw [e1,grow_empty] at this
 have e2 : (Lib.compact l ++ List.replicate (l.length - (Lib.compact l).length) 0).toArray = ts.toArray:=by rw [hts]
 refine ⟨_,rfl,?_,?_,rfl⟩
 ·rw [e2];exact this
 ·have:=grownBy_sortedI (w:=w) (g:=g) (n:=q) (os:=#[]) (Lib.compact l ++ List.replicate (l.length - (Lib.compact l).length) 0).toArray
  rw [grow_empty] at this
  exact this
end Go.Proofs.YthkgjohhbdipcaaGreatDoor
namespace Go.Proofs.YthkgjohhbdipcaaGreatDoor
open Go.RowKit
set_option maxRecDepth 100000 in
set_option maxHeartbeats 8000000 in
theorem cuts_any (v : Value) (l : List TPol) (f : Int) (D : Nat → Prop) (w : World) (h : RdPols w D v l) (hok : ∀ p ∈ l,OkPol p) (hn : (cutVals l f).length * 8≤140737488355328) :
  Calls Tryz.prog 229 #[v,.int .i64 f] w fun e w'=>∃ v',e = .returned v'∧OwnSl w' w.heap.size 3 1 intR v' (cutsOf l f)∧Below w.heap.size w w':=by
 have H:=Lib.hid h
 obtain ⟨a,c,rfl,hlc,hcm,hat⟩:=Sl.form h
 obtain ⟨i0,hi,hz0,hz1,hz2⟩:=info_parts infoInt
 have Hi:=Lib.hid hi
 have Hok:=Lib.hid hok
 have Hn:=Lib.hid hn
 clear h hi hok hn
 go_enter Tryz.func229,Tryz.ntmps229
 go_wp2_with fail
 go_loopw [5,15] (fun ov kv wr=>∃ (k : Nat) (vs : Value),kv = .int .i64 k∧vs = ov∧k≤l.length∧OwnSl wr (w.heap.size + 1) 3 1 intR vs (0 :: (l.take k).flatMap (polCuts f))∧Below (w.heap.size + 1) (w.alloc (.cells #[.int .i64 f] 3)) wr) (fun _ kv _=>l.length - (intOf kv).toNat)
 case atStart =>
  refine ⟨0,_,rfl,rfl,by omega,?_,(Below.refl _ _).alloc (by simp) _⟩
  exact ⟨[[.int .i64 0]],RowsOf.cons RowsOf.nil rfl rfl,by simp,.inr ⟨w.heap.size + 1,1,_,rfl,Nat.le_refl _,blk_at (by simp),by simp,by simp [maxLen],by simp,by simp⟩⟩
 case round =>
  obtain ⟨k,vs,rfl,rfl,hk,hown,hb⟩:=hrel
  have hbc:=box_cells hb
  have hbw:=bel_box hb
  have hsz:=size_box hb
  have Hown:=Lib.hid hown
  have Hb:=Lib.hid hb
  have Hbw:=Lib.hid hbw
  clear hown hb hbw
  by_cases hlt : k < l.length
  ·obtain ⟨b,o,rfl,hDb,hblt⟩:=hat (by omega)
   obtain ⟨ca,cc,hc0w,hc1w,hrd,hcl,hcmx,hcat⟩:=RdPols.cells H.out hlt
   have Hs:=Lib.hid (flatMap_take (polCuts f) l k hlt)
   have Hle:=Lib.hid (flatMap_take_le (polCuts f) l (k + 1))
   obtain ⟨p,hp⟩ : ∃ p,l[k] = p:=⟨_,rfl⟩
   have Hkp:=Lib.hid (Hok.out l[k] (List.getElem_mem hlt))
   rw [hp] at hc0w hc1w hrd hcl hcat Hkp Hs
   have Hrd:=Lib.hid hrd
   have hc0:=(Hbw.out.cell (p:=⟨b,o + k * 2,none⟩) hblt).trans hc0w
   have hc1:=(Hbw.out.cell (p:=⟨b,o + k * 2 + 1,none⟩) hblt).trans hc1w
   have Hll : Hid ((0 :: (l.take k).flatMap (polCuts f)).length + (p.rules.flatMap (ruleCuts f)).length≤(cutVals l f).length):=by
    show _≤_
    have h1:=Hle.out
    rw [Hs.out,List.length_append] at h1
    unfold cutVals
    simp only [List.length_cons]
    unfold polCuts at h1 ⊢
    omega
   obtain ⟨wo,rfl⟩ : ∃ wo : World,wo = wr:=⟨_,rfl⟩
   obtain ⟨L,hL⟩ : ∃ L,L = 0 :: (l.take k).flatMap (polCuts f):=⟨_,rfl⟩
   rw [← hL] at Hown Hll
   have HL:=Lib.hid hL
   clear hrd hp hc0w hc1w hL
   go_wp2_with fail
   clear hc0 hc1 hbc
   go_loopw [5,22] (fun ov kv wr=>∃ (j : Nat) (vs : Value),kv = .int .i64 j∧vs = ov∧j≤p.rules.length∧OwnSl wr (w.heap.size + 1) 3 1 intR vs (L ++ (p.rules.take j).flatMap (ruleCuts f))∧Below (w.heap.size + 1) (w.alloc (.cells #[.int .i64 f] 3)) wr) (fun _ kv _=>p.rules.length - (intOf kv).toNat)
   case atStart=>exact ⟨0,vs,rfl,rfl,by omega,by simpa using Hown.out.below (bel_alloc (Below.refl _ _) _),Hb.out.trans ((bel_alloc (Below.refl _ wo) _).mono hsz)⟩
   case round =>
    obtain ⟨j,vj,rfl,rfl,hj,hown,hb⟩:=hrel
    have hbw:=bel_box hb
    have hszj:=size_box hb
    have Hownj:=Lib.hid hown
    have Hbj:=Lib.hid hb
    have Hbwj:=Lib.hid hbw
    clear hown hb hbw Hown Hb Hbw
    by_cases hjl : j < p.rules.length
    ·obtain ⟨b2,o2,rfl,hDb2,hblt2⟩:=hcat (by omega)
     obtain ⟨da,dc,hd0w,hd1w,hrd2,hdl,hdmx,hdat⟩:=RdRules.cells Hrd.out hjl
     have Hs2:=Lib.hid (flatMap_take (ruleCuts f) p.rules j hjl)
     have Hle2:=Lib.hid (flatMap_take_le (ruleCuts f) p.rules (j + 1))
     obtain ⟨r,hr⟩ : ∃ r,p.rules[j] = r:=⟨_,rfl⟩
     have Hkr:=Lib.hid (Hkp.out.rules p.rules[j] (List.getElem_mem hjl))
     rw [hr] at hd0w hd1w hrd2 hdl hdat Hkr Hs2
     have Hrd2:=Lib.hid hrd2
     have hd0:=(Hbwj.out.cell (p:=⟨b2,o2 + j * 2,none⟩) hblt2).trans hd0w
     have hd1:=(Hbwj.out.cell (p:=⟨b2,o2 + j * 2 + 1,none⟩) hblt2).trans hd1w
     have Hll2 : Hid ((L ++ (p.rules.take j).flatMap (ruleCuts f)).length + (r.conds.flatMap (condCuts f)).length≤(cutVals l f).length):=by
      show _≤_
      have h1:=Hle2.out
      have h2:=Hll.out
      rw [Hs2.out,List.length_append] at h1
      rw [List.length_append]
      have e : (ruleCuts f r).length = (r.conds.flatMap (condCuts f)).length:=rfl
      omega
     obtain ⟨wp,rfl⟩ : ∃ wp : World,wp = wr:=⟨_,rfl⟩
     obtain ⟨M,hM⟩ : ∃ M,M = L ++ (p.rules.take j).flatMap (ruleCuts f):=⟨_,rfl⟩
     rw [← hM] at Hownj Hll2
     have HM:=Lib.hid hM
     clear hrd2 hr hd0w hd1w hM
     go_wp2_with fail
     clear hd0 hd1
     go_loopw [5,29] (fun ov kv wr=>∃ (i : Nat) (vs : Value),kv = .int .i64 i∧vs = ov∧i≤r.conds.length∧OwnSl wr (w.heap.size + 1) 3 1 intR vs (M ++ (r.conds.take i).flatMap (condCuts f))∧Below (w.heap.size + 1) (w.alloc (.cells #[.int .i64 f] 3)) wr) (fun _ kv _=>r.conds.length - (intOf kv).toNat)
     case atStart=>exact ⟨0,vj,rfl,rfl,by omega,by simpa using Hownj.out.below (bel_alloc (Below.refl _ _) _),Hbj.out.trans ((bel_alloc (Below.refl _ wp) _).mono hszj)⟩
     case round =>
      obtain ⟨i,vi,rfl,rfl,hi,hown,hb⟩:=hrel
      have hbci:=box_cells hb
      have hbw:=bel_box hb
      have hszi:=size_box hb
      have Howni:=Lib.hid hown
      have Hbi:=Lib.hid hb
      have Hbwi:=Lib.hid hbw
      clear hown hb hbw Hownj Hbj Hbwj
      by_cases hil : i < r.conds.length
      ·obtain ⟨b3,o3,rfl,hDb3,hblt3⟩:=hdat (by omega)
       obtain ⟨he0,he1,he2⟩:=RdConds.cells (Hrd2.out.below Hbwi.out) hil
       have Hs3:=Lib.hid (flatMap_take (condCuts f) r.conds i hil)
       have Hle3:=Lib.hid (flatMap_take_le (condCuts f) r.conds (i + 1))
       have Hoc:=Lib.hid (Hkr.out.conds r.conds[i] (List.getElem_mem hil))
       obtain ⟨⟨cf,cop,cv⟩,hcj⟩ : ∃ y : TCond,r.conds[i] = y:=⟨_,rfl⟩
       rw [hcj] at he0 he1 he2 Hs3 Hoc
       have hv0 : 0≤cv:=Hoc.out.v0
       have hv1 : cv≤65535:=Int.le_trans Hoc.out.v1 (by show mostOf cf≤65535;unfold mostOf;split <;> (try split) <;> omega)
       have ho0 : 1≤cop:=Hoc.out.o0
       have ho1 : cop≤4:=Hoc.out.o1
       dsimp only at he0 he1 he2
       clear hcj
       have Hll3 : Hid ((M ++ (r.conds.take i).flatMap (condCuts f)).length + (condCuts f ⟨cf,cop,cv⟩).length≤(cutVals l f).length):=by
        show _≤_
        have h1:=Hle3.out
        have h2:=Hll2.out
        rw [Hs3.out,List.length_append] at h1
        rw [List.length_append]
        omega
       obtain ⟨wi,rfl⟩ : ∃ wi : World,wi = wr:=⟨_,rfl⟩
       have Hobn : Hid (∀ g,vi.ownBlock = some g → g < wi.heap.size):=fun g hg=>by obtain ⟨rows,_,hrw⟩:=Howni.out;exact (hrw.lt _ hg).2
       by_cases hcf : cf = f
       ·subst hcf
        have hb2:=Hbi.out.trans ((bel_alloc (Below.refl _ wi) (.cells #[.int .i64 cf,.int .i64 cop,.int .i64 cv] 153)).mono hszi)
        have hbc2:=box_cells hb2
        clear hbci hb2
        have hlen3 : (M ++ (r.conds.take i).flatMap (condCuts cf)).length + 2≤17592186044416 + 1:=by
         have h1:=Hll3.out
         have h2:=Hn.out
         have h3 : 1≤(condCuts cf ⟨cf,cop,cv⟩).length:=by unfold condCuts;rw [if_pos rfl];split <;> simp
         omega
        have Hown3:=Lib.hid (Howni.out.below (bel_alloc (bel_alloc (Below.refl _ wi) (.cells #[.int .i64 cf,.int .i64 cop,.int .i64 cv] 153)) (.cells #[.int .i64 cv] 3)))
        have Hbox3:=Lib.hid (blk_old (o:=(.cells #[.int .i64 cv] 3)) (heap_last wi (.cells #[.int .i64 cf,.int .i64 cop,.int .i64 cv] 153)))
        have Hbi3:=Lib.hid (Hbi.out.trans ((bel_alloc (bel_alloc (Below.refl _ wi) (.cells #[.int .i64 cf,.int .i64 cop,.int .i64 cv] 153)) (.cells #[.int .i64 cv] 3)).mono hszi))
        rcases (by omega : (cop = 1 ∨ cop = 2) ∨ (cop = 3 ∨ cop = 4)) with ho | ho
        ·have Hcc : Hid (condCuts cf ⟨cf,cop,cv⟩ = [cv] ++ [cv + 1]):=by show _ = _;unfold condCuts;rw [if_pos rfl,if_pos ho];rfl
         have hlen4 : (M ++ (r.conds.take i).flatMap (condCuts cf)).length + 2≤17592186044416:=by
          have h1:=Hll3.out
          have h2:=Hn.out
          rw [Hcc.out] at h1
          simp only [List.length_append,List.length_singleton] at h1 ⊢
          omega
         have hw1 : IntKind.i64.wrap (cv + 1) = cv + 1:=by rw [IntKind.wrap_i64];omega
         rcases ho with rfl | rfl
         all_goals
          go_wp2_with (at_builtin;first | (refine wpList_app2 rfl _ _ 231 rfl (w.heap.size + 1) 3 i0 _ 1 8 Tryz.underlying231 Hi.out hz0 hz1 hz2 rfl (by decide) _ _ rfl Hown3.out _ _ rfl (one_int (by simp)) (fun y _ cs h=>intR_one y cs h) (by show _ + 1≤maxLen;unfold maxLen;omega) (by show (_ + 1) * 8≤_;omega) (by simp;omega) ?_;intro v' w3 hown' hg hat';have Hown':=Lib.hid hown';have Hb3:=Lib.hid (Hown3.out.grown Hbi3.out hg (by simp;omega) (Nat.le_refl _));have Hx3:=Lib.hid ((hg.block wi.heap.size (by simp;omega) (fun e=>by have:=Hobn.out _ e.symm;omega)).trans Hbox3.out);have hx3:=cells_of Hx3.out;have hs3 : wi.heap.size < w3.heap.size:=(by have:=hg.size;simp at this;omega);have hs4 : w.heap.size + 1≤w3.heap.size:=(by omega);have Hown4:=Lib.hid (Hown'.out.below (bel_alloc (Below.refl _ w3) (.cells #[.int .i64 (cv + 1)] 3)));have Hbi4:=Lib.hid (Hb3.out.trans ((bel_alloc (Below.refl _ w3) (.cells #[.int .i64 (cv + 1)] 3)).mono hs4));clear hown' hg hat' hbc2) | (refine wpList_app2 rfl _ _ 231 rfl (w.heap.size + 1) 3 i0 _ 1 8 Tryz.underlying231 Hi.out hz0 hz1 hz2 rfl (by decide) _ _ rfl Hown4.out _ _ rfl (one_int (by simp)) (fun y _ cs h=>intR_one y cs h) (by show _ + 1≤maxLen;unfold maxLen;rw [List.length_append];show _ + 1 + 1≤_;omega) (by rw [List.length_append];show (_ + 1 + 1) * 8≤_;omega) (by simp;omega) ?_;intro v'' w4 hown'' hg' hat'';have Hown5:=Lib.hid hown'';have Hb5:=Lib.hid (Hown4.out.grown Hbi4.out hg' (by simp;omega) (Nat.le_refl _));clear hown'' hg' hat'' hx3))
          go_roundw
          case rel=>exact ⟨i + 1,v'',by go_num,rfl,by omega,by rw [Hs3.out,Hcc.out,← List.append_assoc,← List.append_assoc];exact Hown5.out,Hb5.out⟩
          case measure=>simp [intOf];omega
        ·have Hcc : Hid (condCuts cf ⟨cf,cop,cv⟩ = [cv]):=by show _ = _;unfold condCuts;rw [if_pos rfl,if_neg (by show ¬ (cop = 1 ∨ cop = 2);omega)]
         rcases ho with rfl | rfl
         all_goals
          go_wp2_with (at_builtin;refine wpList_app2 rfl _ _ 231 rfl (w.heap.size + 1) 3 i0 _ 1 8 Tryz.underlying231 Hi.out hz0 hz1 hz2 rfl (by decide) _ _ rfl Hown3.out _ _ rfl (one_int (by simp)) (fun y _ cs h=>intR_one y cs h) (by show _ + 1≤maxLen;unfold maxLen;omega) (by show (_ + 1) * 8≤_;omega) (by simp;omega) ?_;intro v' w3 hown' hg hat';have Hown':=Lib.hid hown';have Hb3:=Lib.hid (Hown3.out.grown Hbi3.out hg (by simp;omega) (Nat.le_refl _));have Hx3:=Lib.hid ((hg.block wi.heap.size (by simp;omega) (fun e=>by have:=Hobn.out _ e.symm;omega)).trans Hbox3.out);have hx3:=cells_of Hx3.out;have hs3 : wi.heap.size < w3.heap.size:=(by have:=hg.size;simp at this;omega);have hs4 : w.heap.size + 1≤w3.heap.size:=(by omega);have hbc3:=box_cells Hb3.out;clear hown' hg hat' hbc2)
          go_roundw
          case rel=>exact ⟨i + 1,v',by go_num,rfl,by omega,by rw [Hs3.out,Hcc.out,← List.append_assoc];exact Hown'.out,Hb3.out⟩
          case measure=>simp [intOf];omega
       ·have hb0 : (cf != f) = true:=bne_iff_ne.2 hcf
        have Hcc : Hid (condCuts f ⟨cf,cop,cv⟩ = []):=if_neg hcf
        have hb2:=Hbi.out.trans ((bel_alloc (Below.refl _ wi) (.cells #[.int .i64 cf,.int .i64 cop,.int .i64 cv] 153)).mono hszi)
        have hbc2:=box_cells hb2
        have Hb2:=Lib.hid hb2
        clear hbci hcf hb2
        go_wp2_with fail
        go_roundw
        case rel=>exact ⟨i + 1,vi,by go_num,rfl,by omega,by rw [Hs3.out,Hcc.out,List.append_nil];exact Howni.out.below (bel_alloc (Below.refl _ _) _),Hb2.out⟩
        case measure=>simp [intOf];omega
      ·obtain rfl : i = r.conds.length:=by omega
       go_wp2
       go_roundw
       case rel=>exact ⟨j + 1,vi,by go_num,rfl,by omega,by have:=Howni.out;rw [List.take_length,HM.out,List.append_assoc] at this;rw [Hs2.out];exact this,Hbi.out⟩
       case measure=>simp [intOf];omega
    ·obtain rfl : j = p.rules.length:=by omega
     go_wp2
     go_roundw
     case rel=>exact ⟨k + 1,vj,by go_num,rfl,by omega,by have:=Hownj.out;rw [List.take_length,HL.out] at this;rw [Hs.out];exact this,Hbj.out⟩
     case measure=>simp [intOf];omega
  ·obtain rfl : k = l.length:=by omega
   have HV : Hid (OwnSl wr (w.heap.size + 1) 3 1 intR vs (cutVals l f)):=by have:=Hown.out;rw [List.take_length] at this;exact this
   have hbn : (cutVals l f).length≤17592186044416:=by have:=Hn.out;omega
   have hlen : 0 < (cutVals l f).length:=by simp [cutVals]
   clear hbc
   go_wp2_with fail
   refine (sortI_any vs (cutVals l f) (w.heap.size + 1) wr HV.out (by simp [cutVals]) (by omega)).mono ?_
   rintro e w1 ⟨rfl,ho1,hg1⟩
   have Ho1:=Lib.hid ho1
   have Hb1:=Lib.hid (Hown.out.grown Hb.out hg1 hsz (Nat.le_refl _))
   have hz1 : w.heap.size + 1≤w1.heap.size:=Nat.le_trans hsz hg1.size
   clear ho1 hg1
   go_wp2_with fail
   refine (compactI_any vs _ (w.heap.size + 1) w1 Ho1.out (fun e=>by have:=congrArg List.length e;rw [List.length_mergeSort] at this;simp [cutVals] at this) (by rw [List.length_mergeSort];omega)).mono ?_
   rw [sort_compact]
   rintro e w2 ⟨v2,rfl,ho2,hg2,hk2⟩
   have Ho2:=Lib.hid ho2
   have Hb2:=Lib.hid (Ho1.out.grown Hb1.out hg2 hz1 (Nat.le_refl _))
   have hz2 : w.heap.size + 1≤w2.heap.size:=Nat.le_trans hz1 hg2.size
   have hbc2:=box_cells Hb2.out 0
   have Hne : Hid (v2.ownBlock ≠ some w.heap.size):=fun e=>by have:=Ho2.out.block _ e;omega
   clear ho2 hg2 hk2
   go_wp2_with fail
   refine (deleteFuncI_any v2 _ f w.heap.size (w.heap.size + 1) w2 Ho2.out (rising_setOf _) hbc2 Hne.out).mono ?_
   rintro e w3 ⟨v3,rfl,ho3,hg3,hk3⟩
   have Ho3:=Lib.hid ho3
   have Hb3:=Lib.hid (Ho2.out.grown Hb2.out hg3 hz2 (Nat.le_refl _))
   clear ho3 hg3 hk3
   go_wp2
   go_ret
   exact ⟨_,rfl,Ho3.out.base (by omega),bel_box Hb3.out⟩
end Go.Proofs.YthkgjohhbdipcaaGreatDoor
namespace Go.Proofs.YthkgjohhbdipcaaGreatDoor
open Go.RowKit
def cutsE (l : List TPol) (f : Int) : List Int × Int:=if polsE l ≠ 0 then ([],polsE l) else if f < 0 ∨ 5≤f then ([],5) else (cutsOf l f,0)
set_option maxRecDepth 100000 in
set_option maxHeartbeats 4000000 in
theorem cutsE_any (v : Value) (l : List TPol) (f : Int) (D : Nat → Prop) (w : World) (h : RdPols w D v l) (hn : polsE l = 0 → 0≤f → f < 5 → (cutVals l f).length * 8≤140737488355328) :
  Calls Tryz.prog 224 #[v,.int .i64 f] w fun e w'=>∃ v',e = .returned (.tuple #[v',.int .i64 (cutsE l f).2])∧OwnSl w' w.heap.size 3 1 intR v' (cutsE l f).1∧Below w.heap.size w w':=by
 have H:=Lib.hid h
 obtain ⟨a,c,rfl,hlc,hcm,hat⟩:=Sl.form h
 have Hn:=Lib.hid hn
 clear h hn
 go_enter Tryz.func224,Tryz.ntmps224
 go_wp2_with fail
 go_loopw [11] (fun kv wr=>∃ k : Nat,kv = .int .i64 k∧k≤l.length∧polsE (l.drop k) = polsE l∧Below w.heap.size w wr) (fun kv _=>l.length - (intOf kv).toNat)
 case atStart=>exact ⟨0,rfl,Nat.zero_le _,rfl,Below.refl _ _⟩
 case round =>
  obtain ⟨k,rfl,hk,hdr,hb⟩:=hrel
  have Hdr:=Lib.hid hdr
  have Hb:=Lib.hid hb
  have hsz:=hb.size
  clear hdr hb
  by_cases hlt : k < l.length
  ·obtain ⟨b,o,rfl,hDb,hblt⟩:=hat (by omega)
   obtain ⟨ca,cc,hc0w,hc1w,hrd,hcl,hcmx,hcat⟩:=RdPols.cells H.out hlt
   have Hs:=Lib.hid (polsE_drop l k hlt)
   obtain ⟨p,hp⟩ : ∃ p,l[k] = p:=⟨_,rfl⟩
   rw [hp] at hc0w hc1w hrd hcl hcat Hs
   have Hrd:=Lib.hid hrd
   have hc0:=(Hb.out.cell (p:=⟨b,o + k * 2,none⟩) hblt).trans hc0w
   have hc1:=(Hb.out.cell (p:=⟨b,o + k * 2 + 1,none⟩) hblt).trans hc1w
   clear hrd hp hc0w hc1w
   go_wp2_with fail
   refine (polcheck_any _ p D _ (RdRules.below Hrd.out (bel_alloc Hb.out _))).mono ?_
   rintro e w1 ⟨rfl,hb1⟩
   have Hb1:=Lib.hid (bel_alloc_call Hb.out hb1)
   clear hb1 hc0 hc1
   by_cases h0 : polE p = 0
   ·have H0:=Lib.hid h0
    rw [h0]
    clear h0
    go_wp2
    go_roundw
    case rel=>exact ⟨k + 1,by go_num,by omega,by have:=Hs.out;rw [if_pos H0.out,Hdr.out] at this;exact this.symm,Hb1.out⟩
    case measure=>simp [intOf];omega
   ·have hb0 : (polE p != 0) = true:=bne_iff_ne.2 h0
    have HE : Hid (cutsE l f = ([],polE p)):=by
     have e : polsE l = polE p:=by have:=Hs.out;rw [if_neg h0,Hdr.out] at this;exact this
     show cutsE l f = _
     unfold cutsE
     rw [e,if_pos h0]
    clear h0
    go_wp2
    go_ret2
    rw [HE.out]
    exact ⟨_,rfl,OwnSl.nil,Hb1.out⟩
  ·obtain rfl : k = l.length:=by omega
   have h0 : polsE l = 0:=by have:=Hdr.out;rw [List.drop_length] at this;exact this.symm
   have H0:=Lib.hid h0
   clear h0
   by_cases hf : f < 0 ∨ 5≤f
   ·have HE : Hid (cutsE l f = ([],5)):=by
     show cutsE l f = _
     unfold cutsE
     rw [if_neg (by rw [H0.out];simp),if_pos hf]
    by_cases hf0 : f < 0
    ·have hd : decide (f < 0) = true:=decide_eq_true hf0
     clear hf
     go_wp2
     go_ret2
     rw [HE.out]
     exact ⟨_,rfl,OwnSl.nil,Hb.out⟩
    ·have hd : decide (f < 0) = false:=decide_eq_false hf0
     have hd2 : decide (5≤f) = true:=decide_eq_true (by omega)
     clear hf
     go_wp2
     go_ret2
     rw [HE.out]
     exact ⟨_,rfl,OwnSl.nil,Hb.out⟩
   ·have HE : Hid (cutsE l f = (cutsOf l f,0)):=by
     show cutsE l f = _
     unfold cutsE
     rw [if_neg (by rw [H0.out];simp),if_neg hf]
    have hd : decide (f < 0) = false:=decide_eq_false (by omega)
    have hd2 : decide (5≤f) = false:=decide_eq_false (by omega)
    have Hn2:=Lib.hid (Hn.out H0.out (by omega) (by omega))
    clear hf
    go_wp2_with fail
    refine (cuts_any _ l f D _ (RdPols.below H.out Hb.out) ((polsE_iff l).1 H0.out) Hn2.out).mono ?_
    rintro e w1 ⟨v1,rfl,ho1,hb1⟩
    have Ho1:=Lib.hid ho1
    have Hb1:=Lib.hid (bel_call Hb.out hb1)
    obtain ⟨a1,c1,rfl⟩:=ho1.slice
    clear ho1 hb1
    go_wp2
    go_ret2
    rw [HE.out]
    exact ⟨_,rfl,Ho1.out.base hsz,Hb1.out⟩
end Go.Proofs.YthkgjohhbdipcaaGreatDoor
namespace Go.Proofs.YthkgjohhbdipcaaGreatDoor
open Go.RowKit
theorem infoCall : (Tryz.prog.info? 46).map (fun i=>(i.zero,i.size,i.bytes)) = some (some (.agg #[.int .i64 0,.int .i64 0,.int .i64 0,.int .i64 0,.int .i64 0]),5,40):=by kernel_rfl
def callR (x : TCall) (cs : List Value) : Prop:=cs = [.int .i64 x.a0,.int .i64 x.a1,.int .i64 x.a2,.int .i64 x.a3,.int .i64 x.a4]
def RdCalls (w : World) (D : Nat → Prop) (v : Value) (l : List TCall) : Prop:=Sl w D 5 callR v l
theorem RdCalls.below {w w' : World} {D : Nat → Prop} {v : Value} {l : List TCall} (h : RdCalls w D v l) (hb : Below w.heap.size w w') : RdCalls w' D v l :=
 Sl.mono h (fun _ h _=>h) (fun b _ hlt=>hb.block b hlt) hb.size (fun _ _ _ h=>h)
theorem RdCalls.cells {w : World} {D : Nat → Prop} {b o n c : Nat} {s : Option Nat} {l : List TCall} (h : RdCalls w D (.slice (some ⟨b,o,s⟩) n c) l) {i : Nat} (hi : i < l.length) :
  w.cell? ⟨b,o + i * 5,none⟩ = some (.int .i64 l[i].a0)∧w.cell? ⟨b,o + i * 5 + 1,none⟩ = some (.int .i64 l[i].a1)∧w.cell? ⟨b,o + i * 5 + 2,none⟩ = some (.int .i64 l[i].a2)∧w.cell? ⟨b,o + i * 5 + 3,none⟩ = some (.int .i64 l[i].a3)∧w.cell? ⟨b,o + i * 5 + 4,none⟩ = some (.int .i64 l[i].a4):=by
 obtain ⟨cs,hcs,hr,hcell⟩:=Sl.get h hi
 unfold callR at hr
 subst hr
 exact ⟨hcell 0 _ rfl,hcell 1 _ rfl,hcell 2 _ rfl,hcell 3 _ rfl,hcell 4 _ rfl⟩
theorem callR_one (y : TCall) (cs : List Value) (h : callR y cs) : ∀ c ∈ cs,c.oneCell' = true:=by
 unfold callR at h;subst h;intro c hc;simp at hc;rcases hc with rfl | rfl | rfl | rfl | rfl <;> rfl
@[reducible] def callArr (x : TCall) : Array Value:=#[.int .i64 x.a0,.int .i64 x.a1,.int .i64 x.a2,.int .i64 x.a3,.int .i64 x.a4]
theorem callArr_set (x : TCall) (k : Nat) (h : k < 5) (n : Int) : (callArr x).setIfInBounds k (.int .i64 n) = callArr (x.set k n):=by
 match k,h with
 | 0,_=>rfl
 | 1,_=>rfl
 | 2,_=>rfl
 | 3,_=>rfl
 | 4,_=>rfl
theorem callArr_get (x : TCall) (k : Nat) (h : k < 5) : (callArr x)[k]? = some (.int .i64 (x.get k)):=by
 match k,h with
 | 0,_=>rfl
 | 1,_=>rfl
 | 2,_=>rfl
 | 3,_=>rfl
 | 4,_=>rfl
theorem set_set (x : TCall) (k : Nat) (m n : Int) : (x.set k m).set k n = x.set k n:=by
 match k with
 | 0=>rfl
 | 1=>rfl
 | 2=>rfl
 | 3=>rfl
 | k + 4=>rfl
theorem one_call {W : World} {x : TCall} {T : TypeId} {b : Nat} (hb : b = W.heap.size) : RdCalls (W.alloc (.cells (callArr x) T)) (fun _=>True) (.slice (some ⟨b,0,none⟩) 1 1) [x] :=
 sl_block (R:=callR) (sz:=5) (xs:=[x]) (rows:=[[.int .i64 x.a0,.int .i64 x.a1,.int .i64 x.a2,.int .i64 x.a3,.int .i64 x.a4]]) (RowsOf.cons RowsOf.nil rfl rfl) (blk_at hb) rfl trivial (by simp [maxLen])
theorem pointsE_err2 {l : List TPol} (h0 : polsE l = 0) {k : Nat} (hk : k < 5) (h : 1000 < sizes l (k + 1)) : pointsE l = ([],2):=by
 unfold pointsE
 rw [if_neg (by rw [h0];simp),if_pos (Nat.lt_of_lt_of_le h (sizes_le l (by omega)))]
set_option maxRecDepth 100000 in
set_option maxHeartbeats 8000000 in
theorem points_any (v : Value) (l : List TPol) (D : Nat → Prop) (w : World) (h : RdPols w D v l) (hn : polsE l = 0 → ∀ f : Int,0≤f → f < 5 → (cutVals l f).length * 8≤140737488355328) :
  Calls Tryz.prog 216 #[v] w fun e w'=>∃ v',e = .returned (.tuple #[v',.int .i64 (pointsE l).2])∧OwnSl w' w.heap.size 46 5 callR v' (pointsE l).1∧Below w.heap.size w w':=by
 have H:=Lib.hid h
 have Hn:=Lib.hid hn
 obtain ⟨i0,hi,hz0,hz1,hz2⟩:=info_parts infoCall
 have Hi:=Lib.hid hi
 clear h hn hi
 go_enter Tryz.func216,Tryz.ntmps216
 go_wp2_with fail
 go_loopw [4,15] (fun ov kv wr=>∃ (k : Nat) (vs : Value),kv = .int .i64 k∧vs = ov∧k≤5∧(k ≠ 0 → polsE l = 0)∧sizes l k≤1000∧OwnSl wr w.heap.size 46 5 callR vs (stage l k)∧Below w.heap.size w wr) (fun _ kv _=>5 - (intOf kv).toNat)
 case atStart =>
  refine ⟨0,_,rfl,rfl,by omega,fun h=>absurd rfl h,by simp [sizes],?_,(Below.refl _ _).alloc (Nat.le_refl _) _⟩
  exact ⟨[[.int .i64 0,.int .i64 0,.int .i64 0,.int .i64 0,.int .i64 0]],RowsOf.cons RowsOf.nil rfl rfl,by simp [stage],.inr ⟨w.heap.size,1,_,rfl,Nat.le_refl _,heap_last _ _,by simp [stage],by simp [maxLen],by simp,by simp [stage]⟩⟩
 case round =>
  obtain ⟨k,vs,rfl,rfl,hk,hp0,hs,hown,hb⟩:=hrel
  have Hp0:=Lib.hid hp0
  have Hown:=Lib.hid hown
  have Hb:=Lib.hid hb
  have hsz:=hb.size
  have Hs:=Lib.hid hs
  obtain ⟨a,c,rfl⟩:=hown.slice
  clear hp0 hown hb hs
  by_cases hlt : k < 5
  ·go_wp2_with fail
   refine (cutsE_any v l k D _ (H.out.belowR Hb.out (fun _ _ _ ⟨u,h1,h2⟩=>⟨u,h1,h2.below Hb.out⟩)) (fun h0 h1 h2=>Hn.out h0 _ h1 h2)).mono ?_
   rintro e w1 ⟨v1,rfl,ho1,hb1⟩
   have Hb1:=Lib.hid (bel_call Hb.out hb1)
   have Hbr:=Lib.hid hb1
   have Ho1:=Lib.hid ho1
   have hsz1:=hb1.size
   obtain ⟨a1,c1,rfl⟩:=ho1.slice
   clear ho1 hb1
   by_cases h0 : polsE l = 0
   ·have H0:=Lib.hid h0
    have HE : Hid (cutsE l k = (cutsOf l k,0)):=by
     show cutsE l k = _
     unfold cutsE
     rw [if_neg (by rw [h0];simp),if_neg (by omega)]
    have Ho2 : Hid (RdInts w1 (fun _=>True) (.slice a1 (cutsOf l k).length c1) (cutsOf l k)):=by
     have:=Ho1.out.sl (D:=fun _=>True) (fun _ _=>trivial)
     rw [HE.out] at this
     exact this
    have hlen : (cutsOf l k).length≤17592186044416:=by
     have h1:=Hn.out h0 k (by omega) (by omega)
     have h2 : (cutsOf l k).length≤(cutVals l k).length:=by
      unfold cutsOf
      refine Nat.le_trans (List.length_filter_le _ _) ?_
      have h3 : ∀ m : List Int,(setOf m).length≤m.length:=fun m=>by
       have h4 : ∀ (x : Int) (m : List Int),(insU x m).length≤m.length + 1:=fun x m=>by
        induction m with
        | nil=>simp [insU]
        | cons y m ih=>unfold insU;split <;> (try split) <;> simp <;> omega
       induction m with
       | nil=>simp [setOf]
       | cons x m ih=>have:=h4 x (setOf m);simp [setOf];omega
      exact h3 _
     omega
    have Hss : Hid (sizes l (k + 1) = sizes l k * (cutsOf l k).length):=rfl
    have Hst : Hid ((stage l k).length = sizes l k):=stage_length l k
    rw [HE.out]
    obtain ⟨C,hC⟩ : ∃ C,C = cutsOf l k:=⟨_,rfl⟩
    rw [← hC] at Ho2 hlen Hss ⊢
    have HC:=Lib.hid hC
    have hmul : (((stage l k).length : Int) * (C.length : Int)) = (((stage l k).length * C.length : Nat) : Int):=by rw [Int.natCast_mul]
    have hmb : (stage l k).length * C.length≤1000 * 17592186044416:=Nat.mul_le_mul (by rw [Hst.out];exact Hs.out) hlen
    have hwr : IntKind.i64.wrap (((stage l k).length : Int) * (C.length : Int)) = ((stage l k).length : Int) * (C.length : Int):=by rw [hmul,IntKind.wrap_i64];omega
    clear h0 hC hmul
    by_cases hbig : 1000 < sizes l (k + 1)
    ·have hd : decide ((1000 : Int) < ((stage l k).length : Int) * (C.length : Int)) = true:=decide_eq_true (by rw [← Int.natCast_mul,Hst.out,← Hss.out];omega)
     have HP : Hid (pointsE l = ([],2)):=pointsE_err2 H0.out hlt hbig
     have Hhb:=Lib.hid hbig
     clear hbig hmb
     go_wp2_with fail
     go_ret2
     rw [HP.out]
     exact ⟨_,rfl,OwnSl.nil,Hb1.out⟩
    ·have hd : decide ((1000 : Int) < ((stage l k).length : Int) * (C.length : Int)) = false:=decide_eq_false (by rw [← Int.natCast_mul,Hst.out,← Hss.out];omega)
     have Hhb:=Lib.hid hbig
     clear hbig hmb
     have Hsl : Hid (RdCalls w1 (fun _=>True) (.slice a (stage l k).length c) (stage l k)):=(Hown.out.sl (fun _ _=>trivial)).belowR Hbr.out (fun _ _ _ h=>h)
     obtain ⟨S,hS⟩ : ∃ S,S = stage l k:=⟨_,rfl⟩
     have Hnext : Hid (stage l (k + 1) = S.flatMap fun x=>C.map fun n=>x.set k n):=by show _ = _;rw [hS,HC.out];rfl
     have hSl : S.length≤1000:=by rw [hS,Hst.out];exact Hs.out
     have hsl1 : S.length * C.length≤1000:=by have:=Hhb.out;rw [Hss.out,← Hst.out,← hS] at this;omega
     rw [← hS] at Hsl hd hwr ⊢
     have Hpl:=Lib.hid (show ∀ j,j≤S.length → ((S.take j).flatMap fun x=>C.map fun n=>x.set k n).length = j * C.length from fun j hj=>by
      rw [List.length_flatMap]
      have : ((S.take j).map fun x=>(C.map fun n=>x.set k n).length) = List.replicate j C.length:=by
       apply List.ext_getElem
       ·simp;omega
       ·intro i h1 h2;simp
      rw [this,List.sum_replicate_nat])
     clear hS
     go_wp2_with fail
     clear hd hwr
     have hatS:=fun h0=>Sl.at_ Hsl.out h0
     have hatC:=fun h0=>Sl.at_ Ho2.out h0
     go_loopw [8,35] (fun ov jv wr=>∃ (j : Nat) (vn : Value),jv = .int .i64 j∧vn = ov∧j≤S.length∧OwnSl wr w1.heap.size 46 5 callR vn ((S.take j).flatMap fun x=>C.map fun n=>x.set k n)∧Below w1.heap.size w1 wr) (fun _ jv _=>S.length - (intOf jv).toNat)
     case atStart=>exact ⟨0,_,rfl,rfl,Nat.zero_le _,OwnSl.nil,Below.refl _ _⟩
     case round =>
      obtain ⟨j,vn,rfl,rfl,hj,hownn,hbn⟩:=hrel
      have Hownn:=Lib.hid hownn
      have Hbn:=Lib.hid hbn
      have hszn:=hbn.size
      clear hownn hbn
      by_cases hjl : j < S.length
      ·obtain ⟨b,o,hab,_,hblt⟩:=hatS (by omega)
       subst hab
       obtain ⟨h0c,h1c,h2c,h3c,h4c⟩:=RdCalls.cells (Hsl.out.below Hbn.out) hjl
       have Hs1:=Lib.hid (flatMap_take (fun x : TCall=>C.map fun n=>x.set k n) S j hjl)
       obtain ⟨x,hx⟩ : ∃ x,S[j] = x:=⟨_,rfl⟩
       rw [hx] at h0c h1c h2c h3c h4c Hs1
       have Hpj:=Lib.hid (Hpl.out j (by omega))
       obtain ⟨L,hL⟩ : ∃ L,L = (S.take j).flatMap fun x=>C.map fun n=>x.set k n:=⟨_,rfl⟩
       rw [← hL] at Hownn Hs1 Hpj
       have hjc : j * C.length + C.length≤1000:=by
        have : (j + 1) * C.length≤S.length * C.length:=Nat.mul_le_mul_right _ hjl
        rw [Nat.add_mul] at this;omega
       obtain ⟨wo,rfl⟩ : ∃ wo : World,wo = wr:=⟨_,rfl⟩
       have hob : vn.ownBlock ≠ some wo.heap.size:=fun e=>by obtain ⟨rows,_,hrw⟩:=Hownn.out;have:=(hrw.lt _ e).2;omega
       have Hob:=Lib.hid hob
       clear hx hL hob
       go_wp2_with fail
       clear h0c h1c h2c h3c h4c
       go_loopw [8,41] (fun ov iv wr=>∃ (i : Nat) (vi : Value) (y : TCall),iv = .int .i64 i∧vi = ov∧i≤C.length∧OwnSl wr w1.heap.size 46 5 callR vi (L ++ (C.take i).map fun n=>x.set k n)∧Below w1.heap.size w1 wr∧wr.heap[wo.heap.size]? = some (.cells (callArr y) 46)∧(∀ n,y.set k n = x.set k n)∧vi.ownBlock ≠ some wo.heap.size∧wo.heap.size < wr.heap.size) (fun _ iv _=>C.length - (intOf iv).toNat)
       case atStart=>exact ⟨0,vn,x,rfl,rfl,by omega,by simpa using Hownn.out.below (bel_alloc (Below.refl _ _) _),Hbn.out.trans ((bel_alloc (Below.refl _ wo) _).mono hszn),heap_last _ _,fun _=>rfl,Hob.out,by simp⟩
       case round =>
        obtain ⟨i,vi,y,rfl,rfl,hi,howni,hbi,hbox,hys,hnob,hszi⟩:=hrel
        have Howni:=Lib.hid howni
        have Hbi:=Lib.hid hbi
        have Hbox:=Lib.hid hbox
        have Hys:=Lib.hid hys
        have Hnob:=Lib.hid hnob
        have hszj:=hbi.size
        clear howni hbi hbox hys hnob
        by_cases hil : i < C.length
        ·obtain ⟨b2,o2,hab2,_,hblt2⟩:=hatC (by omega)
         subst hab2
         have hc0:=RdInts.cell (Ho2.out.belowR Hbi.out (fun _ _ _ h=>h)) hil
         have Hta:=Lib.hid (List.take_succ_eq_append_getElem hil)
         obtain ⟨n,hn⟩ : ∃ n,C[i] = n:=⟨_,rfl⟩
         rw [hn] at hc0 Hta
         obtain ⟨z,hz⟩ : ∃ z,y.set k n = z:=⟨_,rfl⟩
         have Hz:=Lib.hid hz
         have hbc:=cells_of Hbox.out
         have hbf:=not_frozen Hbox.out
         have hgetk : (callArr y)[k]? = some (.int .i64 (y.get k)):=callArr_get y k hlt
         have Hset : Hid ((wr.setCell ⟨wo.heap.size,k,none⟩ (.int .i64 n)).heap[wo.heap.size]? = some (.cells (callArr z) 46)):=by
          have:=set_at (o:=k) (v:=.int .i64 n) Hbox.out
          rwa [callArr_set y k hlt,hz] at this
         have hsc:=cells_of Hset.out
         clear hn hz
         have Hown3:=Lib.hid ((Howni.out.set (a:=⟨wo.heap.size,k,none⟩) (x:=.int .i64 n) Hnob.out).below (bel_alloc (Below.refl _ _) (.cells (callArr z) 46)))
         have Hbi3:=Lib.hid ((set_below (a:=⟨wo.heap.size,k,none⟩) (v:=.int .i64 n) Hbi.out hszn).alloc (by rw [set_size];exact hszj) (.cells (callArr z) 46))
         have Hbox3:=Lib.hid (blk_old (o:=(.cells (callArr z) 46)) Hset.out)
         have Hll : Hid ((L ++ (C.take i).map fun n=>x.set k n).length + 1≤1000):=by
          show _≤_
          rw [List.length_append,List.length_map,List.length_take,Hpj.out];omega
         go_wp2_with (at_builtin;refine wpList_app2 rfl _ _ 232 rfl w1.heap.size 46 i0 _ 5 40 Tryz.underlying232 Hi.out hz0 hz1 hz2 rfl (by decide) _ _ rfl Hown3.out _ _ rfl (one_call (x:=z) (by simp)) (fun y _ cs h=>callR_one y cs h) (by have:=Hll.out;show _ + 1≤maxLen;unfold maxLen;omega) (by have:=Hll.out;show (_ + 1) * 40≤_;omega) (by simp;omega) ?_;intro v' w3 hown' hg hat';have Hown':=Lib.hid hown';have Hb3:=Lib.hid (Hown3.out.grown Hbi3.out hg (by simp;omega) (Nat.le_refl _));have Hx3:=Lib.hid ((hg.block wo.heap.size (by simp;omega) (fun e=>Hnob.out e.symm)).trans Hbox3.out);have Hn3 : Hid (v'.ownBlock ≠ some wo.heap.size):=(fun e=>hat'.elim (fun e'=>Hnob.out (e'.symm.trans e)) (fun e'=>by have:=e'.symm.trans e;simp at this;omega));have hs3 : wo.heap.size < w3.heap.size:=(by have:=hg.size;simp at this;omega);clear hown' hg hat')
         go_roundw
         case rel=>exact ⟨i + 1,v',z,by go_num,rfl,by omega,by rw [Hta.out,List.map_append,← List.append_assoc];have:=Hown'.out;rw [← Hz.out,Hys.out] at this;exact this,Hb3.out,Hx3.out,fun m=>by rw [← Hz.out,set_set];exact Hys.out m,Hn3.out,hs3⟩
         case measure=>simp [intOf];omega
        ·obtain rfl : i = C.length:=by omega
         have Hr : Hid (OwnSl wr w1.heap.size 46 5 callR vi ((S.take (j + 1)).flatMap fun x=>C.map fun n=>x.set k n)):=by
          have:=Howni.out
          rw [List.take_length] at this
          show OwnSl _ _ _ _ _ _ _
          rw [Hs1.out];exact this
         go_wp2
         go_roundw
         case rel=>exact ⟨j + 1,vi,by go_num,rfl,by omega,Hr.out,Hbi.out⟩
         case measure=>simp [intOf];omega
      ·obtain rfl : j = S.length:=by omega
       go_wp2
       go_roundw
       case rel=>exact ⟨k + 1,vn,by go_num,rfl,by omega,fun _=>H0.out,by have:=Hhb.out;omega,by have:=Hownn.out;rw [List.take_length] at this;rw [Hnext.out];exact this.base (by omega),Hb1.out.trans (Hbn.out.mono (by omega))⟩
       case measure=>simp [intOf];omega
   ·have hk0 : k = 0:=by
     rcases Nat.eq_zero_or_pos k with h | h
     ·exact h
     ·exact absurd (Hp0.out (by omega)) h0
    have HE : Hid (cutsE l k = ([],polsE l)):=by show cutsE l k = _;unfold cutsE;rw [if_pos h0]
    have HP : Hid (pointsE l = ([],polsE l)):=by show pointsE l = _;unfold pointsE;rw [if_pos h0]
    have hb0 : (polsE l != 0) = true:=bne_iff_ne.2 h0
    rw [HE.out]
    clear h0
    go_wp2
    go_ret2
    rw [HP.out]
    exact ⟨_,rfl,OwnSl.nil,Hb1.out⟩
  ·obtain rfl : k = 5:=by omega
   have HP : Hid (pointsE l = (stage l 5,0)):=by
    show pointsE l = _
    unfold pointsE
    rw [if_neg (by rw [Hp0.out (by omega)];simp),if_neg (by have:=Hs.out;omega)]
   go_wp2
   go_ret2
   rw [HP.out]
   exact ⟨_,rfl,Hown.out,Hb.out⟩
end Go.Proofs.YthkgjohhbdipcaaGreatDoor
