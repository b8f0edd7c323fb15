/- Texts laid one behind the other: TPrint, PointSpec, OrderSpec, CompSpec, ChainSpec, RecRd, NoteCheck. No condition beyond theirs. -/
import Derived.Test.YthkgjohhbdipcaaGreatDoorK1
import Derived.Test.YthkgjohhbdipcaaGreatDoorK2
set_option linter.all false
namespace Go.Proofs.YthkgjohhbdipcaaGreatDoor
open Go.RowKit Go.Shelf
attribute [local go_sem] gives givesUpon
attribute [-go_sem] run_string_add_if run_slice_string_if run_slice_string
@[reducible] def verdictRow : Array Value:=#[Value.string (bsL [107,105,108,108]),.string (bsL [116,114,97,112]),.string (bsL [102,97,105,108]),.string (bsL [108,111,103]),.string (bsL [97,108,108,111,119])]
@[reducible] def fieldRow : Array Value:=#[Value.string (bsL [110,114]),.string (bsL [107,105,110,100]),.string (bsL [97]),.string (bsL [98]),.string (bsL [99])]
@[reducible] def opRow : Array Value:=#[Value.string (bsL []),.string (bsL [61]),.string (bsL [33]),.string (bsL [60]),.string (bsL [62])]
theorem op_cell {v : Int} (h0 : 1≤v) (h1 : v≤4) : opRow[v.toNat]? = some (.string (bsL [opW v])):=by
 rcases (by omega : v = 1 ∨ v = 2 ∨ v = 3 ∨ v = 4) with rfl | rfl | rfl | rfl <;> rfl
theorem verdicts_any (w : World) : Calls Tryz.prog 103 #[] w fun e w'=>e = .returned (.slice (some ⟨w.heap.size,0,none⟩) 5 5)∧w' = w.alloc (.cells verdictRow 9):=by
 go_enter Tryz.func103,Tryz.ntmps103
 go_wp2
 go_ret
 exact ⟨rfl,rfl⟩
theorem fields_any (w : World) : Calls Tryz.prog 104 #[] w fun e w'=>e = .returned (.slice (some ⟨w.heap.size,0,none⟩) 5 5)∧w' = w.alloc (.cells fieldRow 9):=by
 go_enter Tryz.func104,Tryz.ntmps104
 go_wp2
 go_ret
 exact ⟨rfl,rfl⟩
theorem ops_any (w : World) : Calls Tryz.prog 105 #[] w fun e w'=>e = .returned (.slice (some ⟨w.heap.size,0,none⟩) 5 5)∧w' = w.alloc (.cells opRow 9):=by
 go_enter Tryz.func105,Tryz.ntmps105
 go_wp2
 go_ret
 exact ⟨rfl,rfl⟩
def printE (p : TPol) : List UInt8 × Int:=if polE p = 0 then (textP p,0) else ([],polE p)
theorem bd_new (w : World) : Bd w.heap.size w.heap.size [] (w.alloc (.cells #[.pointer none,.slice none 0 0] 144)) :=
 .inl ⟨Nat.le_refl _,_,heap_last _ _,⟨by simp [Lib.byteCells],.inl ⟨rfl,rfl⟩⟩,by simp [Value.ownBlock]⟩
theorem bsL_toList (l : List UInt8) : (bsL l).data.toList = l:=rfl
set_option maxRecDepth 100000 in
set_option maxHeartbeats 16000000 in
theorem tprint_any (v : Value) (p : TPol) (D : Nat → Prop) (w : World) (h : RdRules w D v p.rules) (hL : Laid w) :
  Calls Tryz.prog 66 #[polV v p.dflt] w fun e w'=>e = .returned (.tuple #[.string (bsL (printE p).1),.int .i64 (printE p).2])∧Below w.heap.size w w':=by
 have H:=Lib.hid (RdRules.keep h (D':=fun b=>b < w.heap.size) (fun _ _ hl=>hl) (fun _ _ _=>rfl) (Nat.le_refl _))
 have HL:=Lib.hid hL
 obtain ⟨a,c,rfl,hlc,hcm,hat⟩:=Sl.form H.out
 clear h hL
 go_enter Tryz.func66,Tryz.ntmps66
 go_wp2_with fail
 have HB:=Lib.hid (Bx.one (w:=w) (o:=.cells #[.slice a p.rules.length c,.int .i64 p.dflt] 38))
 refine (polcheck_any _ p _ _ (RdRules.below H.out HB.out.bel)).mono ?_
 rintro e w1 ⟨rfl,hb1⟩
 replace HB:=Lib.hid (HB.out.below hb1)
 clear hb1
 by_cases h0 : polE p = 0
 ·have HE : Hid (printE p = (textP p,0)):=if_pos h0
  have Hok:=Lib.hid ((okPol_iff p).1 h0)
  have H1:=Lib.hid (RdRules.below H.out HB.out.bel)
  have HL1:=Lib.hid (HL.out.below HB.out.bel)
  rw [h0]
  clear h0
  have Hbd0:=Lib.hid (bd_new w1)
  have Hb0 : Hid (Below w1.heap.size w1 (w1.alloc (.cells #[.pointer none,.slice none 0 0] 144))):=bel_alloc (Below.refl _ _) _
  have hsz1 : w.heap.size + 1≤w1.heap.size:=HB.out.top
  have hc0:=(HB.out.below Hb0.out).cells0
  go_wp2_with fail
  clear hc0
  revert Hbd0 Hb0
  generalize (w1.alloc (.cells #[.pointer none,.slice none 0 0] 144)) = w2
  intro Hbd0 Hb0
  go_loopw [18] (fun kv wr=>∃ k : Nat,kv = .int .i64 k∧k≤p.rules.length∧Bd w1.heap.size w1.heap.size (headP (p.rules.take k)) wr∧Below w1.heap.size w1 wr) (fun kv _=>p.rules.length - (intOf kv).toNat)
  case atStart=>exact ⟨0,rfl,by omega,Hbd0.out,Hb0.out⟩
  case round =>
   obtain ⟨k,rfl,hk,hbd,hb⟩:=hrel
   obtain ⟨wo,rfl⟩ : ∃ wo : World,wo = wr:=⟨_,rfl⟩
   have Hbase:=Lib.hid hbd
   have Hb:=Lib.hid hb
   have hszr:=hb.size
   clear hbd hb Hbd0 Hb0
   have HBr:=Lib.hid (HB.out.below Hb.out)
   obtain ⟨t,ht⟩ : ∃ t,t = headP (p.rules.take k):=⟨_,rfl⟩
   have htl : t.length≤33600:=by
    rw [ht]
    have:=headP_len (p.rules.take k) (fun x hx=>Hok.out.rules x (List.mem_of_mem_take hx))
    rw [List.length_take] at this
    have:=Hok.out.len
    omega
   rw [← ht] at Hbase
   have Ht:=Lib.hid ht
   clear ht
   by_cases hlt : k < p.rules.length
   ·obtain ⟨b,o,rfl,_,_⟩:=hat (by omega)
    obtain ⟨ca,cc,hc0w,hc1w,hrd,_,_,hcat⟩:=RdRules.cells (RdRules.below H1.out Hb.out) hlt
    have Hkr:=Lib.hid (Hok.out.rules p.rules[k] (List.getElem_mem hlt))
    have Htk:=Lib.hid (headP_take hlt)
    obtain ⟨r,hr⟩ : ∃ r,p.rules[k] = r:=⟨_,rfl⟩
    rw [hr] at hc0w hc1w hrd hcat Hkr Htk
    have Hrd:=Lib.hid hrd
    have hcl10:=Hkr.out.len
    have hv0:=Hkr.out.v0
    have hv1:=Hkr.out.v1
    have hv5 : r.verdict < 5:=by omega
    have hvl:=verdictW_len r.verdict
    clear hrd hr
    go_wp2_with fail
    clear hc0w hc1w
    obtain ⟨w3,hw3⟩ : ∃ w3,wo.alloc (.cells #[.slice ca r.conds.length cc,.int .i64 r.verdict] 147) = w3:=⟨_,rfl⟩
    have Hbb : Hid (Below wo.heap.size wo w3):=by show Below _ _ _;rw [← hw3];exact bel_alloc (Below.refl _ _) _
    have Hrb : Hid (w3.heap[wo.heap.size]? = some (.cells #[.slice ca r.conds.length cc,.int .i64 r.verdict] 147)):=by show _ = _;rw [← hw3];exact heap_last _ _
    have HBB : Hid (wo.heap.size≤w3.heap.size):=Hbb.out.size
    have Hbd:=Lib.hid (Hbase.out.below Hbb.out)
    rw [hw3]
    clear hw3
    refine wp_region_lastop 5 wo.heap.size [pr (VRow wo.heap.size 9 verdictRow 5),ex (.pointer (some ⟨wo.heap.size,1,none⟩)),ex (.int .i64 r.verdict),pr (VAt wo.heap.size 9 verdictRow (r.verdict).toNat),ex (.string (bsL (verdictW r.verdict))),ex (.tuple #[.int .i64 ((bsL (verdictW r.verdict)).size : Int),.nilIface])] (fun W=>Bd w1.heap.size w1.heap.size (t ++ verdictW r.verdict) W∧Below w1.heap.size w1 W∧W.heap[wo.heap.size]? = some (.cells #[.slice ca r.conds.length cc,.int .i64 r.verdict] 147)∧wo.heap.size≤W.heap.size) (by kernel_rfl) (by kernel_rfl) ⟨.inr ⟨_,rfl,VRow.stable⟩,.inl ⟨_,rfl⟩,.inl ⟨_,rfl⟩,.inr ⟨_,rfl,VAt.stable⟩,.inl ⟨_,rfl⟩,.inl ⟨_,rfl⟩,trivial⟩ _ rfl ?_
    (refine walkP_pr (fun K hK=>?_);refine ⟨fun done W hI h0 hd hn hf R hR=>?_,fun v0=>?_⟩;(have hno : done 5 = false:=hn 5 (by decide);have hC:=hI.before hno;have HC:=Lib.hid hC;clear hC;clear h0 hd hn hf;go_simp;go_at_call 103;refine (verdicts_any W).mono ?_;rintro e w9 ⟨rfl,rfl⟩;exact ⟨_,rfl,hR _ _ (hI.step hno (by decide) (bel_alloc (Below.refl _ _) _)) (KeepFrom.of_below (bel_alloc (Below.refl _ _) _)) ⟨_,rfl,Nat.le_trans HBB.out HC.out.1,heap_last _ _⟩⟩);(go_simp;refine hK _ _ ?_;clear hK K))
    (refine walkP_ex (fun K hK=>?_);refine ⟨fun done W hI h0 hd hn hf R hR=>?_,?_⟩;(have hno : done 5 = false:=hn 5 (by decide);have hC:=hI.before hno;clear h0 hd hn hf;go_simp;exact hR _ _ (hI.step hno (by decide) (Below.refl _ _)) (KeepFrom.of_below (Below.refl _ _)) rfl);(go_simp;refine hK _ ?_;clear hK K))
    (refine walkP_ex (fun K hK=>?_);refine ⟨fun done W hI h0 hd hn hf R hR=>?_,?_⟩;(have hno : done 5 = false:=hn 5 (by decide);have hC:=hI.before hno;have hcell:=cells_of (blk_below Hrb.out hC.2);clear hC;clear h0 hd hn hf;go_simp;exact hR _ _ (hI.step hno (by decide) (Below.refl _ _)) (KeepFrom.of_below (Below.refl _ _)) rfl);(go_simp;refine hK _ ?_;clear hK K))
    (refine walkP_pr (fun K hK=>?_);refine ⟨fun done W hI h0 hd hn hf R hR=>?_,fun v3=>?_⟩;(have hno : done 5 = false:=hn 5 (by decide);have hC:=hI.before hno;have hv : VRow wo.heap.size 9 verdictRow 5 v0 W:=hf 0 (by decide);obtain ⟨b0,rfl,hb0,hc0⟩:=hv;have Hc0:=Lib.hid hc0;clear hc0 hC;clear h0 hd hn hf;go_simp;exact hR _ _ (hI.step hno (by decide) (Below.refl _ _)) (KeepFrom.of_below (Below.refl _ _)) ⟨b0,rfl,hb0,Hc0.out⟩);(go_simp;refine hK _ _ ?_;clear hK K))
    (refine walkP_ex (fun K hK=>?_);refine ⟨fun done W hI h0 hd hn hf R hR=>?_,?_⟩;(have hno : done 5 = false:=hn 5 (by decide);have hC:=hI.before hno;have hv : VAt wo.heap.size 9 verdictRow (r.verdict).toNat v3 W:=hf 3 (by decide);obtain ⟨b0,rfl,hb0,hc0⟩:=hv;have hcell:=(cells_of hc0 _).trans (verdict_cell hv0 hv1);clear hc0 hC;clear h0 hd hn hf;go_simp;exact hR _ _ (hI.step hno (by decide) (Below.refl _ _)) (KeepFrom.of_below (Below.refl _ _)) rfl);(go_simp;refine hK _ ?_;clear hK K))
    (refine walkP_ex (fun K hK=>?_);refine ⟨fun done W hI h0 hd hn hf R hR=>?_,?_⟩;(have hno : done 5 = false:=h0;have hC:=hI.before hno;have HC:=Lib.hid hC;clear hC;clear h0 hd hn hf;go_simp;go_at_call 102;refine (bwrite_any w1.heap.size w1.heap.size t (bsL (verdictW r.verdict)) W (Hbd.out.below HC.out.2) (by show _ + ((verdictW r.verdict)).toArray.size≤_;simp;omega) (by have:=Hbd.out.lt;have:=HC.out.1;omega)).mono ?_;rintro e w9 ⟨rfl,h1,h2,h3⟩;exact ⟨_,rfl,hR _ _ (LastI.at_ ⟨h1,(Hb.out.trans ((Hbb.out.trans (HC.out.2.mono HBB.out)).mono hszr)).trans h2,((Hbase.out.keep (Hbb.out.trans (HC.out.2.mono HBB.out)) h3 h2.size).2 _ (Nat.le_refl _) (by have h4:=(Array.getElem?_eq_some_iff.1 Hrb.out).1;have h5:=HC.out.1;omega)).trans (blk_below Hrb.out HC.out.2),by have h4:=HC.out.1;have h5:=HBB.out;have h6:=h2.size;omega⟩) (Hbase.out.keep (Hbb.out.trans (HC.out.2.mono HBB.out)) h3 h2.size) rfl⟩);(go_simp;refine hK _ ?_;clear hK K))
    intro done w4 hd hI _
    obtain ⟨hbd4,hb4,hrb4,hsz4⟩:=hI.after (hd 5 (by decide))
    clear hd hI
    have Hbd4:=Lib.hid hbd4
    have Hb4:=Lib.hid hb4
    have hcr:=cells_of hrb4
    have Hrd4 : Hid (RdConds w4 (fun b=>b < w.heap.size) (.slice ca r.conds.length cc) r.conds):=Hrd.out.keep (fun _ h _=>h) (fun b hb _=>by have h1 : b < w.heap.size:=hb;rw [Hb4.out.block b (by omega),Hb.out.block b (by omega)]) hsz4
    clear hbd4 hb4 hrb4 Hbd Hbb Hrb HBB
    go_wp2_with fail
    clear hcr
    go_loopw [31] (fun jv wi=>∃ j : Nat,jv = .int .i64 j∧j≤r.conds.length∧Bd w1.heap.size w1.heap.size ((t ++ verdictW r.verdict) ++ headC (r.conds.take j)) wi∧Below w1.heap.size w1 wi∧w4.heap.size≤wi.heap.size) (fun jv _=>r.conds.length - (intOf jv).toNat)
    case atStart=>exact ⟨0,rfl,by omega,by simpa [headC] using Hbd4.out,Hb4.out,Nat.le_refl _⟩
    case round =>
     obtain ⟨j,rfl,hj,hbd,hbi,hszi⟩:=hrel
     obtain ⟨wi,rfl⟩ : ∃ wi : World,wi = wr:=⟨_,rfl⟩
     have hul : ((t ++ verdictW r.verdict) ++ headC (r.conds.take j)).length≤34000:=by
      have h1:=headC_len (r.conds.take j) (fun x hx=>Hkr.out.conds x (List.mem_of_mem_take hx))
      rw [List.length_take] at h1
      have h2:=Hkr.out.len
      simp only [List.length_append];omega
     obtain ⟨u,hu⟩ : ∃ u,u = (t ++ verdictW r.verdict) ++ headC (r.conds.take j):=⟨_,rfl⟩
     rw [← hu] at hbd hul
     clear Hbase
     have Hbase:=Lib.hid hbd
     have Hbi:=Lib.hid hbi
     have Hu:=Lib.hid hu
     have hszb:=hbi.size
     clear hbd hbi hu
     by_cases hjl : j < r.conds.length
     ·obtain ⟨b2,o2,rfl,_,_⟩:=hcat (by omega)
      have Hrdi : RdConds wi (fun b=>b < w.heap.size) (.slice (some ⟨b2,o2,none⟩) r.conds.length cc) r.conds:=Hrd4.out.keep (fun _ h _=>h) (fun b hb _=>by have h1 : b < w.heap.size:=hb;rw [Hbi.out.block b (by omega),Hb4.out.block b (by omega)]) hszi
      obtain ⟨hd0,hd1,hd2⟩:=RdConds.cells Hrdi hjl
      have Hoc:=Lib.hid (Hkr.out.conds r.conds[j] (List.getElem_mem hjl))
      have Hcj:=Lib.hid (headC_take hjl)
      obtain ⟨⟨cf,cop,cv⟩,hcj⟩ : ∃ y : TCond,r.conds[j] = y:=⟨_,rfl⟩
      rw [hcj] at hd0 hd1 hd2 Hoc Hcj
      obtain ⟨hf0,hf1,ho0,ho1,hcv0,hcv1⟩:=(show (0≤cf∧cf≤4∧1≤cop∧cop≤4∧0≤cv∧cv≤65535) from ⟨Hoc.out.f0,by have h : cf < 5:=Hoc.out.f1;omega,Hoc.out.o0,Hoc.out.o1,Hoc.out.v0,by have h1:=Hoc.out.v1;have : mostOf cf≤65535:=(by unfold mostOf;split <;> (try split) <;> omega);exact Int.le_trans h1 this⟩)
      have hf5 : cf < 5:=by omega
      have ho5 : cop < 5:=by omega
      have hoz : 0≤cop:=by omega
      have hfl:=fieldW_len cf
      have hil:=Lib.itoa_length_le cv (by omega) (by omega)
      obtain ⟨s1,hs1⟩ : ∃ s1,32 :: fieldW cf = s1:=⟨_,rfl⟩
      obtain ⟨s2,hs2⟩ : ∃ s2,s1 ++ [opW cop] = s2:=⟨_,rfl⟩
      obtain ⟨s3,hs3⟩ : ∃ s3,s2 ++ Lib.itoa cv = s3:=⟨_,rfl⟩
      have hl1 : s1.length≤5:=by rw [← hs1];simp;omega
      have hl2 : s2.length≤6:=by rw [← hs2];simp;omega
      have hl3 : s3.length≤27:=by rw [← hs3];simp;omega
      have hb1 : ∀ W : World,(Op.stringOp .add ⟨#[32]⟩ (bsL (fieldW cf))).run Tryz.prog W = .ok (.string (bsL s1)) W:=fun W=>by rw [← hs1];exact add_bs [32] (fieldW cf) (by simp;omega) W
      have hb2 : ∀ W : World,(Op.stringOp .add (bsL s1) (bsL [opW cop])).run Tryz.prog W = .ok (.string (bsL s2)) W:=fun W=>by rw [← hs2];exact add_bs s1 [opW cop] (by simp;omega) W
      have hb3 : ∀ W : World,(Op.stringOp .add (bsL s2) (bsL (Lib.itoa cv))).run Tryz.prog W = .ok (.string (bsL s3)) W:=fun W=>by rw [← hs3];exact add_bs s2 (Lib.itoa cv) (by omega) W
      have HF : Hid (u ++ s3 = (t ++ verdictW r.verdict) ++ headC (r.conds.take (j + 1))):=by
       show _ = _
       rw [Hcj.out,← hs3,← hs2,← hs1,Hu.out];unfold condW;simp
      clear hs1 hs2 hs3 hl1 hl2 hcj
      go_wp2_with fail
      clear hd0 hd1 hd2
      obtain ⟨w5,hw5⟩ : ∃ w5,wi.alloc (.cells #[.int .i64 cf,.int .i64 cop,.int .i64 cv] 153) = w5:=⟨_,rfl⟩
      have Hbb : Hid (Below wi.heap.size wi w5):=by show Below _ _ _;rw [← hw5];exact bel_alloc (Below.refl _ _) _
      have Hrb : Hid (w5.heap[wi.heap.size]? = some (.cells #[.int .i64 cf,.int .i64 cop,.int .i64 cv] 153)):=by show _ = _;rw [← hw5];exact heap_last _ _
      have HBB : Hid (wi.heap.size≤w5.heap.size):=Hbb.out.size
      have Hbd:=Lib.hid (Hbase.out.below Hbb.out)
      have HLi:=Lib.hid (HL1.out.below (Hbi.out.trans (Hbb.out.mono hszb)))
      rw [hw5]
      clear hw5
      refine wp_region_lastop 16 wi.heap.size [pr (VRow wi.heap.size 9 fieldRow 5),ex (.pointer (some ⟨wi.heap.size,0,none⟩)),ex (.int .i64 cf),pr (VAt wi.heap.size 9 fieldRow cf.toNat),ex (.string (bsL (fieldW cf))),ex (.string (bsL s1)),pr (VRow wi.heap.size 9 opRow 5),ex (.pointer (some ⟨wi.heap.size,1,none⟩)),ex (.int .i64 cop),pr (VAt wi.heap.size 9 opRow cop.toNat),ex (.string (bsL [opW cop])),ex (.string (bsL s2)),ex (.pointer (some ⟨wi.heap.size,2,none⟩)),ex (.int .i64 cv),ex (.string (bsL (Lib.itoa cv))),ex (.string (bsL s3)),ex (.tuple #[.int .i64 ((bsL s3).size : Int),.nilIface])] (fun W=>Bd w1.heap.size w1.heap.size (u ++ s3) W∧Below w1.heap.size w1 W∧wi.heap.size≤W.heap.size) (by kernel_rfl) (by kernel_rfl) ⟨.inr ⟨_,rfl,VRow.stable⟩,.inl ⟨_,rfl⟩,.inl ⟨_,rfl⟩,.inr ⟨_,rfl,VAt.stable⟩,.inl ⟨_,rfl⟩,.inl ⟨_,rfl⟩,.inr ⟨_,rfl,VRow.stable⟩,.inl ⟨_,rfl⟩,.inl ⟨_,rfl⟩,.inr ⟨_,rfl,VAt.stable⟩,.inl ⟨_,rfl⟩,.inl ⟨_,rfl⟩,.inl ⟨_,rfl⟩,.inl ⟨_,rfl⟩,.inl ⟨_,rfl⟩,.inl ⟨_,rfl⟩,.inl ⟨_,rfl⟩,trivial⟩ _ rfl ?_
      (refine walkP_pr (fun K hK=>?_);refine ⟨fun done W hI h0 hd hn hf R hR=>?_,fun v0=>?_⟩;(have hno : done 16 = false:=hn 16 (by decide);have hC:=hI.before hno;have HC:=Lib.hid hC;clear hC;clear h0 hd hn hf;go_simp;go_at_call 104;refine (fields_any W).mono ?_;rintro e w9 ⟨rfl,rfl⟩;exact ⟨_,rfl,hR _ _ (hI.step hno (by decide) (bel_alloc (Below.refl _ _) _)) (KeepFrom.of_below (bel_alloc (Below.refl _ _) _)) ⟨_,rfl,Nat.le_trans HBB.out HC.out.1,heap_last _ _⟩⟩);(go_simp;refine hK _ _ ?_;clear hK K))
      (refine walkP_ex (fun K hK=>?_);refine ⟨fun done W hI h0 hd hn hf R hR=>?_,?_⟩;(have hno : done 16 = false:=hn 16 (by decide);have hC:=hI.before hno;clear h0 hd hn hf;go_simp;exact hR _ _ (hI.step hno (by decide) (Below.refl _ _)) (KeepFrom.of_below (Below.refl _ _)) rfl);(go_simp;refine hK _ ?_;clear hK K))
      (refine walkP_ex (fun K hK=>?_);refine ⟨fun done W hI h0 hd hn hf R hR=>?_,?_⟩;(have hno : done 16 = false:=hn 16 (by decide);have hC:=hI.before hno;have hcell:=cells_of (blk_below Hrb.out hC.2);clear hC;clear h0 hd hn hf;go_simp;exact hR _ _ (hI.step hno (by decide) (Below.refl _ _)) (KeepFrom.of_below (Below.refl _ _)) rfl);(go_simp;refine hK _ ?_;clear hK K))
      (refine walkP_pr (fun K hK=>?_);refine ⟨fun done W hI h0 hd hn hf R hR=>?_,fun v3=>?_⟩;(have hno : done 16 = false:=hn 16 (by decide);have hC:=hI.before hno;have hv : VRow wi.heap.size 9 fieldRow 5 v0 W:=hf 0 (by decide);obtain ⟨b0,rfl,hb0,hc0⟩:=hv;have Hc0:=Lib.hid hc0;clear hc0 hC;clear h0 hd hn hf;go_simp;exact hR _ _ (hI.step hno (by decide) (Below.refl _ _)) (KeepFrom.of_below (Below.refl _ _)) ⟨b0,rfl,hb0,Hc0.out⟩);(go_simp;refine hK _ _ ?_;clear hK K))
      (refine walkP_ex (fun K hK=>?_);refine ⟨fun done W hI h0 hd hn hf R hR=>?_,?_⟩;(have hno : done 16 = false:=hn 16 (by decide);have hC:=hI.before hno;have hv : VAt wi.heap.size 9 fieldRow cf.toNat v3 W:=hf 3 (by decide);obtain ⟨b0,rfl,hb0,hc0⟩:=hv;have hcell:=(cells_of hc0 _).trans (field_cell hf0 hf1);clear hc0 hC;clear h0 hd hn hf;go_simp;exact hR _ _ (hI.step hno (by decide) (Below.refl _ _)) (KeepFrom.of_below (Below.refl _ _)) rfl);(go_simp;refine hK _ ?_;clear hK K))
      (refine walkP_ex (fun K hK=>?_);refine ⟨fun done W hI h0 hd hn hf R hR=>?_,?_⟩;(have hno : done 16 = false:=hn 16 (by decide);have hC:=hI.before hno;clear h0 hd hn hf;go_simp;exact hR _ _ (hI.step hno (by decide) (Below.refl _ _)) (KeepFrom.of_below (Below.refl _ _)) rfl);(go_simp;refine hK _ ?_;clear hK K))
      (refine walkP_pr (fun K hK=>?_);refine ⟨fun done W hI h0 hd hn hf R hR=>?_,fun v6=>?_⟩;(have hno : done 16 = false:=hn 16 (by decide);have hC:=hI.before hno;have HC:=Lib.hid hC;clear hC;clear h0 hd hn hf;go_simp;go_at_call 105;refine (ops_any W).mono ?_;rintro e w9 ⟨rfl,rfl⟩;exact ⟨_,rfl,hR _ _ (hI.step hno (by decide) (bel_alloc (Below.refl _ _) _)) (KeepFrom.of_below (bel_alloc (Below.refl _ _) _)) ⟨_,rfl,Nat.le_trans HBB.out HC.out.1,heap_last _ _⟩⟩);(go_simp;refine hK _ _ ?_;clear hK K))
      (refine walkP_ex (fun K hK=>?_);refine ⟨fun done W hI h0 hd hn hf R hR=>?_,?_⟩;(have hno : done 16 = false:=hn 16 (by decide);have hC:=hI.before hno;clear h0 hd hn hf;go_simp;exact hR _ _ (hI.step hno (by decide) (Below.refl _ _)) (KeepFrom.of_below (Below.refl _ _)) rfl);(go_simp;refine hK _ ?_;clear hK K))
      (refine walkP_ex (fun K hK=>?_);refine ⟨fun done W hI h0 hd hn hf R hR=>?_,?_⟩;(have hno : done 16 = false:=hn 16 (by decide);have hC:=hI.before hno;have hcell:=cells_of (blk_below Hrb.out hC.2);clear hC;clear h0 hd hn hf;go_simp;exact hR _ _ (hI.step hno (by decide) (Below.refl _ _)) (KeepFrom.of_below (Below.refl _ _)) rfl);(go_simp;refine hK _ ?_;clear hK K))
      (refine walkP_pr (fun K hK=>?_);refine ⟨fun done W hI h0 hd hn hf R hR=>?_,fun v9=>?_⟩;(have hno : done 16 = false:=hn 16 (by decide);have hC:=hI.before hno;have hv : VRow wi.heap.size 9 opRow 5 v6 W:=hf 6 (by decide);obtain ⟨b0,rfl,hb0,hc0⟩:=hv;have Hc0:=Lib.hid hc0;clear hc0 hC;clear h0 hd hn hf;go_simp;exact hR _ _ (hI.step hno (by decide) (Below.refl _ _)) (KeepFrom.of_below (Below.refl _ _)) ⟨b0,rfl,hb0,Hc0.out⟩);(go_simp;refine hK _ _ ?_;clear hK K))
      (refine walkP_ex (fun K hK=>?_);refine ⟨fun done W hI h0 hd hn hf R hR=>?_,?_⟩;(have hno : done 16 = false:=hn 16 (by decide);have hC:=hI.before hno;have hv : VAt wi.heap.size 9 opRow cop.toNat v9 W:=hf 9 (by decide);obtain ⟨b0,rfl,hb0,hc0⟩:=hv;have hcell:=(cells_of hc0 _).trans (op_cell ho0 ho1);clear hc0 hC;clear h0 hd hn hf;go_simp;exact hR _ _ (hI.step hno (by decide) (Below.refl _ _)) (KeepFrom.of_below (Below.refl _ _)) rfl);(go_simp;refine hK _ ?_;clear hK K))
      (refine walkP_ex (fun K hK=>?_);refine ⟨fun done W hI h0 hd hn hf R hR=>?_,?_⟩;(have hno : done 16 = false:=hn 16 (by decide);have hC:=hI.before hno;clear h0 hd hn hf;go_simp;exact hR _ _ (hI.step hno (by decide) (Below.refl _ _)) (KeepFrom.of_below (Below.refl _ _)) rfl);(go_simp;refine hK _ ?_;clear hK K))
      (refine walkP_ex (fun K hK=>?_);refine ⟨fun done W hI h0 hd hn hf R hR=>?_,?_⟩;(have hno : done 16 = false:=hn 16 (by decide);have hC:=hI.before hno;clear h0 hd hn hf;go_simp;exact hR _ _ (hI.step hno (by decide) (Below.refl _ _)) (KeepFrom.of_below (Below.refl _ _)) rfl);(go_simp;refine hK _ ?_;clear hK K))
      (refine walkP_ex (fun K hK=>?_);refine ⟨fun done W hI h0 hd hn hf R hR=>?_,?_⟩;(have hno : done 16 = false:=hn 16 (by decide);have hC:=hI.before hno;have hcell:=cells_of (blk_below Hrb.out hC.2);clear hC;clear h0 hd hn hf;go_simp;exact hR _ _ (hI.step hno (by decide) (Below.refl _ _)) (KeepFrom.of_below (Below.refl _ _)) rfl);(go_simp;refine hK _ ?_;clear hK K))
      (refine walkP_ex (fun K hK=>?_);refine ⟨fun done W hI h0 hd hn hf R hR=>?_,?_⟩;(have hno : done 16 = false:=hn 16 (by decide);have hC:=hI.before hno;have hLW:=HLi.out.below hC.2;have HC:=Lib.hid hC;clear hC;clear h0 hd hn hf;go_simp;go_at_call 65;refine (itoa_any cv (by omega) (by omega) _ hLW).mono ?_;rintro e w9 ⟨rfl,hb9⟩;exact ⟨_,rfl,hR _ _ (hI.step hno (by decide) hb9) (KeepFrom.of_below hb9) rfl⟩);(go_simp;refine hK _ ?_;clear hK K))
      (refine walkP_ex (fun K hK=>?_);refine ⟨fun done W hI h0 hd hn hf R hR=>?_,?_⟩;(have hno : done 16 = false:=hn 16 (by decide);have hC:=hI.before hno;clear h0 hd hn hf;go_simp;exact hR _ _ (hI.step hno (by decide) (Below.refl _ _)) (KeepFrom.of_below (Below.refl _ _)) rfl);(go_simp;refine hK _ ?_;clear hK K))
      (refine walkP_ex (fun K hK=>?_);refine ⟨fun done W hI h0 hd hn hf R hR=>?_,?_⟩;(have hno : done 16 = false:=h0;have hC:=hI.before hno;have HC:=Lib.hid hC;clear hC;clear h0 hd hn hf;go_simp;go_at_call 102;refine (bwrite_any w1.heap.size w1.heap.size u (bsL s3) W (Hbd.out.below HC.out.2) (by show _ + (s3).toArray.size≤_;simp;omega) (by have:=Hbd.out.lt;have:=HC.out.1;omega)).mono ?_;rintro e w9 ⟨rfl,h1,h2,h3⟩;exact ⟨_,rfl,hR _ _ (LastI.at_ ⟨h1,(Hbi.out.trans ((Hbb.out.trans (HC.out.2.mono HBB.out)).mono hszb)).trans h2,by have h4:=HC.out.1;have h5:=HBB.out;have h6:=h2.size;omega⟩) (Hbase.out.keep (Hbb.out.trans (HC.out.2.mono HBB.out)) h3 h2.size) rfl⟩);(go_simp;refine hK _ ?_;clear hK K))
      intro done w6 hd hI _
      obtain ⟨hbd6,hb6,hsz6⟩:=hI.after (hd 16 (by decide))
      clear hd hI
      have Hbd6:=Lib.hid hbd6
      have Hb6:=Lib.hid hb6
      clear hbd6 hb6 hb1 hb2 hb3
      go_wp2
      go_roundw
      case rel=>first | exact ⟨j + 1,by go_num,by omega,by rw [← HF.out];exact Hbd6.out,Hb6.out,by omega⟩ | ((repeat apply Exists.intro);exact ⟨⟨j + 1,by go_num,by omega,by rw [← HF.out];exact Hbd6.out,Hb6.out,by omega⟩,rfl⟩)
      case measure=>simp [intOf];omega
     ·obtain rfl : j = r.conds.length:=by omega
      have HF : Hid (u ++ (bsL [59]).data.toList = headP (p.rules.take (k + 1))):=by
       show _ = _
       rw [Htk.out,Hu.out,List.take_length,Ht.out,bsL_toList];unfold ruleW headC;simp
      go_wp2_with (go_at_call 102;refine (bwrite_any w1.heap.size w1.heap.size u (bsL [59]) _ Hbase.out (by show _ + 1≤_;omega) (by omega)).mono ?_;rintro e w9 ⟨rfl,h1,h2,_⟩;have H9:=Lib.hid h1;have Hb9:=Lib.hid (Hbi.out.trans h2);clear h1 h2)
      go_roundw
      case rel=>first | exact ⟨k + 1,by go_num,by omega,by rw [← HF.out];exact H9.out,Hb9.out⟩ | ((repeat apply Exists.intro);exact ⟨⟨k + 1,by go_num,by omega,by rw [← HF.out];exact H9.out,Hb9.out⟩,rfl⟩)
      case measure=>simp [intOf];omega
   ·obtain rfl : k = p.rules.length:=by omega
    have hd0:=Hok.out.d0
    have hd1:=Hok.out.d1
    have hd5 : p.dflt < 5:=by omega
    have hvl:=verdictW_len p.dflt
    have Hbb:=Lib.hid (Below.refl wo.heap.size wo)
    have HBB : Hid (wo.heap.size≤wo.heap.size):=Nat.le_refl _
    have Hbd:=Lib.hid Hbase.out
    have Hrb : Hid (wo.heap[w.heap.size]? = some (.cells #[.slice a p.rules.length c,.int .i64 p.dflt] 38)):=HBr.out.at_ 0 _ rfl
    go_wp2_with fail
    refine wp_region_lastop 5 wo.heap.size [pr (VRow wo.heap.size 9 verdictRow 5),ex (.pointer (some ⟨w.heap.size,1,none⟩)),ex (.int .i64 p.dflt),pr (VAt wo.heap.size 9 verdictRow (p.dflt).toNat),ex (.string (bsL (verdictW p.dflt))),ex (.tuple #[.int .i64 ((bsL (verdictW p.dflt)).size : Int),.nilIface])] (fun W=>Bd w1.heap.size w1.heap.size (t ++ verdictW p.dflt) W∧Below w1.heap.size w1 W) (by kernel_rfl) (by kernel_rfl) ⟨.inr ⟨_,rfl,VRow.stable⟩,.inl ⟨_,rfl⟩,.inl ⟨_,rfl⟩,.inr ⟨_,rfl,VAt.stable⟩,.inl ⟨_,rfl⟩,.inl ⟨_,rfl⟩,trivial⟩ _ rfl ?_
    (refine walkP_pr (fun K hK=>?_);refine ⟨fun done W hI h0 hd hn hf R hR=>?_,fun v0=>?_⟩;(have hno : done 5 = false:=hn 5 (by decide);have hC:=hI.before hno;have HC:=Lib.hid hC;clear hC;clear h0 hd hn hf;go_simp;go_at_call 103;refine (verdicts_any W).mono ?_;rintro e w9 ⟨rfl,rfl⟩;exact ⟨_,rfl,hR _ _ (hI.step hno (by decide) (bel_alloc (Below.refl _ _) _)) (KeepFrom.of_below (bel_alloc (Below.refl _ _) _)) ⟨_,rfl,Nat.le_trans HBB.out HC.out.1,heap_last _ _⟩⟩);(go_simp;refine hK _ _ ?_;clear hK K))
    (refine walkP_ex (fun K hK=>?_);refine ⟨fun done W hI h0 hd hn hf R hR=>?_,?_⟩;(have hno : done 5 = false:=hn 5 (by decide);have hC:=hI.before hno;clear h0 hd hn hf;go_simp;exact hR _ _ (hI.step hno (by decide) (Below.refl _ _)) (KeepFrom.of_below (Below.refl _ _)) rfl);(go_simp;refine hK _ ?_;clear hK K))
    (refine walkP_ex (fun K hK=>?_);refine ⟨fun done W hI h0 hd hn hf R hR=>?_,?_⟩;(have hno : done 5 = false:=hn 5 (by decide);have hC:=hI.before hno;have hcell:=cells_of (blk_below Hrb.out hC.2);clear hC;clear h0 hd hn hf;go_simp;exact hR _ _ (hI.step hno (by decide) (Below.refl _ _)) (KeepFrom.of_below (Below.refl _ _)) rfl);(go_simp;refine hK _ ?_;clear hK K))
    (refine walkP_pr (fun K hK=>?_);refine ⟨fun done W hI h0 hd hn hf R hR=>?_,fun v3=>?_⟩;(have hno : done 5 = false:=hn 5 (by decide);have hC:=hI.before hno;have hv : VRow wo.heap.size 9 verdictRow 5 v0 W:=hf 0 (by decide);obtain ⟨b0,rfl,hb0,hc0⟩:=hv;have Hc0:=Lib.hid hc0;clear hc0 hC;clear h0 hd hn hf;go_simp;exact hR _ _ (hI.step hno (by decide) (Below.refl _ _)) (KeepFrom.of_below (Below.refl _ _)) ⟨b0,rfl,hb0,Hc0.out⟩);(go_simp;refine hK _ _ ?_;clear hK K))
    (refine walkP_ex (fun K hK=>?_);refine ⟨fun done W hI h0 hd hn hf R hR=>?_,?_⟩;(have hno : done 5 = false:=hn 5 (by decide);have hC:=hI.before hno;have hv : VAt wo.heap.size 9 verdictRow (p.dflt).toNat v3 W:=hf 3 (by decide);obtain ⟨b0,rfl,hb0,hc0⟩:=hv;have hcell:=(cells_of hc0 _).trans (verdict_cell hd0 hd1);clear hc0 hC;clear h0 hd hn hf;go_simp;exact hR _ _ (hI.step hno (by decide) (Below.refl _ _)) (KeepFrom.of_below (Below.refl _ _)) rfl);(go_simp;refine hK _ ?_;clear hK K))
    (refine walkP_ex (fun K hK=>?_);refine ⟨fun done W hI h0 hd hn hf R hR=>?_,?_⟩;(have hno : done 5 = false:=h0;have hC:=hI.before hno;have HC:=Lib.hid hC;clear hC;clear h0 hd hn hf;go_simp;go_at_call 102;refine (bwrite_any w1.heap.size w1.heap.size t (bsL (verdictW p.dflt)) W (Hbd.out.below HC.out.2) (by show _ + ((verdictW p.dflt)).toArray.size≤_;simp;omega) (by have:=Hbd.out.lt;have:=HC.out.1;omega)).mono ?_;rintro e w9 ⟨rfl,h1,h2,h3⟩;exact ⟨_,rfl,hR _ _ (LastI.at_ ⟨h1,(Hb.out.trans (HC.out.2.mono hszr)).trans h2⟩) (Hbase.out.keep (Hbb.out.trans (HC.out.2.mono HBB.out)) h3 h2.size) rfl⟩);(go_simp;refine hK _ ?_;clear hK K))
    intro done w4 hd hI _
    obtain ⟨hbd4,hb4⟩:=hI.after (hd 5 (by decide))
    clear hd hI
    have HF : Hid (t ++ verdictW p.dflt = textP p):=by
     show _ = _
     rw [Ht.out,List.take_length];rfl
    have hne : t ++ verdictW p.dflt ≠ []:=by
     unfold verdictW
     repeat (split;· simp)
     simp
    have Hne:=Lib.hid hne
    have Hbd4:=Lib.hid hbd4
    have Hb4:=Lib.hid hb4
    clear hbd4 hb4 hne
    go_wp2_with fail
    refine (bstring_any w1.heap.size w1.heap.size _ _ Hbd4.out Hne.out).mono ?_
    rintro e w5 ⟨rfl,hb5⟩
    have HBf:=Lib.hid (HB.out.bel.trans ((Hb4.out.trans hb5).mono HB.out.bel.size))
    clear hb5
    go_wp2
    go_ret2
    exact ⟨by rw [HE.out,← HF.out];rfl,HBf.out⟩
 ·have HE : Hid (printE p = ([],polE p)):=if_neg h0
  have hne : (polE p != 0) = true:=bne_iff_ne.2 h0
  have HBf:=Lib.hid HB.out.bel
  generalize polE p = E at *
  clear h0
  go_wp2
  go_ret2
  exact ⟨by rw [HE.out];rfl,HBf.out⟩
end Go.Proofs.YthkgjohhbdipcaaGreatDoor
namespace Go.Proofs.YthkgjohhbdipcaaGreatDoor
def insU (x : Int) : List Int → List Int
 | []=>[x]
 | y :: l=>if x < y then x :: y :: l else if x = y then y :: l else y :: insU x l
def Rising (l : List Int) : Prop:=l.Pairwise (· < ·)
theorem mem_insU (x z : Int) : ∀ l : List Int,z ∈ insU x l ↔ z = x ∨ z ∈ l
 | []=>by simp [insU]
 | y :: l=>by
  unfold insU
  split
  ·simp
  ·split
   ·rename_i h;subst h;simp
   ·simp only [List.mem_cons,mem_insU x z l]
    constructor
    ·rintro (h | h | h) <;> simp [h]
    ·rintro (h | h | h) <;> simp [h]
theorem rising_insU (x : Int) : ∀ l : List Int,Rising l → Rising (insU x l)
 | [],_=>by simp [insU,Rising]
 | y :: l,h=>by
  unfold Rising at h
  obtain ⟨h1,h2⟩:=List.pairwise_cons.1 h
  unfold insU
  split
  ·rename_i hlt
   refine List.pairwise_cons.2 ⟨fun z hz=>?_,h⟩
   rcases List.mem_cons.1 hz with rfl | hz
   ·exact hlt
   ·have:=h1 z hz;omega
  ·split
   ·exact h
   ·rename_i h3 h4
    refine List.pairwise_cons.2 ⟨fun z hz=>?_,rising_insU x l h2⟩
    rcases (mem_insU x z l).1 hz with rfl | hz
    ·omega
    ·exact h1 z hz
def setOf : List Int → List Int
 | []=>[]
 | x :: l=>insU x (setOf l)
theorem mem_setOf (z : Int) : ∀ l : List Int,z ∈ setOf l ↔ z ∈ l
 | []=>by simp [setOf]
 | x :: l=>by simp [setOf,mem_insU,mem_setOf z l]
theorem rising_setOf : ∀ l : List Int,Rising (setOf l)
 | []=>List.Pairwise.nil
 | x :: l=>rising_insU x _ (rising_setOf l)
theorem rising_unique : ∀ (l m : List Int),Rising l → Rising m → (∀ z,z ∈ l ↔ z ∈ m) → l = m
 | [],[],_,_,_=>rfl
 | [],y :: m,_,_,h=>by have:=(h y).2 (List.mem_cons_self ..);simp at this
 | x :: l,[],_,_,h=>by have:=(h x).1 (List.mem_cons_self ..);simp at this
 | x :: l,y :: m,hl,hm,h=>by
  obtain ⟨h1,h2⟩:=List.pairwise_cons.1 hl
  obtain ⟨h3,h4⟩:=List.pairwise_cons.1 hm
  have hxy : x = y:=by
   have a:=(h x).1 (List.mem_cons_self ..)
   have b:=(h y).2 (List.mem_cons_self ..)
   rcases List.mem_cons.1 a with a | a
   ·exact a
   ·rcases List.mem_cons.1 b with b | b
    ·exact b.symm
    ·have:=h1 _ b;have:=h3 _ a;omega
  subst hxy
  rw [rising_unique l m h2 h4 (fun z=>?_)]
  constructor
  ·intro hz
   rcases List.mem_cons.1 ((h z).1 (List.mem_cons_of_mem _ hz)) with rfl | hz'
   ·have:=h1 _ hz;omega
   ·exact hz'
  ·intro hz
   rcases List.mem_cons.1 ((h z).2 (List.mem_cons_of_mem _ hz)) with rfl | hz'
   ·have:=h3 _ hz;omega
   ·exact hz'
theorem rising_filter {l : List Int} (p : Int → Bool) (h : Rising l) : Rising (l.filter p):=List.Pairwise.sublist (List.filter_sublist) h
def condCuts (f : Int) (c : TCond) : List Int:=if c.f = f then (if c.op = 1 ∨ c.op = 2 then [c.v,c.v + 1] else [c.v]) else []
def ruleCuts (f : Int) (r : TRule) : List Int:=r.conds.flatMap (condCuts f)
def polCuts (f : Int) (p : TPol) : List Int:=p.rules.flatMap (ruleCuts f)
def cutVals (l : List TPol) (f : Int) : List Int:=0 :: l.flatMap (polCuts f)
def cutsOf (l : List TPol) (f : Int) : List Int:=(setOf (cutVals l f)).filter fun n=>decide (n≤mostOf f)
theorem rising_cuts (l : List TPol) (f : Int) : Rising (cutsOf l f):=rising_filter _ (rising_setOf _)
theorem mem_cuts {l : List TPol} {f n : Int} : n ∈ cutsOf l f ↔ n ∈ cutVals l f∧n≤mostOf f:=by
 unfold cutsOf;rw [List.mem_filter,mem_setOf];simp
theorem most_pos (f : Int) : 0≤mostOf f:=by unfold mostOf;split <;> (try split) <;> omega
theorem zero_cut (l : List TPol) (f : Int) : 0 ∈ cutsOf l f:=mem_cuts.2 ⟨List.mem_cons_self ..,most_pos f⟩
theorem cuts_pos (l : List TPol) (f : Int) : 0 < (cutsOf l f).length:=List.length_pos_of_mem (zero_cut l f)
theorem mem_vals {l : List TPol} {f n : Int} : n ∈ cutVals l f ↔ n = 0 ∨ ∃ p ∈ l,∃ r ∈ p.rules,∃ c ∈ r.conds,n ∈ condCuts f c:=by
 unfold cutVals polCuts ruleCuts
 simp only [List.mem_cons,List.mem_flatMap]
theorem mem_condCuts {f n : Int} {c : TCond} : n ∈ condCuts f c ↔ c.f = f∧(n = c.v ∨ ((c.op = 1 ∨ c.op = 2)∧n = c.v + 1)):=by
 unfold condCuts
 split
 ·rename_i h
  split
  ·rename_i h';simp [h,h']
  ·rename_i h';simp [h,h']
 ·rename_i h;simp [h]
def polsE : List TPol → Int
 | []=>0
 | p :: l=>if polE p = 0 then polsE l else polE p
theorem polsE_iff : ∀ l : List TPol,polsE l = 0 ↔ ∀ p ∈ l,OkPol p
 | []=>by simp [polsE]
 | p :: l=>by
  simp only [polsE,List.mem_cons,forall_eq_or_imp]
  rw [← polsE_iff l,← okPol_iff p]
  split
  ·rename_i h;simp [h]
  ·rename_i h;simp [h]
theorem polsE_drop (l : List TPol) (k : Nat) (h : k < l.length) : polsE (l.drop k) = if polE l[k] = 0 then polsE (l.drop (k + 1)) else polE l[k]:=by
 rw [List.drop_eq_getElem_cons h];rfl
theorem cuts_range {l : List TPol} (h : ∀ p ∈ l,OkPol p) {f n : Int} (hn : n ∈ cutsOf l f) : 0≤n∧n≤mostOf f:=by
 obtain ⟨h1,h2⟩:=mem_cuts.1 hn
 refine ⟨?_,h2⟩
 rcases mem_vals.1 h1 with rfl | ⟨p,hp,r,hr,c,hc,hm⟩
 ·omega
 ·have:=((h p hp).rules r hr).conds c hc
  obtain ⟨_,h | ⟨_,h⟩⟩:=mem_condCuts.1 hm <;> have:=this.v0 <;> omega
def best (n : Int) : List Int → Int → Int
 | [],b=>b
 | m :: l,b=>if m≤n then best n l m else best n l b
theorem best_spec (n : Int) : ∀ (l : List Int) (b : Int),Rising l → (∀ m ∈ l,b < m) → b≤n → (best n l b = b ∨ best n l b ∈ l)∧best n l b≤n∧b≤best n l b∧∀ m ∈ l,m≤n → m≤best n l b
 | [],b,_,_,hb=>by simp [best];exact hb
 | m :: l,b,h,hm,hb=>by
  obtain ⟨h1,h2⟩:=List.pairwise_cons.1 h
  unfold best
  split
  ·rename_i hle
   obtain ⟨a1,a2,a3,a4⟩:=best_spec n l m h2 h1 hle
   have:=hm m (List.mem_cons_self ..)
   refine ⟨?_,a2,by omega,fun z hz hzn=>?_⟩
   ·rcases a1 with a1 | a1
    ·right;rw [a1];exact List.mem_cons_self ..
    ·right;exact List.mem_cons_of_mem _ a1
   ·rcases List.mem_cons.1 hz with rfl | hz
    ·exact a3
    ·exact a4 z hz hzn
  ·rename_i hle
   obtain ⟨a1,a2,a3,a4⟩:=best_spec n l b h2 (fun z hz=>hm z (List.mem_cons_of_mem _ hz)) hb
   refine ⟨?_,a2,a3,fun z hz hzn=>?_⟩
   ·rcases a1 with a1 | a1
    ·exact .inl a1
    ·right;exact List.mem_cons_of_mem _ a1
   ·rcases List.mem_cons.1 hz with rfl | hz
    ·omega
    ·exact a4 z hz hzn
def homeCut (l : List TPol) (f n : Int) : Int:=best n (cutsOf l f) 0
theorem best_zero {n : Int} {l : List Int} (hr : Rising l) (h0 : 0 ∈ l) (hp : ∀ m ∈ l,0≤m) (hn : 0≤n) : best n l 0 ∈ l∧best n l 0≤n∧∀ m ∈ l,m≤n → m≤best n l 0:=by
 cases l with
 | nil=>simp at h0
 | cons z l =>
  obtain ⟨h1,h2⟩:=List.pairwise_cons.1 hr
  have hz : z = 0:=by
   rcases List.mem_cons.1 h0 with h | h
   ·exact h.symm
   ·have:=h1 _ h;have:=hp z (List.mem_cons_self ..);omega
  subst hz
  obtain ⟨a1,a2,a3,a4⟩:=best_spec n l 0 h2 h1 hn
  have e : best n (0 :: l) 0 = best n l 0:=by
   show (if (0 : Int)≤n then _ else _) = _
   rw [if_pos hn]
  rw [e]
  refine ⟨?_,a2,fun m hm hmn=>?_⟩
  ·rcases a1 with a1 | a1
   ·rw [a1];exact List.mem_cons_self ..
   ·exact List.mem_cons_of_mem _ a1
  ·rcases List.mem_cons.1 hm with rfl | hm
   ·exact a3
   ·exact a4 m hm hmn
theorem homeCut_spec {l : List TPol} (h : ∀ p ∈ l,OkPol p) {f n : Int} (hn : 0≤n) : homeCut l f n ∈ cutsOf l f∧homeCut l f n≤n∧∀ m ∈ cutsOf l f,m≤n → m≤homeCut l f n :=
 best_zero (rising_cuts l f) (zero_cut l f) (fun _ hm=>(cuts_range h hm).1) hn
def homeOf (l : List TPol) (x : TCall) : TCall:=⟨homeCut l 0 x.a0,homeCut l 1 x.a1,homeCut l 2 x.a2,homeCut l 3 x.a3,homeCut l 4 x.a4⟩
theorem get_home (l : List TPol) (x : TCall) {f : Int} (h0 : 0≤f) (h1 : f < 5) : (homeOf l x).get f = homeCut l f (x.get f):=by
 have hf : f = 0 ∨ f = 1 ∨ f = 2 ∨ f = 3 ∨ f = 4:=by omega
 rcases hf with rfl | rfl | rfl | rfl | rfl <;> rfl
theorem ok_get {x : TCall} (h : x.ok) {f : Int} (h0 : 0≤f) (h1 : f < 5) : 0≤x.get f∧x.get f≤mostOf f:=by
 have:=TCall.ok_get h (k:=f.toNat) (by omega)
 rwa [Int.toNat_of_nonneg h0] at this
theorem holds_home {l : List TPol} (h : ∀ p ∈ l,OkPol p) {x : TCall} (hx : x.ok) {p : TPol} (hp : p ∈ l) {r : TRule} (hr : r ∈ p.rules) {c : TCond} (hc : c ∈ r.conds) : holdsB c (homeOf l x) = holdsB c x:=by
 have ok:=((h p hp).rules r hr).conds c hc
 have hg:=ok_get hx ok.f0 ok.f1
 obtain ⟨a1,a2,a3⟩:=homeCut_spec h (f:=c.f) hg.1
 have hv : c.v ∈ cutsOf l c.f:=mem_cuts.2 ⟨mem_vals.2 (.inr ⟨p,hp,r,hr,c,hc,mem_condCuts.2 ⟨rfl,.inl rfl⟩⟩),ok.v1⟩
 have hv1 : (c.op = 1 ∨ c.op = 2) → c.v + 1≤mostOf c.f → c.v + 1 ∈ cutsOf l c.f:=fun ho hle=>mem_cuts.2 ⟨mem_vals.2 (.inr ⟨p,hp,r,hr,c,hc,mem_condCuts.2 ⟨rfl,.inr ⟨ho,rfl⟩⟩⟩),hle⟩
 unfold holdsB
 rw [get_home l x ok.f0 ok.f1]
 generalize hn : x.get c.f = n at *
 generalize hh : homeCut l c.f n = m at *
 have key1 : (c.op = 1 ∨ c.op = 2) → (m = c.v ↔ n = c.v):=by
  intro ho
  constructor
  ·intro e
   by_cases e' : n = c.v
   ·exact e'
   ·have:=a3 _ (hv1 ho (by omega)) (by omega);omega
  ·intro e
   have:=a3 _ hv (by omega);omega
 have key2 : (m < c.v ↔ n < c.v):=by
  constructor
  ·intro e
   by_cases e' : n < c.v
   ·exact e'
   ·have:=a3 _ hv (by omega);omega
  ·intro e;omega
 split
 ·rename_i ho
  rw [Bool.eq_iff_iff];simp [key1 (.inl ho)]
 ·split
  ·rename_i ho
   rw [Bool.eq_iff_iff];simp [key1 (.inr ho)]
  ·split
   ·rw [Bool.eq_iff_iff];simp [key2]
   ·rw [Bool.eq_iff_iff];simp;omega
theorem allHold_home {l : List TPol} (h : ∀ p ∈ l,OkPol p) {x : TCall} (hx : x.ok) {p : TPol} (hp : p ∈ l) {r : TRule} (hr : r ∈ p.rules) : allHold (homeOf l x) r.conds = allHold x r.conds:=by
 unfold allHold
 rw [Bool.eq_iff_iff,List.all_eq_true,List.all_eq_true]
 constructor
 ·intro a c hc;rw [← holds_home h hx hp hr hc];exact a c hc
 ·intro a c hc;rw [holds_home h hx hp hr hc];exact a c hc
theorem which_congr {x y : TCall} : ∀ (l : List TRule),(∀ r ∈ l,allHold x r.conds = allHold y r.conds) → which x l = which y l
 | [],_=>rfl
 | r :: l,h=>by
  unfold which
  rw [h r (List.mem_cons_self ..),which_congr l (fun r hr=>h r (List.mem_cons_of_mem _ hr))]
theorem which_home {l : List TPol} (h : ∀ p ∈ l,OkPol p) {x : TCall} (hx : x.ok) {p : TPol} (hp : p ∈ l) : which (homeOf l x) p.rules = which x p.rules :=
 which_congr _ fun _ hr=>allHold_home h hx hp hr
theorem judged_home {l : List TPol} (h : ∀ p ∈ l,OkPol p) {x : TCall} (hx : x.ok) {p : TPol} (hp : p ∈ l) : judged p (homeOf l x) = judged p x:=by
 unfold judged;rw [which_home h hx hp]
theorem homeCut_self {l : List TPol} (h : ∀ p ∈ l,OkPol p) {f n : Int} (hn : n ∈ cutsOf l f) : homeCut l f n = n:=by
 obtain ⟨a1,a2,a3⟩:=homeCut_spec h (f:=f) (n:=n) (cuts_range h hn).1
 have:=a3 n hn (Int.le_refl _);omega
theorem home_home {l : List TPol} (h : ∀ p ∈ l,OkPol p) {x : TCall} (hx : x.ok) : homeOf l (homeOf l x) = homeOf l x:=by
 have g:=fun (f : Int) (h0 : 0≤f) (h1 : f < 5)=>homeCut_self h (homeCut_spec h (f:=f) (ok_get hx h0 h1).1).1
 have g0:=g 0 (by omega) (by omega);have g1:=g 1 (by omega) (by omega);have g2:=g 2 (by omega) (by omega);have g3:=g 3 (by omega) (by omega);have g4:=g 4 (by omega) (by omega)
 simp only [TCall.get] at g0 g1 g2 g3 g4
 simp only [homeOf]
 simp at g0 g1 g2 g3 g4
 rw [g0,g1,g2,g3,g4]
def TCall.set (x : TCall) (k : Nat) (n : Int) : TCall:=match k with
 | 0=>{ x with a0:=n } | 1=>{ x with a1:=n } | 2=>{ x with a2:=n } | 3=>{ x with a3:=n } | _=>{ x with a4:=n }
def stage (l : List TPol) : Nat → List TCall
 | 0=>[⟨0,0,0,0,0⟩]
 | k + 1=>(stage l k).flatMap fun x=>(cutsOf l k).map fun n=>x.set k n
def sizes (l : List TPol) : Nat → Nat
 | 0=>1
 | k + 1=>sizes l k * (cutsOf l k).length
theorem stage_length (l : List TPol) : ∀ k,(stage l k).length = sizes l k
 | 0=>rfl
 | k + 1=>by
  simp only [stage,sizes,List.length_flatMap,List.length_map]
  rw [← stage_length l k]
  generalize (cutsOf l k).length = m
  induction stage l k with
  | nil=>simp
  | cons x r ih=>simp [ih,Nat.add_mul];omega
theorem sizes_mono (l : List TPol) (k : Nat) : sizes l k≤sizes l (k + 1):=Nat.le_mul_of_pos_right _ (cuts_pos l k)
theorem sizes_le (l : List TPol) {k m : Nat} (h : k≤m) : sizes l k≤sizes l m:=by
 induction h with
 | refl=>exact Nat.le_refl _
 | step _ ih=>exact Nat.le_trans ih (sizes_mono l _)
def pointsE (l : List TPol) : List TCall × Int:=if polsE l ≠ 0 then ([],polsE l) else if 1000 < sizes l 5 then ([],2) else (stage l 5,0)
theorem mem_stage {l : List TPol} {y : TCall} : ∀ {k : Nat},y ∈ stage l (k + 1) ↔ ∃ x ∈ stage l k,∃ n ∈ cutsOf l k,y = x.set k n:=by
 intro k
 simp only [stage,List.mem_flatMap,List.mem_map]
 constructor
 ·rintro ⟨x,hx,n,hn,rfl⟩;exact ⟨x,hx,n,hn,rfl⟩
 ·rintro ⟨x,hx,n,hn,rfl⟩;exact ⟨x,hx,n,hn,rfl⟩
theorem mem_points {l : List TPol} {y : TCall} : y ∈ stage l 5 ↔ y.a0 ∈ cutsOf l 0∧y.a1 ∈ cutsOf l 1∧y.a2 ∈ cutsOf l 2∧y.a3 ∈ cutsOf l 3∧y.a4 ∈ cutsOf l 4:=by
 constructor
 ·intro h
  obtain ⟨x4,h4,n4,m4,rfl⟩:=mem_stage.1 h
  obtain ⟨x3,h3,n3,m3,rfl⟩:=mem_stage.1 h4
  obtain ⟨x2,h2,n2,m2,rfl⟩:=mem_stage.1 h3
  obtain ⟨x1,h1,n1,m1,rfl⟩:=mem_stage.1 h2
  obtain ⟨x0,h0,n0,m0,rfl⟩:=mem_stage.1 h1
  exact ⟨m0,m1,m2,m3,m4⟩
 ·rintro ⟨m0,m1,m2,m3,m4⟩
  refine mem_stage.2 ⟨⟨y.a0,y.a1,y.a2,y.a3,0⟩,mem_stage.2 ⟨⟨y.a0,y.a1,y.a2,0,0⟩,mem_stage.2 ⟨⟨y.a0,y.a1,0,0,0⟩,mem_stage.2 ⟨⟨y.a0,0,0,0,0⟩,mem_stage.2 ⟨⟨0,0,0,0,0⟩,List.mem_cons_self ..,y.a0,m0,rfl⟩,y.a1,m1,rfl⟩,y.a2,m2,rfl⟩,y.a3,m3,rfl⟩,y.a4,m4,rfl⟩
theorem home_point {l : List TPol} (h : ∀ p ∈ l,OkPol p) {x : TCall} (hx : x.ok) : homeOf l x ∈ stage l 5:=by
 have g:=fun (f : Int) (h0 : 0≤f) (h1 : f < 5)=>(homeCut_spec h (f:=f) (ok_get hx h0 h1).1).1
 exact mem_points.2 ⟨g 0 (by omega) (by omega),g 1 (by omega) (by omega),g 2 (by omega) (by omega),g 3 (by omega) (by omega),g 4 (by omega) (by omega)⟩
theorem point_ok {l : List TPol} (h : ∀ p ∈ l,OkPol p) {x : TCall} (hx : x ∈ stage l 5) : x.ok:=by
 obtain ⟨m0,m1,m2,m3,m4⟩:=mem_points.1 hx
 exact ⟨cuts_range h m0,cuts_range h m1,cuts_range h m2,cuts_range h m3,cuts_range h m4⟩
theorem pointsE_ok {l : List TPol} (h : (pointsE l).2 = 0) : (∀ p ∈ l,OkPol p)∧sizes l 5≤1000∧pointsE l = (stage l 5,0):=by
 unfold pointsE at h ⊢
 split at h
 ·rename_i h1;exact absurd h h1
 ·rename_i h1
  split at h
  ·simp at h
  ·rename_i h2
   exact ⟨(polsE_iff l).1 (by simpa using h1),by omega,by rw [if_neg h1,if_neg h2]⟩
theorem pointsE_of {l : List TPol} (h : ∀ p ∈ l,OkPol p) (hs : sizes l 5≤1000) : pointsE l = (stage l 5,0):=by
 unfold pointsE
 rw [if_neg (by rw [(polsE_iff l).2 h];simp),if_neg (by omega)]
end Go.Proofs.YthkgjohhbdipcaaGreatDoor
namespace Go.Proofs.YthkgjohhbdipcaaGreatDoor
def zeroCall : TCall:=⟨0,0,0,0,0⟩
def says (p : TPol) (x : TCall) : Int:=(judged p x).1
def looserAt (p q : TPol) (x : TCall) : Bool:=decide (says q x < says p x)
def looserE (p q : TPol) : Bool × TCall × Int :=
 if (pointsE [p,q]).2 ≠ 0 then (false,zeroCall,(pointsE [p,q]).2) else match (pointsE [p,q]).1.find? (looserAt p q) with
  | some x=>(true,x,0)
  | none=>(false,zeroCall,0)
theorem says_home {l : List TPol} (h : ∀ p ∈ l,OkPol p) {x : TCall} (hx : x.ok) {p : TPol} (hp : p ∈ l) : says p (homeOf l x) = says p x:=by unfold says;rw [judged_home h hx hp]
theorem verdictAt_range {p : TPol} (h : OkPol p) (k : Nat) : 0≤verdictAt p k∧verdictAt p k≤4:=by
 unfold verdictAt
 cases hk : p.rules[k]? with
 | none=>exact ⟨h.d0,h.d1⟩
 | some r=>exact ⟨(h.rules r (List.mem_of_getElem? hk)).v0,(h.rules r (List.mem_of_getElem? hk)).v1⟩
theorem says_range {p : TPol} (h : OkPol p) (x : TCall) : 0≤says p x∧says p x≤4:=verdictAt_range h _
theorem looserE_ok {p q : TPol} (h : (looserE p q).2.2 = 0) : OkPol p∧OkPol q∧sizes [p,q] 5≤1000∧pointsE [p,q] = (stage [p,q] 5,0):=by
 have h0 : (pointsE [p,q]).2 = 0:=by
  unfold looserE at h
  split at h
  ·exact h
  ·rename_i h';simpa using h'
 obtain ⟨h1,h2,h3⟩:=pointsE_ok h0
 exact ⟨h1 p (by simp),h1 q (by simp),h2,h3⟩
def looserGo (o : Option TCall) : Bool × TCall × Int:=match o with
 | some x=>(true,x,0)
 | none=>(false,zeroCall,0)
theorem looserE_eq {p q : TPol} (h : (looserE p q).2.2 = 0) : looserE p q = looserGo ((stage [p,q] 5).find? (looserAt p q)):=by
 obtain ⟨_,_,_,h3⟩:=looserE_ok h
 unfold looserE
 rw [if_neg (by rw [h3];simp),h3]
 cases (stage [p,q] 5).find? (looserAt p q) <;> rfl
theorem looser_not {p q : TPol} (h : (looserE p q).2.2 = 0) (hl : (looserE p q).1 = false) {x : TCall} (hx : x.ok) : says p x≤says q x:=by
 obtain ⟨h1,h2,_,_⟩:=looserE_ok h
 have hall : ∀ r ∈ [p,q],OkPol r:=by intro r hr;simp at hr;rcases hr with rfl | rfl <;> assumption
 rw [looserE_eq h] at hl
 cases hf : (stage [p,q] 5).find? (looserAt p q) with
 | some x=>rw [hf] at hl;simp [looserGo] at hl
 | none =>
  have:=List.find?_eq_none.1 hf _ (home_point hall hx)
  simp only [looserAt,decide_eq_true_eq] at this
  rw [says_home hall hx (by simp),says_home hall hx (by simp)] at this
  omega
def wholeOf (p : TPol) : List TRule:=p.rules ++ [⟨[],p.dflt⟩]
def pairRule (of : Int → Int → Int) (a b : TRule) : TRule:=⟨a.conds ++ b.conds,of a.verdict b.verdict⟩
def pairs (of : Int → Int → Int) (l m : List TRule) : List TRule:=l.flatMap fun a=>m.map (pairRule of a)
def pairPol (of : Int → Int → Int) (p q : TPol) : TPol:=⟨(pairs of (wholeOf p) (wholeOf q)).dropLast,of p.dflt q.dflt⟩
def zeroPol : TPol:=⟨[],0⟩
def pairE (of : Int → Int → Int) (p q : TPol) : TPol × Int:=if polsE [p,q] ≠ 0 then (zeroPol,polsE [p,q]) else if polE (pairPol of p q) ≠ 0 then (zeroPol,polE (pairPol of p q)) else (pairPol of p q,0)
def minOf (a b : Int) : Int:=if a≤b then a else b
def exceptOf (a b : Int) : Int:=if a < b then a else 4
theorem wholeOf_len (p : TPol) : (wholeOf p).length = p.rules.length + 1:=by simp [wholeOf]
theorem pairs_len (of : Int → Int → Int) (l m : List TRule) : (pairs of l m).length = l.length * m.length:=by
 unfold pairs
 induction l with
 | nil=>simp
 | cons a l ih=>simp only [List.flatMap_cons,List.length_append,List.length_map,ih,List.length_cons,Nat.add_mul];omega
theorem pairs_last (of : Int → Int → Int) (p q : TPol) : pairs of (wholeOf p) (wholeOf q) = (pairPol of p q).rules ++ [⟨[],of p.dflt q.dflt⟩]:=by
 have e : pairs of (wholeOf p) (wholeOf q) = (pairs of p.rules (wholeOf q) ++ q.rules.map (pairRule of ⟨[],p.dflt⟩)) ++ [⟨[],of p.dflt q.dflt⟩]:=by
  unfold pairs wholeOf
  simp [List.flatMap_append,pairRule]
 show _ = (pairs of (wholeOf p) (wholeOf q)).dropLast ++ _
 rw [e,List.dropLast_concat]
theorem allHold_app (x : TCall) (a b : List TCond) : allHold x (a ++ b) = (allHold x a && allHold x b):=by unfold allHold;rw [List.all_append]
def firstOf (x : TCall) (l : List TRule) : Option TRule:=l.find? fun r=>allHold x r.conds
theorem firstOf_append (x : TCall) (l m : List TRule) : firstOf x (l ++ m) = (firstOf x l).or (firstOf x m):=by unfold firstOf;rw [List.find?_append]
theorem says_first (p : TPol) (x : TCall) : says p x = match firstOf x p.rules with | some r=>r.verdict | none=>p.dflt:=by
 obtain ⟨l,d⟩:=p
 unfold says judged
 dsimp only
 induction l with
 | nil=>rfl
 | cons r l ih =>
  unfold which firstOf
  rw [List.find?_cons]
  by_cases h : allHold x r.conds = true
  ·rw [if_pos h,h];rfl
  ·rw [if_neg h,Bool.eq_false_iff.2 h]
   exact ih
theorem first_map (of : Int → Int → Int) (x : TCall) (a : TRule) (ha : allHold x a.conds = true) : ∀ m : List TRule,firstOf x (m.map (pairRule of a)) = (firstOf x m).map (pairRule of a)
 | []=>rfl
 | b :: m=>by
  have ih:=first_map of x a ha m
  unfold firstOf at ih ⊢
  rw [List.map_cons,List.find?_cons,List.find?_cons]
  have e : allHold x (pairRule of a b).conds = allHold x b.conds:=by
   show allHold x (a.conds ++ b.conds) = _
   rw [allHold_app,ha,Bool.true_and]
  rw [e]
  cases allHold x b.conds with
  | true=>rfl
  | false=>exact ih
theorem first_map_no (of : Int → Int → Int) (x : TCall) (a : TRule) (ha : allHold x a.conds = false) : ∀ m : List TRule,firstOf x (m.map (pairRule of a)) = none
 | []=>rfl
 | b :: m=>by
  have ih:=first_map_no of x a ha m
  unfold firstOf at ih ⊢
  rw [List.map_cons,List.find?_cons]
  have e : allHold x (pairRule of a b).conds = false:=by
   show allHold x (a.conds ++ b.conds) = _
   rw [allHold_app,ha,Bool.false_and]
  rw [e]
  exact ih
theorem first_pairs (of : Int → Int → Int) (x : TCall) (m : List TRule) (b : TRule) (hb : firstOf x m = some b) : ∀ l : List TRule,firstOf x (pairs of l m) = (firstOf x l).map fun a=>pairRule of a b
 | []=>rfl
 | a :: l=>by
  have ih:=first_pairs of x m b hb l
  have e : pairs of (a :: l) m = m.map (pairRule of a) ++ pairs of l m:=by unfold pairs;rw [List.flatMap_cons]
  rw [e,firstOf_append,ih]
  have e2 : firstOf x (a :: l) = if allHold x a.conds = true then some a else firstOf x l:=by
   unfold firstOf
   rw [List.find?_cons]
   cases allHold x a.conds <;> simp
  rw [e2]
  by_cases h : allHold x a.conds = true
  ·rw [first_map of x a h,hb,if_pos h];rfl
  ·rw [first_map_no of x a (by simpa using h),if_neg h];rfl
theorem first_whole (x : TCall) (p : TPol) : ∃ r,firstOf x (wholeOf p) = some r∧r.verdict = says p x:=by
 rw [says_first]
 unfold wholeOf
 rw [firstOf_append]
 cases firstOf x p.rules with
 | none=>exact ⟨⟨[],p.dflt⟩,rfl,rfl⟩
 | some r=>exact ⟨r,rfl,rfl⟩
theorem says_pair (of : Int → Int → Int) (p q : TPol) (x : TCall) : says (pairPol of p q) x = of (says p x) (says q x):=by
 obtain ⟨a,ha,hva⟩:=first_whole x p
 obtain ⟨b,hb,hvb⟩:=first_whole x q
 have h:=first_pairs of x (wholeOf q) b hb (wholeOf p)
 rw [ha,pairs_last,firstOf_append] at h
 rw [says_first,← hva,← hvb]
 cases hf : firstOf x (pairPol of p q).rules with
 | some r =>
  rw [hf] at h
  simp only [Option.map_some,Option.some_or,Option.some.injEq] at h
  rw [h];rfl
 | none =>
  rw [hf] at h
  simp only [Option.map_some,Option.none_or] at h
  have h2 : firstOf x [(⟨[],of p.dflt q.dflt⟩ : TRule)] = some ⟨[],of p.dflt q.dflt⟩:=rfl
  rw [h2] at h
  injection h with h
  have:=congrArg TRule.verdict h
  exact this
theorem pairPol_len (of : Int → Int → Int) (p q : TPol) : (pairPol of p q).rules.length = (p.rules.length + 1) * (q.rules.length + 1) - 1:=by
 unfold pairPol
 rw [List.length_dropLast,pairs_len,wholeOf_len,wholeOf_len]
theorem pairE_ok {of : Int → Int → Int} {p q : TPol} (h : (pairE of p q).2 = 0) : OkPol p∧OkPol q∧OkPol (pairPol of p q)∧pairE of p q = (pairPol of p q,0):=by
 unfold pairE at h ⊢
 split at h
 ·rename_i h1;exact absurd h h1
 ·rename_i h1
  split at h
  ·rename_i h2;exact absurd h h2
  ·rename_i h2
   have h3:=(polsE_iff _).1 (by simpa using h1)
   exact ⟨h3 p (by simp),h3 q (by simp),(okPol_iff _).1 (by simpa using h2),by rw [if_neg h1,if_neg h2]⟩
def usedRules (ks : List Nat) : List TRule → Nat → List TRule
 | [],_=>[]
 | r :: l,i=>if ks.contains i then r :: usedRules ks l (i + 1) else usedRules ks l (i + 1)
def trimD (d : Int) : List TRule → List TRule
 | []=>[]
 | r :: l=>if trimD d l = []∧r.verdict = d then [] else r :: trimD d l
def usedBy (p : TPol) (l : List TCall) : List Nat:=l.map fun x=>which x p.rules
def shortPol (p : TPol) : TPol:=⟨trimD p.dflt (usedRules (usedBy p (stage [p] 5)) p.rules 0),p.dflt⟩
def shortE (p : TPol) : TPol × Int:=if (pointsE [p]).2 ≠ 0 then (zeroPol,(pointsE [p]).2) else (shortPol p,0)
theorem shortE_ok {p : TPol} (h : (shortE p).2 = 0) : OkPol p∧sizes [p] 5≤1000∧shortE p = (shortPol p,0):=by
 have h0 : (pointsE [p]).2 = 0:=by
  unfold shortE at h
  split at h
  ·exact h
  ·rename_i h';simpa using h'
 obtain ⟨h1,h2,h3⟩:=pointsE_ok h0
 refine ⟨h1 p (by simp),h2,?_⟩
 unfold shortE
 rw [if_neg (by rw [h0];simp)]
theorem shortE_of {p : TPol} (h : OkPol p) (hs : sizes [p] 5≤1000) : shortE p = (shortPol p,0):=by
 unfold shortE
 rw [if_neg (by rw [pointsE_of (by simpa using h) hs];simp)]
theorem usedRules_sub (ks : List Nat) : ∀ (l : List TRule) (i : Nat),(usedRules ks l i).Sublist l
 | [],_=>List.Sublist.refl _
 | r :: l,i=>by
  unfold usedRules
  split
  ·exact (usedRules_sub ks l (i + 1)).cons_cons r
  ·exact (usedRules_sub ks l (i + 1)).cons r
theorem trimD_pre (d : Int) : ∀ l : List TRule,trimD d l <+: l
 | []=>List.prefix_refl _
 | r :: l=>by
  unfold trimD
  split
  ·exact List.nil_prefix
  ·exact (List.cons_prefix_cons).2 ⟨rfl,trimD_pre d l⟩
theorem first_used (x : TCall) (ks : List Nat) : ∀ (l : List TRule) (i : Nat),(which x l < l.length → i + which x l ∈ ks) → firstOf x (usedRules ks l i) = firstOf x l
 | [],_,_=>rfl
 | r :: l,i,h=>by
  have e2 : ∀ m : List TRule,firstOf x (r :: m) = if allHold x r.conds = true then some r else firstOf x m:=fun m=>by
   unfold firstOf
   rw [List.find?_cons]
   cases allHold x r.conds <;> simp
  unfold usedRules
  by_cases hr : allHold x r.conds = true
  ·have hw : which x (r :: l) = 0:=by unfold which;rw [if_pos hr]
   have hi:=h (by rw [hw];simp)
   rw [hw,Nat.add_zero] at hi
   rw [if_pos (by simpa using hi),e2,e2,if_pos hr,if_pos hr]
  ·have hw : which x (r :: l) = which x l + 1:=by conv=>lhs;unfold which
                                                  rw [if_neg hr]
   have ih:=first_used x ks l (i + 1) (fun hlt=>by
    have:=h (by rw [hw];simpa using hlt)
    rw [hw] at this
    rwa [show i + 1 + which x l = i + (which x l + 1) by omega])
   split
   ·rw [e2,e2,if_neg hr,if_neg hr,ih]
   ·rw [e2,if_neg hr,ih]
def orD (d : Int) : Option TRule → Int
 | some r=>r.verdict
 | none=>d
theorem says_orD (p : TPol) (x : TCall) : says p x = orD p.dflt (firstOf x p.rules):=by rw [says_first];rfl
theorem first_trim (x : TCall) (d : Int) : ∀ l : List TRule,orD d (firstOf x (trimD d l)) = orD d (firstOf x l)
 | []=>rfl
 | r :: l=>by
  have e2 : ∀ m : List TRule,firstOf x (r :: m) = if allHold x r.conds = true then some r else firstOf x m:=fun m=>by
   unfold firstOf
   rw [List.find?_cons]
   cases allHold x r.conds <;> simp
  have ih:=first_trim x d l
  unfold trimD
  split
  ·rename_i h
   rw [h.1] at ih
   rw [e2]
   split
   ·show d = r.verdict;exact h.2.symm
   ·exact ih
  ·rw [e2,e2]
   split
   ·rfl
   ·exact ih
theorem says_short {p : TPol} (h : OkPol p) {x : TCall} (hx : x.ok) : says (shortPol p) x = says p x:=by
 have hall : ∀ r ∈ [p],OkPol r:=by simpa using h
 rw [says_orD,says_orD]
 show orD p.dflt (firstOf x (trimD _ _)) = _
 rw [first_trim,first_used]
 intro _
 rw [Nat.zero_add]
 refine List.mem_map.2 ⟨homeOf [p] x,home_point hall hx,which_home hall hx (by simp)⟩
theorem short_sub (p : TPol) : (shortPol p).rules.Sublist p.rules:=(trimD_pre _ _).sublist.trans (usedRules_sub _ _ _)
theorem okPol_sub {p q : TPol} (h : OkPol p) (hs : q.rules.Sublist p.rules) (hd : q.dflt = p.dflt) : OkPol q :=
 ⟨Nat.le_trans hs.length_le h.len,by rw [hd];exact h.d0,by rw [hd];exact h.d1,fun r hr=>h.rules r (hs.subset hr)⟩
theorem okPol_short {p : TPol} (h : OkPol p) : OkPol (shortPol p):=okPol_sub h (short_sub p) rfl
def deltaE (p q : TPol) : TPol × Int:=if (looserE q p).2.2 ≠ 0 then (zeroPol,(looserE q p).2.2) else if (looserE q p).1 then (zeroPol,7) else
 if (pairE exceptOf q p).2 ≠ 0 then (zeroPol,(pairE exceptOf q p).2) else shortE (pairPol exceptOf q p)
theorem deltaE_ok {p q : TPol} (h : (deltaE p q).2 = 0) : OkPol p∧OkPol q∧(looserE q p).2.2 = 0∧(looserE q p).1 = false∧OkPol (pairPol exceptOf q p)∧deltaE p q = (shortPol (pairPol exceptOf q p),0):=by
 unfold deltaE at h ⊢
 split at h
 ·rename_i h1;exact absurd h h1
 ·rename_i h1
  have h1' : (looserE q p).2.2 = 0:=by simpa using h1
  split at h
  ·simp at h
  ·rename_i h2
   split at h
   ·rename_i h3;exact absurd h h3
   ·rename_i h3
    obtain ⟨a1,a2,a3,_⟩:=pairE_ok (of:=exceptOf) (p:=q) (q:=p) (by simpa using h3)
    obtain ⟨_,_,b3⟩:=shortE_ok h
    exact ⟨a2,a1,h1',by simpa using h2,a3,by rw [if_neg h1,if_neg h2,if_neg h3];exact b3⟩
theorem says_delta {p q : TPol} (h : (deltaE p q).2 = 0) {x : TCall} (hx : x.ok) : says (deltaE p q).1 x = exceptOf (says q x) (says p x):=by
 obtain ⟨_,_,_,_,h5,h6⟩:=deltaE_ok h
 rw [h6]
 show says (shortPol _) x = _
 rw [says_short h5 hx,says_pair]
theorem okPol_delta {p q : TPol} (h : (deltaE p q).2 = 0) : OkPol (deltaE p q).1:=by
 obtain ⟨_,_,_,_,h5,h6⟩:=deltaE_ok h
 rw [h6];exact okPol_short h5
theorem delta_le {p q : TPol} (h : (deltaE p q).2 = 0) {x : TCall} (hx : x.ok) : says q x≤says p x:=by
 obtain ⟨_,_,h3,h4,_,_⟩:=deltaE_ok h
 exact looser_not h3 h4 hx
end Go.Proofs.YthkgjohhbdipcaaGreatDoor
namespace Go.Proofs.YthkgjohhbdipcaaGreatDoor
def jumpIns (c : TCond) (skip : Int) : TIns :=
 if c.op = 2 then ⟨2,c.v,skip,0⟩ else if c.op = 3 then ⟨3,c.v,0,skip⟩ else if c.op = 4 then ⟨3,c.v,skip,0⟩ else ⟨2,c.v,0,skip⟩
def condIns : List TCond → Int → List TIns
 | [],v=>[⟨4,v,0,0⟩]
 | c :: r,v=>⟨1,c.f,0,0⟩ :: jumpIns c (2 * r.length + 1) :: condIns r v
def rulesIns : List TRule → List TIns
 | []=>[]
 | r :: l=>condIns r.conds r.verdict ++ rulesIns l
def filterL (p : TPol) : List TIns:=rulesIns p.rules ++ [⟨4,p.dflt,0,0⟩]
def filterE (p : TPol) : List TIns × Int:=if polE p ≠ 0 then ([],polE p) else if 1500 < (filterL p).length then ([],2) else (filterL p,0)
theorem condIns_len : ∀ (l : List TCond) (v : Int),(condIns l v).length = 2 * l.length + 1
 | [],_=>rfl
 | c :: r,v=>by simp only [condIns,List.length_cons,condIns_len r v];omega
theorem rulesIns_snoc : ∀ (l : List TRule) (r : TRule),rulesIns (l ++ [r]) = rulesIns l ++ condIns r.conds r.verdict
 | [],r=>by simp [rulesIns]
 | x :: l,r=>by simp only [List.cons_append,rulesIns,rulesIns_snoc l r,List.append_assoc]
theorem rulesIns_len {l : List TRule} (h : ∀ r ∈ l,r.conds.length≤10) : (rulesIns l).length≤21 * l.length:=by
 induction l with
 | nil=>simp [rulesIns]
 | cons r l ih =>
  have h1:=h r (List.mem_cons_self ..)
  have h2:=ih fun x hx=>h x (List.mem_cons_of_mem _ hx)
  simp only [rulesIns,List.length_append,condIns_len,List.length_cons]
  omega
theorem jump_ok {c : TCond} (h : OkCond c) {s n : Int} (h0 : 0≤s) (h1 : s < n) : insE (jumpIns c s) n = 0:=by
 have hv:=h.v1
 have hm : mostOf c.f≤65535:=by unfold mostOf;split <;> (try split) <;> omega
 have:=h.v0
 have h0' : ¬ c.v < 0:=by omega
 have h1' : ¬ c.v > 65535:=by omega
 clear hv hm this
 unfold jumpIns insE
 split
 ·(simp [h0',h1'];omega)
 ·split
  ·(simp [h0',h1'];omega)
  ·split
   ·(simp [h0',h1'];omega)
   ·(simp [h0',h1'];omega)
theorem ret_ok {v n : Int} (h0 : 0≤v) (h1 : v≤4) : insE ⟨4,v,0,0⟩ n = 0:=by
 unfold insE
 dsimp only
 rw [if_pos (.inr rfl),if_neg (by omega),if_neg (by omega)]
theorem load_ok {v n : Int} (h0 : 0≤v) (h1 : v≤4) : insE ⟨1,v,0,0⟩ n = 0:=by
 unfold insE
 dsimp only
 rw [if_pos (.inl rfl),if_neg (by omega),if_neg (by omega)]
theorem condIns_go : ∀ (cs : List TCond) (v : Int) (l : List TIns),(∀ c ∈ cs,OkCond c) → 0≤v → v≤4 → l ≠ [] → codeGo l = 0 → codeGo (condIns cs v ++ l) = 0
 | [],v,l,_,h0,h1,_,hl=>by
  simp only [condIns,List.cons_append,List.nil_append,codeGo]
  rw [if_pos (ret_ok h0 h1)];exact hl
 | c :: cs,v,l,hc,h0,h1,hn,hl=>by
  have ih:=condIns_go cs v l (fun x hx=>hc x (List.mem_cons_of_mem _ hx)) h0 h1 hn hl
  have hk:=hc c (List.mem_cons_self ..)
  have hlen : 0 < l.length:=List.length_pos_iff.2 hn
  simp only [condIns,List.cons_append,codeGo]
  rw [if_pos (load_ok hk.f0 (by have:=hk.f1;omega)),if_pos (jump_ok hk (by omega) (by rw [List.length_append,condIns_len];omega))]
  exact ih
theorem rulesIns_go : ∀ (rs : List TRule) (l : List TIns),(∀ r ∈ rs,OkRule r) → l ≠ [] → codeGo l = 0 → codeGo (rulesIns rs ++ l) = 0
 | [],l,_,_,hl=>hl
 | r :: rs,l,hr,hn,hl=>by
  have hk:=hr r (List.mem_cons_self ..)
  have ih:=rulesIns_go rs l (fun x hx=>hr x (List.mem_cons_of_mem _ hx)) hn hl
  simp only [rulesIns,List.append_assoc]
  exact condIns_go _ _ _ hk.conds hk.v0 hk.v1 (by simp [hn]) ih
theorem lastK_snoc : ∀ (l : List TIns) (x : TIns),lastK (l ++ [x]) = x.k
 | [],x=>rfl
 | [y],x=>rfl
 | y :: z :: l,x=>by
  have:=lastK_snoc (z :: l) x
  simp only [List.cons_append] at this ⊢
  simp only [lastK]
  exact this
theorem filter_code {p : TPol} (h : OkPol p) : codeE (filterL p) = if 1500 < (filterL p).length then 2 else 0:=by
 have h1 : codeGo (filterL p) = 0:=rulesIns_go p.rules _ h.rules (by simp) (by simp only [codeGo];rw [if_pos (ret_ok h.d0 h.d1)])
 have h2 : lastK (filterL p) = 4:=lastK_snoc _ _
 have h3 : (filterL p).length ≠ 0:=by simp [filterL]
 unfold codeE
 split
 ·rw [if_pos (by omega)]
 ·simp only [h1,ne_eq,not_true_eq_false,if_false]
  rw [if_neg (by omega)]
theorem jump_next {c : TCond} (h : OkCond c) (x : TCall) (s : Nat) : insNext (jumpIns c s) (x.get c.f) = if holdsB c x then 0 else s:=by
 have h0:=h.o0
 have h1:=h.o1
 have e : c.op = 1 ∨ c.op = 2 ∨ c.op = 3 ∨ c.op = 4:=by omega
 unfold jumpIns insNext holdsB
 rcases e with e | e | e | e <;> simp only [e] <;> simp only [Int.reduceEq,if_true,if_false,true_and,false_and,or_false,false_or]
 ·by_cases e : x.get c.f = c.v <;> simp [e]
 ·by_cases e : x.get c.f = c.v <;> simp [e]
 ·by_cases e : x.get c.f < c.v <;> simp [e]
 ·by_cases e : x.get c.f < c.v
  ·have : ¬ c.v≤x.get c.f:=by omega
   simp [e,this]
  ·have : c.v≤x.get c.f:=by omega
   simp [e,this]
theorem jumpIns_k (c : TCond) (s : Int) : (jumpIns c s).k = 2 ∨ (jumpIns c s).k = 3:=by
 unfold jumpIns
 split
 ·exact .inl rfl
 ·split
  ·exact .inr rfl
  ·split
   ·exact .inr rfl
   ·exact .inl rfl
theorem condIns_run (x : TCall) : ∀ (cs : List TCond) (v : Int) (l : List TIns) (f : Nat) (n : Int) (d : Nat),(∀ c ∈ cs,OkCond c) → (condIns cs v ++ l).length≤f →
  (allHold x cs = true∧(runGo x f (condIns cs v ++ l) n d).1 = v) ∨ (allHold x cs = false∧∃ (f' : Nat) (n' : Int) (d' : Nat),l.length≤f'∧runGo x f (condIns cs v ++ l) n d = runGo x f' l n' d')
 | [],v,l,f,n,d,_,hf=>by
  refine .inl ⟨rfl,?_⟩
  cases f with
  | zero=>simp [condIns] at hf
  | succ f=>simp only [condIns,List.cons_append,List.nil_append,runGo,if_true]
 | c :: cs,v,l,f,n,d,hc,hf=>by
  have hk:=hc c (List.mem_cons_self ..)
  have hlen : (condIns (c :: cs) v ++ l).length = 2 + (condIns cs v ++ l).length:=by simp only [condIns,List.cons_append,List.length_cons];omega
  obtain ⟨g,rfl⟩ : ∃ g : Nat,f = g + 2:=⟨f - 2,by omega⟩
  have h14 : ¬ (1 : Int) = 4:=by omega
  have hj4 : ¬ (jumpIns c (2 * (cs.length : Int) + 1)).k = 4:=by have:=jumpIns_k c (2 * (cs.length : Int) + 1);omega
  have hj1 : ¬ (jumpIns c (2 * (cs.length : Int) + 1)).k = 1:=by have:=jumpIns_k c (2 * (cs.length : Int) + 1);omega
  have hs : (2 * (cs.length : Int) + 1) = ((2 * cs.length + 1 : Nat) : Int):=by omega
  have step : runGo x (g + 2) (condIns (c :: cs) v ++ l) n d = runGo x g ((condIns cs v ++ l).drop (if holdsB c x then 0 else 2 * cs.length + 1)) (x.get c.f) (d + 1 + 1):=by
   simp only [condIns,List.cons_append,runGo,if_neg h14,if_true,if_neg hj4,if_neg hj1]
   rw [hs,jump_next hk]
  rw [step]
  cases hb : holdsB c x with
  | true =>
   simp only [if_true,List.drop_zero]
   have hall : allHold x (c :: cs) = allHold x cs:=by unfold allHold;simp [hb]
   rw [hall]
   exact condIns_run x cs v l g _ _ (fun y hy=>hc y (List.mem_cons_of_mem _ hy)) (by omega)
  | false =>
   refine .inr ⟨by unfold allHold;simp [hb],g,x.get c.f,d + 1 + 1,?_,?_⟩
   ·have : (condIns cs v ++ l).length = (condIns cs v).length + l.length:=by simp
    omega
   ·simp only [Bool.false_eq_true,if_false]
    rw [← condIns_len cs v,List.drop_left]
theorem rules_run (x : TCall) (dflt : Int) : ∀ (rs : List TRule) (f : Nat) (n : Int) (d : Nat),(∀ r ∈ rs,OkRule r) → (rulesIns rs ++ [(⟨4,dflt,0,0⟩ : TIns)]).length≤f →
  (runGo x f (rulesIns rs ++ [(⟨4,dflt,0,0⟩ : TIns)]) n d).1 = verdictAt ⟨rs,dflt⟩ (which x rs)
 | [],f,n,d,_,hf=>by
  cases f with
  | zero=>simp at hf
  | succ f=>simp only [rulesIns,List.nil_append,runGo,if_true];rfl
 | r :: rs,f,n,d,hr,hf=>by
  have hk:=hr r (List.mem_cons_self ..)
  simp only [rulesIns,List.append_assoc] at hf ⊢
  rcases condIns_run x r.conds r.verdict (rulesIns rs ++ [(⟨4,dflt,0,0⟩ : TIns)]) f n d hk.conds hf with ⟨ha,he⟩ | ⟨ha,f',n',d',hf',he⟩
  ·rw [he];unfold which;rw [if_pos ha];rfl
  ·rw [he,rules_run x dflt rs f' n' d' (fun y hy=>hr y (List.mem_cons_of_mem _ hy)) hf']
   have hw : which x (r :: rs) = which x rs + 1:=by conv=>lhs;unfold which
                                                    rw [if_neg (by simp [ha])]
   rw [hw]
   simp [verdictAt]
theorem filter_means {p : TPol} (h : OkPol p) (x : TCall) : (run (filterL p) x).1 = (judged p x).1 :=
 rules_run x p.dflt p.rules _ 0 0 h.rules (Nat.le_refl _)
theorem filterE_ok {p : TPol} (h : (filterE p).2 = 0) : OkPol p∧filterE p = (filterL p,0)∧codeE (filterL p) = 0∧(filterL p).length≤1500:=by
 unfold filterE at h ⊢
 split at h
 ·rename_i h1;exact absurd h h1
 ·rename_i h1
  have hp:=(okPol_iff p).1 (by simpa using h1)
  split at h
  ·simp at h
  ·rename_i h2
   refine ⟨hp,by rw [if_neg h1,if_neg h2],?_,by omega⟩
   rw [filter_code hp,if_neg h2]
end Go.Proofs.YthkgjohhbdipcaaGreatDoor
namespace Go.Proofs.YthkgjohhbdipcaaGreatDoor
def codesGo : List (List TIns) → Int
 | []=>0
 | f :: l=>if codeE f = 0 then codesGo l else codeE f
def chainE (l : List (List TIns)) : Int:=if 6 < l.length then 2 else codesGo l
theorem codesGo_drop (l : List (List TIns)) (k : Nat) (h : k < l.length) : codesGo (l.drop k) = if codeE l[k] = 0 then codesGo (l.drop (k + 1)) else codeE l[k]:=by
 rw [List.drop_eq_getElem_cons h];rfl
theorem codesGo_iff : ∀ l : List (List TIns),codesGo l = 0 ↔ ∀ f ∈ l,codeE f = 0
 | []=>by simp [codesGo]
 | f :: l=>by
  simp only [codesGo,List.mem_cons,forall_eq_or_imp]
  rw [← codesGo_iff l]
  split
  ·rename_i h;simp [h]
  ·rename_i h;simp [h]
theorem chainE_iff (l : List (List TIns)) : chainE l = 0 ↔ l.length≤6∧∀ f ∈ l,codeE f = 0:=by
 unfold chainE
 split
 ·rename_i h
  constructor
  ·intro h';simp at h'
  ·rintro ⟨h1,_⟩;omega
 ·rename_i h
  rw [codesGo_iff]
  exact ⟨fun h'=>⟨by omega,h'⟩,fun h'=>h'.2⟩
def askGo (x : TCall) : List (List TIns) → Int → Int
 | [],v=>v
 | f :: l,v=>askGo x l (minOf v (run f x).1)
def asked (l : List (List TIns)) (x : TCall) : Int:=askGo x l 4
def askE (l : List (List TIns)) (x : TCall) : Int × Int:=if chainE l ≠ 0 then (0,chainE l) else if x.ok then (asked l x,0) else (0,3)
theorem minOf_le (a b : Int) : minOf a b≤a∧minOf a b≤b:=by unfold minOf;split <;> omega
theorem minOf_eq (a b : Int) : minOf a b = min a b:=by unfold minOf;split <;> omega
theorem askGo_min (x : TCall) : ∀ (l : List (List TIns)) (v : Int),askGo x l v = minOf v (askGo x l v)
 | [],v=>by simp [askGo,minOf]
 | f :: l,v=>by
  have ih:=askGo_min x l (minOf v (run f x).1)
  show askGo x l (minOf v (run f x).1) = minOf v (askGo x l (minOf v (run f x).1))
  rw [ih]
  simp only [minOf_eq]
  omega
theorem askGo_from (x : TCall) : ∀ (l : List (List TIns)) (u v : Int),askGo x l (minOf u v) = minOf u (askGo x l v)
 | [],u,v=>rfl
 | f :: l,u,v=>by
  show askGo x l (minOf (minOf u v) (run f x).1) = minOf u (askGo x l (minOf v (run f x).1))
  rw [← askGo_from x l u (minOf v (run f x).1)]
  congr 1
  simp only [minOf_eq];omega
theorem askGo_append (x : TCall) : ∀ (l m : List (List TIns)) (v : Int),askGo x (l ++ m) v = askGo x m (askGo x l v)
 | [],_,_=>rfl
 | _ :: l,m,_=>askGo_append x l m _
theorem asked_append (x : TCall) (l m : List (List TIns)) : asked (l ++ m) x = minOf (asked l x) (asked m x):=by
 unfold asked
 rw [askGo_append]
 have e : askGo x l 4 = minOf (askGo x l 4) 4:=by
  have:=askGo_min x l 4
  simp only [minOf_eq] at this ⊢;omega
 conv=>lhs;rw [e]
 rw [askGo_from]
def tightE (l : List (List TIns)) (p q : TPol) : List (List TIns) × Int :=
 if chainE l ≠ 0 then ([],chainE l) else if (deltaE p q).2 ≠ 0 then ([],(deltaE p q).2) else if l.length = 6 then ([],2) else
  if (filterE (deltaE p q).1).2 ≠ 0 then ([],(filterE (deltaE p q).1).2) else (l ++ [filterL (deltaE p q).1],0)
theorem tightE_ok {l : List (List TIns)} {p q : TPol} (h : (tightE l p q).2 = 0) : chainE l = 0∧(deltaE p q).2 = 0∧l.length < 6∧codeE (filterL (deltaE p q).1) = 0∧tightE l p q = (l ++ [filterL (deltaE p q).1],0):=by
 unfold tightE at h ⊢
 split at h
 ·rename_i h1;exact absurd h h1
 ·rename_i h1
  split at h
  ·rename_i h2;exact absurd h h2
  ·rename_i h2
   split at h
   ·simp at h
   ·rename_i h3
    split at h
    ·rename_i h4;exact absurd h h4
    ·rename_i h4
     have h1' : chainE l = 0:=by simpa using h1
     obtain ⟨_,_,c,_⟩:=filterE_ok (p:=(deltaE p q).1) (by simpa using h4)
     have:=(chainE_iff l).1 h1'
     exact ⟨h1',by simpa using h2,by omega,c,by rw [if_neg h1,if_neg h2,if_neg h3,if_neg h4]⟩
theorem chain_tight {l : List (List TIns)} {p q : TPol} (h : (tightE l p q).2 = 0) : chainE (tightE l p q).1 = 0:=by
 obtain ⟨h1,_,h3,h4,h5⟩:=tightE_ok h
 rw [h5,chainE_iff]
 refine ⟨by simp;omega,fun f hf=>?_⟩
 rcases List.mem_append.1 hf with hf | hf
 ·exact ((chainE_iff l).1 h1).2 f hf
 ·simp at hf;subst hf;exact h4
theorem asked_tight {l : List (List TIns)} {p q : TPol} (h : (tightE l p q).2 = 0) {x : TCall} (hx : x.ok) : asked (tightE l p q).1 x = minOf (asked l x) (exceptOf (says q x) (says p x)):=by
 obtain ⟨_,h2,_,_,h5⟩:=tightE_ok h
 rw [h5]
 show asked (l ++ [filterL _]) x = _
 rw [asked_append]
 have e : asked [filterL (deltaE p q).1] x = minOf 4 (says (deltaE p q).1 x):=by
  show minOf 4 (run (filterL (deltaE p q).1) x).1 = _
  rw [filter_means (okPol_delta h2)];rfl
 have:=(says_range (okPol_delta h2) x).2
 rw [e,says_delta h2 hx]
 rw [says_delta h2 hx] at this
 simp only [minOf_eq];omega
theorem tight_le {l : List (List TIns)} {p q : TPol} (h : (tightE l p q).2 = 0) {x : TCall} (hx : x.ok) : asked (tightE l p q).1 x≤asked l x:=by
 rw [asked_tight h hx];exact (minOf_le _ _).1
theorem tight_says {l : List (List TIns)} {p q : TPol} (h : (tightE l p q).2 = 0) {x : TCall} (hx : x.ok) (hl : asked l x = says p x) : asked (tightE l p q).1 x = says q x:=by
 obtain ⟨_,h2,_⟩:=tightE_ok h
 have h3:=delta_le h2 hx
 obtain ⟨hp,hq,_⟩:=deltaE_ok h2
 have h4:=(says_range hp x).2
 rw [asked_tight h hx,hl]
 unfold exceptOf
 simp only [minOf_eq]
 split <;> omega
theorem asked_one {p : TPol} (h : OkPol p) (x : TCall) : asked [filterL p] x = says p x:=by
 show minOf 4 (run (filterL p) x).1 = _
 rw [filter_means h]
 have:=(says_range h x).2
 show minOf 4 (says p x) = _
 simp only [minOf_eq];omega
structure TRec where
 kind : Int
 cell : Int
 from_ : Int
 p : TPol
deriving DecidableEq
structure TCell where
 open_ : Bool
 chain : List (List TIns)
 p : TPol
deriving DecidableEq
def noPol (p : TPol) : Prop:=p.dflt = 0∧p.rules = []
instance (p : TPol) : Decidable (noPol p):=by unfold noPol;infer_instance
def recE (r : TRec) : Int :=
 if r.kind < 1 ∨ 4 < r.kind then 4 else if r.cell < 0 ∨ 4≤r.cell ∨ r.from_ < 0 ∨ 4≤r.from_ then 3 else
  if (r.kind ≠ 3∧r.from_ ≠ 0) ∨ (2 < r.kind∧¬ noPol r.p) then 4 else if 2 < r.kind then 0 else polE r.p
def zeroCell : TCell:=⟨false,[],zeroPol⟩
def cellE (c : TCell) : Int :=
 if c.open_ then (if c.chain = [] then 4 else if chainE c.chain ≠ 0 then chainE c.chain else polE c.p) else if c.chain = []∧noPol c.p then 0 else 4
def cellsGo : List TCell → Int
 | []=>0
 | c :: l=>if cellE c = 0 then cellsGo l else cellE c
def cellsE (l : List TCell) : Int:=if l.length = 4 then cellsGo l else 4
theorem cellsGo_drop (l : List TCell) (k : Nat) (h : k < l.length) : cellsGo (l.drop k) = if cellE l[k] = 0 then cellsGo (l.drop (k + 1)) else cellE l[k]:=by
 rw [List.drop_eq_getElem_cons h];rfl
theorem cellsGo_iff : ∀ l : List TCell,cellsGo l = 0 ↔ ∀ f ∈ l,cellE f = 0
 | []=>by simp [cellsGo]
 | f :: l=>by
  simp only [cellsGo,List.mem_cons,forall_eq_or_imp]
  rw [← cellsGo_iff l]
  split
  ·rename_i h;simp [h]
  ·rename_i h;simp [h]
theorem cellsE_iff (l : List TCell) : cellsE l = 0 ↔ l.length = 4∧∀ c ∈ l,cellE c = 0:=by
 unfold cellsE
 split
 ·rename_i h;rw [cellsGo_iff];exact ⟨fun h'=>⟨h,h'⟩,fun h'=>h'.2⟩
 ·rename_i h;exact ⟨fun h'=>by simp at h',fun h'=>absurd h'.1 h⟩
def newCells : List TCell:=[zeroCell,zeroCell,zeroCell,zeroCell]
def beginE (p : TPol) : TCell × Int:=if (filterE p).2 ≠ 0 then (zeroCell,(filterE p).2) else (⟨true,[filterL p],p⟩,0)
def cellAt (l : List TCell) (k : Int) : TCell:=l.getD k.toNat zeroCell
def nextCell (l : List TCell) (r : TRec) : TCell × Int :=
 if r.kind = 3 then (if (cellAt l r.from_).open_ then beginE (cellAt l r.from_).p else (zeroCell,5))
 else if r.kind = 1 then beginE r.p
 else if r.kind = 2 then (if (tightE (cellAt l r.cell).chain (cellAt l r.cell).p r.p).2 ≠ 0 then (zeroCell,(tightE (cellAt l r.cell).chain (cellAt l r.cell).p r.p).2) else (⟨true,(tightE (cellAt l r.cell).chain (cellAt l r.cell).p r.p).1,r.p⟩,0))
 else (zeroCell,0)
def nextE (l : List TCell) (r : TRec) : List TCell × Int :=
 if cellsE l ≠ 0 then ([],cellsE l) else if recE r ≠ 0 then ([],recE r) else
  if (cellAt l r.cell).open_ = decide (r.kind = 1 ∨ r.kind = 3) then ([],6) else
   if (nextCell l r).2 ≠ 0 then ([],(nextCell l r).2) else (l.set r.cell.toNat (nextCell l r).1,0)
def replayGo : List TRec → List TCell → List TCell × Int
 | [],c=>(c,0)
 | r :: l,c=>if (nextE c r).2 ≠ 0 then ([],(nextE c r).2) else replayGo l (nextE c r).1
def replayE (l : List TRec) : List TCell × Int:=if 40 < l.length then ([],2) else replayGo l newCells
theorem nextE_ok {l : List TCell} {r : TRec} (h : (nextE l r).2 = 0) : cellsE l = 0∧recE r = 0∧(cellAt l r.cell).open_ ≠ decide (r.kind = 1 ∨ r.kind = 3)∧(nextCell l r).2 = 0∧nextE l r = (l.set r.cell.toNat (nextCell l r).1,0):=by
 unfold nextE at h ⊢
 split at h
 ·rename_i h1;exact absurd h h1
 ·rename_i h1
  split at h
  ·rename_i h2;exact absurd h h2
  ·rename_i h2
   split at h
   ·simp at h
   ·rename_i h3
    split at h
    ·rename_i h4;exact absurd h h4
    ·rename_i h4
     exact ⟨by simpa using h1,by simpa using h2,h3,by simpa using h4,by rw [if_neg h1,if_neg h2,if_neg h3,if_neg h4]⟩
theorem recE_ok {r : TRec} (h : recE r = 0) : 1≤r.kind∧r.kind≤4∧0≤r.cell∧r.cell < 4∧0≤r.from_∧r.from_ < 4∧(r.kind ≠ 3 → r.from_ = 0)∧(2 < r.kind → noPol r.p)∧(r.kind≤2 → OkPol r.p):=by
 unfold recE at h
 split at h
 ·simp at h
 ·split at h
  ·simp at h
  ·split at h
   ·simp at h
   ·rename_i h1 h2 h3
    refine ⟨by omega,by omega,by omega,by omega,by omega,by omega,fun hk=>?_,fun hk=>?_,fun hk=>?_⟩
    ·by_cases e : r.from_ = 0
     ·exact e
     ·exact absurd (.inl ⟨hk,e⟩) h3
    ·by_cases e : noPol r.p
     ·exact e
     ·exact absurd (.inr ⟨hk,e⟩) h3
    ·split at h
     ·omega
     ·exact (okPol_iff _).1 h
theorem mem_set {α : Type} {l : List α} {k : Nat} {a c : α} (h : c ∈ l.set k a) : c ∈ l ∨ c = a:=List.mem_or_eq_of_mem_set h
theorem cellAt_mem {l : List TCell} (hl : l.length = 4) {k : Int} (h0 : 0≤k) (h1 : k < 4) : cellAt l k ∈ l:=by
 unfold cellAt
 rw [List.getD_eq_getElem?_getD,List.getElem?_eq_getElem (by omega)]
 exact List.getElem_mem (by omega)
def Means (c : TCell) : Prop:=c.open_ = true → OkPol c.p∧chainE c.chain = 0∧c.chain ≠ []∧∀ x : TCall,x.ok → asked c.chain x = says c.p x
theorem begin_ok {p : TPol} (h : (beginE p).2 = 0) : OkPol p∧codeE (filterL p) = 0∧beginE p = (⟨true,[filterL p],p⟩,0):=by
 unfold beginE at h ⊢
 split at h
 ·rename_i h1;exact absurd h h1
 ·rename_i h1
  obtain ⟨a,_,c,_⟩:=filterE_ok (p:=p) (by simpa using h1)
  exact ⟨a,c,by rw [if_neg h1]⟩
theorem means_begin {p : TPol} (h : (beginE p).2 = 0) : Means (beginE p).1∧cellE (beginE p).1 = 0:=by
 obtain ⟨a,b,c⟩:=begin_ok h
 rw [c]
 have hc : chainE [filterL p] = 0:=by rw [chainE_iff];exact ⟨by simp,by simpa using b⟩
 refine ⟨fun _=>⟨a,hc,by simp,fun x _=>asked_one a x⟩,?_⟩
 unfold cellE
 simp only [if_true]
 rw [if_neg (by simp),if_neg (by rw [hc];simp)]
 exact (okPol_iff _).2 a
theorem means_next {l : List TCell} {r : TRec} (h : (nextE l r).2 = 0) (hm : ∀ c ∈ l,Means c) : Means (nextCell l r).1∧cellE (nextCell l r).1 = 0:=by
 obtain ⟨h1,h2,h3,h4,_⟩:=nextE_ok h
 obtain ⟨k0,k1,c0,c1,f0,f1,e1,e2,e3⟩:=recE_ok h2
 obtain ⟨hl,_⟩:=(cellsE_iff l).1 h1
 unfold nextCell at h4 ⊢
 by_cases hk3 : r.kind = 3
 ·rw [if_pos hk3] at h4 ⊢
  split at h4
  ·rename_i ho;rw [if_pos ho];exact means_begin h4
  ·simp at h4
 ·rw [if_neg hk3] at h4 ⊢
  by_cases hk1 : r.kind = 1
  ·rw [if_pos hk1] at h4 ⊢;exact means_begin h4
  ·rw [if_neg hk1] at h4 ⊢
   by_cases hk2 : r.kind = 2
   ·rw [if_pos hk2] at h4 ⊢
    split at h4
    ·rename_i ht;exact absurd h4 ht
    ·rename_i ht
     rw [if_neg ht]
     have ht' : (tightE (cellAt l r.cell).chain (cellAt l r.cell).p r.p).2 = 0:=by simpa using ht
     have ho : (cellAt l r.cell).open_ = true:=by
      have : decide (r.kind = 1 ∨ r.kind = 3) = false:=by simp [hk1,hk3]
      rw [this] at h3
      simpa using h3
     obtain ⟨m1,m2,m3,m4⟩:=hm _ (cellAt_mem hl c0 c1) ho
     have hp:=e3 (by omega)
     have hc:=chain_tight ht'
     have hne : (tightE (cellAt l r.cell).chain (cellAt l r.cell).p r.p).1 ≠ []:=by
      rw [(tightE_ok ht').2.2.2.2];simp
     refine ⟨fun _=>⟨hp,hc,hne,fun x hx=>tight_says ht' hx (m4 x hx)⟩,?_⟩
     unfold cellE
     simp only [if_true]
     rw [if_neg hne,if_neg (by rw [hc];simp)]
     exact (okPol_iff _).2 hp
   ·rw [if_neg hk2]
    exact ⟨fun h=>by simp [zeroCell] at h,by unfold cellE zeroCell;simp [noPol,zeroPol]⟩
theorem means_all {l : List TCell} {r : TRec} (h : (nextE l r).2 = 0) (hm : ∀ c ∈ l,Means c) : (∀ c ∈ (nextE l r).1,Means c)∧cellsE (nextE l r).1 = 0:=by
 obtain ⟨h1,_,_,_,h5⟩:=nextE_ok h
 obtain ⟨m1,m2⟩:=means_next h hm
 obtain ⟨hl,hc⟩:=(cellsE_iff l).1 h1
 rw [h5]
 refine ⟨fun c hcm=>?_,(cellsE_iff _).2 ⟨by simpa using hl,fun c hcm=>?_⟩⟩
 ·rcases mem_set hcm with h | h
  ·exact hm c h
  ·subst h;exact m1
 ·rcases mem_set hcm with h | h
  ·exact hc c h
  ·subst h;exact m2
theorem means_new : (∀ c ∈ newCells,Means c)∧cellsE newCells = 0:=by
 refine ⟨fun c hc=>?_,by decide⟩
 have : c = zeroCell:=by simp [newCells] at hc;exact hc
 subst this
 exact fun h=>by simp [zeroCell] at h
theorem means_replay : ∀ (l : List TRec) (c : List TCell),(∀ s ∈ c,Means s) → cellsE c = 0 → (replayGo l c).2 = 0 → (∀ s ∈ (replayGo l c).1,Means s)∧cellsE (replayGo l c).1 = 0
 | [],_,h1,h2,_=>⟨h1,h2⟩
 | r :: l,c,h1,h2,h=>by
  unfold replayGo at h ⊢
  by_cases hn : (nextE c r).2 ≠ 0
  ·rw [if_pos hn] at h;exact absurd h hn
  ·rw [if_neg hn] at h ⊢
   obtain ⟨a,b⟩:=means_all (by simpa using hn) h1
   exact means_replay l _ a b h
theorem replayE_ok {l : List TRec} (h : (replayE l).2 = 0) : l.length≤40∧replayE l = replayGo l newCells∧(∀ s ∈ (replayE l).1,Means s)∧cellsE (replayE l).1 = 0:=by
 unfold replayE at h ⊢
 split at h
 ·simp at h
 ·rename_i h1
  rw [if_neg h1]
  exact ⟨by omega,rfl,means_replay l newCells means_new.1 means_new.2 h⟩
theorem replayGo_append : ∀ (l m : List TRec) (c : List TCell),replayGo (l ++ m) c = if (replayGo l c).2 ≠ 0 then ([],(replayGo l c).2) else replayGo m (replayGo l c).1
 | [],m,c=>by simp [replayGo]
 | r :: l,m,c=>by
  have e : ∀ m : List TRec,replayGo (r :: m) c = if (nextE c r).2 ≠ 0 then ([],(nextE c r).2) else replayGo m (nextE c r).1:=fun _=>rfl
  rw [List.cons_append,e,e]
  by_cases hn : (nextE c r).2 ≠ 0
  ·rw [if_pos hn,if_pos hn,if_pos hn]
  ·rw [if_neg hn,if_neg hn]
   exact replayGo_append l m _
theorem cellAt_set {l : List TCell} (hl : l.length = 4) {k : Int} (h0 : 0≤k) (h1 : k < 4) (c : TCell) (j : Int) : cellAt (l.set k.toNat c) j = if j.toNat = k.toNat then c else cellAt l j:=by
 unfold cellAt
 rw [List.getD_eq_getElem?_getD,List.getElem?_set]
 by_cases e : j.toNat = k.toNat
 ·rw [if_pos e.symm,if_pos (by omega),if_pos e];rfl
 ·rw [if_neg (fun h=>e h.symm),if_neg e];rfl
theorem next_strict {l : List TCell} {r : TRec} (h : (nextE l r).2 = 0) (ho : (cellAt l r.cell).open_ = true) (ho' : (nextCell l r).1.open_ = true) :
  (tightE (cellAt l r.cell).chain (cellAt l r.cell).p r.p).2 = 0∧(nextCell l r).1 = ⟨true,(tightE (cellAt l r.cell).chain (cellAt l r.cell).p r.p).1,r.p⟩∧(nextCell l r).1.chain.length = (cellAt l r.cell).chain.length + 1:=by
 obtain ⟨h1,h2,h3,h4,_⟩:=nextE_ok h
 rw [ho] at h3
 have hk : ¬ (r.kind = 1 ∨ r.kind = 3):=fun e=>h3 (by simp [e])
 unfold nextCell at h4 ho' ⊢
 rw [if_neg (fun e=>hk (.inr e)),if_neg (fun e=>hk (.inl e))] at h4 ho' ⊢
 by_cases hk2 : r.kind = 2
 ·rw [if_pos hk2] at h4 ho' ⊢
  split at h4
  ·rename_i ht;exact absurd h4 ht
  ·rename_i ht
   rw [if_neg ht]
   have ht' : (tightE (cellAt l r.cell).chain (cellAt l r.cell).p r.p).2 = 0:=by simpa using ht
   refine ⟨ht',rfl,?_⟩
   show (tightE _ _ _).1.length = _
   rw [(tightE_ok ht').2.2.2.2];simp
 ·rw [if_neg hk2] at ho'
  simp [zeroCell] at ho'
end Go.Proofs.YthkgjohhbdipcaaGreatDoor
namespace Go.Proofs.YthkgjohhbdipcaaGreatDoor
open Go.RowKit
@[reducible] def recV (r : TRec) (v : Value) : Value:=.agg #[.int .i64 r.kind,.int .i64 r.cell,.int .i64 r.from_,v,.int .i64 r.p.dflt]
def recR (w : World) (D : Nat → Prop) (r : TRec) (cs : List Value) : Prop:=∃ v,cs = [.int .i64 r.kind,.int .i64 r.cell,.int .i64 r.from_,v,.int .i64 r.p.dflt]∧RdRules w D v r.p.rules
def RdRecs (w : World) (D : Nat → Prop) (v : Value) (l : List TRec) : Prop:=Sl w D 5 (recR w D) v l
theorem RdRecs.keep {w w' : World} {D D' : Nat → Prop} {v : Value} {l : List TRec} (h : RdRecs w D v l) (hD : ∀ b,D b → b < w.heap.size → D' b)
  (hw : ∀ b,D b → b < w.heap.size → w'.heap[b]? = w.heap[b]?) (hs : w.heap.size≤w'.heap.size) : RdRecs w' D' v l:=Sl.mono h hD hw hs (fun _ _ _ ⟨u,h1,h2⟩=>⟨u,h1,h2.keep hD hw hs⟩)
theorem RdRecs.below {w w' : World} {D : Nat → Prop} {v : Value} {l : List TRec} (h : RdRecs w D v l) (hb : Below w.heap.size w w') : RdRecs w' D v l :=
 h.keep (fun _ h _=>h) (fun b _ hlt=>hb.block b hlt) hb.size
theorem RdRecs.cells {w : World} {D : Nat → Prop} {b o n c : Nat} {s : Option Nat} {l : List TRec} (h : RdRecs w D (.slice (some ⟨b,o,s⟩) n c) l) {i : Nat} (hi : i < l.length) :
  ∃ (a : Option Addr) (c : Nat),w.cell? ⟨b,o + i * 5,none⟩ = some (.int .i64 l[i].kind)∧w.cell? ⟨b,o + i * 5 + 1,none⟩ = some (.int .i64 l[i].cell)∧w.cell? ⟨b,o + i * 5 + 2,none⟩ = some (.int .i64 l[i].from_)∧w.cell? ⟨b,o + i * 5 + 3,none⟩ = some (.slice a l[i].p.rules.length c)∧w.cell? ⟨b,o + i * 5 + 4,none⟩ = some (.int .i64 l[i].p.dflt) ∧
   RdRules w D (.slice a l[i].p.rules.length c) l[i].p.rules:=by
 obtain ⟨cs,_,⟨v,hu,hp⟩,hcell⟩:=Sl.get h hi
 obtain ⟨a1,c1,hv,_⟩:=Sl.form hp
 subst hv hu
 exact ⟨a1,c1,by have:=hcell 0 _ rfl;simpa using this,by have:=hcell 1 _ rfl;simpa [Nat.add_assoc] using this,by have:=hcell 2 _ rfl;simpa [Nat.add_assoc] using this,by have:=hcell 3 _ rfl;simpa [Nat.add_assoc] using this,by have:=hcell 4 _ rfl;simpa [Nat.add_assoc] using this,hp⟩
theorem recR.keep {w w' : World} {D D' : Nat → Prop} {r : TRec} {cs : List Value} (h : recR w D r cs) (hD : ∀ b,D b → b < w.heap.size → D' b) (hw : ∀ b,D b → b < w.heap.size → w'.heap[b]? = w.heap[b]?) (hs : w.heap.size≤w'.heap.size) : recR w' D' r cs:=by
 obtain ⟨u,h1,h2⟩:=h
 exact ⟨u,h1,h2.keep hD hw hs⟩
theorem recR_one {w : World} {D : Nat → Prop} (y : TRec) (cs : List Value) (h : recR w D y cs) : ∀ c ∈ cs,c.oneCell' = true:=by
 obtain ⟨u,rfl,h1⟩:=h
 obtain ⟨a,c,rfl,_⟩:=Sl.form h1
 simp [Value.oneCell']
theorem recs_true {w : World} {D : Nat → Prop} {v : Value} {l : List TRec} (h : RdRecs w D v l) : RdRecs w (fun _=>True) v l:=h.keep (fun _ _ _=>trivial) (fun _ _ _=>rfl) (Nat.le_refl _)
end Go.Proofs.YthkgjohhbdipcaaGreatDoor
namespace Go.Proofs.YthkgjohhbdipcaaGreatDoor
open Go.RowKit
set_option maxRecDepth 100000 in
set_option maxHeartbeats 8000000 in
theorem notecheck_any (v : Value) (r : TRec) (D : Nat → Prop) (w : World) (h : RdRules w D v r.p.rules) :
  Calls Tryz.prog 29 #[recV r v] w fun e w'=>e = .returned (.int .i64 (recE r))∧Below w.heap.size w w':=by
 obtain ⟨kd,cl,fr,⟨rs,d⟩⟩:=r
 dsimp only at h ⊢
 have H:=Lib.hid h
 obtain ⟨a,c,rfl,hlc,hcm,hat⟩:=Sl.form h
 clear h
 by_cases k1 : kd < 1
 ·have he : recE ⟨kd,cl,fr,⟨rs,d⟩⟩ = 4:=by unfold recE;dsimp only;rw [if_pos (Or.inl k1)]
  rw [he];clear he H hat
  go_enter Tryz.func29,Tryz.ntmps29
  go_wp2
  go_ret
  exact ⟨rfl,bel_alloc (Below.refl _ _) _⟩
 ·by_cases k2 : 4 < kd
  ·have he : recE ⟨kd,cl,fr,⟨rs,d⟩⟩ = 4:=by unfold recE;dsimp only;rw [if_pos (Or.inr k2)]
   rw [he];clear he H hat
   go_enter Tryz.func29,Tryz.ntmps29
   go_wp2
   go_ret
   exact ⟨rfl,bel_alloc (Below.refl _ _) _⟩
  ·by_cases c1 : cl < 0
   ·have he : recE ⟨kd,cl,fr,⟨rs,d⟩⟩ = 3:=by unfold recE;dsimp only;rw [if_neg (by omega : ¬ (kd < 1 ∨ 4 < kd)),if_pos (by omega)]
    rw [he];clear he H hat
    go_enter Tryz.func29,Tryz.ntmps29
    go_wp2
    go_ret
    exact ⟨rfl,bel_alloc (Below.refl _ _) _⟩
   ·by_cases c2 : 4≤cl
    ·have he : recE ⟨kd,cl,fr,⟨rs,d⟩⟩ = 3:=by unfold recE;dsimp only;rw [if_neg (by omega : ¬ (kd < 1 ∨ 4 < kd)),if_pos (by omega)]
     rw [he];clear he H hat
     go_enter Tryz.func29,Tryz.ntmps29
     go_wp2
     go_ret
     exact ⟨rfl,bel_alloc (Below.refl _ _) _⟩
    ·by_cases c3 : fr < 0
     ·have he : recE ⟨kd,cl,fr,⟨rs,d⟩⟩ = 3:=by unfold recE;dsimp only;rw [if_neg (by omega : ¬ (kd < 1 ∨ 4 < kd)),if_pos (by omega)]
      rw [he];clear he H hat
      go_enter Tryz.func29,Tryz.ntmps29
      go_wp2
      go_ret
      exact ⟨rfl,bel_alloc (Below.refl _ _) _⟩
     ·by_cases c4 : 4≤fr
      ·have he : recE ⟨kd,cl,fr,⟨rs,d⟩⟩ = 3:=by unfold recE;dsimp only;rw [if_neg (by omega : ¬ (kd < 1 ∨ 4 < kd)),if_pos (by omega)]
       rw [he];clear he H hat
       go_enter Tryz.func29,Tryz.ntmps29
       go_wp2
       go_ret
       exact ⟨rfl,bel_alloc (Below.refl _ _) _⟩
      ·by_cases k4 : kd = 3
       ·subst k4
        have k3 : (2 : Int) < 3:=by decide
        by_cases d0 : d = 0
        ·subst d0
         rcases Nat.eq_zero_or_pos rs.length with r0 | r0
         ·obtain rfl : rs = []:=List.length_eq_zero_iff.1 r0
          have e1 : ([] : List TRule).length = 0:=rfl
          have he : recE ⟨(3 : Int),cl,fr,⟨[],0⟩⟩ = 0:=by unfold recE;dsimp only;rw [if_neg (by omega : ¬ ((3 : Int) < 1 ∨ 4 < (3 : Int))),if_neg (by omega : ¬ (cl < 0 ∨ 4≤cl ∨ fr < 0 ∨ 4≤fr)),if_neg (by simp [noPol];try omega),if_pos k3]
          rw [he];clear he H hat
          go_enter Tryz.func29,Tryz.ntmps29
          go_wp2
          go_ret
          exact ⟨rfl,bel_alloc (Below.refl _ _) _⟩
         ·have z0 : rs ≠ []:=fun e=>by rw [e] at r0;simp at r0
          have z1 : 0 < (rs.length : Int):=by omega
          clear r0
          have he : recE ⟨(3 : Int),cl,fr,⟨rs,0⟩⟩ = 4:=by unfold recE;dsimp only;rw [if_neg (by omega : ¬ ((3 : Int) < 1 ∨ 4 < (3 : Int))),if_neg (by omega : ¬ (cl < 0 ∨ 4≤cl ∨ fr < 0 ∨ 4≤fr)),if_pos (Or.inr ⟨k3,fun h=>z0 h.2⟩)]
          rw [he];clear he H hat
          go_enter Tryz.func29,Tryz.ntmps29
          go_wp2
          go_ret
          exact ⟨rfl,bel_alloc (Below.refl _ _) _⟩
        ·have z1 : (d != 0) = true:=bne_iff_ne.2 d0
         have he : recE ⟨(3 : Int),cl,fr,⟨rs,d⟩⟩ = 4:=by unfold recE;dsimp only;rw [if_neg (by omega : ¬ ((3 : Int) < 1 ∨ 4 < (3 : Int))),if_neg (by omega : ¬ (cl < 0 ∨ 4≤cl ∨ fr < 0 ∨ 4≤fr)),if_pos (Or.inr ⟨k3,fun h=>d0 h.1⟩)]
         rw [he];clear he H hat
         go_enter Tryz.func29,Tryz.ntmps29
         go_wp2
         go_ret
         exact ⟨rfl,bel_alloc (Below.refl _ _) _⟩
       ·have k4' : (kd != 3) = true:=bne_iff_ne.2 k4
        by_cases f0 : fr = 0
        ·subst f0
         by_cases k3 : 2 < kd
         ·by_cases d0 : d = 0
          ·subst d0
           rcases Nat.eq_zero_or_pos rs.length with r0 | r0
           ·obtain rfl : rs = []:=List.length_eq_zero_iff.1 r0
            have e1 : ([] : List TRule).length = 0:=rfl
            have he : recE ⟨kd,cl,(0 : Int),⟨[],0⟩⟩ = 0:=by unfold recE;dsimp only;rw [if_neg (by omega : ¬ (kd < 1 ∨ 4 < kd)),if_neg (by omega : ¬ (cl < 0 ∨ 4≤cl ∨ (0 : Int) < 0 ∨ 4≤(0 : Int))),if_neg (by simp [noPol];try omega),if_pos k3]
            rw [he];clear he H hat
            go_enter Tryz.func29,Tryz.ntmps29
            go_wp2
            go_ret
            exact ⟨rfl,bel_alloc (Below.refl _ _) _⟩
           ·have z0 : rs ≠ []:=fun e=>by rw [e] at r0;simp at r0
            have z1 : 0 < (rs.length : Int):=by omega
            clear r0
            have he : recE ⟨kd,cl,(0 : Int),⟨rs,0⟩⟩ = 4:=by unfold recE;dsimp only;rw [if_neg (by omega : ¬ (kd < 1 ∨ 4 < kd)),if_neg (by omega : ¬ (cl < 0 ∨ 4≤cl ∨ (0 : Int) < 0 ∨ 4≤(0 : Int))),if_pos (Or.inr ⟨k3,fun h=>z0 h.2⟩)]
            rw [he];clear he H hat
            go_enter Tryz.func29,Tryz.ntmps29
            go_wp2
            go_ret
            exact ⟨rfl,bel_alloc (Below.refl _ _) _⟩
          ·have z1 : (d != 0) = true:=bne_iff_ne.2 d0
           have he : recE ⟨kd,cl,(0 : Int),⟨rs,d⟩⟩ = 4:=by unfold recE;dsimp only;rw [if_neg (by omega : ¬ (kd < 1 ∨ 4 < kd)),if_neg (by omega : ¬ (cl < 0 ∨ 4≤cl ∨ (0 : Int) < 0 ∨ 4≤(0 : Int))),if_pos (Or.inr ⟨k3,fun h=>d0 h.1⟩)]
           rw [he];clear he H hat
           go_enter Tryz.func29,Tryz.ntmps29
           go_wp2
           go_ret
           exact ⟨rfl,bel_alloc (Below.refl _ _) _⟩
         ·have he : recE ⟨kd,cl,(0 : Int),⟨rs,d⟩⟩ = polE ⟨rs,d⟩:=by unfold recE;dsimp only;rw [if_neg (by omega : ¬ (kd < 1 ∨ 4 < kd)),if_neg (by omega : ¬ (cl < 0 ∨ 4≤cl ∨ (0 : Int) < 0 ∨ 4≤(0 : Int))),if_neg (by omega),if_neg k3]
          have He:=Lib.hid he
          clear he hat
          have HB:=Lib.hid (Bx.one (w:=w) (o:=.cells #[.int .i64 kd,.int .i64 cl,.int .i64 (0 : Int),.slice a rs.length c,.int .i64 d] 56))
          go_enter Tryz.func29,Tryz.ntmps29
          go_wp2_with fail
          refine (polcheck_any _ ⟨rs,d⟩ D _ (H.out.below HB.out.bel)).mono ?_
          rintro e w1 ⟨rfl,hb1⟩
          have HB1:=Lib.hid (HB.out.below hb1)
          clear hb1
          go_wp2
          go_ret
          exact ⟨ret_int He.out.symm,HB1.out.bel⟩
        ·have f0' : (fr != 0) = true:=bne_iff_ne.2 f0
         have he : recE ⟨kd,cl,fr,⟨rs,d⟩⟩ = 4:=by unfold recE;dsimp only;rw [if_neg (by omega : ¬ (kd < 1 ∨ 4 < kd)),if_neg (by omega : ¬ (cl < 0 ∨ 4≤cl ∨ fr < 0 ∨ 4≤fr)),if_pos (Or.inl ⟨k4,f0⟩)]
         rw [he];clear he H hat
         go_enter Tryz.func29,Tryz.ntmps29
         go_wp2
         go_ret
         exact ⟨rfl,bel_alloc (Below.refl _ _) _⟩
end Go.Proofs.YthkgjohhbdipcaaGreatDoor
