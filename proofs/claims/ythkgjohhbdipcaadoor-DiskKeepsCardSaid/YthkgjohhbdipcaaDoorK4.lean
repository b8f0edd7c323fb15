/- Texts laid one behind the other: TPrint, IndexAny, WordIdx, Number, Rel, Init. No condition beyond theirs. -/
import Derived.Test.YthkgjohhbdipcaaDoorK2
import Derived.Test.YthkgjohhbdipcaaDoorK3
import Derived.Test.YthkgjohhbdipcaaDoorK1
import Derived.Test.YthkgjohhbdipcaaDoorProg
import Derived.Lib.OthersKept
import Derived.Lib.MapLaws
import Derived.Lib.TrimUEq
import Derived.Lib.IndexAny
import Derived.Deep.LoopGhost
import Derived.Stop.FmtQuoteTie
import Derived.KernelRfl
import Derived.Laws.Runes
import Derived.WalkMore
import Derived.Lib.ParseIntBTie
set_option linter.all false
namespace Go.Proofs.YthkgjohhbdipcaaDoor
open Go.RowKit Go.Shelf
attribute [local go_sem] gives givesUpon
attribute [-go_sem] run_string_add_if run_slice_string_if run_slice_string

@[reducible] def verdictRow : Array Value := #[Value.string (bsL [107, 105, 108, 108]), .string (bsL [116, 114, 97, 112]), .string (bsL [102, 97, 105, 108]), .string (bsL [108, 111, 103]), .string (bsL [97, 108, 108, 111, 119])]
@[reducible] def fieldRow : Array Value := #[Value.string (bsL [110, 114]), .string (bsL [107, 105, 110, 100]), .string (bsL [97]), .string (bsL [98]), .string (bsL [99])]
@[reducible] def opRow : Array Value := #[Value.string (bsL []), .string (bsL [61]), .string (bsL [33]), .string (bsL [60]), .string (bsL [62])]
theorem op_cell {v : Int} (h0 : 1 ≤ v) (h1 : v ≤ 4) : opRow[v.toNat]? = some (.string (bsL [opW v])) := by
  rcases (by omega : v = 1 ∨ v = 2 ∨ v = 3 ∨ v = 4) with rfl | rfl | rfl | rfl <;> rfl
theorem verdicts_any (w : World) : Calls Tryd.prog 31 #[] w fun e w' => e = .returned (.slice (some ⟨w.heap.size, 0, none⟩) 5 5) ∧ w' = w.alloc (.cells verdictRow 9) := by
  go_enter Tryd.func31, Tryd.ntmps31
  go_wp2
  go_ret
  exact ⟨rfl, rfl⟩
theorem fields_any (w : World) : Calls Tryd.prog 32 #[] w fun e w' => e = .returned (.slice (some ⟨w.heap.size, 0, none⟩) 5 5) ∧ w' = w.alloc (.cells fieldRow 9) := by
  go_enter Tryd.func32, Tryd.ntmps32
  go_wp2
  go_ret
  exact ⟨rfl, rfl⟩
theorem ops_any (w : World) : Calls Tryd.prog 33 #[] w fun e w' => e = .returned (.slice (some ⟨w.heap.size, 0, none⟩) 5 5) ∧ w' = w.alloc (.cells opRow 9) := by
  go_enter Tryd.func33, Tryd.ntmps33
  go_wp2
  go_ret
  exact ⟨rfl, rfl⟩
/-- chapter 3's Print, errors too. -/
def printE (p : TPol) : List UInt8 × Int := if polE p = 0 then (textP p, 0) else ([], polE p)
theorem bd_new (w : World) : Bd w.heap.size w.heap.size [] (w.alloc (.cells #[.pointer none, .slice none 0 0] 61)) :=
  .inl ⟨Nat.le_refl _, _, heap_last _ _, ⟨by simp [Lib.byteCells], .inl ⟨rfl, rfl⟩⟩, by simp [Value.ownBlock]⟩
theorem bsL_toList (l : List UInt8) : (bsL l).data.toList = l := rfl
set_option maxRecDepth 100000 in
set_option maxHeartbeats 16000000 in
theorem tprint_any (v : Value) (p : TPol) (D : Nat → Prop) (w : World) (h : RdRules w D v p.rules) (hL : Laid w) :
    Calls Tryd.prog 7 #[polV v p.dflt] w fun e w' => e = .returned (.tuple #[.string (bsL (printE p).1), .int .i64 (printE p).2]) ∧ Below w.heap.size w w' := by
  have H := Lib.hid (RdRules.keep h (D' := fun b => b < w.heap.size) (fun _ _ hl => hl) (fun _ _ _ => rfl) (Nat.le_refl _))
  have HL := Lib.hid hL
  obtain ⟨a, c, rfl, hlc, hcm, hat⟩ := Sl.form H.out
  clear h hL
  go_enter Tryd.func7, Tryd.ntmps7
  go_wp2_with fail
  have HB := Lib.hid (Bx.one (w := w) (o := .cells #[.slice a p.rules.length c, .int .i64 p.dflt] 24))
  refine (polcheck_any _ p _ _ (RdRules.below H.out HB.out.bel)).mono ?_
  rintro e w1 ⟨rfl, hb1⟩
  replace HB := Lib.hid (HB.out.below hb1)
  clear hb1
  by_cases h0 : polE p = 0
  · have HE : Hid (printE p = (textP p, 0)) := if_pos h0
    have Hok := Lib.hid ((okPol_iff p).1 h0)
    have H1 := Lib.hid (RdRules.below H.out HB.out.bel)
    have HL1 := Lib.hid (HL.out.below HB.out.bel)
    rw [h0]
    clear h0
    have Hbd0 := Lib.hid (bd_new w1)
    have Hb0 : Hid (Below w1.heap.size w1 (w1.alloc (.cells #[.pointer none, .slice none 0 0] 61))) := bel_alloc (Below.refl _ _) _
    have hsz1 : w.heap.size + 1 ≤ w1.heap.size := HB.out.top
    have hc0 := (HB.out.below Hb0.out).cells0
    go_wp2_with fail
    clear hc0
    revert Hbd0 Hb0
    generalize (w1.alloc (.cells #[.pointer none, .slice none 0 0] 61)) = w2
    intro Hbd0 Hb0
    go_loopw [18] (fun kv wr => ∃ k : Nat, kv = .int .i64 k ∧ k ≤ p.rules.length ∧ Bd w1.heap.size w1.heap.size (headP (p.rules.take k)) wr ∧ Below w1.heap.size w1 wr) (fun kv _ => p.rules.length - (intOf kv).toNat)
    case atStart => exact ⟨0, rfl, by omega, Hbd0.out, Hb0.out⟩
    case round =>
      obtain ⟨k, rfl, hk, hbd, hb⟩ := hrel
      obtain ⟨wo, rfl⟩ : ∃ wo : World, wo = wr := ⟨_, rfl⟩
      have Hbase := Lib.hid hbd
      have Hb := Lib.hid hb
      have hszr := hb.size
      clear hbd hb Hbd0 Hb0
      have HBr := Lib.hid (HB.out.below Hb.out)
      obtain ⟨t, ht⟩ : ∃ t, t = headP (p.rules.take k) := ⟨_, rfl⟩
      have htl : t.length ≤ 33600 := by
        rw [ht]
        have := headP_len (p.rules.take k) (fun x hx => Hok.out.rules x (List.mem_of_mem_take hx))
        rw [List.length_take] at this
        have := Hok.out.len
        omega
      rw [← ht] at Hbase
      have Ht := Lib.hid ht
      clear ht
      by_cases hlt : k < p.rules.length
      · obtain ⟨b, o, rfl, _, _⟩ := hat (by omega)
        obtain ⟨ca, cc, hc0w, hc1w, hrd, _, _, hcat⟩ := RdRules.cells (RdRules.below H1.out Hb.out) hlt
        have Hkr := Lib.hid (Hok.out.rules p.rules[k] (List.getElem_mem hlt))
        have Htk := Lib.hid (headP_take hlt)
        obtain ⟨r, hr⟩ : ∃ r, p.rules[k] = r := ⟨_, rfl⟩
        rw [hr] at hc0w hc1w hrd hcat Hkr Htk
        have Hrd := Lib.hid hrd
        have hcl10 := Hkr.out.len
        have hv0 := Hkr.out.v0
        have hv1 := Hkr.out.v1
        have hv5 : r.verdict < 5 := by omega
        have hvl := verdictW_len r.verdict
        clear hrd hr
        go_wp2_with fail
        clear hc0w hc1w
        obtain ⟨w3, hw3⟩ : ∃ w3, wo.alloc (.cells #[.slice ca r.conds.length cc, .int .i64 r.verdict] 64) = w3 := ⟨_, rfl⟩
        have Hbb : Hid (Below wo.heap.size wo w3) := by show Below _ _ _; rw [← hw3]; exact bel_alloc (Below.refl _ _) _
        have Hrb : Hid (w3.heap[wo.heap.size]? = some (.cells #[.slice ca r.conds.length cc, .int .i64 r.verdict] 64)) := by show _ = _; rw [← hw3]; exact heap_last _ _
        have HBB : Hid (wo.heap.size ≤ w3.heap.size) := Hbb.out.size
        have Hbd := Lib.hid (Hbase.out.below Hbb.out)
        rw [hw3]
        clear hw3
        refine wp_region_lastop 5 wo.heap.size [pr (VRow wo.heap.size 9 verdictRow 5), ex (.pointer (some ⟨wo.heap.size, 1, none⟩)), ex (.int .i64 r.verdict), pr (VAt wo.heap.size 9 verdictRow (r.verdict).toNat), ex (.string (bsL (verdictW r.verdict))), ex (.tuple #[.int .i64 ((bsL (verdictW r.verdict)).size : Int), .nilIface])] (fun W => Bd w1.heap.size w1.heap.size (t ++ verdictW r.verdict) W ∧ Below w1.heap.size w1 W ∧ W.heap[wo.heap.size]? = some (.cells #[.slice ca r.conds.length cc, .int .i64 r.verdict] 64) ∧ wo.heap.size ≤ W.heap.size) (by kernel_rfl) (by kernel_rfl) ⟨.inr ⟨_, rfl, VRow.stable⟩, .inl ⟨_, rfl⟩, .inl ⟨_, rfl⟩, .inr ⟨_, rfl, VAt.stable⟩, .inl ⟨_, rfl⟩, .inl ⟨_, rfl⟩, trivial⟩ _ rfl ?_
        (refine walkP_pr (fun K hK => ?_); refine ⟨fun done W hI h0 hd hn hf R hR => ?_, fun v0 => ?_⟩; (have hno : done 5 = false := hn 5 (by decide); have hC := hI.before hno; have HC := Lib.hid hC; clear hC; clear h0 hd hn hf; go_simp; go_at_call 31; refine (verdicts_any W).mono ?_; rintro e w9 ⟨rfl, rfl⟩; exact ⟨_, rfl, hR _ _ (hI.step hno (by decide) (bel_alloc (Below.refl _ _) _)) (KeepFrom.of_below (bel_alloc (Below.refl _ _) _)) ⟨_, rfl, Nat.le_trans HBB.out HC.out.1, heap_last _ _⟩⟩); (go_simp; refine hK _ _ ?_; clear hK K))
        (refine walkP_ex (fun K hK => ?_); refine ⟨fun done W hI h0 hd hn hf R hR => ?_, ?_⟩; (have hno : done 5 = false := hn 5 (by decide); have hC := hI.before hno; clear h0 hd hn hf; go_simp; exact hR _ _ (hI.step hno (by decide) (Below.refl _ _)) (KeepFrom.of_below (Below.refl _ _)) rfl); (go_simp; refine hK _ ?_; clear hK K))
        (refine walkP_ex (fun K hK => ?_); refine ⟨fun done W hI h0 hd hn hf R hR => ?_, ?_⟩; (have hno : done 5 = false := hn 5 (by decide); have hC := hI.before hno; have hcell := cells_of (blk_below Hrb.out hC.2); clear hC; clear h0 hd hn hf; go_simp; exact hR _ _ (hI.step hno (by decide) (Below.refl _ _)) (KeepFrom.of_below (Below.refl _ _)) rfl); (go_simp; refine hK _ ?_; clear hK K))
        (refine walkP_pr (fun K hK => ?_); refine ⟨fun done W hI h0 hd hn hf R hR => ?_, fun v3 => ?_⟩; (have hno : done 5 = false := hn 5 (by decide); have hC := hI.before hno; have hv : VRow wo.heap.size 9 verdictRow 5 v0 W := hf 0 (by decide); obtain ⟨b0, rfl, hb0, hc0⟩ := hv; have Hc0 := Lib.hid hc0; clear hc0 hC; clear h0 hd hn hf; go_simp; exact hR _ _ (hI.step hno (by decide) (Below.refl _ _)) (KeepFrom.of_below (Below.refl _ _)) ⟨b0, rfl, hb0, Hc0.out⟩); (go_simp; refine hK _ _ ?_; clear hK K))
        (refine walkP_ex (fun K hK => ?_); refine ⟨fun done W hI h0 hd hn hf R hR => ?_, ?_⟩; (have hno : done 5 = false := hn 5 (by decide); have hC := hI.before hno; have hv : VAt wo.heap.size 9 verdictRow (r.verdict).toNat v3 W := hf 3 (by decide); obtain ⟨b0, rfl, hb0, hc0⟩ := hv; have hcell := (cells_of hc0 _).trans (verdict_cell hv0 hv1); clear hc0 hC; clear h0 hd hn hf; go_simp; exact hR _ _ (hI.step hno (by decide) (Below.refl _ _)) (KeepFrom.of_below (Below.refl _ _)) rfl); (go_simp; refine hK _ ?_; clear hK K))
        (refine walkP_ex (fun K hK => ?_); refine ⟨fun done W hI h0 hd hn hf R hR => ?_, ?_⟩; (have hno : done 5 = false := h0; have hC := hI.before hno; have HC := Lib.hid hC; clear hC; clear h0 hd hn hf; go_simp; go_at_call 30; refine (bwrite_any w1.heap.size w1.heap.size t (bsL (verdictW r.verdict)) W (Hbd.out.below HC.out.2) (by show _ + ((verdictW r.verdict)).toArray.size ≤ _; simp; omega) (by have := Hbd.out.lt; have := HC.out.1; omega)).mono ?_; rintro e w9 ⟨rfl, h1, h2, h3⟩; exact ⟨_, rfl, hR _ _ (LastI.at_ ⟨h1, (Hb.out.trans ((Hbb.out.trans (HC.out.2.mono HBB.out)).mono hszr)).trans h2, ((Hbase.out.keep (Hbb.out.trans (HC.out.2.mono HBB.out)) h3 h2.size).2 _ (Nat.le_refl _) (by have h4 := (Array.getElem?_eq_some_iff.1 Hrb.out).1; have h5 := HC.out.1; omega)).trans (blk_below Hrb.out HC.out.2), by have h4 := HC.out.1; have h5 := HBB.out; have h6 := h2.size; omega⟩) (Hbase.out.keep (Hbb.out.trans (HC.out.2.mono HBB.out)) h3 h2.size) rfl⟩); (go_simp; refine hK _ ?_; clear hK K))
        intro done w4 hd hI _
        obtain ⟨hbd4, hb4, hrb4, hsz4⟩ := hI.after (hd 5 (by decide))
        clear hd hI
        have Hbd4 := Lib.hid hbd4
        have Hb4 := Lib.hid hb4
        have hcr := cells_of hrb4
        have Hrd4 : Hid (RdConds w4 (fun b => b < w.heap.size) (.slice ca r.conds.length cc) r.conds) := Hrd.out.keep (fun _ h _ => h) (fun b hb _ => by have h1 : b < w.heap.size := hb; rw [Hb4.out.block b (by omega), Hb.out.block b (by omega)]) hsz4
        clear hbd4 hb4 hrb4 Hbd Hbb Hrb HBB
        go_wp2_with fail
        clear hcr
        go_loopw [31] (fun jv wi => ∃ j : Nat, jv = .int .i64 j ∧ j ≤ r.conds.length ∧ Bd w1.heap.size w1.heap.size ((t ++ verdictW r.verdict) ++ headC (r.conds.take j)) wi ∧ Below w1.heap.size w1 wi ∧ w4.heap.size ≤ wi.heap.size) (fun jv _ => r.conds.length - (intOf jv).toNat)
        case atStart => exact ⟨0, rfl, by omega, by simpa [headC] using Hbd4.out, Hb4.out, Nat.le_refl _⟩
        case round =>
          obtain ⟨j, rfl, hj, hbd, hbi, hszi⟩ := hrel
          obtain ⟨wi, rfl⟩ : ∃ wi : World, wi = wr := ⟨_, rfl⟩
          have hul : ((t ++ verdictW r.verdict) ++ headC (r.conds.take j)).length ≤ 34000 := by
            have h1 := headC_len (r.conds.take j) (fun x hx => Hkr.out.conds x (List.mem_of_mem_take hx))
            rw [List.length_take] at h1
            have h2 := Hkr.out.len
            simp only [List.length_append]; omega
          obtain ⟨u, hu⟩ : ∃ u, u = (t ++ verdictW r.verdict) ++ headC (r.conds.take j) := ⟨_, rfl⟩
          rw [← hu] at hbd hul
          clear Hbase
          have Hbase := Lib.hid hbd
          have Hbi := Lib.hid hbi
          have Hu := Lib.hid hu
          have hszb := hbi.size
          clear hbd hbi hu
          by_cases hjl : j < r.conds.length
          · obtain ⟨b2, o2, rfl, _, _⟩ := hcat (by omega)
            have Hrdi : RdConds wi (fun b => b < w.heap.size) (.slice (some ⟨b2, o2, none⟩) r.conds.length cc) r.conds := Hrd4.out.keep (fun _ h _ => h) (fun b hb _ => by have h1 : b < w.heap.size := hb; rw [Hbi.out.block b (by omega), Hb4.out.block b (by omega)]) hszi
            obtain ⟨hd0, hd1, hd2⟩ := RdConds.cells Hrdi hjl
            have Hoc := Lib.hid (Hkr.out.conds r.conds[j] (List.getElem_mem hjl))
            have Hcj := Lib.hid (headC_take hjl)
            obtain ⟨⟨cf, cop, cv⟩, hcj⟩ : ∃ y : TCond, r.conds[j] = y := ⟨_, rfl⟩
            rw [hcj] at hd0 hd1 hd2 Hoc Hcj
            obtain ⟨hf0, hf1, ho0, ho1, hcv0, hcv1⟩ := (show (0 ≤ cf ∧ cf ≤ 4 ∧ 1 ≤ cop ∧ cop ≤ 4 ∧ 0 ≤ cv ∧ cv ≤ 65535) from ⟨Hoc.out.f0, by have h : cf < 5 := Hoc.out.f1; omega, Hoc.out.o0, Hoc.out.o1, Hoc.out.v0, by have h1 := Hoc.out.v1; have : mostOf cf ≤ 65535 := (by unfold mostOf; split <;> (try split) <;> omega); exact Int.le_trans h1 this⟩)
            have hf5 : cf < 5 := by omega
            have ho5 : cop < 5 := by omega
            have hoz : 0 ≤ cop := by omega
            have hfl := fieldW_len cf
            have hil := Lib.itoa_length_le cv (by omega) (by omega)
            obtain ⟨s1, hs1⟩ : ∃ s1, 32 :: fieldW cf = s1 := ⟨_, rfl⟩
            obtain ⟨s2, hs2⟩ : ∃ s2, s1 ++ [opW cop] = s2 := ⟨_, rfl⟩
            obtain ⟨s3, hs3⟩ : ∃ s3, s2 ++ Lib.itoa cv = s3 := ⟨_, rfl⟩
            have hl1 : s1.length ≤ 5 := by rw [← hs1]; simp; omega
            have hl2 : s2.length ≤ 6 := by rw [← hs2]; simp; omega
            have hl3 : s3.length ≤ 27 := by rw [← hs3]; simp; omega
            have hb1 : ∀ W : World, (Op.stringOp .add ⟨#[32]⟩ (bsL (fieldW cf))).run Tryd.prog W = .ok (.string (bsL s1)) W := fun W => by rw [← hs1]; exact add_bs [32] (fieldW cf) (by simp; omega) W
            have hb2 : ∀ W : World, (Op.stringOp .add (bsL s1) (bsL [opW cop])).run Tryd.prog W = .ok (.string (bsL s2)) W := fun W => by rw [← hs2]; exact add_bs s1 [opW cop] (by simp; omega) W
            have hb3 : ∀ W : World, (Op.stringOp .add (bsL s2) (bsL (Lib.itoa cv))).run Tryd.prog W = .ok (.string (bsL s3)) W := fun W => by rw [← hs3]; exact add_bs s2 (Lib.itoa cv) (by omega) W
            have HF : Hid (u ++ s3 = (t ++ verdictW r.verdict) ++ headC (r.conds.take (j + 1))) := by
              show _ = _
              rw [Hcj.out, ← hs3, ← hs2, ← hs1, Hu.out]; unfold condW; simp
            clear hs1 hs2 hs3 hl1 hl2 hcj
            go_wp2_with fail
            clear hd0 hd1 hd2
            obtain ⟨w5, hw5⟩ : ∃ w5, wi.alloc (.cells #[.int .i64 cf, .int .i64 cop, .int .i64 cv] 72) = w5 := ⟨_, rfl⟩
            have Hbb : Hid (Below wi.heap.size wi w5) := by show Below _ _ _; rw [← hw5]; exact bel_alloc (Below.refl _ _) _
            have Hrb : Hid (w5.heap[wi.heap.size]? = some (.cells #[.int .i64 cf, .int .i64 cop, .int .i64 cv] 72)) := by show _ = _; rw [← hw5]; exact heap_last _ _
            have HBB : Hid (wi.heap.size ≤ w5.heap.size) := Hbb.out.size
            have Hbd := Lib.hid (Hbase.out.below Hbb.out)
            have HLi := Lib.hid (HL1.out.below (Hbi.out.trans (Hbb.out.mono hszb)))
            rw [hw5]
            clear hw5
            refine wp_region_lastop 16 wi.heap.size [pr (VRow wi.heap.size 9 fieldRow 5), ex (.pointer (some ⟨wi.heap.size, 0, none⟩)), ex (.int .i64 cf), pr (VAt wi.heap.size 9 fieldRow cf.toNat), ex (.string (bsL (fieldW cf))), ex (.string (bsL s1)), pr (VRow wi.heap.size 9 opRow 5), ex (.pointer (some ⟨wi.heap.size, 1, none⟩)), ex (.int .i64 cop), pr (VAt wi.heap.size 9 opRow cop.toNat), ex (.string (bsL [opW cop])), ex (.string (bsL s2)), ex (.pointer (some ⟨wi.heap.size, 2, none⟩)), ex (.int .i64 cv), ex (.string (bsL (Lib.itoa cv))), ex (.string (bsL s3)), ex (.tuple #[.int .i64 ((bsL s3).size : Int), .nilIface])] (fun W => Bd w1.heap.size w1.heap.size (u ++ s3) W ∧ Below w1.heap.size w1 W ∧ wi.heap.size ≤ W.heap.size) (by kernel_rfl) (by kernel_rfl) ⟨.inr ⟨_, rfl, VRow.stable⟩, .inl ⟨_, rfl⟩, .inl ⟨_, rfl⟩, .inr ⟨_, rfl, VAt.stable⟩, .inl ⟨_, rfl⟩, .inl ⟨_, rfl⟩, .inr ⟨_, rfl, VRow.stable⟩, .inl ⟨_, rfl⟩, .inl ⟨_, rfl⟩, .inr ⟨_, rfl, VAt.stable⟩, .inl ⟨_, rfl⟩, .inl ⟨_, rfl⟩, .inl ⟨_, rfl⟩, .inl ⟨_, rfl⟩, .inl ⟨_, rfl⟩, .inl ⟨_, rfl⟩, .inl ⟨_, rfl⟩, trivial⟩ _ rfl ?_
            (refine walkP_pr (fun K hK => ?_); refine ⟨fun done W hI h0 hd hn hf R hR => ?_, fun v0 => ?_⟩; (have hno : done 16 = false := hn 16 (by decide); have hC := hI.before hno; have HC := Lib.hid hC; clear hC; clear h0 hd hn hf; go_simp; go_at_call 32; refine (fields_any W).mono ?_; rintro e w9 ⟨rfl, rfl⟩; exact ⟨_, rfl, hR _ _ (hI.step hno (by decide) (bel_alloc (Below.refl _ _) _)) (KeepFrom.of_below (bel_alloc (Below.refl _ _) _)) ⟨_, rfl, Nat.le_trans HBB.out HC.out.1, heap_last _ _⟩⟩); (go_simp; refine hK _ _ ?_; clear hK K))
            (refine walkP_ex (fun K hK => ?_); refine ⟨fun done W hI h0 hd hn hf R hR => ?_, ?_⟩; (have hno : done 16 = false := hn 16 (by decide); have hC := hI.before hno; clear h0 hd hn hf; go_simp; exact hR _ _ (hI.step hno (by decide) (Below.refl _ _)) (KeepFrom.of_below (Below.refl _ _)) rfl); (go_simp; refine hK _ ?_; clear hK K))
            (refine walkP_ex (fun K hK => ?_); refine ⟨fun done W hI h0 hd hn hf R hR => ?_, ?_⟩; (have hno : done 16 = false := hn 16 (by decide); have hC := hI.before hno; have hcell := cells_of (blk_below Hrb.out hC.2); clear hC; clear h0 hd hn hf; go_simp; exact hR _ _ (hI.step hno (by decide) (Below.refl _ _)) (KeepFrom.of_below (Below.refl _ _)) rfl); (go_simp; refine hK _ ?_; clear hK K))
            (refine walkP_pr (fun K hK => ?_); refine ⟨fun done W hI h0 hd hn hf R hR => ?_, fun v3 => ?_⟩; (have hno : done 16 = false := hn 16 (by decide); have hC := hI.before hno; have hv : VRow wi.heap.size 9 fieldRow 5 v0 W := hf 0 (by decide); obtain ⟨b0, rfl, hb0, hc0⟩ := hv; have Hc0 := Lib.hid hc0; clear hc0 hC; clear h0 hd hn hf; go_simp; exact hR _ _ (hI.step hno (by decide) (Below.refl _ _)) (KeepFrom.of_below (Below.refl _ _)) ⟨b0, rfl, hb0, Hc0.out⟩); (go_simp; refine hK _ _ ?_; clear hK K))
            (refine walkP_ex (fun K hK => ?_); refine ⟨fun done W hI h0 hd hn hf R hR => ?_, ?_⟩; (have hno : done 16 = false := hn 16 (by decide); have hC := hI.before hno; have hv : VAt wi.heap.size 9 fieldRow cf.toNat v3 W := hf 3 (by decide); obtain ⟨b0, rfl, hb0, hc0⟩ := hv; have hcell := (cells_of hc0 _).trans (field_cell hf0 hf1); clear hc0 hC; clear h0 hd hn hf; go_simp; exact hR _ _ (hI.step hno (by decide) (Below.refl _ _)) (KeepFrom.of_below (Below.refl _ _)) rfl); (go_simp; refine hK _ ?_; clear hK K))
            (refine walkP_ex (fun K hK => ?_); refine ⟨fun done W hI h0 hd hn hf R hR => ?_, ?_⟩; (have hno : done 16 = false := hn 16 (by decide); have hC := hI.before hno; clear h0 hd hn hf; go_simp; exact hR _ _ (hI.step hno (by decide) (Below.refl _ _)) (KeepFrom.of_below (Below.refl _ _)) rfl); (go_simp; refine hK _ ?_; clear hK K))
            (refine walkP_pr (fun K hK => ?_); refine ⟨fun done W hI h0 hd hn hf R hR => ?_, fun v6 => ?_⟩; (have hno : done 16 = false := hn 16 (by decide); have hC := hI.before hno; have HC := Lib.hid hC; clear hC; clear h0 hd hn hf; go_simp; go_at_call 33; refine (ops_any W).mono ?_; rintro e w9 ⟨rfl, rfl⟩; exact ⟨_, rfl, hR _ _ (hI.step hno (by decide) (bel_alloc (Below.refl _ _) _)) (KeepFrom.of_below (bel_alloc (Below.refl _ _) _)) ⟨_, rfl, Nat.le_trans HBB.out HC.out.1, heap_last _ _⟩⟩); (go_simp; refine hK _ _ ?_; clear hK K))
            (refine walkP_ex (fun K hK => ?_); refine ⟨fun done W hI h0 hd hn hf R hR => ?_, ?_⟩; (have hno : done 16 = false := hn 16 (by decide); have hC := hI.before hno; clear h0 hd hn hf; go_simp; exact hR _ _ (hI.step hno (by decide) (Below.refl _ _)) (KeepFrom.of_below (Below.refl _ _)) rfl); (go_simp; refine hK _ ?_; clear hK K))
            (refine walkP_ex (fun K hK => ?_); refine ⟨fun done W hI h0 hd hn hf R hR => ?_, ?_⟩; (have hno : done 16 = false := hn 16 (by decide); have hC := hI.before hno; have hcell := cells_of (blk_below Hrb.out hC.2); clear hC; clear h0 hd hn hf; go_simp; exact hR _ _ (hI.step hno (by decide) (Below.refl _ _)) (KeepFrom.of_below (Below.refl _ _)) rfl); (go_simp; refine hK _ ?_; clear hK K))
            (refine walkP_pr (fun K hK => ?_); refine ⟨fun done W hI h0 hd hn hf R hR => ?_, fun v9 => ?_⟩; (have hno : done 16 = false := hn 16 (by decide); have hC := hI.before hno; have hv : VRow wi.heap.size 9 opRow 5 v6 W := hf 6 (by decide); obtain ⟨b0, rfl, hb0, hc0⟩ := hv; have Hc0 := Lib.hid hc0; clear hc0 hC; clear h0 hd hn hf; go_simp; exact hR _ _ (hI.step hno (by decide) (Below.refl _ _)) (KeepFrom.of_below (Below.refl _ _)) ⟨b0, rfl, hb0, Hc0.out⟩); (go_simp; refine hK _ _ ?_; clear hK K))
            (refine walkP_ex (fun K hK => ?_); refine ⟨fun done W hI h0 hd hn hf R hR => ?_, ?_⟩; (have hno : done 16 = false := hn 16 (by decide); have hC := hI.before hno; have hv : VAt wi.heap.size 9 opRow cop.toNat v9 W := hf 9 (by decide); obtain ⟨b0, rfl, hb0, hc0⟩ := hv; have hcell := (cells_of hc0 _).trans (op_cell ho0 ho1); clear hc0 hC; clear h0 hd hn hf; go_simp; exact hR _ _ (hI.step hno (by decide) (Below.refl _ _)) (KeepFrom.of_below (Below.refl _ _)) rfl); (go_simp; refine hK _ ?_; clear hK K))
            (refine walkP_ex (fun K hK => ?_); refine ⟨fun done W hI h0 hd hn hf R hR => ?_, ?_⟩; (have hno : done 16 = false := hn 16 (by decide); have hC := hI.before hno; clear h0 hd hn hf; go_simp; exact hR _ _ (hI.step hno (by decide) (Below.refl _ _)) (KeepFrom.of_below (Below.refl _ _)) rfl); (go_simp; refine hK _ ?_; clear hK K))
            (refine walkP_ex (fun K hK => ?_); refine ⟨fun done W hI h0 hd hn hf R hR => ?_, ?_⟩; (have hno : done 16 = false := hn 16 (by decide); have hC := hI.before hno; clear h0 hd hn hf; go_simp; exact hR _ _ (hI.step hno (by decide) (Below.refl _ _)) (KeepFrom.of_below (Below.refl _ _)) rfl); (go_simp; refine hK _ ?_; clear hK K))
            (refine walkP_ex (fun K hK => ?_); refine ⟨fun done W hI h0 hd hn hf R hR => ?_, ?_⟩; (have hno : done 16 = false := hn 16 (by decide); have hC := hI.before hno; have hcell := cells_of (blk_below Hrb.out hC.2); clear hC; clear h0 hd hn hf; go_simp; exact hR _ _ (hI.step hno (by decide) (Below.refl _ _)) (KeepFrom.of_below (Below.refl _ _)) rfl); (go_simp; refine hK _ ?_; clear hK K))
            (refine walkP_ex (fun K hK => ?_); refine ⟨fun done W hI h0 hd hn hf R hR => ?_, ?_⟩; (have hno : done 16 = false := hn 16 (by decide); have hC := hI.before hno; have hLW := HLi.out.below hC.2; have HC := Lib.hid hC; clear hC; clear h0 hd hn hf; go_simp; go_at_call 34; refine (itoa_any cv (by omega) (by omega) _ hLW).mono ?_; rintro e w9 ⟨rfl, hb9⟩; exact ⟨_, rfl, hR _ _ (hI.step hno (by decide) hb9) (KeepFrom.of_below hb9) rfl⟩); (go_simp; refine hK _ ?_; clear hK K))
            (refine walkP_ex (fun K hK => ?_); refine ⟨fun done W hI h0 hd hn hf R hR => ?_, ?_⟩; (have hno : done 16 = false := hn 16 (by decide); have hC := hI.before hno; clear h0 hd hn hf; go_simp; exact hR _ _ (hI.step hno (by decide) (Below.refl _ _)) (KeepFrom.of_below (Below.refl _ _)) rfl); (go_simp; refine hK _ ?_; clear hK K))
            (refine walkP_ex (fun K hK => ?_); refine ⟨fun done W hI h0 hd hn hf R hR => ?_, ?_⟩; (have hno : done 16 = false := h0; have hC := hI.before hno; have HC := Lib.hid hC; clear hC; clear h0 hd hn hf; go_simp; go_at_call 30; refine (bwrite_any w1.heap.size w1.heap.size u (bsL s3) W (Hbd.out.below HC.out.2) (by show _ + (s3).toArray.size ≤ _; simp; omega) (by have := Hbd.out.lt; have := HC.out.1; omega)).mono ?_; rintro e w9 ⟨rfl, h1, h2, h3⟩; exact ⟨_, rfl, hR _ _ (LastI.at_ ⟨h1, (Hbi.out.trans ((Hbb.out.trans (HC.out.2.mono HBB.out)).mono hszb)).trans h2, by have h4 := HC.out.1; have h5 := HBB.out; have h6 := h2.size; omega⟩) (Hbase.out.keep (Hbb.out.trans (HC.out.2.mono HBB.out)) h3 h2.size) rfl⟩); (go_simp; refine hK _ ?_; clear hK K))
            intro done w6 hd hI _
            obtain ⟨hbd6, hb6, hsz6⟩ := hI.after (hd 16 (by decide))
            clear hd hI
            have Hbd6 := Lib.hid hbd6
            have Hb6 := Lib.hid hb6
            clear hbd6 hb6 hb1 hb2 hb3
            go_wp2
            go_roundw
            case rel => first | exact ⟨j + 1, by go_num, by omega, by rw [← HF.out]; exact Hbd6.out, Hb6.out, by omega⟩ | ((repeat apply Exists.intro); exact ⟨⟨j + 1, by go_num, by omega, by rw [← HF.out]; exact Hbd6.out, Hb6.out, by omega⟩, rfl⟩)
            case measure => simp [intOf]; omega
          · obtain rfl : j = r.conds.length := by omega
            have HF : Hid (u ++ (bsL [59]).data.toList = headP (p.rules.take (k + 1))) := by
              show _ = _
              rw [Htk.out, Hu.out, List.take_length, Ht.out, bsL_toList]; unfold ruleW headC; simp
            go_wp2_with (go_at_call 30; refine (bwrite_any w1.heap.size w1.heap.size u (bsL [59]) _ Hbase.out (by show _ + 1 ≤ _; omega) (by omega)).mono ?_; rintro e w9 ⟨rfl, h1, h2, _⟩; have H9 := Lib.hid h1; have Hb9 := Lib.hid (Hbi.out.trans h2); clear h1 h2)
            go_roundw
            case rel => first | exact ⟨k + 1, by go_num, by omega, by rw [← HF.out]; exact H9.out, Hb9.out⟩ | ((repeat apply Exists.intro); exact ⟨⟨k + 1, by go_num, by omega, by rw [← HF.out]; exact H9.out, Hb9.out⟩, rfl⟩)
            case measure => simp [intOf]; omega
      · obtain rfl : k = p.rules.length := by omega
        have hd0 := Hok.out.d0
        have hd1 := Hok.out.d1
        have hd5 : p.dflt < 5 := by omega
        have hvl := verdictW_len p.dflt
        have Hbb := Lib.hid (Below.refl wo.heap.size wo)
        have HBB : Hid (wo.heap.size ≤ wo.heap.size) := Nat.le_refl _
        have Hbd := Lib.hid Hbase.out
        have Hrb : Hid (wo.heap[w.heap.size]? = some (.cells #[.slice a p.rules.length c, .int .i64 p.dflt] 24)) := HBr.out.at_ 0 _ rfl
        go_wp2_with fail
        refine wp_region_lastop 5 wo.heap.size [pr (VRow wo.heap.size 9 verdictRow 5), ex (.pointer (some ⟨w.heap.size, 1, none⟩)), ex (.int .i64 p.dflt), pr (VAt wo.heap.size 9 verdictRow (p.dflt).toNat), ex (.string (bsL (verdictW p.dflt))), ex (.tuple #[.int .i64 ((bsL (verdictW p.dflt)).size : Int), .nilIface])] (fun W => Bd w1.heap.size w1.heap.size (t ++ verdictW p.dflt) W ∧ Below w1.heap.size w1 W) (by kernel_rfl) (by kernel_rfl) ⟨.inr ⟨_, rfl, VRow.stable⟩, .inl ⟨_, rfl⟩, .inl ⟨_, rfl⟩, .inr ⟨_, rfl, VAt.stable⟩, .inl ⟨_, rfl⟩, .inl ⟨_, rfl⟩, trivial⟩ _ rfl ?_
        (refine walkP_pr (fun K hK => ?_); refine ⟨fun done W hI h0 hd hn hf R hR => ?_, fun v0 => ?_⟩; (have hno : done 5 = false := hn 5 (by decide); have hC := hI.before hno; have HC := Lib.hid hC; clear hC; clear h0 hd hn hf; go_simp; go_at_call 31; refine (verdicts_any W).mono ?_; rintro e w9 ⟨rfl, rfl⟩; exact ⟨_, rfl, hR _ _ (hI.step hno (by decide) (bel_alloc (Below.refl _ _) _)) (KeepFrom.of_below (bel_alloc (Below.refl _ _) _)) ⟨_, rfl, Nat.le_trans HBB.out HC.out.1, heap_last _ _⟩⟩); (go_simp; refine hK _ _ ?_; clear hK K))
        (refine walkP_ex (fun K hK => ?_); refine ⟨fun done W hI h0 hd hn hf R hR => ?_, ?_⟩; (have hno : done 5 = false := hn 5 (by decide); have hC := hI.before hno; clear h0 hd hn hf; go_simp; exact hR _ _ (hI.step hno (by decide) (Below.refl _ _)) (KeepFrom.of_below (Below.refl _ _)) rfl); (go_simp; refine hK _ ?_; clear hK K))
        (refine walkP_ex (fun K hK => ?_); refine ⟨fun done W hI h0 hd hn hf R hR => ?_, ?_⟩; (have hno : done 5 = false := hn 5 (by decide); have hC := hI.before hno; have hcell := cells_of (blk_below Hrb.out hC.2); clear hC; clear h0 hd hn hf; go_simp; exact hR _ _ (hI.step hno (by decide) (Below.refl _ _)) (KeepFrom.of_below (Below.refl _ _)) rfl); (go_simp; refine hK _ ?_; clear hK K))
        (refine walkP_pr (fun K hK => ?_); refine ⟨fun done W hI h0 hd hn hf R hR => ?_, fun v3 => ?_⟩; (have hno : done 5 = false := hn 5 (by decide); have hC := hI.before hno; have hv : VRow wo.heap.size 9 verdictRow 5 v0 W := hf 0 (by decide); obtain ⟨b0, rfl, hb0, hc0⟩ := hv; have Hc0 := Lib.hid hc0; clear hc0 hC; clear h0 hd hn hf; go_simp; exact hR _ _ (hI.step hno (by decide) (Below.refl _ _)) (KeepFrom.of_below (Below.refl _ _)) ⟨b0, rfl, hb0, Hc0.out⟩); (go_simp; refine hK _ _ ?_; clear hK K))
        (refine walkP_ex (fun K hK => ?_); refine ⟨fun done W hI h0 hd hn hf R hR => ?_, ?_⟩; (have hno : done 5 = false := hn 5 (by decide); have hC := hI.before hno; have hv : VAt wo.heap.size 9 verdictRow (p.dflt).toNat v3 W := hf 3 (by decide); obtain ⟨b0, rfl, hb0, hc0⟩ := hv; have hcell := (cells_of hc0 _).trans (verdict_cell hd0 hd1); clear hc0 hC; clear h0 hd hn hf; go_simp; exact hR _ _ (hI.step hno (by decide) (Below.refl _ _)) (KeepFrom.of_below (Below.refl _ _)) rfl); (go_simp; refine hK _ ?_; clear hK K))
        (refine walkP_ex (fun K hK => ?_); refine ⟨fun done W hI h0 hd hn hf R hR => ?_, ?_⟩; (have hno : done 5 = false := h0; have hC := hI.before hno; have HC := Lib.hid hC; clear hC; clear h0 hd hn hf; go_simp; go_at_call 30; refine (bwrite_any w1.heap.size w1.heap.size t (bsL (verdictW p.dflt)) W (Hbd.out.below HC.out.2) (by show _ + ((verdictW p.dflt)).toArray.size ≤ _; simp; omega) (by have := Hbd.out.lt; have := HC.out.1; omega)).mono ?_; rintro e w9 ⟨rfl, h1, h2, h3⟩; exact ⟨_, rfl, hR _ _ (LastI.at_ ⟨h1, (Hb.out.trans (HC.out.2.mono hszr)).trans h2⟩) (Hbase.out.keep (Hbb.out.trans (HC.out.2.mono HBB.out)) h3 h2.size) rfl⟩); (go_simp; refine hK _ ?_; clear hK K))
        intro done w4 hd hI _
        obtain ⟨hbd4, hb4⟩ := hI.after (hd 5 (by decide))
        clear hd hI
        have HF : Hid (t ++ verdictW p.dflt = textP p) := by
          show _ = _
          rw [Ht.out, List.take_length]; rfl
        have hne : t ++ verdictW p.dflt ≠ [] := by
          unfold verdictW
          repeat (split; · simp)
          simp
        have Hne := Lib.hid hne
        have Hbd4 := Lib.hid hbd4
        have Hb4 := Lib.hid hb4
        clear hbd4 hb4 hne
        go_wp2_with fail
        refine (bstring_any w1.heap.size w1.heap.size _ _ Hbd4.out Hne.out).mono ?_
        rintro e w5 ⟨rfl, hb5⟩
        have HBf := Lib.hid (HB.out.bel.trans ((Hb4.out.trans hb5).mono HB.out.bel.size))
        clear hb5
        go_wp2
        go_ret2
        exact ⟨by rw [HE.out, ← HF.out]; rfl, HBf.out⟩
  · have HE : Hid (printE p = ([], polE p)) := if_neg h0
    have hne : (polE p != 0) = true := bne_iff_ne.2 h0
    have HBf := Lib.hid HB.out.bel
    generalize polE p = E at *
    clear h0
    go_wp2
    go_ret2
    exact ⟨by rw [HE.out]; rfl, HBf.out⟩
end Go.Proofs.YthkgjohhbdipcaaDoor
namespace Go.Proofs.YthkgjohhbdipcaaDoor
open Go.RowKit
attribute [local go_sem] gives givesUpon

theorem bytes_of {b : ByteArray} {l : List UInt8} (h : b.data.toList = l) : b = ⟨⟨l⟩⟩ := by
  obtain ⟨⟨d⟩⟩ := b
  simp at h
  subst h
  rfl
theorem cont_high (n : Nat) : 128 ≤ (UInt8.ofNat (128 + n % 64)).toNat := by
  rw [UInt8.toNat_ofNat']
  have := Nat.mod_lt n (show 0 < 64 by decide)
  rw [Nat.mod_eq_of_lt (by omega)]
  omega
set_option maxRecDepth 100000 in
set_option maxHeartbeats 4000000 in
theorem idxrune_valid (r : Nat) (h1 : 128 ≤ r) (h2 : r ≤ 1114111) (hv : r < 55296 ∨ 57344 ≤ r) (w : World) :
    Calls Tryd.prog 76 #[.string ⟨#[61, 33, 60, 62]⟩, .int .i32 r] w fun e w' => e = .returned (.int .i64 (-1)) ∧ Below w.heap.size w w' := by
  by_cases hr : r = 65533
  · subst hr
    go_enter Tryd.func76, Tryd.ntmps76
    go_wp2_with fail
    go_loopg [5, 6] 4 (fun g _ _ wx => ∃ i : Nat, i + g = 4 ∧ wx = w.iter ⟨#[61, 33, 60, 62]⟩ i)
    case atStart => exact ⟨0, by omega, rfl⟩
    case round =>
      obtain ⟨i, hig, rfl⟩ := hrel
      cases gk with
      | zero =>
        obtain rfl : i = 4 := by omega
        have hnx := fun ty => run_next_end (P := Tryd.prog) w ⟨#[61, 33, 60, 62]⟩ 4 ty (by decide)
        go_wp2
        go_ret
        exact ⟨rfl, bel_alloc (Below.refl _ _) _⟩
      | succ g =>
        have hi : i = 0 ∨ i = 1 ∨ i = 2 ∨ i = 3 := by omega
        rcases hi with rfl | rfl | rfl | rfl
        · have hnx := fun ty => run_next_ascii (P := Tryd.prog) w ⟨#[61, 33, 60, 62]⟩ 0 ty (by decide) (by decide)
          rw [show ((⟨#[61, 33, 60, 62]⟩ : ByteArray)[0]'(by decide)) = 61 from rfl] at hnx
          go_wp2
          go_roundg g
          case measure => omega
          case rel => exact ⟨1, by omega, rfl⟩
        · have hnx := fun ty => run_next_ascii (P := Tryd.prog) w ⟨#[61, 33, 60, 62]⟩ 1 ty (by decide) (by decide)
          rw [show ((⟨#[61, 33, 60, 62]⟩ : ByteArray)[1]'(by decide)) = 33 from rfl] at hnx
          go_wp2
          go_roundg g
          case measure => omega
          case rel => exact ⟨2, by omega, rfl⟩
        · have hnx := fun ty => run_next_ascii (P := Tryd.prog) w ⟨#[61, 33, 60, 62]⟩ 2 ty (by decide) (by decide)
          rw [show ((⟨#[61, 33, 60, 62]⟩ : ByteArray)[2]'(by decide)) = 60 from rfl] at hnx
          go_wp2
          go_roundg g
          case measure => omega
          case rel => exact ⟨3, by omega, rfl⟩
        · have hnx := fun ty => run_next_ascii (P := Tryd.prog) w ⟨#[61, 33, 60, 62]⟩ 3 ty (by decide) (by decide)
          rw [show ((⟨#[61, 33, 60, 62]⟩ : ByteArray)[3]'(by decide)) = 62 from rfl] at hnx
          go_wp2
          go_roundg g
          case measure => omega
          case rel => exact ⟨4, by omega, rfl⟩
  · have g0 : (0 : Int) ≤ (r : Int) := by omega
    have g1 : ¬ (r : Int) < 128 := by omega
    have g2 : ((r : Int) == 65533) = false := beq_eq_false_iff_ne.2 (by omega)
    have hval : Hid (Lib.validRune (r : Int) = true) := by show _ = _; unfold Lib.validRune; exact decide_eq_true (by omega)
    go_enter Tryd.func76, Tryd.ntmps76
    go_wp2_with fail
    refine (Tryd.utf8_ValidRune r _).mono ?_
    rw [hval.out]
    rintro e w1 ⟨rfl, rfl⟩
    clear g0 g1 g2 hval
    rcases (by omega : r < 2048 ∨ (2048 ≤ r ∧ r < 65536) ∨ 65536 ≤ r) with hc | hc | hc
    · obtain ⟨b0, b1, hN, hb⟩ : ∃ b0 b1 : UInt8, Utf8.encode (r : Int) = ⟨#[b0, b1]⟩ ∧ 128 ≤ b1.toNat := ⟨_, _, bytes_of (Go.Extern.FmtText.enc2 r (by omega) hc), cont_high _⟩
      have hne : (((33 : Int)) != (b1.toNat : Int)) = true := bne_iff_ne.2 (by omega)
      have hsz : (⟨#[b0, b1]⟩ : ByteArray).size = 2 := rfl
      have hg2 : ∀ h, (⟨#[61, 33, 60, 62]⟩ : ByteArray)[1]'h = 33 := fun _ => rfl
      have hg : ∀ h, (⟨#[b0, b1]⟩ : ByteArray)[1]'h = b1 := fun _ => rfl
      have HR : Hid (Lib.indexByte [60, 62] b1 = -1) := by
        show _ = _
        have e : ∀ c : UInt8, c.toNat < 128 → (c == b1) = false := fun c hc => beq_eq_false_iff_ne.2 (fun e => by rw [e] at hc; omega)
        simp [Lib.indexByte, e]
      go_wp2_with fail
      go_step3
      go_wp2_with fail
      go_loopw [9, 10] (fun iv fv wr => iv = .int .i64 1 ∧ fv = .int .i64 0 ∧ wr = w1) (fun _ _ _ => 0)
      case atStart => exact ⟨rfl, rfl, rfl⟩
      case round =>
        obtain ⟨rfl, rfl, hw⟩ := hrel
        subst hw
        go_wp2_with fail
        go_step3
        go_wp2_with fail
        refine wp_region_exact3 _ (Nat.le_refl _) (by kernel_rfl) (by kernel_rfl) ?_
        repeat (refine monoE_step (fun K hK => ?_); apply Exists.intro; refine ⟨fun W hC R hR => ?_, ?_⟩; (go_simp; exact hR _ _ (Below.refl _ _) rfl); (go_simp; refine hK _ ?_; clear hK K))
        intro w2 hC2
        have H2 := Lib.hid hC2.2
        have Hsz := Lib.hid hsz
        clear hC2 hb hN h1 h2 hv hr hc
        go_wp2_with fail
        refine wp_region_exact3 _ (Nat.le_refl _) (by kernel_rfl) (by kernel_rfl) ?_
        repeat (refine monoE_step (fun K hK => ?_); apply Exists.intro; refine ⟨fun W hC R hR => ?_, ?_⟩; (first | (go_simp; exact hR _ _ (Below.refl _ _) rfl) | (go_simp; go_at_call 92; refine (Tryd.strings_IndexByte _ _ _).mono ?_; rintro e w9 ⟨he, rfl⟩; have he2 : e = .returned (.int .i64 (-1)) := (he.trans (congrArg (fun z => Ending.returned (Value.int .i64 z)) (by first | exact HR.out | (go_simp; exact HR.out)))); subst he2; exact ⟨_, rfl, hR _ _ (Below.refl _ _) rfl⟩)); (go_simp; refine hK _ ?_; clear hK K))
        intro w3 hC3
        have H3 := Lib.hid (bel_call H2.out hC3.2)
        clear hC3
        go_wp2
        simp +zetaDelta only [Exit.noGoto_ret, Exit.inBlock, Exit.then]
        go_ret
        exact ⟨rfl, H3.out⟩
    · obtain ⟨b0, b1, b2, hN, hb⟩ : ∃ b0 b1 b2 : UInt8, Utf8.encode (r : Int) = ⟨#[b0, b1, b2]⟩ ∧ 128 ≤ b2.toNat := ⟨_, _, _, bytes_of (Go.Extern.FmtText.enc3 r (by omega) (by omega) hv), cont_high _⟩
      have hne : (((60 : Int)) != (b2.toNat : Int)) = true := bne_iff_ne.2 (by omega)
      have hsz : (⟨#[b0, b1, b2]⟩ : ByteArray).size = 3 := rfl
      have hg2 : ∀ h, (⟨#[61, 33, 60, 62]⟩ : ByteArray)[2]'h = 60 := fun _ => rfl
      have hg : ∀ h, (⟨#[b0, b1, b2]⟩ : ByteArray)[2]'h = b2 := fun _ => rfl
      have HR : Hid (Lib.indexByte [62] b2 = -1) := by
        show _ = _
        have e : ∀ c : UInt8, c.toNat < 128 → (c == b2) = false := fun c hc => beq_eq_false_iff_ne.2 (fun e => by rw [e] at hc; omega)
        simp [Lib.indexByte, e]
      go_wp2_with fail
      go_step3
      go_wp2_with fail
      go_loopw [9, 10] (fun iv fv wr => iv = .int .i64 2 ∧ fv = .int .i64 0 ∧ wr = w1) (fun _ _ _ => 0)
      case atStart => exact ⟨rfl, rfl, rfl⟩
      case round =>
        obtain ⟨rfl, rfl, hw⟩ := hrel
        subst hw
        go_wp2_with fail
        go_step3
        go_wp2_with fail
        refine wp_region_exact3 _ (Nat.le_refl _) (by kernel_rfl) (by kernel_rfl) ?_
        repeat (refine monoE_step (fun K hK => ?_); apply Exists.intro; refine ⟨fun W hC R hR => ?_, ?_⟩; (go_simp; exact hR _ _ (Below.refl _ _) rfl); (go_simp; refine hK _ ?_; clear hK K))
        intro w2 hC2
        have H2 := Lib.hid hC2.2
        have Hsz := Lib.hid hsz
        clear hC2 hb hN h1 h2 hv hr hc
        go_wp2_with fail
        refine wp_region_exact3 _ (Nat.le_refl _) (by kernel_rfl) (by kernel_rfl) ?_
        repeat (refine monoE_step (fun K hK => ?_); apply Exists.intro; refine ⟨fun W hC R hR => ?_, ?_⟩; (first | (go_simp; exact hR _ _ (Below.refl _ _) rfl) | (go_simp; go_at_call 92; refine (Tryd.strings_IndexByte _ _ _).mono ?_; rintro e w9 ⟨he, rfl⟩; have he2 : e = .returned (.int .i64 (-1)) := (he.trans (congrArg (fun z => Ending.returned (Value.int .i64 z)) (by first | exact HR.out | (go_simp; exact HR.out)))); subst he2; exact ⟨_, rfl, hR _ _ (Below.refl _ _) rfl⟩)); (go_simp; refine hK _ ?_; clear hK K))
        intro w3 hC3
        have H3 := Lib.hid (bel_call H2.out hC3.2)
        clear hC3
        go_wp2
        simp +zetaDelta only [Exit.noGoto_ret, Exit.inBlock, Exit.then]
        go_ret
        exact ⟨rfl, H3.out⟩
    · obtain ⟨b0, b1, b2, b3, hN, hb⟩ : ∃ b0 b1 b2 b3 : UInt8, Utf8.encode (r : Int) = ⟨#[b0, b1, b2, b3]⟩ ∧ 128 ≤ b3.toNat := ⟨_, _, _, _, bytes_of (Go.Extern.FmtText.enc4 r (by omega) h2), cont_high _⟩
      have hne : (((62 : Int)) != (b3.toNat : Int)) = true := bne_iff_ne.2 (by omega)
      have hsz : (⟨#[b0, b1, b2, b3]⟩ : ByteArray).size = 4 := rfl
      have hg2 : ∀ h, (⟨#[61, 33, 60, 62]⟩ : ByteArray)[3]'h = 62 := fun _ => rfl
      have hg : ∀ h, (⟨#[b0, b1, b2, b3]⟩ : ByteArray)[3]'h = b3 := fun _ => rfl
      have HR : Hid (Lib.indexByte [] b3 = -1) := by
        show _ = _
        show Lib.indexByte [] _ = _
        rfl
      go_wp2_with fail
      go_step3
      go_wp2_with fail
      go_loopw [9, 10] (fun iv fv wr => iv = .int .i64 3 ∧ fv = .int .i64 0 ∧ wr = w1) (fun _ _ _ => 0)
      case atStart => exact ⟨rfl, rfl, rfl⟩
      case round =>
        obtain ⟨rfl, rfl, hw⟩ := hrel
        subst hw
        go_wp2_with fail
        go_step3
        go_wp2_with fail
        refine wp_region_exact3 _ (Nat.le_refl _) (by kernel_rfl) (by kernel_rfl) ?_
        repeat (refine monoE_step (fun K hK => ?_); apply Exists.intro; refine ⟨fun W hC R hR => ?_, ?_⟩; (go_simp; exact hR _ _ (Below.refl _ _) rfl); (go_simp; refine hK _ ?_; clear hK K))
        intro w2 hC2
        have H2 := Lib.hid hC2.2
        have Hsz := Lib.hid hsz
        clear hC2 hb hN h1 h2 hv hr hc
        go_wp2_with fail
        refine wp_region_exact3 _ (Nat.le_refl _) (by kernel_rfl) (by kernel_rfl) ?_
        repeat (refine monoE_step (fun K hK => ?_); apply Exists.intro; refine ⟨fun W hC R hR => ?_, ?_⟩; (first | (go_simp; exact hR _ _ (Below.refl _ _) rfl) | (go_simp; go_at_call 92; refine (Tryd.strings_IndexByte _ _ _).mono ?_; rintro e w9 ⟨he, rfl⟩; have he2 : e = .returned (.int .i64 (-1)) := (he.trans (congrArg (fun z => Ending.returned (Value.int .i64 z)) (by first | exact HR.out | (go_simp; exact HR.out)))); subst he2; exact ⟨_, rfl, hR _ _ (Below.refl _ _) rfl⟩)); (go_simp; refine hK _ ?_; clear hK K))
        intro w3 hC3
        have H3 := Lib.hid (bel_call H2.out hC3.2)
        clear hC3
        go_wp2
        simp +zetaDelta only [Exit.noGoto_ret, Exit.inBlock, Exit.then]
        go_ret
        exact ⟨rfl, H3.out⟩

set_option maxRecDepth 100000 in
set_option maxHeartbeats 4000000 in
theorem idxrune_sign (r : Nat) (h1 : 128 ≤ r) (h2 : r ≤ 1114111) (w : World) :
    Calls Tryd.prog 76 #[.string ⟨#[61, 33, 60, 62]⟩, .int .i32 r] w fun e w' => e = .returned (.int .i64 (-1)) ∧ Below w.heap.size w w' := by
  by_cases hv : r < 55296 ∨ 57344 ≤ r
  · exact idxrune_valid r h1 h2 hv w
  · have g0 : (0 : Int) ≤ (r : Int) := by omega
    have g1 : ¬ (r : Int) < 128 := by omega
    have g2 : ((r : Int) == 65533) = false := beq_eq_false_iff_ne.2 (by omega)
    have hval : Hid (Lib.validRune (r : Int) = false) := by show _ = _; unfold Lib.validRune; exact decide_eq_false (by omega)
    go_enter Tryd.func76, Tryd.ntmps76
    go_wp2_with fail
    refine (Tryd.utf8_ValidRune r _).mono ?_
    rw [hval.out]
    rintro e w1 ⟨rfl, rfl⟩
    go_wp2
    go_ret
    exact ⟨rfl, Below.refl _ _⟩
theorem enc_high (r : Int) (h : 128 ≤ r) : ∀ b ∈ Lib.encodeRune r, 128 ≤ b.toNat := by
  have key : ∀ x ∈ Lib.encodeRuneZ r, 128 ≤ x ∧ x < 256 := fun x hx => by
    rcases (by omega : r ≤ 2047 ∨ (2048 ≤ r ∧ r < 55296) ∨ (55296 ≤ r ∧ r ≤ 57343) ∨ (57343 < r ∧ r ≤ 65535) ∨ (65536 ≤ r ∧ r ≤ 1114111) ∨ 1114111 < r) with hc | hc | hc | hc | hc | hc
    · rw [Lib.encodeRuneZ_two h hc] at hx; simp at hx; rcases hx with rfl | rfl <;> omega
    · rw [Lib.encodeRuneZ_three (.inl hc)] at hx; simp at hx; rcases hx with rfl | rfl | rfl <;> omega
    · rw [Lib.encodeRuneZ_bad (.inr (.inl hc))] at hx; simp at hx; rcases hx with rfl | rfl | rfl <;> omega
    · rw [Lib.encodeRuneZ_three (.inr hc)] at hx; simp at hx; rcases hx with rfl | rfl | rfl <;> omega
    · rw [Lib.encodeRuneZ_four hc.1 hc.2] at hx; simp at hx; rcases hx with rfl | rfl | rfl | rfl <;> omega
    · rw [Lib.encodeRuneZ_bad (.inr (.inr hc))] at hx; simp at hx; rcases hx with rfl | rfl | rfl <;> omega
  intro b hb
  unfold Lib.encodeRune at hb
  obtain ⟨x, hx, rfl⟩ := List.mem_map.1 hb
  obtain ⟨h1, h2⟩ := key x hx
  rw [show x.toNat.toUInt8.toNat = x.toNat % 256 from UInt8.toNat_ofNat' ..]
  omega
theorem iter_below {B k p : Nat} {s : ByteArray} {w W : World} (h : Below B w W) (hk : B ≤ k) : Below B w (W.iterAt k s p) :=
  ⟨h.os, h.tape, h.output, by simp [World.iterAt]; exact h.size, fun b hb => by
    rw [← h.block b hb]
    simp only [World.iterAt]
    rw [Array.getElem?_setIfInBounds_ne (by omega)]⟩
/-- the bytes of a rune whose head is no ASCII byte. -/
theorem dec_high (u : ByteArray) (i : Nat) (hi : i < u.size) (ha : 128 ≤ (u[i]'hi).toNat) : 128 ≤ (Utf8.decode u i).1 ∧ (Utf8.decode u i).1 ≤ 1114111 ∧ 1 ≤ (Utf8.decode u i).2 ∧ i + (Utf8.decode u i).2 ≤ u.size ∧
    ∀ (j : Nat) (y : UInt8), i ≤ j → j < i + (Utf8.decode u i).2 → u.data.toList[j]? = some y → 128 ≤ y.toNat := by
  have hh := decode_high u i hi ha
  have hd := Lib.decodeL_drop u i
  have hlen : u.data.toList.length = u.size := (Lib.size_eq u).symm
  have hne : u.data.toList.drop i ≠ [] := fun e => by have := congrArg List.length e; simp at this; rw [← hlen] at hi; simp at hi; omega
  have hr := Lib.decodeL_rune (u.data.toList.drop i)
  have hle := Lib.decodeL_le (u.data.toList.drop i) hne
  rw [hd] at hr hle
  rw [List.length_drop, hlen] at hle
  refine ⟨hh.1, hr, hh.2, by omega, fun j y h1 h2 hy => ?_⟩
  by_cases hs : (Utf8.decode u i).1 = 65533 ∧ (Utf8.decode u i).2 = 1
  · obtain rfl : j = i := by have := hs.2; omega
    have := Lib.data_getElem? u j hi
    rw [this] at hy
    injection hy with hy
    rw [← hy]
    exact ha
  · have he := Lib.encode_decode (u.data.toList.drop i) hne (by rw [hd]; exact hs)
    rw [hd] at he
    have hm : y ∈ (u.data.toList.drop i).take (Utf8.decode u i).2 := by
      rw [List.mem_iff_getElem?]
      refine ⟨j - i, ?_⟩
      rw [List.getElem?_take_of_lt (by omega), List.getElem?_drop, show i + (j - i) = j by omega]
      exact hy
    rw [← he] at hm
    exact enc_high _ (by have := hh.1; omega) y hm
set_option maxRecDepth 100000 in
set_option maxHeartbeats 8000000 in
theorem indexany_any (u : ByteArray) (hu : u.size < 4294967281) (w : World) :
    Calls Tryd.prog 62 #[.string u, .string ⟨#[61, 33, 60, 62]⟩] w fun e w' => e = .returned (.int .i64 (Lib.indexAny u.data.toList [61, 33, 60, 62])) ∧ Below w.heap.size w w' := by
  have h116 : (Tryd.prog.info? 121).map (fun i => (i.zero, i.size)) = some (some (.agg (Array.replicate 256 (.bool false))), 256) := by kernel_rfl
  by_cases h8 : 8 < u.size
  · refine (Tryd.strings_IndexAny_long (zero_of_info h116).1 u ⟨#[61, 33, 60, 62]⟩ w (by decide) h8 hu (by decide) (fun j b hb => ?_)).mono ?_
    · have hb' : [(61 : UInt8), 33, 60, 62][j]? = some b := hb
      match j, hb' with
      | 0, h => simp at h; subst h; decide
      | 1, h => simp at h; subst h; decide
      | 2, h => simp at h; subst h; decide
      | 3, h => simp at h; subst h; decide
      | j + 4, h => simp at h
    · rintro e w' ⟨rfl, rfl⟩
      exact ⟨rfl, bel_alloc (bel_alloc (Below.refl _ _) _) _⟩
  · have h8z : decide ((8 : Int) < (u.size : Int)) = false := decide_eq_false (by omega)
    clear h116 h8
    go_enter Tryd.func62, Tryd.ntmps62
    go_wp2_with fail
    refine (Tryd.strings_shouldUseASCIISet _ _).mono ?_
    rw [h8z]
    rintro e w1 ⟨rfl, rfl⟩
    clear h8z
    go_wp2_with fail
    go_loopg [9, 10] u.size (fun g _ _ wx => ∃ i : Nat, i + g = u.size ∧ wx.heap[w1.heap.size]? = some (.stringIter u i) ∧ Below w1.heap.size w1 wx ∧ Lib.NoAny u.data.toList [61, 33, 60, 62] i)
    case atStart => exact ⟨0, by omega, World.iter_heap _ _ _, bel_alloc (Below.refl _ _) _, Lib.NoAny.zero _ _⟩
    case round =>
      obtain ⟨i, hig, hit, hbw, hno⟩ := hrel
      have HN := Lib.hid hno
      have HI := Lib.hid hit
      have Hb := Lib.hid hbw
      clear hno hbw
      by_cases hi : i < u.size
      · by_cases ha : (u[i]'hi).toNat < 128
        · have hnx := fun (wx : World) (h : wx.heap[w1.heap.size]? = some (.stringIter u i)) ty => Lib.run_next_ascii_at (P := Tryd.prog) wx w1.heap.size u i ty h hi ha
          obtain ⟨x, hx⟩ : ∃ x : UInt8, u[i]'hi = x := ⟨_, rfl⟩
          have hxl : u.data.toList[i]? = some x := by rw [← hx]; exact Lib.data_getElem? u i hi
          rw [hx] at hnx ha
          have hk := hnx wr HI.out
          have Hx := Lib.hid hxl
          have HI2 := Lib.hid (Lib.iterAt_heap wr w1.heap.size u i (i + 1) HI.out)
          have Hb2 := Lib.hid (iter_below (k := w1.heap.size) (s := u) (p := i + 1) Hb.out (Nat.le_refl _))
          have hcon := Lib.contains_iff_indexByte [61, 33, 60, 62] x
          have hback : ((x.toNat : Int)).toNat.toUInt8 = x := by simp
          clear hx hxl hnx hit
          cases hin : ([61, 33, 60, 62] : List UInt8).contains x
          · rw [hin] at hcon
            have hlt : ¬ ((0 : Int) ≤ Lib.indexByte [61, 33, 60, 62] x) := of_decide_eq_false hcon.symm
            have HN2 := Lib.hid (HN.out.succ Hx.out hin)
            clear hcon hin
            go_wp2_with fail
            refine (Tryd.strings_IndexRune_ascii _ _ _ (by omega) (by omega)).mono ?_
            rintro e w3 ⟨rfl, rfl⟩
            rw [hback]
            go_wp2
            go_roundg (u.size - (i + 1))
            case measure => omega
            case rel => exact ⟨i + 1, by omega, HI2.out, Hb2.out, HN2.out⟩
          · rw [hin] at hcon
            have hge : (0 : Int) ≤ Lib.indexByte [61, 33, 60, 62] x := of_decide_eq_true hcon.symm
            have HE := Lib.hid (Lib.indexAny_hit HN.out Hx.out hin)
            clear hcon hin
            go_wp2_with fail
            refine (Tryd.strings_IndexRune_ascii _ _ _ (by omega) (by omega)).mono ?_
            rintro e w3 ⟨rfl, rfl⟩
            rw [hback]
            go_wp2
            go_ret
            exact ⟨by rw [HE.out]; rfl, Hb2.out⟩
        · obtain ⟨d1, d2, d3, d4, d5⟩ := dec_high u i hi (by omega)
          have hk := fun ty => Lib.run_next_any_at (P := Tryd.prog) wr w1.heap.size u i ty HI.out hi
          obtain ⟨⟨r, m⟩, hd⟩ : ∃ d, Utf8.decode u i = d := ⟨_, rfl⟩
          rw [hd] at d1 d2 d3 d4 d5 hk
          dsimp only at d1 d2 d3 d4 d5 hk
          have HI2 := Lib.hid (Lib.iterAt_heap wr w1.heap.size u i (i + m) HI.out)
          have Hb2 := Lib.hid (iter_below (k := w1.heap.size) (s := u) (p := i + m) Hb.out (Nat.le_refl _))
          have HN2 : Hid (Lib.NoAny u.data.toList [61, 33, 60, 62] (i + m)) := fun j y hj hy => by
            by_cases hji : j < i
            · exact HN.out j y hji hy
            · have := d5 j y (by omega) hj hy
              have e : ∀ c : UInt8, c.toNat < 128 → (y == c) = false := fun c hc => beq_eq_false_iff_ne.2 (fun e => by rw [e] at this; omega)
              simp [List.contains, List.elem, e]
          clear hd d5 ha hit
          go_wp2_with fail
          refine (idxrune_sign r d1 d2 _).mono ?_
          rintro e w3 ⟨rfl, hb3⟩
          have HI3 := Lib.hid ((hb3.block w1.heap.size (by have := (Array.getElem?_eq_some_iff.1 HI2.out).1; exact this)).trans HI2.out)
          have Hb3 := Lib.hid (bel_call Hb2.out hb3)
          clear hb3 hk
          go_wp2
          go_roundg (u.size - (i + m))
          case measure => omega
          case rel => exact ⟨i + m, by omega, HI3.out, Hb3.out, HN2.out⟩
      · have hnx := fun ty => Lib.run_next_end_at (P := Tryd.prog) wr w1.heap.size u i ty HI.out hi
        have HE := Lib.hid (Lib.indexAny_none (s := u.data.toList) (chars := [61, 33, 60, 62]) (fun j b hj hb => HN.out j b (by rw [← Lib.size_eq] at hj; omega) hb))
        clear hit
        go_wp2
        go_ret
        exact ⟨by rw [HE.out]; rfl, Hb.out⟩
end Go.Proofs.YthkgjohhbdipcaaDoor
namespace Go.Proofs.YthkgjohhbdipcaaDoor
open Go.RowKit

theorem bsL_inj {l m : List UInt8} : bsL l = bsL m ↔ l = m := ⟨fun h => by
  have := congrArg (fun b => b.data.toList) h
  simpa [bsL] using this, fun h => by rw [h]⟩
theorem sign_mem (b : UInt8) : ([61, 33, 60, 62] : List UInt8).contains b = decide (opOf b ≠ 0) := by
  unfold opOf
  by_cases h1 : b = 61
  · subst h1; rfl
  · by_cases h2 : b = 33
    · subst h2; rfl
    · by_cases h3 : b = 60
      · subst h3; rfl
      · by_cases h4 : b = 62
        · subst h4; rfl
        · simp [h1, h2, h3, h4]
theorem any_op : ∀ l : List UInt8, Lib.indexAny l [61, 33, 60, 62] = if opAt l = l.length then -1 else (opAt l : Int)
  | [] => rfl
  | b :: l => by
    have ih := any_op l
    unfold Lib.indexAny opAt
    rw [sign_mem]
    by_cases h : opOf b = 0
    · rw [if_neg (by simp [h]), if_pos h, ih]
      by_cases h2 : opAt l = l.length
      · rw [if_pos h2, if_pos (by rfl), if_pos (by simp [h2])]
      · have h3 : ¬ opAt l + 1 = (b :: l).length := by simp only [List.length_cons]; omega
        have h4 : ((opAt l : Int) == -1) = false := beq_eq_false_iff_ne.2 (by omega)
        simp only [if_neg h2, h4, if_neg h3, Bool.false_eq_true, if_false]
        omega
    · rw [if_pos (by simp [h]), if_neg h, if_neg (by simp)]
      rfl
def fieldBs : List ByteArray := [bsL [110, 114], bsL [107, 105, 110, 100], bsL [97], bsL [98], bsL [99]]
def opBs : List ByteArray := [bsL [], bsL [61], bsL [33], bsL [60], bsL [62]]
def verdictBs : List ByteArray := [bsL [107, 105, 108, 108], bsL [116, 114, 97, 112], bsL [102, 97, 105, 108], bsL [108, 111, 103], bsL [97, 108, 108, 111, 119]]
theorem idx5 (a b c d e x : List UInt8) : Lib.idxOfS [bsL a, bsL b, bsL c, bsL d, bsL e] (bsL x) = if x = a then 0 else if x = b then 1 else if x = c then 2 else if x = d then 3 else if x = e then 4 else -1 := by
  have h : ∀ y : List UInt8, (bsL y = bsL x) = (x = y) := fun y => propext ⟨fun h => (bsL_inj.1 h).symm, fun h => bsL_inj.2 h.symm⟩
  simp only [Lib.idxOfS, Lib.idxFromS, h]
  repeat' split
  all_goals simp_all
theorem field_idx (x : List UInt8) : Lib.idxOfS (fieldBs.take 5) (bsL x) = match fieldOf x with | some f => f | none => -1 := by
  show Lib.idxOfS [bsL _, bsL _, bsL _, bsL _, bsL _] (bsL x) = _
  rw [idx5]
  unfold fieldOf
  repeat' split
  all_goals simp_all
theorem verdict_idx (x : List UInt8) : Lib.idxOfS (verdictBs.take 5) (bsL x) = match verdictOf x with | some f => f | none => -1 := by
  show Lib.idxOfS [bsL _, bsL _, bsL _, bsL _, bsL _] (bsL x) = _
  rw [idx5]
  unfold verdictOf
  repeat' split
  all_goals simp_all
theorem op_idx (b : UInt8) (h : opOf b ≠ 0) : Lib.idxOfS (opBs.take 5) (bsL [b]) = opOf b := by
  show Lib.idxOfS [bsL _, bsL _, bsL _, bsL _, bsL _] (bsL [b]) = _
  rw [idx5]
  unfold opOf at h ⊢
  by_cases h1 : b = 61
  · subst h1; rfl
  · by_cases h2 : b = 33
    · subst h2; rfl
    · by_cases h3 : b = 60
      · subst h3; rfl
      · by_cases h4 : b = 62
        · subst h4; rfl
        · simp [h1, h2, h3, h4] at h
/-- slices.Index over a row of five words. -/
theorem rowidx_any (a b c d e x : List UInt8) (g : Nat) (W : World) (h : W.heap[g]? = some (.cells #[.string (bsL a), .string (bsL b), .string (bsL c), .string (bsL d), .string (bsL e)] 9)) :
    Calls Tryd.prog 41 #[.slice (some ⟨g, 0, none⟩) 5 5, .string (bsL x)] W fun o w' => o = .returned (.int .i64 (Lib.idxOfS [bsL a, bsL b, bsL c, bsL d, bsL e] (bsL x))) ∧ w' = W :=
  Tryd.slices_Index_string g 0 5 5 [bsL a, bsL b, bsL c, bsL d, bsL e] (bsL x) W (by simp) (by omega) (fun j hj => by
    rw [cells_of h]
    match j, hj with
    | 0, _ => rfl
    | 1, _ => rfl
    | 2, _ => rfl
    | 3, _ => rfl
    | 4, _ => rfl
    | j + 5, hj => exact absurd hj (by simp))
theorem bsL_extract (l : List UInt8) (i j : Nat) : (bsL l).extract i j = bsL ((l.drop i).take (j - i)) := by
  apply ByteArray.ext
  simp [bsL, ByteArray.extract, ByteArray.copySlice]
end Go.Proofs.YthkgjohhbdipcaaDoor
namespace Go.Proofs.YthkgjohhbdipcaaDoor
open Go.RowKit

theorem atoiSat_eq (l : List UInt8) : Lib.atoiSat l = Lib.intSat 64 l := by
  unfold Lib.atoiSat Lib.intSat
  split <;> rfl
/-- how Atoi ends. -/
theorem atoi_any (s : ByteArray) (w : World) (hL : Laid w) (hs : s.size ≤ 281474976710656) :
    Calls Tryd.prog 63 #[.string s] w fun e w' => ∃ err : Value, e = .returned (.tuple #[.int .i64 (wholeS s.data.toList).1, err]) ∧ (((∃ v, Lib.parseIntB 64 s.data.toList = .ok v ∧ wholeS s.data.toList = (v, Lib.itoa v == s.data.toList)) ∧ err = .nilIface) ∨ ((wholeS s.data.toList).2 = false ∧ ∃ t p, err = .iface t p)) ∧ Below w.heap.size w w' := by
  cases hp : Lib.parseIntB 64 s.data.toList
  · rename_i v
    have he : wholeS s.data.toList = (v, Lib.itoa v == s.data.toList) := by unfold wholeS; rw [hp]
    refine (Tryd.strconv_Atoi_ok s (by omega) v (by rw [← Lib.parseIntB_64]; exact hp) w).mono ?_
    rintro e w1 ⟨rfl, hw1⟩
    refine ⟨_, by rw [he], .inl ⟨⟨v, rfl, he⟩, rfl⟩, ?_⟩
    rcases hw1 with rfl | ⟨t, rfl⟩
    · exact Below.refl _ _
    · exact Go.Joins.below_bytesWorld _ _ _ _ (Nat.le_refl _)
  · have he : wholeS s.data.toList = (0, false) := by unfold wholeS; rw [hp]
    obtain ⟨te, pe, hv⟩ := hL.syn
    have c : Calls Tryd.prog 63 #[.string s] w _ := Any.strconv_Atoi_syntax Tryd.laysC172 s hs (by rw [← Lib.parseIntB_64]; exact hp) _ w hv (.inr ⟨te, pe, rfl⟩)
    exact c.mono fun e w' ⟨N, h1, _, _, h4⟩ => ⟨.iface _ (.pointer (some ⟨N, 0, none⟩)), by rw [he]; exact h1, .inr ⟨by rw [he], _, _, rfl⟩, h4⟩
  · have he : wholeS s.data.toList = (Lib.intSat 64 s.data.toList, false) := by unfold wholeS; rw [hp]
    obtain ⟨te, pe, hv⟩ := hL.rng
    refine (Tryd.strconv_Atoi_range s hs (by rw [← Lib.parseIntB_64]; exact hp) _ w hv (.inr ⟨te, pe, rfl⟩)).mono ?_
    rintro e w1 ⟨N, rfl, _, _, hb1⟩
    exact ⟨.iface _ (.pointer (some ⟨N, 0, none⟩)), by rw [he, atoiSat_eq], .inr ⟨by rw [he], _, _, rfl⟩, hb1⟩
set_option maxHeartbeats 2000000 in
theorem number_any (s : ByteArray) (w : World) (hL : Laid w) (hs : s.size ≤ 281474976710656) :
    Calls Tryd.prog 46 #[.string s] w fun e w' => e = .returned (.tuple #[.int .i64 (wholeS s.data.toList).1, .bool (wholeS s.data.toList).2]) ∧ Below w.heap.size w w' := by
  have HL := Lib.hid hL
  clear hL
  go_enter Tryd.func46, Tryd.ntmps46
  go_wp2_with fail
  refine (atoi_any s _ HL.out hs).mono ?_
  rintro e w1 ⟨err, rfl, hc, hb1⟩
  have Hb1 := Lib.hid hb1
  have HC := Lib.hid hc
  clear hb1 hc
  rcases HC.out with ⟨⟨v, hp, he⟩, rfl⟩ | ⟨h2, t, p, rfl⟩
  · obtain ⟨h0, h1⟩ := parse_in hp
    obtain ⟨q, hq⟩ : ∃ q, (Lib.itoa v == s.data.toList) = q := ⟨_, rfl⟩
    rw [hq] at he
    have hcmp : ((bsL (Lib.itoa v)).toList == s.toList) = q := by rw [ByteArray.toList_eq, ByteArray.toList_eq, bsL_toList]; exact hq
    have He := Lib.hid he
    rw [he]
    clear hp he hq HC
    go_wp2_with fail
    refine (itoa_any v h0 h1 _ (HL.out.below Hb1.out)).mono ?_
    rintro e w2 ⟨rfl, hb2⟩
    have Hb2 := Lib.hid (bel_call Hb1.out hb2)
    clear hb2
    go_wp2
    go_ret2
    exact ⟨by rw [He.out]; rfl, Hb2.out⟩
  · have He := Lib.hid h2
    clear h2 HC
    go_wp2
    go_ret2
    exact ⟨by rw [He.out]; rfl, Hb1.out⟩
end Go.Proofs.YthkgjohhbdipcaaDoor
namespace Go.Proofs.YthkgjohhbdipcaaDoor
open Go.RowKit

def valOr (X : Option ((Nat → Value) → Value)) (vf : Nat → Value) (k : Nat) : Value := match X with
  | some X => X vf
  | none => vf k
def valsOf (Xs : Nat → Option ((Nat → Value) → Value)) (vf : Nat → Value) (k : Nat) : Value := valOr (Xs k) vf k
def updVal (vf : Nat → Value) (i : Nat) (v : Value) : Nat → Value := fun j => if j = i then v else vf j
def Proper (bs : List (List Nat)) (i : Nat) (X : (Nat → Value) → Value) : Prop := ∀ f g : Nat → Value, (∀ m ∈ bs.getD i [], f m = g m) → X f = X g
section
variable (P : Program) (ops : Array Oper) (Inv : (Nat → Bool) → World → Prop) (T : Nat → (Nat → Value) → World → World → Prop) (F : Nat → (Nat → Bool) → (Nat → Value) → World → Prop) (bs : List (List Nat)) (Q : Act → World → Prop) (n : Nat)
def relOb (i : Nat) (o : Oper) (av : (Nat → Value) → Act) (E : (Nat → Value) → Value → Prop) : Prop :=
  ∀ (done : Nat → Bool) (vf : Nat → Value) (w : World), Inv done w → done i = false → (∀ k ∈ (prune o).after.toList.map (fun e => e.on), done k = true) → (∀ k : Nat, i ∈ bs.getD k [] → done k = false) → (∀ k, done k = true → F k done vf w) →
    ∀ R : Value → World → Prop, (∀ (v : Value) (w' : World), Inv (updDone done i) w' → T i vf w w' → E vf v → F i (updDone done i) (updVal vf i v) w' → R v w') → if Region.wanted o (yielded ops (av vf).tmps) then gives P o (av vf) w R else R undef w
def relWalk : List Oper → Nat → ((Nat → Value) → Act) → Prop
  | [], _, av => ∀ (done : Nat → Bool) (vf : Nat → Value) (w : World), (∀ k, k < n → done k = true) → Inv done w → (∀ k, k < n → F k done vf w) → Q (av vf) w
  | o :: l, i, av => (∃ X : (Nat → Value) → Value, Proper bs i X ∧ relOb P ops Inv T F bs i o av (fun vf v => v = X vf) ∧ relWalk l (i + 1) (fun vf => (av vf).put o.dst (X vf))) ∨
      (relOb P ops Inv T F bs i o av (fun _ _ => True) ∧ relWalk l (i + 1) (fun vf => (av vf).put o.dst (vf i)))
end
section
variable {P : Program} {ops : Array Oper} {Inv : (Nat → Bool) → World → Prop} {T : Nat → (Nat → Value) → World → World → Prop} {F : Nat → (Nat → Bool) → (Nat → Value) → World → Prop} {bs : List (List Nat)} {Q : Act → World → Prop} {n : Nat} {o : Oper} {l : List Oper} {i : Nat} {av : (Nat → Value) → Act}
/-- an operation whose value is told. -/
theorem rel_ex (h : ∀ K : ((Nat → Value) → Act) → Prop, (∀ a', relWalk P ops Inv T F bs Q n l (i + 1) a' → K a') → ∃ X : (Nat → Value) → Value, relOb P ops Inv T F bs i o av (fun vf v => v = X vf) ∧ Proper bs i X ∧ K (fun vf => (av vf).put o.dst (X vf))) : relWalk P ops Inv T F bs Q n (o :: l) i av := by
  obtain ⟨X, h1, h2, h3⟩ := h _ (fun _ h => h)
  exact .inl ⟨X, h2, h1, h3⟩
/-- an operation whose value meets a fact. -/
theorem rel_pr (h : ∀ K : ((Nat → Value) → Act) → Prop, (∀ a', relWalk P ops Inv T F bs Q n l (i + 1) a' → K a') → relOb P ops Inv T F bs i o av (fun _ _ => True) ∧ K (fun vf => (av vf).put o.dst (vf i))) : relWalk P ops Inv T F bs Q n (o :: l) i av := by
  exact .inr (h _ (fun _ h => h))
end
theorem lexAct_congr {f g : Nat → Value} : ∀ (l : List Oper) (i : Nat) (a : Act), (∀ k, i ≤ k → f k = g k) → lexAct f l i a = lexAct g l i a
  | [], _, _, _ => rfl
  | o :: l, i, a, h => by
    simp only [lexAct]
    rw [h i (Nat.le_refl _)]
    exact lexAct_congr l (i + 1) _ (fun k hk => h k (by omega))
def exOf (X : Option ((Nat → Value) → Value)) (vf : Nat → Value) (v : Value) : Prop := ∀ Y, X = some Y → v = Y vf
section
variable {P : Program} {ops : Array Oper} {Inv : (Nat → Bool) → World → Prop} {T : Nat → (Nat → Value) → World → World → Prop} {F : Nat → (Nat → Bool) → (Nat → Value) → World → Prop} {bs : List (List Nat)} {Q : Act → World → Prop} {n : Nat}
theorem rel_ext : ∀ (l : List Oper) (i : Nat) (av : (Nat → Value) → Act), relWalk P ops Inv T F bs Q n l i av → ∃ Xs : Nat → Option ((Nat → Value) → Value),
    (∀ k X, Xs k = some X → Proper bs k X) ∧ (∀ j o, l[j]? = some o → relOb P ops Inv T F bs (i + j) o (fun vf => lexAct (valsOf Xs vf) (l.take j) i (av vf)) (exOf (Xs (i + j)))) ∧
    (∀ (done : Nat → Bool) (vf : Nat → Value) (w : World), (∀ k, k < n → done k = true) → Inv done w → (∀ k, k < n → F k done vf w) → Q (lexAct (valsOf Xs vf) l i (av vf)) w)
  | [], i, av, h => ⟨fun _ => none, (fun _ _ h => by cases h), (fun j o hj => by simp at hj), h⟩
  | o :: l, i, av, h => by
    have main : ∀ (X0 : Option ((Nat → Value) → Value)), (∀ X, X0 = some X → Proper bs i X) → relOb P ops Inv T F bs i o av (exOf X0) →
        (∃ Xs : Nat → Option ((Nat → Value) → Value), (∀ k X, Xs k = some X → Proper bs k X) ∧ (∀ j o', l[j]? = some o' → relOb P ops Inv T F bs (i + 1 + j) o' (fun vf => lexAct (valsOf Xs vf) (l.take j) (i + 1) ((av vf).put o.dst (valOr X0 vf i))) (exOf (Xs (i + 1 + j)))) ∧
          (∀ (done : Nat → Bool) (vf : Nat → Value) (w : World), (∀ k, k < n → done k = true) → Inv done w → (∀ k, k < n → F k done vf w) → Q (lexAct (valsOf Xs vf) l (i + 1) ((av vf).put o.dst (valOr X0 vf i))) w)) →
        ∃ Xs : Nat → Option ((Nat → Value) → Value), (∀ k X, Xs k = some X → Proper bs k X) ∧ (∀ j o', (o :: l)[j]? = some o' → relOb P ops Inv T F bs (i + j) o' (fun vf => lexAct (valsOf Xs vf) ((o :: l).take j) i (av vf)) (exOf (Xs (i + j)))) ∧
          (∀ (done : Nat → Bool) (vf : Nat → Value) (w : World), (∀ k, k < n → done k = true) → Inv done w → (∀ k, k < n → F k done vf w) → Q (lexAct (valsOf Xs vf) (o :: l) i (av vf)) w) := by
      rintro X0 hp0 hob ⟨Xs, hp, hobs, hend⟩
      let Ys : Nat → Option ((Nat → Value) → Value) := fun k => if k = i then X0 else Xs k
      have yi : Ys i = X0 := if_pos rfl
      have yk : ∀ k, i + 1 ≤ k → Ys k = Xs k := fun k hk => if_neg (by omega)
      have hv : ∀ vf, valsOf Ys vf i = (valOr X0 vf i) := fun vf => by unfold valsOf; rw [yi]
      have hc : ∀ (m : List Oper) (vf : Nat → Value) (a : Act), lexAct (valsOf Ys vf) m (i + 1) a = lexAct (valsOf Xs vf) m (i + 1) a := fun m vf a => lexAct_congr m (i + 1) a fun k hk => by unfold valsOf; rw [yk k hk]
      refine ⟨Ys, fun k X hk => ?_, fun j o' hj => ?_, fun done vf w hd hI hF => ?_⟩
      · by_cases e : k = i
        · subst e; rw [yi] at hk; exact hp0 X hk
        · have : Ys k = Xs k := if_neg e
          rw [this] at hk; exact hp k X hk
      · cases j with
        | zero =>
          simp only [List.getElem?_cons_zero, Option.some.injEq] at hj
          subst hj
          rw [Nat.add_zero, yi]
          exact hob
        | succ j =>
          have := hobs j o' (by simpa using hj)
          rw [show i + (j + 1) = i + 1 + j by omega, yk _ (by omega)]
          refine (congrArg (fun a => relOb P ops Inv T F bs (i + 1 + j) o' a (exOf (Xs (i + 1 + j)))) ?_).mp this
          funext vf
          simp only [List.take_succ_cons, lexAct, hv]
          exact (hc _ _ _).symm
      · simp only [lexAct, hv]
        rw [hc]
        exact hend done vf w hd hI hF
    rcases h with ⟨X, hp, hob, hw⟩ | ⟨hob, hw⟩
    · exact main (some X) (fun Y e => by injection e with e; subst e; exact hp) (fun done vf w h1 h2 h3 h4 h5 R hR => hob done vf w h1 h2 h3 h4 h5 R fun v w' a b c d => hR v w' a b (fun Y e => by injection e with e; subst e; exact c) d) (rel_ext l (i + 1) _ hw)
    · exact main none (fun Y e => by cases e) (fun done vf w h1 h2 h3 h4 h5 R hR => hob done vf w h1 h2 h3 h4 h5 R fun v w' a b _ d => hR v w' a b (fun Y e => by cases e) d) (rel_ext l (i + 1) _ hw)
end

/-- What holds when the operations that are listed have been done. -/
structure RelInv (l : List Oper) (Xs : Nat → Option ((Nat → Value) → Value)) (Inv : (Nat → Bool) → World → Prop) (F : Nat → (Nat → Bool) → (Nat → Value) → World → Prop) (a : Act) (vf : Nat → Value) (listed : Array Bool) (a' : Act) (w' : World) : Prop where
  cls : Inv (fun k => listed[k]? == some true) w'
  down : ∀ (j : Nat) (o : Oper), l[j]? = some o → listed[j]? = some true → ∀ e ∈ o.after, listed[e.on]? = some true
  lsize : listed.size = l.length
  defers : a'.defers = a.defers
  size : a'.tmps.size = a.tmps.size
  vals : ∀ j, listed[j]? = some true → vf j = valsOf Xs vf j
  facts : ∀ j, listed[j]? = some true → F j (fun k => listed[k]? == some true) vf w'
  slots : ∀ (j : Nat) (o : Oper), l[j]? = some o → listed[j]? = some true → ∀ d, o.dst = some d → a'.tmps[d]? = some (vf j)
  rest : ∀ t, (∀ (j : Nat) (o : Oper), l[j]? = some o → listed[j]? = some true → o.dst ≠ some t) → a'.tmps[t]? = a.tmps[t]?

section
variable {P : Program} {l : List Oper} {Inv : (Nat → Bool) → World → Prop} {T : Nat → (Nat → Value) → World → World → Prop} {F : Nat → (Nat → Bool) → (Nat → Value) → World → Prop} {Q : Exit → Act → World → Prop} {a : Act}
theorem wpAny_rel (hB : monoB2 l a.tmps.size = true) (hpr : ∀ o ∈ l, prune o = o)
    (hst : ∀ (i : Nat) (done : Nat → Bool) (vf : Nat → Value) (w w' : World), Inv done w → done i = false → (∀ m ∈ (befores l []).getD i [], done m = true) → (∀ m, done m = true → F m done vf w) → T i vf w w' → ∀ k, done k = true → F k (updDone done i) vf w')
    (hF : ∀ (k : Nat) (done : Nat → Bool) (f g : Nat → Value) (w : World), (∀ m ∈ (befores l []).getD k [], f m = g m) → f k = g k → F k done f w → F k done g w)
    (h : relWalk P l.toArray Inv T F (befores l []) (Q .normal) l.length l 0 (fun _ => a)) :
    ∃ Xs, ∀ (fuel : Nat) (listed : Array Bool) (vf : Nat → Value) (a' : Act) (w' : World), (undone listed l.length).length ≤ fuel → RelInv l Xs Inv F a vf listed a' w' → wpAny P .any l.toArray Q fuel listed a' w' := by
  obtain ⟨Xs, hpX, hobs, hend⟩ := rel_ext l 0 _ h
  refine ⟨Xs, ?_⟩
  have hS := fun {i : Nat} {o : Oper} (hi : l[i]? = some o) => monoB2_spec hB hi
  have fin : ∀ (listed : Array Bool) (vf : Nat → Value) (a' : Act) (w' : World), (∀ j, j < l.length → listed[j]? = some true) → RelInv l Xs Inv F a vf listed a' w' → Q .normal a' w' := by
    intro listed vf a' w' hall hI
    have hq := hend _ vf w' (fun k hk => by simp [hall k hk]) hI.cls (fun k hk => hI.facts k (hall k hk))
    have ea : a' = lexAct (valsOf Xs vf) l 0 a := by
      obtain ⟨hz, hd⟩ := lexAct_size (valsOf Xs vf) l 0 a
      have ht : a'.tmps = (lexAct (valsOf Xs vf) l 0 a).tmps := by
        apply Array.ext_getElem?
        intro t
        by_cases hex : ∃ (j : Nat) (o : Oper), l[j]? = some o ∧ o.dst = some t
        · obtain ⟨j, o, hj, hdt⟩ := hex
          have hjl := (List.getElem?_eq_some_iff.1 hj).1
          obtain ⟨hlt, huniq⟩ := (hS hj).2.2.2 t hdt
          rw [lexAct_same _ l 0 a j o hj hdt huniq hlt, Nat.zero_add, ← hI.vals j (hall j hjl)]
          exact hI.slots j o hj (hall j hjl) t hdt
        · have hn : ∀ (j : Nat) (o : Oper), l[j]? = some o → o.dst ≠ some t := fun j o hj e => hex ⟨j, o, hj, e⟩
          rw [lexAct_other _ l 0 a (fun o ho => by obtain ⟨j, hj⟩ := List.getElem?_of_mem ho; exact hn j o hj)]
          exact hI.rest t (fun j o hj _ => hn j o hj)
      cases a'; cases hx : lexAct (valsOf Xs vf) l 0 a
      rw [hx] at ht hd
      have := hI.defers
      simp_all
    rw [ea]; exact hq
  have allIf : ∀ (listed : Array Bool), listed.size = l.length → Region.ready .any l.toArray listed = [] → ∀ j, j < l.length → listed[j]? = some true := by
    intro listed hsz hr j
    induction j using Nat.strongRecOn with
    | ind j ih =>
      intro hj
      have hsome : listed[j]? = some listed[j] := Array.getElem?_eq_getElem (by omega)
      cases hb : listed[j] with
      | true => rw [hsome, hb]
      | false =>
        have : j ∈ Region.ready .any l.toArray listed := by
          rw [mem_ready]
          refine ⟨by simp [Array.getD_eq_getD_getElem?, hsome, hb], l[j], by simp [hj], fun e he _ => ?_⟩
          have h1 := ((hS (List.getElem?_eq_getElem hj)).2.1 e he).1
          have h2 := ih e.on h1 (by omega)
          simp [Array.getD_eq_getD_getElem?, h2]
        rw [hr] at this
        cases this
  intro fuel
  induction fuel with
  | zero =>
    intro listed vf a' w' hf hI
    have hall : ∀ j, j < l.length → listed[j]? = some true := by
      intro j hj
      have h0 : undone listed l.length = [] := List.eq_nil_of_length_eq_zero (by omega)
      unfold undone at h0
      rw [List.filter_eq_nil_iff] at h0
      simpa using h0 j (List.mem_range.2 hj)
    refine ⟨?_, fin _ _ _ _ hall hI⟩
    rw [List.eq_nil_iff_forall_not_mem]
    intro j hj
    obtain ⟨h0, o, ho, _⟩ := mem_ready.1 hj
    have hj' : j < l.length := by
      have := (Array.getElem?_eq_some_iff.1 ho).1
      simpa using this
    simp [Array.getD_eq_getD_getElem?, hall j hj'] at h0
  | succ fuel ih =>
    intro listed vf a' w' hf hI
    refine ⟨fun hr => fin _ _ _ _ (allIf listed hI.lsize hr) hI, fun i hi => ?_⟩
    obtain ⟨h0, o, ho, hdep⟩ := mem_ready.1 hi
    have hil : l[i]? = some o := by simpa using ho
    have hilt : i < l.length := (List.getElem?_eq_some_iff.1 hil).1
    have hnl : listed[i]? ≠ some true := fun e => by simp [Array.getD_eq_getD_getElem?, e] at h0
    obtain ⟨hsel, hafter, hlooks, hdst⟩ := hS hil
    have hdone : ∀ e ∈ o.after, listed[e.on]? = some true := fun e he => by
      have := hdep e he (hafter e he).2
      rw [Array.getD_eq_getD_getElem?] at this
      cases hx : listed[e.on]? with
      | none => simp [hx] at this
      | some b => simp [hx] at this; rw [this]
    have hob := hobs i o hil
    rw [Nat.zero_add] at hob
    have hclosed : ∀ k m : Nat, m ∈ (befores l []).getD k [] → listed[k]? = some true → listed[m]? = some true := fun k m hk hlk =>
      befores_spec l [] (fun k i => listed[k]? = some true → listed[i]? = some true) (fun k i h => by simp at h) (fun j o' e hj he hlj => by
        simp at hlj; exact hI.down j o' hj hlj e he) (fun a b c h1 h2 h3 => h2 (h1 h3)) k m hk hlk
    have hsame : ∀ t ∈ o.looksAt l.toArray, (lexAct (valsOf Xs vf) (l.take i) 0 a).tmps[t]? = a'.tmps[t]? := by
      intro t ht
      by_cases hex : ∃ (j : Nat) (o' : Oper), l[j]? = some o' ∧ o'.dst = some t
      · obtain ⟨j, o', hj, hdt⟩ := hex
        rcases hlooks t ht j o' hj hdt with ⟨hji, e, he, hej⟩ | hbef
        rotate_left
        · have hij : i < j := befores_spec l [] (fun k i => i < k) (fun k i h => by simp at h) (fun j o' e hj he => by
            have := ((hS (show l[j]? = some o' from hj)).2.1 e he).1; simpa using this) (fun a b c h1 h2 => Nat.lt_trans h2 h1) j i hbef
          have hnj : listed[j]? ≠ some true := fun hlj => hnl (hclosed j i hbef hlj)
          obtain ⟨_, huniq⟩ := (hS hj).2.2.2 t hdt
          rw [lexAct_other _ (l.take i) 0 a (fun o'' ho'' => by
            obtain ⟨k, hk⟩ := List.getElem?_of_mem ho''
            have hki : k < i := by have := (List.getElem?_eq_some_iff.1 hk).1; simp at this; omega
            rw [List.getElem?_take_of_lt hki] at hk
            exact huniq k o'' hk (by omega))]
          refine (hI.rest t fun k o'' hk hlk => ?_).symm
          by_cases hkj : k = j
          · subst hkj; exact absurd hlk hnj
          · exact huniq k o'' hk hkj
        have hlj : listed[j]? = some true := hej ▸ hdone e he
        obtain ⟨hlt, huniq⟩ := (hS hj).2.2.2 t hdt
        rw [lexAct_same _ (l.take i) 0 a j o' (by rw [List.getElem?_take_of_lt hji]; exact hj) hdt (fun j' o'' hj' hne => huniq j' o'' (by
          have hlt' : j' < i := by
            have := (List.getElem?_eq_some_iff.1 hj').1
            simp at this; omega
          rw [List.getElem?_take_of_lt hlt'] at hj'; exact hj') hne) hlt, Nat.zero_add, ← hI.vals j hlj]
        exact (hI.slots j o' hj hlj t hdt).symm
      · have hn : ∀ (j : Nat) (o : Oper), l[j]? = some o → o.dst ≠ some t := fun j o hj e => hex ⟨j, o, hj, e⟩
        rw [lexAct_other _ (l.take i) 0 a (fun o' ho' => by obtain ⟨j, hj⟩ := List.getElem?_of_mem (List.mem_of_mem_take ho'); exact hn j o' hj)]
        exact (hI.rest t (fun j o hj _ => hn j o hj)).symm
    have hexec : execOp (lexAct (valsOf Xs vf) (l.take i) 0 a).eval o = execOp a'.eval o := by
      refine execOp_congr o hsel fun x hx => ?_
      cases x with
      | tmp t =>
        have := hsame t (List.mem_append_left _ (List.mem_filterMap.2 ⟨.tmp t, by simpa using hx, rfl⟩))
        simp [Act.eval, Array.getD_eq_getD_getElem?, this]
      | _ => rfl
    have hwant : Region.wanted o (yielded l.toArray (lexAct (valsOf Xs vf) (l.take i) 0 a).tmps) = Region.wanted o (yielded l.toArray a'.tmps) := by
      unfold Region.wanted
      cases hg : o.guard with
      | none => rfl
      | some gw =>
        obtain ⟨g, want⟩ := gw
        have hy : yielded l.toArray (lexAct (valsOf Xs vf) (l.take i) 0 a).tmps g = yielded l.toArray a'.tmps g := by
          unfold yielded
          cases ht : (l.toArray[g]?).bind (·.dst) with
          | none => rfl
          | some t =>
            have := hsame t (by simp only [Oper.looksAt, hg, ht]; simp)
            simp only [Option.bind_some, this]
        simp only [hy]
    have hnot : ∀ k : Nat, i ∈ (befores l []).getD k [] → ((fun k => listed[k]? == some true) k) = false := by
      intro k hk
      cases hx : (listed[k]? == some true) with
      | false => exact hx
      | true => exact absurd (hclosed k i hk (by simpa using hx)) hnl
    have hbi : ∀ m ∈ (befores l []).getD i [], listed[m]? = some true := fun m hm => by
      have hmi : m < i := befores_spec l [] (fun k i => i < k) (fun k i h => by simp at h) (fun j o' e hj he => by
          have := ((hS (show l[j]? = some o' from hj)).2.1 e he).1; simpa using this) (fun a b c h1 h2 => Nat.lt_trans h2 h1) i m hm
      have key := befores_spec l [] (fun k m => (k = i ∨ listed[k]? = some true) → (m = i ∨ listed[m]? = some true)) (fun k m h => by simp at h) (fun j o' e hj he hlj => by
        rw [List.length_nil, Nat.zero_add] at hlj
        rcases hlj with rfl | hlj
        · rw [hil] at hj
          obtain rfl : o = o' := by simpa using hj
          exact .inr (hdone e he)
        · exact .inr (hI.down j o' hj hlj e he)) (fun a b c h1 h2 h3 => h2 (h1 h3)) i m hm (.inl rfl)
      rcases key with h | h
      · omega
      · exact h
    have hres := hob _ vf w' hI.cls (by simpa using hnl) (fun k hk => by
      rw [hpr o (List.mem_of_getElem? hil)] at hk
      obtain ⟨e, he, rfl⟩ := List.mem_map.1 hk
      simp [hdone e (by simpa using he)]) hnot (fun k hk => hI.facts k (by simpa using hk))
      (fun v w'' => Inv (updDone (fun k => listed[k]? == some true) i) w'' ∧ T i vf w' w'' ∧ exOf (Xs i) vf v ∧ F i (updDone (fun k => listed[k]? == some true) i) (updVal vf i v) w'') (fun v w'' h0 h1 h2 h3 => ⟨h0, h1, h2, h3⟩)
    rw [hwant] at hres
    have next : ∀ v w'', Inv (updDone (fun k => listed[k]? == some true) i) w'' → T i vf w' w'' → exOf (Xs i) vf v → F i (updDone (fun k => listed[k]? == some true) i) (updVal vf i v) w'' → wpAny P .any l.toArray Q fuel (listed.setIfInBounds i true) (a'.put o.dst v) w'' := by
      intro v w'' hIv hT hE hFv
      have hu := undone_set hilt (by rw [hI.lsize]; exact Nat.le_refl _) hnl
      have hset : ∀ j, (listed.setIfInBounds i true)[j]? = some true → j = i ∨ (j ≠ i ∧ listed[j]? = some true) := fun j hj => by
        by_cases e : j = i
        · exact .inl e
        · rw [Array.getElem?_setIfInBounds_ne (Ne.symm e)] at hj
          exact .inr ⟨e, hj⟩
      have hagree : ∀ j, listed[j]? = some true → ∀ m ∈ (befores l []).getD j [], vf m = updVal vf i v m := fun j hj m hm => by
        have hm' := hclosed j m hm hj
        unfold updVal
        rw [if_neg (fun e : m = i => hnl (e ▸ hm'))]
      have hagreei : ∀ m ∈ (befores l []).getD i [], vf m = updVal vf i v m := fun m hm => by
        have hmi : m < i := befores_spec l [] (fun k i => i < k) (fun k i h => by simp at h) (fun j o' e hj he => by
            have := ((hS (show l[j]? = some o' from hj)).2.1 e he).1; simpa using this) (fun a b c h1 h2 => Nat.lt_trans h2 h1) i m hm
        unfold updVal
        rw [if_neg (by omega)]
      have hfun : updDone (fun k => listed[k]? == some true) i = fun k => (listed.setIfInBounds i true)[k]? == some true := by
        funext k
        unfold updDone
        by_cases e : k = i
        · subst e; rw [if_pos rfl, Array.getElem?_setIfInBounds_self_of_lt (by rw [hI.lsize]; exact hilt)]; simp
        · rw [if_neg e, Array.getElem?_setIfInBounds_ne (Ne.symm e)]
      refine ih _ (updVal vf i v) _ _ (by omega) ⟨?_, ?_, by simp [hI.lsize], ?_, ?_, ?_, ?_, ?_, ?_⟩
      · rw [← hfun]; exact hIv
      · intro j o' hj hlj e he
        by_cases hje : j = i
        · subst hje
          rw [hil] at hj
          obtain rfl : o = o' := by simpa using hj
          have := hdone e he
          by_cases hei : e.on = j
          · rw [hei, Array.getElem?_setIfInBounds_self_of_lt (by rw [hI.lsize]; exact hilt)]
          · rw [Array.getElem?_setIfInBounds_ne (Ne.symm hei)]; exact this
        · rw [Array.getElem?_setIfInBounds_ne (Ne.symm hje)] at hlj
          have := hI.down j o' hj hlj e he
          by_cases hei : e.on = i
          · rw [hei, Array.getElem?_setIfInBounds_self_of_lt (by rw [hI.lsize]; exact hilt)]
          · rw [Array.getElem?_setIfInBounds_ne (Ne.symm hei)]; exact this
      · rw [← hI.defers]; cases o.dst <;> rfl
      · rw [← hI.size]; cases o.dst <;> simp [Act.put]
      · intro j hj
        rcases hset j hj with rfl | ⟨hne, hj'⟩
        · have e1 : updVal vf j v j = v := if_pos rfl
          rw [e1]
          unfold valsOf
          cases hx : Xs j with
          | none => exact e1.symm
          | some X => exact (hE X hx).trans (hpX j X hx _ _ hagreei)
        · have e1 : updVal vf i v j = vf j := if_neg hne
          rw [e1, hI.vals j hj']
          unfold valsOf
          cases hx : Xs j with
          | none => exact e1.symm
          | some X => exact hpX j X hx _ _ (hagree j hj')
      · intro j hj
        rw [← hfun]
        rcases hset j hj with rfl | ⟨hne, hj'⟩
        · exact hFv
        · refine hF j _ vf _ w'' (hagree j hj') (by unfold updVal; rw [if_neg hne]) ?_
          exact hst i _ vf w' w'' hI.cls (by simpa using hnl) (fun m hm => by simpa using hbi m hm) (fun m hm => hI.facts m (by simpa using hm)) hT j (by simpa using hj')
      · intro j o' hj hlj d hd
        rcases hset j hlj with rfl | ⟨hne, hj'⟩
        · rw [hil] at hj
          obtain rfl : o = o' := by simpa using hj
          rw [hd, put_get_same (by rw [hI.size]; exact (hdst d hd).1)]
          unfold updVal; rw [if_pos rfl]
        · rw [put_get_other (fun e' => (hdst d e').2 j o' hj hne hd)]
          unfold updVal; rw [if_neg hne]
          exact hI.slots j o' hj hj' d hd
      · intro t ht
        have hti : o.dst ≠ some t := ht i o hil (by rw [Array.getElem?_setIfInBounds_self_of_lt (by rw [hI.lsize]; exact hilt)])
        rw [put_get_other hti]
        refine hI.rest t fun j o' hj hlj => ?_
        by_cases e : j = i
        · subst e; exact absurd hlj hnl
        · exact ht j o' hj (by rw [Array.getElem?_setIfInBounds_ne (Ne.symm e)]; exact hlj)
    unfold wpOp
    rw [ho]
    by_cases hw : Region.wanted o (yielded l.toArray a'.tmps) = true
    · simp only [hw, if_true] at hres ⊢
      refine .inl (wp_of_gives (R := fun v w'' => Inv (updDone (fun k => listed[k]? == some true) i) w'' ∧ T i vf w' w'' ∧ exOf (Xs i) vf v ∧ F i (updDone (fun k => listed[k]? == some true) i) (updVal vf i v) w'') ?_ fun v w'' ⟨h0, h1, h2, h3⟩ => next v w'' h0 h1 h2 h3)
      unfold gives at hres ⊢
      rw [← hexec]; exact hres
    · simp only [hw] at hres ⊢
      exact next _ _ hres.1 hres.2.1 hres.2.2.1 hres.2.2.2
end
theorem prune_prune (o : Oper) : prune (prune o) = prune o := by
  unfold prune
  simp only [Array.filter_filter, Bool.and_self]
theorem rel_prune {P : Program} {Inv : (Nat → Bool) → World → Prop} {T : Nat → (Nat → Value) → World → World → Prop} {F : Nat → (Nat → Bool) → (Nat → Value) → World → Prop} {bs : List (List Nat)} {Q : Act → World → Prop} {n : Nat} {ops' : List Oper} :
    ∀ (l : List Oper) (i : Nat) (av : (Nat → Value) → Act), relWalk P ops'.toArray Inv T F bs Q n l i av → relWalk P (ops'.map prune).toArray Inv T F bs Q n (l.map prune) i av
  | [], _, _, h => h
  | o :: l, i, av, h => by
    have one : ∀ E, relOb P ops'.toArray Inv T F bs i o av E → relOb P (ops'.map prune).toArray Inv T F bs i (prune o) av E := fun E h1 done vf w a b c d e R hR => by
      rw [prune_prune] at c
      have := h1 done vf w a b c d e R hR
      rw [← yielded_prune] at this
      exact this
    rcases h with ⟨X, hp, h1, h2⟩ | ⟨h1, h2⟩
    · exact .inl ⟨X, hp, one _ h1, rel_prune l (i + 1) _ h2⟩
    · exact .inr ⟨one _ h1, rel_prune l (i + 1) _ h2⟩
/-- THE LAW. -/
theorem wp_region_rel {P : Program} {l : List Oper} {Q : Exit → Act → World → Prop} {a : Act} {id : Nat} {w : World} (Inv : (Nat → Bool) → World → Prop) (T : Nat → (Nat → Value) → World → World → Prop) (F : Nat → (Nat → Bool) → (Nat → Value) → World → Prop)
    (hm : P.follows .mixedOrders = true) (hB : monoB2 (l.map prune) a.tmps.size = true) (bs : List (List Nat)) (hbs : befores (l.map prune) [] = bs)
    (hst : ∀ (i : Nat) (done : Nat → Bool) (vf : Nat → Value) (w w' : World), Inv done w → done i = false → (∀ m ∈ bs.getD i [], done m = true) → (∀ m, done m = true → F m done vf w) → T i vf w w' → ∀ k, done k = true → F k (updDone done i) vf w')
    (hF : ∀ (k : Nat) (done : Nat → Bool) (f g : Nat → Value) (w : World), (∀ m ∈ bs.getD k [], f m = g m) → f k = g k → F k done f w → F k done g w)
    (hC : Inv (fun _ => false) w.drew) (h : relWalk P l.toArray Inv T F bs (Q .normal) l.length l 0 (fun _ => a)) : (Code.region id l.toArray true).wp P Q a w := by
  subst hbs
  have h' := rel_prune (ops' := l) l 0 _ h
  rw [show l.length = (l.map prune).length by simp] at h'
  obtain ⟨Xs, hX⟩ := wpAny_rel hB (fun o ho => by obtain ⟨o', _, rfl⟩ := List.mem_map.1 ho; exact prune_prune o') hst hF h'
  refine wp_region_any hm (wpAny_prune _ _ _ _ (hX _ _ (fun _ => undef) _ _ ?_ ⟨?_, ?_, by simp, rfl, rfl, ?_, ?_, ?_, fun _ _ => rfl⟩))
  · have := List.length_filter_le (fun i => (Array.replicate l.toArray.size false)[i]? != some true) (List.range (l.map prune).length)
    simpa [undone] using this
  · refine (congrArg (fun d => Inv d _) ?_).mp hC
    funext k
    rw [Array.getElem?_replicate]
    split <;> simp
  · intro j o hj hl
    rw [Array.getElem?_replicate] at hl
    split at hl <;> simp at hl
  · intro j hl
    rw [Array.getElem?_replicate] at hl
    split at hl <;> simp at hl
  · intro j hl
    rw [Array.getElem?_replicate] at hl
    split at hl <;> simp at hl
  · intro j o hj hl
    rw [Array.getElem?_replicate] at hl
    split at hl <;> simp at hl
end Go.Proofs.YthkgjohhbdipcaaDoor
namespace Go.Proofs.YthkgjohhbdipcaaDoor
open Go.RowKit

def Typed (T0 : TypeId) (o : Obj) : Prop := ∃ cs fr, o = .cells cs T0 fr
/-- what may become of a world: blocks stay, but for those of the types ts. -/
structure InitT (ts : List TypeId) (w w' : World) : Prop where
  size : w.heap.size ≤ w'.heap.size
  keep : ∀ (k : Nat) (o : Obj), w.heap[k]? = some o → (∀ T ∈ ts, ¬ Typed T o) → w'.heap[k]? = some o
theorem InitT.of_below {ts : List TypeId} {w w' : World} (h : Below w.heap.size w w') : InitT ts w w' := ⟨h.size, fun _ _ hk _ => blk_below hk h⟩
theorem InitT.of_set {T0 : TypeId} {ts : List TypeId} (hT : T0 ∈ ts) {w : World} {b o : Nat} {v : Value} {cs : Array Value} {fr : Nat × Nat} (h : w.heap[b]? = some (.cells cs T0 fr)) : InitT ts w (w.setCell ⟨b, o, none⟩ v) := by
  refine ⟨by rw [set_size]; exact Nat.le_refl _, fun k o' hk hn => ?_⟩
  rw [set_other (fun e => by subst e; rw [h] at hk; injection hk with hk; exact hn T0 hT ⟨_, _, hk.symm⟩)]
  exact hk
theorem InitT.of_grown {T0 : TypeId} {ts : List TypeId} (hT : T0 ∈ ts) {w w' : World} {own : Option Nat} (hg : w.grownBy w' own) (ho : ∀ g, own = some g → ∃ o, w.heap[g]? = some o ∧ Typed T0 o) : InitT ts w w' := by
  refine ⟨hg.size, fun k o hk hn => ?_⟩
  rw [hg.block k (Array.getElem?_eq_some_iff.1 hk).1 (fun e => by
    obtain ⟨o', h1, h2⟩ := ho k e.symm
    rw [hk] at h1; injection h1 with h1; subst h1; exact hn T0 hT h2)]
  exact hk
theorem OwnSl.init {α : Type} {ts : List TypeId} {w w' : World} {base : Nat} {e : TypeId} {sz : Nat} {R : α → List Value → Prop} {v : Value} {xs : List α} (h : OwnSl w base e sz R v xs) (hi : InitT ts w w') (hne : e ∉ ts) : OwnSl w' base e sz R v xs := by
  obtain ⟨rows, hr, h1, h2⟩ := h
  refine ⟨rows, hr, h1, ?_⟩
  rcases h2 with h2 | ⟨g, cap, cur, hv, hg, hh, r⟩
  · exact .inl h2
  · refine .inr ⟨g, cap, cur, hv, hg, hi.keep g _ hh (fun T hT => ?_), r⟩
    rintro ⟨cs, fr, e'⟩
    injection e' with _ e2 _
    exact hne (e2 ▸ hT)
theorem OwnSl.set {α : Type} {w : World} {base : Nat} {e : TypeId} {sz : Nat} {R : α → List Value → Prop} {v x : Value} {xs : List α} {a : Addr} (h : OwnSl w base e sz R v xs) (hb : v.ownBlock ≠ some a.block) : OwnSl (w.setCell a x) base e sz R v xs := by
  obtain ⟨rows, hr, ho⟩ := h
  exact ⟨rows, hr, ownsRow_keep1 ho fun b _ _ hv => set_other (fun e => hb (by rw [← e]; exact hv))⟩
theorem OwnSl.base {α : Type} {w : World} {base base' : Nat} {e : TypeId} {sz : Nat} {R : α → List Value → Prop} {v : Value} {xs : List α} (h : OwnSl w base e sz R v xs) (hb : base' ≤ base) : OwnSl w base' e sz R v xs := by
  obtain ⟨rows, hr, h1, h2⟩ := h
  refine ⟨rows, hr, h1, ?_⟩
  rcases h2 with h2 | ⟨g, cap, cur, hv, hg, r⟩
  · exact .inl h2
  · exact .inr ⟨g, cap, cur, hv, Nat.le_trans hb hg, r⟩
/-- a cell put anew. -/
theorem OwnSl.put {α : Type} {w : World} {base b n c : Nat} {e : TypeId} {sz : Nat} {R : α → List Value → Prop} {xs : List α} (h : OwnSl w base e sz R (.slice (some ⟨b, 0, none⟩) n c) xs) {i j : Nat} (hi : i < xs.length) (hj : j < sz) {y : α} {u : Value} (hR : ∀ r, R xs[i] r → R y (r.set j u)) :
    OwnSl (w.setCell ⟨b, i * sz + j, none⟩ u) base e sz R (.slice (some ⟨b, 0, none⟩) n c) (xs.set i y) := by
  obtain ⟨rows, hr, h1, h2⟩ := h
  rcases h2 with ⟨h0, _⟩ | ⟨g, cap, cur, hv, hg, hh, hnc, hcm, hcs, htk⟩
  · cases h0
  injection hv with ha hn hc
  injection ha with ha; injection ha with ha
  subst ha hn hc
  have hir : i < rows.length := by rw [hr.len]; exact hi
  have hsz := hr.size _ (List.getElem_mem hir)
  have hrows : RowsOf sz R (xs.set i y) (rows.set i (rows[i].set j u)) := by
    refine ⟨by simp [hr.len], fun r hrm => ?_, fun k x r hx hk => ?_⟩
    · rcases List.mem_or_eq_of_mem_set hrm with h | h
      · exact hr.size r h
      · rw [h, List.length_set]; exact hsz
    · by_cases e : i = k
      · subst e
        rw [List.getElem?_set_self hi] at hx
        rw [List.getElem?_set_self hir] at hk
        injection hx with hx; injection hk with hk
        subst hx hk
        exact hR _ (hr.rel i _ _ (List.getElem?_eq_getElem hi) (List.getElem?_eq_getElem hir))
      · rw [List.getElem?_set_ne e] at hx hk
        exact hr.rel k x r hx hk
  have hfl := flat_len _ hrows.size
  have hlen : (rows.set i (rows[i].set j u)).length = xs.length := by simp [hr.len]
  refine ⟨_, hrows, by rw [hfl, hlen, List.length_set], .inr ⟨b, c, cur.setIfInBounds (i * sz + j) u, by simp, hg, set_at hh, by simpa using hnc, hcm, by simp [hcs], ?_⟩⟩
  rw [List.length_set]
  have hlt : i * sz + j < xs.length * sz := by
    calc i * sz + j < i * sz + sz := by omega
      _ = (i + 1) * sz := by rw [Nat.add_mul]; omega
      _ ≤ xs.length * sz := Nat.mul_le_mul_right _ hi
  apply List.ext_getElem?
  intro k
  by_cases hk : k < xs.length * sz
  · rw [List.getElem?_take_of_lt hk, Array.getElem?_toList]
    have hsz0 : 0 < sz := by omega
    have hdm : k / sz * sz + k % sz = k := by rw [Nat.mul_comm]; exact Nat.div_add_mod k sz
    have hm : k % sz < sz := Nat.mod_lt _ hsz0
    have hd : k / sz < xs.length := (Nat.div_lt_iff_lt_mul hsz0).2 hk
    have g1 : (rows.set i (rows[i].set j u)).flatten[k]? = (rows.set i (rows[i].set j u))[k / sz]?.bind fun r => r[k % sz]? := by
      have hlt2 : k / sz < (rows.set i (rows[i].set j u)).length := by rw [hlen]; exact hd
      have h := flat_get _ (k / sz) _ hrows.size (List.getElem?_eq_getElem hlt2) (k % sz) hm
      rw [hdm] at h
      rw [h, List.getElem?_eq_getElem hlt2]; rfl
    have g2 : rows.flatten[k]? = rows[k / sz]?.bind fun r => r[k % sz]? := by
      have hlt2 : k / sz < rows.length := by rw [hr.len]; exact hd
      have h := flat_get _ (k / sz) _ hr.size (List.getElem?_eq_getElem hlt2) (k % sz) hm
      rw [hdm] at h
      rw [h, List.getElem?_eq_getElem hlt2]; rfl
    rw [g1]
    by_cases e : k = i * sz + j
    · subst e
      have e1 : (i * sz + j) / sz = i := by rw [Nat.mul_comm, Nat.mul_add_div hsz0, Nat.div_eq_of_lt hj, Nat.add_zero]
      have e2 : (i * sz + j) % sz = j := by rw [Nat.mul_comm, Nat.mul_add_mod, Nat.mod_eq_of_lt hj]
      rw [Array.getElem?_setIfInBounds_self_of_lt (by rw [hcs]; exact Nat.lt_of_lt_of_le hlt (Nat.mul_le_mul_right _ hnc)), e1, e2, List.getElem?_set_self hir]
      show some u = (rows[i].set j u)[j]?
      rw [List.getElem?_set_self (by omega)]
    · rw [Array.getElem?_setIfInBounds_ne (Ne.symm e), ← Array.getElem?_toList, ← List.getElem?_take_of_lt (l := cur.toList) hk, htk, g2]
      by_cases ei : i = k / sz
      · rw [← ei, List.getElem?_set_self hir, List.getElem?_eq_getElem hir]
        show rows[i][k % sz]? = (rows[i].set j u)[k % sz]?
        rw [List.getElem?_set_ne (fun ej => e (by rw [← hdm, ← ei, ← ej]))]
      · rw [List.getElem?_set_ne ei]
  · rw [List.getElem?_eq_none (by rw [List.length_take]; omega), List.getElem?_eq_none (by rw [hfl, hlen]; omega)]
theorem OwnSl.slice {α : Type} {w : World} {base : Nat} {e : TypeId} {sz : Nat} {R : α → List Value → Prop} {v : Value} {xs : List α} (h : OwnSl w base e sz R v xs) : ∃ a c, v = .slice a xs.length c := by
  obtain ⟨rows, _, _, h2⟩ := h
  rcases h2 with ⟨hv, hn⟩ | ⟨g, cap, cur, hv, _⟩
  · exact ⟨_, _, by rw [hv, hn]⟩
  · exact ⟨_, _, hv⟩
theorem OwnSl.addr {α : Type} {w : World} {base : Nat} {e : TypeId} {sz n c : Nat} {a : Option Addr} {R : α → List Value → Prop} {xs : List α} (h : OwnSl w base e sz R (.slice a n c) xs) (h0 : 0 < xs.length) : ∃ b, a = some ⟨b, 0, none⟩ ∧ base ≤ b ∧ b < w.heap.size ∧ ∃ cur, w.heap[b]? = some (.cells cur e) := by
  obtain ⟨rows, _, h1, h2⟩ := h
  rcases h2 with ⟨_, hn⟩ | ⟨g, cap, cur, hv, hg, hh, _⟩
  · omega
  · injection hv with ha hn hc
    exact ⟨g, ha, hg, (Array.getElem?_eq_some_iff.1 hh).1, cur, hh⟩
theorem OwnSl.typed {α : Type} {w : World} {base : Nat} {e : TypeId} {sz : Nat} {R : α → List Value → Prop} {v : Value} {xs : List α} (h : OwnSl w base e sz R v xs) : ∀ g, v.ownBlock = some g → ∃ o, w.heap[g]? = some o ∧ Typed e o := by
  obtain ⟨rows, _, _, h2⟩ := h
  intro g hg
  rcases h2 with ⟨hv, _⟩ | ⟨g', cap, cur, hv, _, hh, _⟩
  · subst hv; simp [Value.ownBlock] at hg
  · subst hv; simp [Value.ownBlock] at hg; subst hg; exact ⟨_, hh, _, _, rfl⟩
theorem InitT.trans {ts : List TypeId} {w w' w'' : World} (h : InitT ts w w') (h' : InitT ts w' w'') : InitT ts w w'' := ⟨Nat.le_trans h.size h'.size, fun k o hk hn => h'.keep k o (h.keep k o hk hn) hn⟩
theorem two_cells {cs : Array Value} (h : cs.size = 2) : ∃ c0 c1, cs = #[c0, c1] := by
  obtain ⟨l⟩ := cs
  match l, h with
  | [c0, c1], _ => exact ⟨c0, c1, rfl⟩
theorem five_cells {cs : Array Value} (h : cs.size = 5) : ∃ c0 c1 c2 c3 c4, cs = #[c0, c1, c2, c3, c4] := by
  obtain ⟨l⟩ := cs
  match l, h with
  | [c0, c1, c2, c3, c4], _ => exact ⟨c0, c1, c2, c3, c4, rfl⟩
theorem InitT.of_sets5 {T0 : TypeId} {w : World} {b : Nat} {v0 v1 v2 v3 v4 : Value} {cs : Array Value} (h : w.heap[b]? = some (.cells cs T0)) :
    InitT [T0] w (((((w.setCell ⟨b, 0, none⟩ v0).setCell ⟨b, 1, none⟩ v1).setCell ⟨b, 2, none⟩ v2).setCell ⟨b, 3, none⟩ v3).setCell ⟨b, 4, none⟩ v4) :=
  have m : T0 ∈ [T0] := by simp
  InitT.trans (InitT.trans (InitT.trans (InitT.trans (.of_set m h) (.of_set m (set_at h))) (.of_set m (set_at (set_at h)))) (.of_set m (set_at (set_at (set_at h))))) (.of_set m (set_at (set_at (set_at (set_at h)))))
theorem blk_init {ts : List TypeId} {w w' : World} {b : Nat} {cs : Array Value} {T : TypeId} (h : w.heap[b]? = some (.cells cs T)) (hi : InitT ts w w') (hT : T ∉ ts) : w'.heap[b]? = some (.cells cs T) :=
  hi.keep b _ h fun T' hT' => by
    rintro ⟨cs', fr, e'⟩
    injection e' with _ e2 _
    exact hT (e2 ▸ hT')
def VarAt (B : Nat) (T0 : TypeId) (sz : Nat) (v : Value) (w : World) : Prop := ∃ b, v = .pointer (some ⟨b, 0, none⟩) ∧ B ≤ b ∧ ∃ cs, cs.size = sz ∧ w.heap[b]? = some (.cells cs T0)
def VarIs (T0 : TypeId) (v : Value) (cs : Array Value) (w : World) : Prop := ∃ b, v = .pointer (some ⟨b, 0, none⟩) ∧ w.heap[b]? = some (.cells cs T0)
def initF (B : Nat) (T0 : TypeId) (sz : Nat) (ia is : Nat) (news : (Nat → Value) → Array Value) (G : Nat → (Nat → Bool) → (Nat → Value) → World → Prop) (k : Nat) (done : Nat → Bool) (vf : Nat → Value) (w : World) : Prop :=
  if k = ia then VarAt B T0 sz (vf ia) w else if k = is then VarIs T0 (vf ia) (news vf) w else G k done vf w
def initT (T0 : TypeId) (ts : Nat → List TypeId) (ia is : Nat) (news : (Nat → Value) → Array Value) (i : Nat) (vf : Nat → Value) (w w' : World) : Prop :=
  InitT (if i = is then [T0] else ts i) w w' ∧ (i = is → VarIs T0 (vf ia) (news vf) w')
def initI (B : Nat) (w0 : World) (_ : Nat → Bool) (w : World) : Prop := Cls B w0 w
theorem initT.plain {T0 : TypeId} {ts : Nat → List TypeId} {ia is i : Nat} {news : (Nat → Value) → Array Value} {vf : Nat → Value} {w w' : World} (h : Below w.heap.size w w') (hi : i ≠ is) : initT T0 ts ia is news i vf w w' := ⟨.of_below h, fun e => absurd e hi⟩
theorem initT.other {T0 : TypeId} {ts : Nat → List TypeId} {ia is i : Nat} {news : (Nat → Value) → Array Value} {vf : Nat → Value} {w w' : World} (h : InitT (ts i) w w') (hi : i ≠ is) : initT T0 ts ia is news i vf w w' := ⟨by rw [if_neg hi]; exact h, fun e => absurd e hi⟩
/-- THE LAW: operation ia lays the variable, is stores into it. -/
theorem wp_region_init {P : Program} {l : List Oper} {Q : Exit → Act → World → Prop} {a : Act} {id : Nat} {w : World} (B : Nat) (hBw : B ≤ w.heap.size) (T0 : TypeId) (sz : Nat) (ts : Nat → List TypeId) (ia is : Nat) (news : (Nat → Value) → Array Value) (G : Nat → (Nat → Bool) → (Nat → Value) → World → Prop)
    (hm : P.follows .mixedOrders = true) (hB : monoB2 (l.map prune) a.tmps.size = true) (bs : List (List Nat)) (hbs : befores (l.map prune) [] = bs) (hia : ia ∈ bs.getD is []) (hts : ∀ i, T0 ∉ ts i) (hsz : ∀ vf, (news vf).size = sz)
    (hG : ∀ (i k : Nat) (done : Nat → Bool) (vf : Nat → Value) (w w' : World), k ≠ i → done i = false → (∀ m ∈ bs.getD i [], done m = true) → done k = true → InitT (if i = is then [T0] else ts i) w w' → G k done vf w → G k (updDone done i) vf w')
    (hGp : ∀ (k : Nat) (done : Nat → Bool) (f g : Nat → Value) (w : World), (∀ m ∈ bs.getD k [], f m = g m) → f k = g k → G k done f w → G k done g w) (hN : ∀ f g : Nat → Value, (∀ m ∈ bs.getD is [], f m = g m) → news f = news g)
    (h : relWalk P l.toArray (initI B w) (initT T0 ts ia is news) (initF B T0 sz ia is news G) bs (Q .normal) l.length l 0 (fun _ => a)) : (Code.region id l.toArray true).wp P Q a w := by
  refine wp_region_rel _ _ _ hm hB bs hbs (fun i done vf w1 w2 _ hd hbf hf hT k hk => ?_) (fun k done f g w1 hfg hk hF => ?_) ⟨hBw, (Below.refl _ _).drew⟩ h
  · have hki : k ≠ i := fun e => by rw [e, hd] at hk; cases hk
    have hF := hf k hk
    unfold initF at hF ⊢
    split
    · rename_i e
      rw [if_pos e] at hF
      obtain ⟨b, hv, hb, cs, hs, hc⟩ := hF
      by_cases ei : i = is
      · obtain ⟨b', hv', hc'⟩ := hT.2 ei
        rw [hv] at hv'
        injection hv' with hv'; injection hv' with hv'; injection hv' with hv'
        subst hv'
        exact ⟨b, hv, hb, _, hsz vf, hc'⟩
      · have h1 := hT.1
        rw [if_neg ei] at h1
        exact ⟨b, hv, hb, cs, hs, blk_init hc h1 (hts i)⟩
    · rename_i e
      rw [if_neg e] at hF
      split
      · rename_i e2
        rw [if_pos e2] at hF
        obtain ⟨b, hv, hc⟩ := hF
        have h1 := hT.1
        rw [if_neg (fun e' => hki (e2.trans e'.symm))] at h1
        exact ⟨b, hv, blk_init hc h1 (hts i)⟩
      · rename_i e2
        rw [if_neg e2] at hF
        exact hG i k done vf _ _ hki hd hbf hk hT.1 hF
  · unfold initF at hF ⊢
    split
    · rename_i e
      subst e
      rw [if_pos rfl, hk] at hF
      exact hF
    · rename_i e
      rw [if_neg e] at hF
      split
      · rename_i e2
        subst e2
        rw [if_pos rfl, hN f g hfg, hfg ia hia] at hF
        exact hF
      · rename_i e2
        rw [if_neg e2] at hF
        exact hGp k done f g w1 hfg hk hF
end Go.Proofs.YthkgjohhbdipcaaDoor
