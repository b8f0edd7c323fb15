/- Texts laid one behind the other: Tighten, Tight. No condition beyond theirs. -/
import Derived.Test.YtioeliocdbckbaaGreatDoorK8
import Derived.Test.YtioeliocdbckbaaGreatDoorK4
import Derived.Test.YtioeliocdbckbaaGreatDoorK6
namespace Go.Proofs.YtioeliocdbckbaaGreatDoor
open Go.RowKit

theorem codeE_len {f : List TIns} (h : codeE f = 0) : f.length ≤ 1500 := by
  unfold codeE at h
  split at h
  · simp at h
  · omega
theorem one_code {W : World} {b : Nat} {T : TypeId} {u : Value} {f : List TIns} {D : Nat → Prop} (hb : W.heap[b]? = some (.cells #[u] T)) (hu : RdCode W D u f) : Sl W (fun _ => True) 1 (chainR W D) (.slice (some ⟨b, 0, none⟩) 1 1) [f] :=
  sl_block (xs := [f]) (rows := [[u]]) (RowsOf.cons RowsOf.nil ⟨_, rfl, hu⟩ rfl) hb rfl trivial (by simp [maxLen])
theorem nil_chain (w : World) (D : Nat → Prop) : RdChain w D (.slice none 0 0) [] := ⟨none, 0, rfl, Nat.le_refl _, by unfold maxLen; simp, fun _ => rfl, fun h => by cases h⟩

set_option maxRecDepth 100000 in
set_option maxHeartbeats 8000000 in
theorem tighten_any (v u0 u1 : Value) (l : List (List TIns)) (p q : TPol) (D : Nat → Prop) (w : World) (h : RdChain w D v l) (hp : RdRules w (fun _ => True) u0 p.rules) (hq : RdRules w (fun _ => True) u1 q.rules) :
    Calls Tryz.prog 46 #[v, polV u0 p.dflt, polV u1 q.dflt] w fun e w' => ∃ v', e = .returned (.tuple #[v', .int .i64 (tightE l p q).2]) ∧ RdChain w' (fun b => w.heap.size ≤ b) v' (tightE l p q).1 ∧ Below w.heap.size w w' := by
  have H := Lib.hid h
  have Hp := Lib.hid hp
  have Hq := Lib.hid hq
  obtain ⟨a, c, rfl, hlc, hcm, hat⟩ := Sl.form h
  obtain ⟨ap, cp, rfl, _⟩ := Sl.form hp
  obtain ⟨aq, cq, rfl, _⟩ := Sl.form hq
  clear h hp hq
  obtain ⟨⟨Y, ye⟩, hY⟩ : ∃ E, deltaE p q = E := ⟨_, rfl⟩
  have HY := Lib.hid hY
  obtain ⟨⟨F, fe⟩, hF⟩ : ∃ E, filterE Y = E := ⟨_, rfl⟩
  have HF := Lib.hid hF
  have HFl : Hid (fe = 0 → filterL Y = F) := fun h => by have := (filterE_ok (p := Y) (by rw [hF]; exact h)).2.1; rw [hF] at this; exact (Prod.mk.inj this).1.symm
  have HT : Hid (tightE l p q = if chainE l ≠ 0 then ([], chainE l) else if ye ≠ 0 then ([], ye) else if l.length = 6 then ([], 2) else if fe ≠ 0 then ([], fe) else (l ++ [filterL Y], 0)) := by
    show tightE l p q = _
    unfold tightE
    rw [hY]
    dsimp only
    rw [hF]
  clear hY hF
  go_enter Tryz.func46, Tryz.ntmps46
  go_wp2_with fail
  have HB := Lib.hid (Bx.two (w := w) (o := .cells #[.slice ap p.rules.length cp, .int .i64 p.dflt] 24) (o' := .cells #[.slice aq q.rules.length cq, .int .i64 q.dflt] 24))
  refine (chcheck_any _ l D _ (H.out.below HB.out.bel)).mono ?_
  rintro e w1 ⟨rfl, hb1⟩
  have HB1 := Lib.hid (HB.out.below hb1)
  clear hb1
  by_cases h0 : chainE l = 0
  · obtain ⟨hl6, hcodes⟩ := (chainE_iff l).1 h0
    have Hcd := Lib.hid hcodes
    have H0 := Lib.hid h0
    have hq0 := HB1.out.cells0
    have hq1 := HB1.out.cells1
    rw [h0]
    clear h0 hcodes
    go_wp2_with fail
    refine (delta_any _ _ p q _ (Hp.out.below HB1.out.bel) (Hq.out.below HB1.out.bel)).mono ?_
    rw [HY.out]
    rintro e w2 ⟨rY, rfl, hrY, hb2⟩
    have HB2 := Lib.hid (HB1.out.below hb2)
    have RY := Lib.hid (rules_true hrY)
    obtain ⟨aY, cY, rfl, _⟩ := Sl.form hrY
    have HC := Lib.hid (Bx.one (w := w2) (o := .cells #[.slice aY Y.rules.length cY, .int .i64 Y.dflt] 24))
    have HB3 := Lib.hid (HB2.out.below HC.out.bel)
    have RY3 := Lib.hid (RY.out.below HC.out.bel)
    have hqc := HC.out.cells0
    clear hrY hb2 hq0 hq1
    by_cases hy : ye = 0
    · subst hy
      by_cases h6 : l.length = 6
      · have HE : Hid (tightE l p q = ([], 2)) := by show tightE l p q = _; rw [HT.out, if_neg (by rw [H0.out]; simp), if_neg (by simp), if_pos h6]
        have HBf := Lib.hid HB3.out.bel
        have h6' : ((l.length : Int) == 6) = true := beq_iff_eq.2 (by omega)
        go_wp2
        go_ret2
        rw [HE.out]
        exact ⟨_, rfl, nil_chain _ _, HBf.out⟩
      · have h6' : ((l.length : Int) == 6) = false := by simpa using (show ¬ (l.length : Int) = 6 by omega)
        go_wp2_with fail
        refine (compile_any _ Y _ _ RY3.out).mono ?_
        rw [HF.out]
        rintro e w4 ⟨vF, rfl, hrF, hb4⟩
        have HB4 := Lib.hid (HB3.out.below hb4)
        have RF := Lib.hid hrF
        obtain ⟨aF, cF, rfl, _⟩ := Sl.form hrF
        clear hrF hb4 hqc
        by_cases hf : fe = 0
        · subst hf
          have HE : Hid (tightE l p q = (l ++ [F], 0)) := by show tightE l p q = _; rw [HT.out, if_neg (by rw [H0.out]; simp), if_neg (by simp), if_neg h6, if_neg (by simp), HFl.out rfl]
          have htop : w.heap.size + 2 ≤ w4.heap.size := HB4.out.top
          have hsz3 : w.heap.size ≤ (w2.alloc (.cells #[.slice aY Y.rules.length cY, .int .i64 Y.dflt] 24)).heap.size := HB3.out.bel.size
          obtain ⟨i0, hi, hz0, hz1, hz2⟩ := info_parts infocChain
          have Hi := Lib.hid hi
          clear hi
          go_wp2_with fail
          refine (copy_any _ l D _ (H.out.below HB4.out.bel) (by omega) (fun f hf => by have := codeE_len (Hcd.out f hf); omega)).mono ?_
          rintro e w5 ⟨v5, rfl, ho5, hb5⟩
          have HB5 := Lib.hid (HB4.out.below hb5)
          obtain ⟨a5, c5, rfl⟩ := ho5.slice
          have Ho5 := Lib.hid (ho5.monoR (R' := chainR w5 (fun b => w.heap.size ≤ b ∧ (Value.slice a5 l.length c5).ownBlock ≠ some b)) fun _ _ _ ⟨u, h1, h2⟩ => ⟨u, h1, h2.keep (fun b hb _ => ⟨by have := hb.1; omega, hb.2⟩) (fun _ _ _ => rfl) (Nat.le_refl _)⟩)
          have hown5 := ho5.block
          have hrf4 : RdCode w5 (fun b => w.heap.size ≤ b ∧ (Value.slice a5 l.length c5).ownBlock ≠ some b) (.slice aF F.length cF) F := RF.out.keep (fun b hb hl => ⟨Nat.le_trans hsz3 hb, fun e => by have := hown5 b e; omega⟩) (fun b _ hl => hb5.block b hl) hb5.size
          have hb6 := bel_alloc (Below.refl w5.heap.size w5) (.cells #[.slice aF F.length cF] 70)
          have RF6 : Hid (RdCode (w5.alloc (.cells #[.slice aF F.length cF] 70)) (fun b => w.heap.size ≤ b ∧ (Value.slice a5 l.length c5).ownBlock ≠ some b) (.slice aF F.length cF) F) := hrf4.below hb6
          have Ho6 := Lib.hid ((Ho5.out.below hb6).monoR (R' := chainR (w5.alloc (.cells #[.slice aF F.length cF] 70)) (fun b => w.heap.size ≤ b ∧ (Value.slice a5 l.length c5).ownBlock ≠ some b)) fun _ _ _ ⟨u, h1, h2⟩ => ⟨u, h1, h2.below hb6⟩)
          have HN := Lib.hid (one_code (T := 70) (heap_last w5 (.cells #[.slice aF F.length cF] 70)) RF6.out)
          have HB6 := Lib.hid (HB5.out.below hb6)
          have hsz5 := HB5.out.bel.size
          have hs45 := hb5.size
          clear ho5 hb5 hb6 hown5 hrf4
          go_wp2_with (at_builtin; refine wpList_app2 rfl _ _ 73 rfl w4.heap.size 70 i0 _ 1 24 Tryz.underlying73 Hi.out hz0 hz1 hz2 rfl (by decide) _ _ rfl Ho6.out _ _ rfl HN.out (fun y _ cs h => chainR_one y cs h) (by show _ + 1 ≤ maxLen; unfold maxLen; omega) (by show (_ + 1) * 24 ≤ _; omega) (by simp; omega) ?_; intro v' w7 hown' hg hat'; have Hown' := Lib.hid hown'; have Hg := Lib.hid hg; have Hblk := Lib.hid Ho6.out.block; clear hown' hg hat')
          go_ret2
          rw [HE.out]
          refine ⟨v', rfl, ?_, HB6.out.bel.trans (Below.grown (Below.refl w.heap.size _) Hg.out (by simp; omega) (fun g hg => by have := Hblk.out g hg; omega))⟩
          exact (Hown'.out.monoR (R' := chainR w7 (fun b => w.heap.size ≤ b)) fun _ _ _ ⟨u, h1, h2⟩ => ⟨u, h1, h2.keep (fun b hb _ => hb.1) (fun b hb hl => Hg.out.block b hl (fun e => hb.2 e.symm)) Hg.out.size⟩).sl (fun b hb => by omega)
        · have HE : Hid (tightE l p q = ([], fe)) := by show tightE l p q = _; rw [HT.out, if_neg (by rw [H0.out]; simp), if_neg (by simp), if_neg h6, if_pos hf]
          have hb0 : (fe != 0) = true := bne_iff_ne.2 hf
          have HBf := Lib.hid HB4.out.bel
          clear hf
          go_wp2
          go_ret2
          rw [HE.out]
          exact ⟨_, rfl, nil_chain _ _, HBf.out⟩
    · have HE : Hid (tightE l p q = ([], ye)) := by show tightE l p q = _; rw [HT.out, if_neg (by rw [H0.out]; simp), if_pos hy]
      have hb0 : (ye != 0) = true := bne_iff_ne.2 hy
      have HBf := Lib.hid HB3.out.bel
      clear hy
      go_wp2
      go_ret2
      rw [HE.out]
      exact ⟨_, rfl, nil_chain _ _, HBf.out⟩
  · have HE : Hid (tightE l p q = ([], chainE l)) := by show tightE l p q = _; rw [HT.out, if_pos h0]
    have hb0 : (chainE l != 0) = true := bne_iff_ne.2 h0
    have HBf := Lib.hid HB1.out.bel
    clear h0
    go_wp2
    go_ret2
    rw [HE.out]
    exact ⟨_, rfl, nil_chain _ _, HBf.out⟩
end Go.Proofs.YtioeliocdbckbaaGreatDoor
namespace Go.Proofs.YtioeliocdbckbaaGreatDoor
open Go.RowKit

def strictP : TPol := ⟨[⟨[⟨0, 1, 3⟩, ⟨2, 3, 5⟩], 0⟩, ⟨[⟨1, 2, 0⟩], 3⟩, ⟨[⟨3, 4, 7⟩], 2⟩], 4⟩
theorem read_strict : readP [107, 105, 108, 108, 32, 110, 114, 61, 51, 32, 97, 60, 53, 59, 108, 111, 103, 32, 107, 105, 110, 100, 33, 48, 59, 102, 97, 105, 108, 32, 98, 62, 55, 59, 97, 108, 108, 111, 119] = (strictP, 0) := by decide +kernel
theorem tgt_f : (filterE madeP).2 = 0 := by decide +kernel
theorem tgt_d : (deltaE madeP strictP).2 = 0 := by decide +kernel
theorem tgt_d2 : (deltaE strictP madeP).2 = 7 := by decide +kernel
theorem tgt_dl : (deltaE madeP strictP).1.rules.length = 3 := by decide +kernel
theorem tgt_dd : (deltaE madeP strictP).1.dflt = 4 := by decide +kernel
theorem tgt_dv : (deltaE madeP strictP).1.rules.map (·.verdict) = [4, 4, 2] := by decide +kernel
theorem tgt_t : (tightE [(filterE madeP).1] madeP strictP).2 = 0 := by decide +kernel
theorem tgt_tl : (tightE [(filterE madeP).1] madeP strictP).1.length = 2 := by decide +kernel
theorem tgt_a : askE (tightE [(filterE madeP).1] madeP strictP).1 ⟨0, 0, 0, 8, 0⟩ = (2, 0) := by decide +kernel
theorem tgt_a2 : askE [] ⟨0, 0, 0, 0, 0⟩ = (4, 0) := by decide +kernel

set_option maxHeartbeats 1000000 in
theorem strict_any (w : World) (hL : Laid w) : Calls Tryz.prog 45 #[] w fun e w' => ∃ v, e = .returned (polV v 4) ∧ RdRules w' (fun b => w.heap.size ≤ b) v strictP.rules ∧ Below w.heap.size w w' := by
  have HL := Lib.hid (hL.below (bel_alloc (Below.refl _ _) (.cells #[.slice none 0 0, .int .i64 0] 24)))
  clear hL
  go_enter Tryz.func45, Tryz.ntmps45
  go_wp2_with fail
  refine (read_walk ⟨([107, 105, 108, 108, 32, 110, 114, 61, 51, 32, 97, 60, 53, 59, 108, 111, 103, 32, 107, 105, 110, 100, 33, 48, 59, 102, 97, 105, 108, 32, 98, 62, 55, 59, 97, 108, 108, 111, 119] : List UInt8).toArray⟩ _ HL.out (by decide) (by decide)).mono ?_
  rintro e w1 ⟨v, rfl, hr, hb⟩
  have hrm : readP (⟨([107, 105, 108, 108, 32, 110, 114, 61, 51, 32, 97, 60, 53, 59, 108, 111, 103, 32, 107, 105, 110, 100, 33, 48, 59, 102, 97, 105, 108, 32, 98, 62, 55, 59, 97, 108, 108, 111, 119] : List UInt8).toArray⟩ : ByteArray).data.toList = (strictP, 0) := read_strict
  rw [hrm] at hr
  rw [hrm]
  have hd : (strictP, (0 : Int)).1.dflt = 4 := rfl
  rw [hd]
  have hr1 := blk_below (heap_last w (.cells #[.slice none 0 0, .int .i64 0] 24)) hb
  have Hr := Lib.hid hr
  have Hb := Lib.hid (bel_call (bel_alloc (Below.refl _ w) _) hb)
  obtain ⟨a, c, rfl, _⟩ := Sl.form hr
  have hsz := hb.size
  have hr2 : (w1.alloc (.cells #[.slice a strictP.rules.length c, .int .i64 4] 24)).heap[w.heap.size]? = some (.cells #[.slice none 0 0, .int .i64 0] 24) := blk_old hr1
  have hc2 := cells_of hr2
  have hf2 := not_frozen hr2
  have hr4 := set_at (o := 1) (v := .int .i64 4) (set_at (o := 0) (v := .slice a strictP.rules.length c) hr2)
  have hc4 := cells_of hr4
  have Hb4 := Lib.hid (set_below (a := ⟨w.heap.size, 1, none⟩) (v := .int .i64 4) (set_below (a := ⟨w.heap.size, 0, none⟩) (v := .slice a strictP.rules.length c) (bel_alloc Hb.out (.cells #[.slice a strictP.rules.length c, .int .i64 4] 24)) (Nat.le_refl _)) (Nat.le_refl _))
  have HR4 : Hid (RdRules (((w1.alloc (.cells #[.slice a strictP.rules.length c, .int .i64 4] 24)).setCell ⟨w.heap.size, 0, none⟩ (.slice a strictP.rules.length c)).setCell ⟨w.heap.size, 1, none⟩ (.int .i64 4)) (fun b => w.heap.size ≤ b) (.slice a strictP.rules.length c) strictP.rules) :=
    RdRules.keep (Hr.out.below (bel_alloc (Below.refl _ _) _)) (fun b h _ => by have : (w.alloc _).heap.size ≤ b := h; simp at this; show w.heap.size ≤ b; omega) (fun b hb _ => by
      have h1 : (w.alloc _).heap.size ≤ b := hb
      simp at h1
      rw [set_other (by show b ≠ w.heap.size; omega), set_other (by show b ≠ w.heap.size; omega)]) (by rw [set_size, set_size]; exact Nat.le_refl _)
  clear hr hb hrm hd hr1 hr2
  go_wp2
  refine bodyPost_ret (v := polV (.slice a strictP.rules.length c) 4) ?_ rfl ⟨_, rfl, HR4.out, Hb4.out⟩
  simp [results, Tryz.results45, go_sem, hc4]

set_option maxRecDepth 100000 in
set_option maxHeartbeats 8000000 in
theorem tightened_walk (w : World) (hL : Laid w) : Calls Tryz.prog 22 #[] w fun e w' => e = .returned (.bool true) ∧ Below w.heap.size w w' := by
  have HL := Lib.hid hL
  clear hL
  obtain ⟨F, hF⟩ : ∃ F, filterE madeP = F := ⟨_, rfl⟩
  obtain ⟨F1, F2⟩ := F
  have hF2 : F2 = 0 := by have := tgt_f; rw [hF] at this; exact this
  subst hF2
  obtain ⟨⟨D1, D2⟩, hD⟩ : ∃ F, deltaE madeP strictP = F := ⟨_, rfl⟩
  have hD2 : D2 = 0 := by have := tgt_d; rw [hD] at this; exact this
  have hDl : D1.rules.length = 3 := by have := tgt_dl; rw [hD] at this; exact this
  have hDd : D1.dflt = 4 := by have := tgt_dd; rw [hD] at this; exact this
  have hDv : D1.rules.map (·.verdict) = [4, 4, 2] := by have := tgt_dv; rw [hD] at this; exact this
  subst hD2
  obtain ⟨⟨E1, E2⟩, hE⟩ : ∃ F, deltaE strictP madeP = F := ⟨_, rfl⟩
  have hE2 : E2 = 7 := by have := tgt_d2; rw [hE] at this; exact this
  subst hE2
  obtain ⟨⟨T1, T2⟩, hT⟩ : ∃ F, tightE [F1] madeP strictP = F := ⟨_, rfl⟩
  have hT2 : T2 = 0 := by have := tgt_t; rw [hF] at this; dsimp only at this; rw [hT] at this; exact this
  have hTl : T1.length = 2 := by have := tgt_tl; rw [hF] at this; dsimp only at this; rw [hT] at this; exact this
  have hTa : askE T1 ⟨0, 0, 0, 8, 0⟩ = (2, 0) := by have := tgt_a; rw [hF] at this; dsimp only at this; rw [hT] at this; exact this
  subst hT2
  have HF := Lib.hid hF
  have HD := Lib.hid hD
  have HE := Lib.hid hE
  have HT := Lib.hid hT
  have HTa := Lib.hid hTa
  have HDl := Lib.hid hDl
  have HDv := Lib.hid hDv
  have HTl := Lib.hid hTl
  have HDd := Lib.hid hDd
  clear hF hD hE hT hTa hDl hDv hTl hDd
  go_enter Tryz.func22, Tryz.ntmps22
  go_wp2_with fail
  refine (made_any _ HL.out).mono ?_
  rintro e w1 ⟨v1, rfl, hr1, hb1⟩
  have Hb1 := Lib.hid hb1
  have Hr1 := Lib.hid (rules_true hr1)
  obtain ⟨a1, c1, rfl, _⟩ := Sl.form hr1
  clear hr1 hb1
  go_wp2_with fail
  refine (compile_any _ madeP _ _ Hr1.out).mono ?_
  rw [HF.out]
  rintro e w2 ⟨v2, rfl, hr2, hb2⟩
  have Hb2 := Lib.hid (bel_call Hb1.out hb2)
  have Hr2 := Lib.hid hr2
  obtain ⟨a2, c2, rfl, _⟩ := Sl.form hr2
  clear hr2 hb2
  go_wp2_with fail
  refine (made_any _ (HL.out.below Hb2.out)).mono ?_
  rintro e w3 ⟨v3, rfl, hr3, hb3⟩
  have Hb3 := Lib.hid (bel_call Hb2.out hb3)
  have Hf3 := Lib.hid (Hr2.out.below hb3)
  have Hr3 := Lib.hid (rules_true hr3)
  obtain ⟨a3, c3, rfl, _⟩ := Sl.form hr3
  clear hr3 hb3
  go_wp2_with fail
  refine (strict_any _ (HL.out.below Hb3.out)).mono ?_
  rintro e w4 ⟨v4, rfl, hr4, hb4⟩
  have Hb4 := Lib.hid (bel_call Hb3.out hb4)
  have Hf4 := Lib.hid (Hf3.out.below hb4)
  have Hr34 := Lib.hid (Hr3.out.below hb4)
  have Hr4 := Lib.hid (rules_true hr4)
  obtain ⟨a4, c4, rfl, _⟩ := Sl.form hr4
  clear hr4 hb4
  go_wp2_with fail
  refine (delta_any _ _ madeP strictP _ Hr34.out Hr4.out).mono ?_
  rw [HD.out]
  rintro e w5 ⟨v5, rfl, hr5, hb5⟩
  have Hb5 := Lib.hid (bel_call Hb4.out hb5)
  have Hf5 := Lib.hid (Hf4.out.below hb5)
  have Hr5 := Lib.hid (rules_true hr5)
  obtain ⟨a5, c5, rfl, _⟩ := Sl.form hr5
  have HC5 := Lib.hid (Bx.one (w := w5) (o := .cells #[.slice a5 D1.rules.length c5, .int .i64 D1.dflt] 24))
  clear hr5 hb5
  go_wp2_with fail
  have HC6 := Lib.hid (Bx.push HC5.out (by simp) (.cells #[.slice a2 F1.length c2] 70))
  refine (made_any _ (HL.out.below (bel_call Hb5.out HC6.out.bel))).mono ?_
  rintro e w6 ⟨v6, rfl, hr6, hb6⟩
  have HC7 := Lib.hid (HC6.out.below hb6)
  have Hr6 := Lib.hid (rules_true hr6)
  obtain ⟨a6, c6, rfl, _⟩ := Sl.form hr6
  clear hr6 hb6
  go_wp2_with fail
  refine (strict_any _ (HL.out.below (bel_call Hb5.out HC7.out.bel))).mono ?_
  rintro e w7 ⟨v7, rfl, hr7, hb7⟩
  have HC8 := Lib.hid (HC7.out.below hb7)
  have Hr67 := Lib.hid (Hr6.out.below hb7)
  have Hr7 := Lib.hid (rules_true hr7)
  obtain ⟨a7, c7, rfl, _⟩ := Sl.form hr7
  clear hr7 hb7
  go_wp2_with fail
  have Hone : Hid (RdChain w7 (fun _ => True) (.slice (some ⟨w5.heap.size + 1, 0, none⟩) 1 1) [F1]) :=
    Sl.mono (one_code (T := 70) (D := fun _ => True) (HC8.out.at_ 1 _ rfl) ((Hf5.out.keep (fun _ _ _ => trivial) (fun _ _ _ => rfl) (Nat.le_refl _)).below HC8.out.bel)) (fun _ _ _ => trivial) (fun _ _ _ => rfl) (Nat.le_refl _) (fun _ _ _ h => h)
  refine (tighten_any _ _ _ [F1] madeP strictP _ _ Hone.out Hr67.out Hr7.out).mono ?_
  rw [HT.out]
  rintro e w8 ⟨v8, rfl, hr8, hb8⟩
  have HC9 := Lib.hid (HC8.out.below hb8)
  have Hr8 := Lib.hid hr8
  obtain ⟨a8, c8, rfl, _⟩ := Sl.form hr8
  clear hr8 hb8
  go_wp2_with fail
  refine (ask_any _ T1 ⟨0, 0, 0, 8, 0⟩ _ _ Hr8.out).mono ?_
  rw [HTa.out]
  rintro e w9 ⟨rfl, hb9⟩
  have HC10 := Lib.hid (HC9.out.below hb9)
  clear hb9
  go_wp2_with fail
  refine (ask_any _ [] ⟨0, 0, 0, 0, 0⟩ (fun _ => True) _ (nil_chain _ _)).mono ?_
  rw [tgt_a2]
  rintro e w10 ⟨rfl, hb10⟩
  have HC11 := Lib.hid (HC10.out.below hb10)
  clear hb10
  go_wp2_with fail
  refine (strict_any _ (HL.out.below (bel_call Hb5.out HC11.out.bel))).mono ?_
  rintro e w11 ⟨v11, rfl, hr11, hb11⟩
  have HC12 := Lib.hid (HC11.out.below hb11)
  have Hr11 := Lib.hid (rules_true hr11)
  obtain ⟨a11, c11, rfl, _⟩ := Sl.form hr11
  clear hr11 hb11
  go_wp2_with fail
  refine (made_any _ (HL.out.below (bel_call Hb5.out HC12.out.bel))).mono ?_
  rintro e w12 ⟨v12, rfl, hr12, hb12⟩
  have HC13 := Lib.hid (HC12.out.below hb12)
  have Hr11' := Lib.hid (Hr11.out.below hb12)
  have Hr12 := Lib.hid (rules_true hr12)
  obtain ⟨a12, c12, rfl, _⟩ := Sl.form hr12
  clear hr12 hb12
  go_wp2_with fail
  refine (delta_any _ _ strictP madeP _ Hr11'.out Hr12.out).mono ?_
  rw [HE.out]
  rintro e w13 ⟨v13, rfl, hr13, hb13⟩
  have HC14 := Lib.hid (HC13.out.below hb13)
  obtain ⟨a13, c13, rfl, _⟩ := Sl.form hr13
  have HC15 := Lib.hid (HC14.out.below (bel_alloc (Below.refl _ _) (.cells #[.slice a13 E1.rules.length c13, .int .i64 E1.dflt] 24)))
  have hq0 := HC15.out.cells0
  have Hr15 := Lib.hid (Hr5.out.below HC15.out.bel)
  have hDl := HDl.out
  obtain ⟨b5, o5, rfl, _⟩ := Sl.at_ Hr15.out (by rw [hDl]; omega)
  obtain ⟨_, _, _, hv2, _⟩ := RdRules.cells Hr15.out (i := 2) (by rw [hDl]; omega)
  have hvd : (D1.rules[2]'(by rw [hDl]; omega)).verdict = 2 := by
    have h := HDv.out
    have h2 := congrArg (fun l : List Int => l[2]?) h
    simp only [List.getElem?_map, List.getElem?_eq_getElem (show 2 < D1.rules.length by rw [hDl]; omega), Option.map_some] at h2
    exact Option.some.inj h2
  rw [hvd] at hv2
  have hTl := HTl.out
  have hDd := HDd.out
  have Hfin := Lib.hid (bel_call Hb5.out HC15.out.bel)
  clear hr13 hb13 hvd
  go_wp2
  go_ret
  exact ⟨rfl, Hfin.out⟩
end Go.Proofs.YtioeliocdbckbaaGreatDoor
