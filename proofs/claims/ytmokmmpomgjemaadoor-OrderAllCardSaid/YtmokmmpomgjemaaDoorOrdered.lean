/- Walk: the closed fact 'ordered'. Condition: Laid. -/
import Derived.Test.YtmokmmpomgjemaaDoorLooser
import Derived.Test.YtmokmmpomgjemaaDoorMade
import Derived.Test.YtmokmmpomgjemaaDoorCloneRule
namespace Go.Proofs.YtmokmmpomgjemaaDoor
open Go.RowKit
attribute [local go_sem] gives givesUpon

def trapP : TPol := ⟨[⟨[⟨0, 1, 3⟩, ⟨2, 3, 5⟩], 1⟩, ⟨[⟨1, 2, 0⟩], 3⟩], 4⟩
theorem ord1 : looserE trapP madeP = (true, ⟨3, 0, 0, 0, 0⟩, 0) := by decide +kernel
theorem ord2 : looserE madeP trapP = (false, ⟨0, 0, 0, 0, 0⟩, 0) := by decide +kernel
theorem ord3 : alikeE madeP madeP = (true, 0) := by decide +kernel
theorem ruleR_one {w : World} {D : Nat → Prop} (y : TRule) (cs : List Value) (h : ruleR w D y cs) : ∀ c ∈ cs, c.oneCell' = true := by
  obtain ⟨v, rfl, h⟩ := h
  obtain ⟨a, c, rfl, _⟩ := Sl.form h
  intro u hu
  simp at hu
  rcases hu with rfl | rfl <;> rfl
theorem rules_of {w W : World} {D : Nat → Prop} {v : Value} {l : List TRule} (h : Sl W D 2 (ruleR w (fun _ => True)) v l) (hb : Below w.heap.size w W) : RdRules W (fun _ => True) v l :=
  Sl.mono h (fun _ _ _ => trivial) (fun _ _ _ => rfl) (Nat.le_refl _) (fun _ _ _ ⟨u, h1, h2⟩ => ⟨u, h1, h2.below hb⟩)
theorem rules_true {w : World} {D : Nat → Prop} {v : Value} {l : List TRule} (h : RdRules w D v l) : RdRules w (fun _ => True) v l := h.keep (fun _ _ _ => trivial) (fun _ _ _ => rfl) (Nat.le_refl _)

theorem InitT.rules {w w' : World} {D : Nat → Prop} {v : Value} {l : List TRule} (h : InitT [] w w') (hr : RdRules w D v l) : RdRules w' D v l :=
  hr.keep (fun _ h _ => h) (fun b _ hb => by
    have := h.keep b w.heap[b] (Array.getElem?_eq_getElem hb) (fun T hT => by cases hT)
    rw [this, Array.getElem?_eq_getElem hb]) h.size
/-- made's answer, until it is used. -/
def madeG (km kc k : Nat) (done : Nat → Bool) (vf : Nat → Value) (W : World) : Prop :=
  if k = km then (done kc = false → ∃ u, vf km = polV u 4 ∧ RdRules W (fun _ => True) u madeP.rules) else True
theorem madeG_keep {km kc k i is : Nat} {T0 : TypeId} {done : Nat → Bool} {vf : Nat → Value} {w w' : World} (hbf : i = is → done kc = true) (hi : InitT (if i = is then [T0] else []) w w') (h : madeG km kc k done vf w) : madeG km kc k (updDone done i) vf w' := by
  unfold madeG at h ⊢
  split
  · rename_i e
    rw [if_pos e] at h
    intro hd
    unfold updDone at hd
    split at hd
    · cases hd
    · by_cases hs : i = is
      · rw [hbf hs] at hd; cases hd
      · rw [if_neg hs] at hi
        obtain ⟨u, h1, h2⟩ := h hd
        exact ⟨u, h1, hi.rules h2⟩
  · trivial
theorem madeG_proper {km kc k : Nat} {done : Nat → Bool} {f g : Nat → Value} {w : World} (hk : f k = g k) (h : madeG km kc k done f w) : madeG km kc k done g w := by
  unfold madeG at h ⊢
  split
  · rename_i e; subst e; rw [if_pos rfl] at h; rw [← hk]; exact h
  · trivial

set_option maxRecDepth 100000 in
set_option maxHeartbeats 4000000 in
theorem ordered_walk (w : World) (hL : Laid w) : Calls Tryd.prog 7 #[] w fun e w' => e = .returned (.bool true) ∧ Below w.heap.size w w' := by
  have HL := Lib.hid hL
  clear hL
  go_enter Tryd.func7, Tryd.ntmps7
  go_wp2_with fail
  refine (made_any _ HL.out).mono ?_
  rintro e w1 ⟨v1, rfl, hr1, hb1⟩
  have Hr1 := Lib.hid (rules_true hr1)
  have Hb1 := Lib.hid hb1
  have hs1 := hb1.size
  obtain ⟨a1, c1, rfl, _⟩ := Sl.form hr1
  clear hr1 hb1
  go_wp2_with fail
  refine (cloneRule_any (ruleR w1 (fun _ => True)) (fun y cs h => ruleR_one y cs h) _ madeP.rules (fun _ => True) _ (Hr1.out.belowR (bel_alloc (Below.refl _ _) _) (fun _ _ _ h => h)) (by decide)).mono ?_
  rintro e w2 ⟨v2, rfl, ho2, hb2⟩
  have HB2 := Lib.hid ((Bx.one (w := w1)).below hb2)
  have Ho2 := Lib.hid (ho2.base (base' := w1.heap.size + 1) (by simp))
  obtain ⟨a2, c2, rfl⟩ := ho2.slice
  obtain ⟨g, rfl, hgb, hgl, cur, hcur⟩ := OwnSl.addr Ho2.out (by decide)
  have hfg := not_frozen hcur 1
  have hg1 : w2.cell? ⟨g, 1, none⟩ = some (.int .i64 0) := by
    have hsl : Sl w2 (fun _ => True) 2 (ruleR w1 (fun _ => True)) (.slice (some ⟨g, 0, none⟩) madeP.rules.length c2) madeP.rules := OwnSl.sl Ho2.out (fun _ _ => trivial)
    obtain ⟨cs, _, ⟨u, hu, _⟩, hcell⟩ := Sl.get hsl (i := 0) (by decide)
    subst hu
    exact hcell 1 _ rfl
  have hc0 := HB2.out.cells0
  have hf0 := HB2.out.free0
  clear ho2 hb2
  have HB3 := Lib.hid ((HB2.out.set (i := 0) rfl 0 (.slice (some ⟨g, 0, none⟩) madeP.rules.length c2)).lift (B := w1.heap.size + 1) (set_below (a := ⟨g, 1, none⟩) (v := .int .i64 1) (Below.refl _ _) hgb) (by simp))
  have Ho3 : Hid (OwnSl ((w2.setCell ⟨w1.heap.size, 0, none⟩ (.slice (some ⟨g, 0, none⟩) madeP.rules.length c2)).setCell ⟨g, 1, none⟩ (.int .i64 1)) (w1.heap.size + 1) 46 2 (ruleR w1 (fun _ => True)) (.slice (some ⟨g, 0, none⟩) madeP.rules.length c2) trapP.rules) :=
    OwnSl.put (i := 0) (j := 1) (OwnSl.set Ho2.out (a := ⟨w1.heap.size, 0, none⟩) (by intro e; injection e with e; have : g = w1.heap.size := e; omega)) (by decide) (by decide) (y := ⟨[⟨0, 1, 3⟩, ⟨2, 3, 5⟩], 1⟩) (fun r ⟨u, hu, hr⟩ => ⟨u, by rw [hu]; rfl, hr⟩)
  go_wp2_with fail
  clear hc0 hf0 hfg hg1 hcur
  revert HB3 Ho3
  generalize ((w2.setCell ⟨w1.heap.size, 0, none⟩ (.slice (some ⟨g, 0, none⟩) madeP.rules.length c2)).setCell ⟨g, 1, none⟩ (.int .i64 1)) = w3
  intro HB3 Ho3
  have HQ : Hid (RdRules w3 (fun _ => True) (.slice (some ⟨g, 0, none⟩) madeP.rules.length c2) trapP.rules) := rules_of (OwnSl.sl Ho3.out (fun _ _ => trivial)) HB3.out.bel
  have HS : Hid (∀ W, Cls w3.heap.size w3 W → ∀ j, W.cell? ⟨w1.heap.size, j, none⟩ = (#[Value.slice (some ⟨g, 0, none⟩) madeP.rules.length c2, .int .i64 4] : Array Value)[j]?) := fun W hW => (HB3.out.lift hW.2 HB3.out.top).cells0
  have HLW : Hid (∀ W, Cls w3.heap.size w3 W → Laid W) := fun W hW => HL.out.below (Hb1.out.trans ((HB3.out.lift hW.2 HB3.out.top).bel.mono hs1))
  have HQW : Hid (∀ W, Cls w3.heap.size w3 W → RdRules W (fun _ => True) (.slice (some ⟨g, 0, none⟩) madeP.rules.length c2) trapP.rules) := fun W hW => HQ.out.below hW.2
  refine wp_region_init w3.heap.size (Nat.le_refl _) 26 5 (fun _ => []) 7 9 (fun _ => #[.int .i64 3, .int .i64 0, .int .i64 0, .int .i64 0, .int .i64 0]) (madeG 1 2)
    (by kernel_rfl) (by kernel_rfl) _ rfl (by decide) (fun _ => by simp) (fun _ => rfl) (fun i k _ _ _ _ _ _ hbf _ hi h => madeG_keep (is := 9) (T0 := 26) (fun e => hbf 2 (by subst e; decide)) hi h) (fun k _ f g _ _ hk h => madeG_proper hk h) (fun f g h => rfl) ?_
  (refine rel_ex (fun K hK => ?_); apply Exists.intro; refine ⟨fun done vf W hI h0 hd hn hf R hR => ?_, ?_, ?_⟩; (have hcell := HS.out W hI; clear h0 hd hn hf; go_simp; exact hR _ _ (Cls.step hI (Below.refl _ _)) (initT.plain (Below.refl _ _) (by decide)) rfl trivial); exact (fun _ _ _ => rfl); (go_simp; refine hK _ ?_; clear hK K))
  (refine rel_pr (fun K hK => ?_); refine ⟨fun done vf W hI h0 hd hn hf R hR => ?_, ?_⟩; (have hWL := HLW.out W hI; clear h0 hd hn hf; go_simp; go_at_call 12; refine (made_any _ hWL).mono ?_; (rintro e w4 ⟨v4, rfl, hr4, hb4⟩; exact ⟨_, rfl, hR _ _ (Cls.step hI hb4) (initT.plain hb4 (by decide)) trivial (fun _ => ⟨v4, rfl, rules_true hr4⟩)⟩)); (go_simp; refine hK _ ?_; clear hK K))
  (refine rel_ex (fun K hK => ?_); apply Exists.intro; refine ⟨fun done vf W hI h0 hd hn hf R hR => ?_, ?_, ?_⟩; (have h1 : done 2 = false → ∃ u, vf 1 = polV u 4 ∧ RdRules W (fun _ => True) u madeP.rules := hf 1 (hd 1 (by decide)); obtain ⟨u, hu, hru⟩ := h1 h0; have Hru := Lib.hid hru; have HqW := Lib.hid (HQW.out W hI); clear h1 h0 hd hn hf hru; go_simp; go_at_call 6; refine (looser_any (.slice (some ⟨g, 0, none⟩) madeP.rules.length c2) u trapP madeP W HqW.out Hru.out).mono ?_; rw [ord1]; (rintro e w4 ⟨rfl, hb4⟩; exact ⟨_, rfl, hR _ _ (Cls.step hI hb4) (initT.plain hb4 (by decide)) rfl trivial⟩)); exact (fun _ _ _ => rfl); (go_simp; refine hK _ ?_; clear hK K))
  iterate 4 (refine rel_ex (fun K hK => ?_); apply Exists.intro; refine ⟨fun done vf W hI h0 hd hn hf R hR => ?_, ?_, ?_⟩; (have hcell := HS.out W hI; clear h0 hd hn hf; go_simp; exact hR _ _ (Cls.step hI (Below.refl _ _)) (initT.plain (Below.refl _ _) (by decide)) rfl trivial); exact (fun _ _ _ => rfl); (go_simp; refine hK _ ?_; clear hK K))
  (refine rel_pr (fun K hK => ?_); refine ⟨fun done vf W hI h0 hd hn hf R hR => ?_, ?_⟩; (clear h0 hd hn hf; go_simp; exact hR _ _ (Cls.step hI (bel_alloc (Below.refl _ _) _)) (initT.plain (bel_alloc (Below.refl _ _) _) (by decide)) trivial ⟨_, rfl, hI.1, _, rfl, heap_last _ _⟩); (go_simp; refine hK _ ?_; clear hK K))
  (refine rel_ex (fun K hK => ?_); apply Exists.intro; refine ⟨fun done vf W hI h0 hd hn hf R hR => ?_, ?_, ?_⟩; (have hcell := HS.out W hI; clear h0 hd hn hf; go_simp; exact hR _ _ (Cls.step hI (Below.refl _ _)) (initT.plain (Below.refl _ _) (by decide)) rfl trivial); exact (fun _ _ _ => rfl); (go_simp; refine hK _ ?_; clear hK K))
  (refine rel_pr (fun K hK => ?_); refine ⟨fun done vf W hI h0 hd hn hf R hR => ?_, ?_⟩; (have h11 : VarAt w3.heap.size 26 5 (vf 7) W := hf 7 (hd 7 (by decide)); obtain ⟨bx, h11, hbx, cs, hcs, hc11⟩ := h11; obtain ⟨d0, d1, d2, d3, d4, rfl⟩ := five_cells hcs; have hce := cells_of hc11; have hfe := not_frozen hc11; have Hc11 := Lib.hid hc11; have Hst : Hid ((((((W.setCell ⟨bx, 0, none⟩ (.int .i64 3)).setCell ⟨bx, 1, none⟩ (.int .i64 0)).setCell ⟨bx, 2, none⟩ (.int .i64 0)).setCell ⟨bx, 3, none⟩ (.int .i64 0)).setCell ⟨bx, 4, none⟩ (.int .i64 0)).heap[bx]? = some (.cells #[.int .i64 3, .int .i64 0, .int .i64 0, .int .i64 0, .int .i64 0] 26)) := set_at (set_at (set_at (set_at (set_at hc11)))); clear h0 hd hn hf hc11 hcs; go_simp; exact hR _ _ ⟨by simp only [set_size]; exact hI.1, set_below (set_below (set_below (set_below (set_below hI.2 hbx) hbx) hbx) hbx) hbx⟩ ⟨InitT.of_sets5 Hc11.out, fun _ => ⟨bx, h11, Hst.out⟩⟩ trivial ⟨bx, h11, Hst.out⟩); (go_simp; refine hK _ ?_; clear hK K))
  (refine rel_ex (fun K hK => ?_); apply Exists.intro; refine ⟨fun done vf W hI h0 hd hn hf R hR => ?_, ?_, ?_⟩; (have hcell := HS.out W hI; clear h0 hd hn hf; go_simp; exact hR _ _ (Cls.step hI (Below.refl _ _)) (initT.plain (Below.refl _ _) (by decide)) rfl trivial); exact (fun _ _ _ => rfl); (go_simp; refine hK _ ?_; clear hK K))
  intro done vf w4 hd hI hF
  have h12 : VarIs 26 (vf 7) #[.int .i64 3, .int .i64 0, .int .i64 0, .int .i64 0, .int .i64 0] w4 := hF 9 (by decide)
  obtain ⟨bx, h11, hc11⟩ := h12
  have HS4 := Lib.hid (fun (W : World) (hW : Cls w4.heap.size w4 W) => HS.out W (Cls.step hI hW.2))
  have HL4 := Lib.hid (fun (W : World) (hW : Cls w4.heap.size w4 W) => HLW.out W (Cls.step hI hW.2))
  have HQ4 := Lib.hid (fun (W : World) (hW : Cls w4.heap.size w4 W) => HQW.out W (Cls.step hI hW.2))
  have Hbx := Lib.hid hc11
  have HBL := Lib.hid (HB3.out.lift hI.2 HB3.out.top).bel
  have Hs4 := Lib.hid (HB3.out.lift hI.2 HB3.out.top).top
  clear HS HLW HQW hd hI hF hc11
  go_wp2_with fail
  refine wp_region_init w4.heap.size (Nat.le_refl _) 26 5 (fun _ => []) 7 9 (fun _ => #[.int .i64 0, .int .i64 0, .int .i64 0, .int .i64 0, .int .i64 0]) (madeG 0 2)
    (by kernel_rfl) (by kernel_rfl) _ rfl (by decide) (fun _ => by simp) (fun _ => rfl) (fun i k _ _ _ _ _ _ hbf _ hi h => madeG_keep (is := 9) (T0 := 26) (fun e => hbf 2 (by subst e; decide)) hi h) (fun k _ f g _ _ hk h => madeG_proper hk h) (fun f g h => rfl) ?_
  (refine rel_pr (fun K hK => ?_); refine ⟨fun done vf W hI h0 hd hn hf R hR => ?_, ?_⟩; (have hWL := HL4.out W hI; clear h0 hd hn hf; go_simp; go_at_call 12; refine (made_any _ hWL).mono ?_; (rintro e w4 ⟨v4, rfl, hr4, hb4⟩; exact ⟨_, rfl, hR _ _ (Cls.step hI hb4) (initT.plain hb4 (by decide)) trivial (fun _ => ⟨v4, rfl, rules_true hr4⟩)⟩)); (go_simp; refine hK _ ?_; clear hK K))
  (refine rel_ex (fun K hK => ?_); apply Exists.intro; refine ⟨fun done vf W hI h0 hd hn hf R hR => ?_, ?_, ?_⟩; (have hcell := HS4.out W hI; clear h0 hd hn hf; go_simp; exact hR _ _ (Cls.step hI (Below.refl _ _)) (initT.plain (Below.refl _ _) (by decide)) rfl trivial); exact (fun _ _ _ => rfl); (go_simp; refine hK _ ?_; clear hK K))
  (refine rel_ex (fun K hK => ?_); apply Exists.intro; refine ⟨fun done vf W hI h0 hd hn hf R hR => ?_, ?_, ?_⟩; (have h1 : done 2 = false → ∃ u, vf 0 = polV u 4 ∧ RdRules W (fun _ => True) u madeP.rules := hf 0 (hd 0 (by decide)); obtain ⟨u, hu, hru⟩ := h1 h0; have Hru := Lib.hid hru; have HqW := Lib.hid (HQ4.out W hI); clear h1 h0 hd hn hf hru; go_simp; go_at_call 6; refine (looser_any u (.slice (some ⟨g, 0, none⟩) madeP.rules.length c2) madeP trapP W Hru.out HqW.out).mono ?_; rw [ord2]; (rintro e w4 ⟨rfl, hb4⟩; exact ⟨_, rfl, hR _ _ (Cls.step hI hb4) (initT.plain hb4 (by decide)) rfl trivial⟩)); exact (fun _ _ _ => rfl); (go_simp; refine hK _ ?_; clear hK K))
  iterate 4 (refine rel_ex (fun K hK => ?_); apply Exists.intro; refine ⟨fun done vf W hI h0 hd hn hf R hR => ?_, ?_, ?_⟩; (have hcell := HS4.out W hI; clear h0 hd hn hf; go_simp; exact hR _ _ (Cls.step hI (Below.refl _ _)) (initT.plain (Below.refl _ _) (by decide)) rfl trivial); exact (fun _ _ _ => rfl); (go_simp; refine hK _ ?_; clear hK K))
  (refine rel_pr (fun K hK => ?_); refine ⟨fun done vf W hI h0 hd hn hf R hR => ?_, ?_⟩; (clear h0 hd hn hf; go_simp; exact hR _ _ (Cls.step hI (bel_alloc (Below.refl _ _) _)) (initT.plain (bel_alloc (Below.refl _ _) _) (by decide)) trivial ⟨_, rfl, hI.1, _, rfl, heap_last _ _⟩); (go_simp; refine hK _ ?_; clear hK K))
  (refine rel_ex (fun K hK => ?_); apply Exists.intro; refine ⟨fun done vf W hI h0 hd hn hf R hR => ?_, ?_, ?_⟩; (have hcell := HS4.out W hI; clear h0 hd hn hf; go_simp; exact hR _ _ (Cls.step hI (Below.refl _ _)) (initT.plain (Below.refl _ _) (by decide)) rfl trivial); exact (fun _ _ _ => rfl); (go_simp; refine hK _ ?_; clear hK K))
  (refine rel_pr (fun K hK => ?_); refine ⟨fun done vf W hI h0 hd hn hf R hR => ?_, ?_⟩; (have h11 : VarAt w4.heap.size 26 5 (vf 7) W := hf 7 (hd 7 (by decide)); obtain ⟨by_, h11, hbx, cs, hcs, hc11⟩ := h11; obtain ⟨d0, d1, d2, d3, d4, rfl⟩ := five_cells hcs; have hce := cells_of hc11; have hfe := not_frozen hc11; have Hc11 := Lib.hid hc11; have Hst : Hid ((((((W.setCell ⟨by_, 0, none⟩ (.int .i64 0)).setCell ⟨by_, 1, none⟩ (.int .i64 0)).setCell ⟨by_, 2, none⟩ (.int .i64 0)).setCell ⟨by_, 3, none⟩ (.int .i64 0)).setCell ⟨by_, 4, none⟩ (.int .i64 0)).heap[by_]? = some (.cells #[.int .i64 0, .int .i64 0, .int .i64 0, .int .i64 0, .int .i64 0] 26)) := set_at (set_at (set_at (set_at (set_at hc11)))); clear h0 hd hn hf hc11 hcs; go_simp; exact hR _ _ ⟨by simp only [set_size]; exact hI.1, set_below (set_below (set_below (set_below (set_below hI.2 hbx) hbx) hbx) hbx) hbx⟩ ⟨InitT.of_sets5 Hc11.out, fun _ => ⟨by_, h11, Hst.out⟩⟩ trivial ⟨by_, h11, Hst.out⟩); (go_simp; refine hK _ ?_; clear hK K))
  (refine rel_ex (fun K hK => ?_); apply Exists.intro; refine ⟨fun done vf W hI h0 hd hn hf R hR => ?_, ?_, ?_⟩; (have hcell := HS4.out W hI; clear h0 hd hn hf; go_simp; exact hR _ _ (Cls.step hI (Below.refl _ _)) (initT.plain (Below.refl _ _) (by decide)) rfl trivial); exact (fun _ _ _ => rfl); (go_simp; refine hK _ ?_; clear hK K))
  intro done vf' w5 hd hI hF
  have Hb5 := Lib.hid (blk_below Hbx.out hI.2)
  have HL5 := Lib.hid (HL4.out w5 hI)
  have HBL5 := Lib.hid (HBL.out.trans (hI.2.mono (by have := Hs4.out; omega)))
  clear HS4 HL4 HQ4 hd hI hF
  go_wp2_with fail
  refine (made_any _ HL5.out).mono ?_
  rintro e w6 ⟨v6, rfl, hr6, hb6⟩
  have Hr6 := Lib.hid (rules_true hr6)
  have Hb6 := Lib.hid hb6
  obtain ⟨a6, c6, rfl, _⟩ := Sl.form hr6
  clear hr6 hb6
  go_wp2_with fail
  refine (made_any _ (HL5.out.below Hb6.out)).mono ?_
  rintro e w7 ⟨v7, rfl, hr7, hb7⟩
  have Hr7 := Lib.hid (rules_true hr7)
  have Hb7 := Lib.hid hb7
  obtain ⟨a7, c7, rfl, _⟩ := Sl.form hr7
  clear hr7 hb7
  go_wp2_with fail
  refine (alike_any _ _ madeP madeP _ (Hr6.out.below Hb7.out) Hr7.out).mono ?_
  rw [ord3]
  rintro e w8 ⟨rfl, hb8⟩
  have HBW := Lib.hid (((HBL5.out.trans (Hb6.out.mono (by have := HBL5.out.size; omega))).trans (Hb7.out.mono (by have := HBL5.out.size; have := Hb6.out.size; omega))).trans (hb8.mono (by have := HBL5.out.size; have := Hb6.out.size; have := Hb7.out.size; omega)))
  have hcb := cells_of (blk_below (blk_below (blk_below Hb5.out Hb6.out) Hb7.out) hb8)
  clear hb8
  have heq : ∀ W : World, Sem.run Tryd.prog (Op.equalIn 10000 26 (.agg #[.int .i64 3, .int .i64 0, .int .i64 0, .int .i64 0, .int .i64 0]) (.agg #[.int .i64 3, .int .i64 0, .int .i64 0, .int .i64 0, .int .i64 0])) W = .ok true W := fun W => by kernel_rfl
  go_wp2
  go_ret
  exact ⟨rfl, Hb1.out.trans (HBW.out.mono hs1)⟩
end Go.Proofs.YtmokmmpomgjemaaDoor
