/- Texts laid one behind the other: Ordered, BoolRange, RPointSpec, RCuts, RAll, Prune3, RPoints, RJudge, RFirst, CallEq. No condition beyond theirs. -/
import Derived.Test.YtioeliocdbckbaaGreatDoorK5
import Derived.Test.YtioeliocdbckbaaGreatDoorK6
import Derived.Test.YtioeliocdbckbaaGreatDoorK2
import Derived.Test.YtioeliocdbckbaaGreatDoorK4
import Derived.Maps.RangeWalk
import Derived.Laws.IdiomRangeMap
import Derived.Test.YtioeliocdbckbaaGreatDoorK3
import Derived.Test.YtioeliocdbckbaaGreatDoorK1
import Derived.Test.YtioeliocdbckbaaGreatDoorProg
import Derived.ChangeKeysEq
import Derived.KernelRfl
namespace Go.Proofs.YtioeliocdbckbaaGreatDoor
open Go.RowKit
attribute [local go_sem] gives givesUpon

def trapP : TPol := ⟨[⟨[⟨0, 1, 3⟩, ⟨2, 3, 5⟩], 1⟩, ⟨[⟨1, 2, 0⟩], 3⟩], 4⟩
theorem ord1 : looserE trapP madeP = (true, ⟨3, 0, 0, 0, 0⟩, 0) := by decide +kernel
theorem ord2 : looserE madeP trapP = (false, ⟨0, 0, 0, 0, 0⟩, 0) := by decide +kernel
theorem ord3 : alikeE madeP madeP = (true, 0) := by decide +kernel

theorem InitT.rules {w w' : World} {D : Nat → Prop} {v : Value} {l : List TRule} (h : InitT [] w w') (hr : RdRules w D v l) : RdRules w' D v l :=
  hr.keep (fun _ h _ => h) (fun b _ hb => by
    have := h.keep b w.heap[b] (Array.getElem?_eq_getElem hb) (fun T hT => by cases hT)
    rw [this, Array.getElem?_eq_getElem hb]) h.size
/-- made's answer, until it is used. -/
def madeG (km kc k : Nat) (done : Nat → Bool) (vf : Nat → Value) (W : World) : Prop :=
  if k = km then (done kc = false → ∃ u, vf km = polV u 4 ∧ RdRules W (fun _ => True) u madeP.rules) else True
theorem madeG_keep {km kc k i is : Nat} {T0 : TypeId} {done : Nat → Bool} {vf : Nat → Value} {w w' : World} (hbf : i = is → done kc = true) (hi : InitT (if i = is then [T0] else []) w w') (h : madeG km kc k done vf w) : madeG km kc k (updDone done i) vf w' := by
  unfold madeG at h ⊢
  split
  · rename_i e
    rw [if_pos e] at h
    intro hd
    unfold updDone at hd
    split at hd
    · cases hd
    · by_cases hs : i = is
      · rw [hbf hs] at hd; cases hd
      · rw [if_neg hs] at hi
        obtain ⟨u, h1, h2⟩ := h hd
        exact ⟨u, h1, hi.rules h2⟩
  · trivial
theorem madeG_proper {km kc k : Nat} {done : Nat → Bool} {f g : Nat → Value} {w : World} (hk : f k = g k) (h : madeG km kc k done f w) : madeG km kc k done g w := by
  unfold madeG at h ⊢
  split
  · rename_i e; subst e; rw [if_pos rfl] at h; rw [← hk]; exact h
  · trivial

set_option maxRecDepth 100000 in
set_option maxHeartbeats 4000000 in
theorem ordered_walk (w : World) (hL : Laid w) : Calls Tryz.prog 14 #[] w fun e w' => e = .returned (.bool true) ∧ Below w.heap.size w w' := by
  have HL := Lib.hid hL
  clear hL
  go_enter Tryz.func14, Tryz.ntmps14
  go_wp2_with fail
  refine (made_any _ HL.out).mono ?_
  rintro e w1 ⟨v1, rfl, hr1, hb1⟩
  have Hr1 := Lib.hid (rules_true hr1)
  have Hb1 := Lib.hid hb1
  have hs1 := hb1.size
  obtain ⟨a1, c1, rfl, _⟩ := Sl.form hr1
  clear hr1 hb1
  go_wp2_with fail
  refine (cloneRule_any (ruleR w1 (fun _ => True)) (fun y cs h => ruleR_one y cs h) _ madeP.rules (fun _ => True) _ (Hr1.out.belowR (bel_alloc (Below.refl _ _) _) (fun _ _ _ h => h)) (by decide)).mono ?_
  rintro e w2 ⟨v2, rfl, ho2, hb2⟩
  have HB2 := Lib.hid ((Bx.one (w := w1)).below hb2)
  have Ho2 := Lib.hid (ho2.base (base' := w1.heap.size + 1) (by simp))
  obtain ⟨a2, c2, rfl⟩ := ho2.slice
  obtain ⟨g, rfl, hgb, hgl, cur, hcur⟩ := OwnSl.addr Ho2.out (by decide)
  have hfg := not_frozen hcur 1
  have hg1 : w2.cell? ⟨g, 1, none⟩ = some (.int .i64 0) := by
    have hsl : Sl w2 (fun _ => True) 2 (ruleR w1 (fun _ => True)) (.slice (some ⟨g, 0, none⟩) madeP.rules.length c2) madeP.rules := OwnSl.sl Ho2.out (fun _ _ => trivial)
    obtain ⟨cs, _, ⟨u, hu, _⟩, hcell⟩ := Sl.get hsl (i := 0) (by decide)
    subst hu
    exact hcell 1 _ rfl
  have hc0 := HB2.out.cells0
  have hf0 := HB2.out.free0
  clear ho2 hb2
  have HB3 := Lib.hid ((HB2.out.set (i := 0) rfl 0 (.slice (some ⟨g, 0, none⟩) madeP.rules.length c2)).lift (B := w1.heap.size + 1) (set_below (a := ⟨g, 1, none⟩) (v := .int .i64 1) (Below.refl _ _) hgb) (by simp))
  have Ho3 : Hid (OwnSl ((w2.setCell ⟨w1.heap.size, 0, none⟩ (.slice (some ⟨g, 0, none⟩) madeP.rules.length c2)).setCell ⟨g, 1, none⟩ (.int .i64 1)) (w1.heap.size + 1) 58 2 (ruleR w1 (fun _ => True)) (.slice (some ⟨g, 0, none⟩) madeP.rules.length c2) trapP.rules) :=
    OwnSl.put (i := 0) (j := 1) (OwnSl.set Ho2.out (a := ⟨w1.heap.size, 0, none⟩) (by intro e; injection e with e; have : g = w1.heap.size := e; omega)) (by decide) (by decide) (y := ⟨[⟨0, 1, 3⟩, ⟨2, 3, 5⟩], 1⟩) (fun r ⟨u, hu, hr⟩ => ⟨u, by rw [hu]; rfl, hr⟩)
  go_wp2_with fail
  clear hc0 hf0 hfg hg1 hcur
  revert HB3 Ho3
  generalize ((w2.setCell ⟨w1.heap.size, 0, none⟩ (.slice (some ⟨g, 0, none⟩) madeP.rules.length c2)).setCell ⟨g, 1, none⟩ (.int .i64 1)) = w3
  intro HB3 Ho3
  have HQ : Hid (RdRules w3 (fun _ => True) (.slice (some ⟨g, 0, none⟩) madeP.rules.length c2) trapP.rules) := rules_of (OwnSl.sl Ho3.out (fun _ _ => trivial)) HB3.out.bel
  have HS : Hid (∀ W, Cls w3.heap.size w3 W → ∀ j, W.cell? ⟨w1.heap.size, j, none⟩ = (#[Value.slice (some ⟨g, 0, none⟩) madeP.rules.length c2, .int .i64 4] : Array Value)[j]?) := fun W hW => (HB3.out.lift hW.2 HB3.out.top).cells0
  have HLW : Hid (∀ W, Cls w3.heap.size w3 W → Laid W) := fun W hW => HL.out.below (Hb1.out.trans ((HB3.out.lift hW.2 HB3.out.top).bel.mono hs1))
  have HQW : Hid (∀ W, Cls w3.heap.size w3 W → RdRules W (fun _ => True) (.slice (some ⟨g, 0, none⟩) madeP.rules.length c2) trapP.rules) := fun W hW => HQ.out.below hW.2
  refine wp_region_init w3.heap.size (Nat.le_refl _) 26 5 (fun _ => []) 7 9 (fun _ => #[.int .i64 3, .int .i64 0, .int .i64 0, .int .i64 0, .int .i64 0]) (madeG 1 2)
    (by kernel_rfl) (by kernel_rfl) _ rfl (by decide) (fun _ => by simp) (fun _ => rfl) (fun i k _ _ _ _ _ _ hbf _ hi h => madeG_keep (is := 9) (T0 := 26) (fun e => hbf 2 (by subst e; decide)) hi h) (fun k _ f g _ _ hk h => madeG_proper hk h) (fun f g h => rfl) ?_
  (refine rel_ex (fun K hK => ?_); apply Exists.intro; refine ⟨fun done vf W hI h0 hd hn hf R hR => ?_, ?_, ?_⟩; (have hcell := HS.out W hI; clear h0 hd hn hf; go_simp; exact hR _ _ (Cls.step hI (Below.refl _ _)) (initT.plain (Below.refl _ _) (by decide)) rfl trivial); exact (fun _ _ _ => rfl); (go_simp; refine hK _ ?_; clear hK K))
  (refine rel_pr (fun K hK => ?_); refine ⟨fun done vf W hI h0 hd hn hf R hR => ?_, ?_⟩; (have hWL := HLW.out W hI; clear h0 hd hn hf; go_simp; go_at_call 33; refine (made_any _ hWL).mono ?_; (rintro e w4 ⟨v4, rfl, hr4, hb4⟩; exact ⟨_, rfl, hR _ _ (Cls.step hI hb4) (initT.plain hb4 (by decide)) trivial (fun _ => ⟨v4, rfl, rules_true hr4⟩)⟩)); (go_simp; refine hK _ ?_; clear hK K))
  (refine rel_ex (fun K hK => ?_); apply Exists.intro; refine ⟨fun done vf W hI h0 hd hn hf R hR => ?_, ?_, ?_⟩; (have h1 : done 2 = false → ∃ u, vf 1 = polV u 4 ∧ RdRules W (fun _ => True) u madeP.rules := hf 1 (hd 1 (by decide)); obtain ⟨u, hu, hru⟩ := h1 h0; have Hru := Lib.hid hru; have HqW := Lib.hid (HQW.out W hI); clear h1 h0 hd hn hf hru; go_simp; go_at_call 11; refine (looser_any (.slice (some ⟨g, 0, none⟩) madeP.rules.length c2) u trapP madeP W HqW.out Hru.out).mono ?_; rw [ord1]; (rintro e w4 ⟨rfl, hb4⟩; exact ⟨_, rfl, hR _ _ (Cls.step hI hb4) (initT.plain hb4 (by decide)) rfl trivial⟩)); exact (fun _ _ _ => rfl); (go_simp; refine hK _ ?_; clear hK K))
  iterate 4 (refine rel_ex (fun K hK => ?_); apply Exists.intro; refine ⟨fun done vf W hI h0 hd hn hf R hR => ?_, ?_, ?_⟩; (have hcell := HS.out W hI; clear h0 hd hn hf; go_simp; exact hR _ _ (Cls.step hI (Below.refl _ _)) (initT.plain (Below.refl _ _) (by decide)) rfl trivial); exact (fun _ _ _ => rfl); (go_simp; refine hK _ ?_; clear hK K))
  (refine rel_pr (fun K hK => ?_); refine ⟨fun done vf W hI h0 hd hn hf R hR => ?_, ?_⟩; (clear h0 hd hn hf; go_simp; exact hR _ _ (Cls.step hI (bel_alloc (Below.refl _ _) _)) (initT.plain (bel_alloc (Below.refl _ _) _) (by decide)) trivial ⟨_, rfl, hI.1, _, rfl, heap_last _ _⟩); (go_simp; refine hK _ ?_; clear hK K))
  (refine rel_ex (fun K hK => ?_); apply Exists.intro; refine ⟨fun done vf W hI h0 hd hn hf R hR => ?_, ?_, ?_⟩; (have hcell := HS.out W hI; clear h0 hd hn hf; go_simp; exact hR _ _ (Cls.step hI (Below.refl _ _)) (initT.plain (Below.refl _ _) (by decide)) rfl trivial); exact (fun _ _ _ => rfl); (go_simp; refine hK _ ?_; clear hK K))
  (refine rel_pr (fun K hK => ?_); refine ⟨fun done vf W hI h0 hd hn hf R hR => ?_, ?_⟩; (have h11 : VarAt w3.heap.size 26 5 (vf 7) W := hf 7 (hd 7 (by decide)); obtain ⟨bx, h11, hbx, cs, hcs, hc11⟩ := h11; obtain ⟨d0, d1, d2, d3, d4, rfl⟩ := five_cells hcs; have hce := cells_of hc11; have hfe := not_frozen hc11; have Hc11 := Lib.hid hc11; have Hst : Hid ((((((W.setCell ⟨bx, 0, none⟩ (.int .i64 3)).setCell ⟨bx, 1, none⟩ (.int .i64 0)).setCell ⟨bx, 2, none⟩ (.int .i64 0)).setCell ⟨bx, 3, none⟩ (.int .i64 0)).setCell ⟨bx, 4, none⟩ (.int .i64 0)).heap[bx]? = some (.cells #[.int .i64 3, .int .i64 0, .int .i64 0, .int .i64 0, .int .i64 0] 26)) := set_at (set_at (set_at (set_at (set_at hc11)))); clear h0 hd hn hf hc11 hcs; go_simp; exact hR _ _ ⟨by simp only [set_size]; exact hI.1, set_below (set_below (set_below (set_below (set_below hI.2 hbx) hbx) hbx) hbx) hbx⟩ ⟨InitT.of_sets5 Hc11.out, fun _ => ⟨bx, h11, Hst.out⟩⟩ trivial ⟨bx, h11, Hst.out⟩); (go_simp; refine hK _ ?_; clear hK K))
  (refine rel_ex (fun K hK => ?_); apply Exists.intro; refine ⟨fun done vf W hI h0 hd hn hf R hR => ?_, ?_, ?_⟩; (have hcell := HS.out W hI; clear h0 hd hn hf; go_simp; exact hR _ _ (Cls.step hI (Below.refl _ _)) (initT.plain (Below.refl _ _) (by decide)) rfl trivial); exact (fun _ _ _ => rfl); (go_simp; refine hK _ ?_; clear hK K))
  intro done vf w4 hd hI hF
  have h12 : VarIs 26 (vf 7) #[.int .i64 3, .int .i64 0, .int .i64 0, .int .i64 0, .int .i64 0] w4 := hF 9 (by decide)
  obtain ⟨bx, h11, hc11⟩ := h12
  have HS4 := Lib.hid (fun (W : World) (hW : Cls w4.heap.size w4 W) => HS.out W (Cls.step hI hW.2))
  have HL4 := Lib.hid (fun (W : World) (hW : Cls w4.heap.size w4 W) => HLW.out W (Cls.step hI hW.2))
  have HQ4 := Lib.hid (fun (W : World) (hW : Cls w4.heap.size w4 W) => HQW.out W (Cls.step hI hW.2))
  have Hbx := Lib.hid hc11
  have HBL := Lib.hid (HB3.out.lift hI.2 HB3.out.top).bel
  have Hs4 := Lib.hid (HB3.out.lift hI.2 HB3.out.top).top
  clear HS HLW HQW hd hI hF hc11
  go_wp2_with fail
  refine wp_region_init w4.heap.size (Nat.le_refl _) 26 5 (fun _ => []) 7 9 (fun _ => #[.int .i64 0, .int .i64 0, .int .i64 0, .int .i64 0, .int .i64 0]) (madeG 0 2)
    (by kernel_rfl) (by kernel_rfl) _ rfl (by decide) (fun _ => by simp) (fun _ => rfl) (fun i k _ _ _ _ _ _ hbf _ hi h => madeG_keep (is := 9) (T0 := 26) (fun e => hbf 2 (by subst e; decide)) hi h) (fun k _ f g _ _ hk h => madeG_proper hk h) (fun f g h => rfl) ?_
  (refine rel_pr (fun K hK => ?_); refine ⟨fun done vf W hI h0 hd hn hf R hR => ?_, ?_⟩; (have hWL := HL4.out W hI; clear h0 hd hn hf; go_simp; go_at_call 33; refine (made_any _ hWL).mono ?_; (rintro e w4 ⟨v4, rfl, hr4, hb4⟩; exact ⟨_, rfl, hR _ _ (Cls.step hI hb4) (initT.plain hb4 (by decide)) trivial (fun _ => ⟨v4, rfl, rules_true hr4⟩)⟩)); (go_simp; refine hK _ ?_; clear hK K))
  (refine rel_ex (fun K hK => ?_); apply Exists.intro; refine ⟨fun done vf W hI h0 hd hn hf R hR => ?_, ?_, ?_⟩; (have hcell := HS4.out W hI; clear h0 hd hn hf; go_simp; exact hR _ _ (Cls.step hI (Below.refl _ _)) (initT.plain (Below.refl _ _) (by decide)) rfl trivial); exact (fun _ _ _ => rfl); (go_simp; refine hK _ ?_; clear hK K))
  (refine rel_ex (fun K hK => ?_); apply Exists.intro; refine ⟨fun done vf W hI h0 hd hn hf R hR => ?_, ?_, ?_⟩; (have h1 : done 2 = false → ∃ u, vf 0 = polV u 4 ∧ RdRules W (fun _ => True) u madeP.rules := hf 0 (hd 0 (by decide)); obtain ⟨u, hu, hru⟩ := h1 h0; have Hru := Lib.hid hru; have HqW := Lib.hid (HQ4.out W hI); clear h1 h0 hd hn hf hru; go_simp; go_at_call 11; refine (looser_any u (.slice (some ⟨g, 0, none⟩) madeP.rules.length c2) madeP trapP W Hru.out HqW.out).mono ?_; rw [ord2]; (rintro e w4 ⟨rfl, hb4⟩; exact ⟨_, rfl, hR _ _ (Cls.step hI hb4) (initT.plain hb4 (by decide)) rfl trivial⟩)); exact (fun _ _ _ => rfl); (go_simp; refine hK _ ?_; clear hK K))
  iterate 4 (refine rel_ex (fun K hK => ?_); apply Exists.intro; refine ⟨fun done vf W hI h0 hd hn hf R hR => ?_, ?_, ?_⟩; (have hcell := HS4.out W hI; clear h0 hd hn hf; go_simp; exact hR _ _ (Cls.step hI (Below.refl _ _)) (initT.plain (Below.refl _ _) (by decide)) rfl trivial); exact (fun _ _ _ => rfl); (go_simp; refine hK _ ?_; clear hK K))
  (refine rel_pr (fun K hK => ?_); refine ⟨fun done vf W hI h0 hd hn hf R hR => ?_, ?_⟩; (clear h0 hd hn hf; go_simp; exact hR _ _ (Cls.step hI (bel_alloc (Below.refl _ _) _)) (initT.plain (bel_alloc (Below.refl _ _) _) (by decide)) trivial ⟨_, rfl, hI.1, _, rfl, heap_last _ _⟩); (go_simp; refine hK _ ?_; clear hK K))
  (refine rel_ex (fun K hK => ?_); apply Exists.intro; refine ⟨fun done vf W hI h0 hd hn hf R hR => ?_, ?_, ?_⟩; (have hcell := HS4.out W hI; clear h0 hd hn hf; go_simp; exact hR _ _ (Cls.step hI (Below.refl _ _)) (initT.plain (Below.refl _ _) (by decide)) rfl trivial); exact (fun _ _ _ => rfl); (go_simp; refine hK _ ?_; clear hK K))
  (refine rel_pr (fun K hK => ?_); refine ⟨fun done vf W hI h0 hd hn hf R hR => ?_, ?_⟩; (have h11 : VarAt w4.heap.size 26 5 (vf 7) W := hf 7 (hd 7 (by decide)); obtain ⟨by_, h11, hbx, cs, hcs, hc11⟩ := h11; obtain ⟨d0, d1, d2, d3, d4, rfl⟩ := five_cells hcs; have hce := cells_of hc11; have hfe := not_frozen hc11; have Hc11 := Lib.hid hc11; have Hst : Hid ((((((W.setCell ⟨by_, 0, none⟩ (.int .i64 0)).setCell ⟨by_, 1, none⟩ (.int .i64 0)).setCell ⟨by_, 2, none⟩ (.int .i64 0)).setCell ⟨by_, 3, none⟩ (.int .i64 0)).setCell ⟨by_, 4, none⟩ (.int .i64 0)).heap[by_]? = some (.cells #[.int .i64 0, .int .i64 0, .int .i64 0, .int .i64 0, .int .i64 0] 26)) := set_at (set_at (set_at (set_at (set_at hc11)))); clear h0 hd hn hf hc11 hcs; go_simp; exact hR _ _ ⟨by simp only [set_size]; exact hI.1, set_below (set_below (set_below (set_below (set_below hI.2 hbx) hbx) hbx) hbx) hbx⟩ ⟨InitT.of_sets5 Hc11.out, fun _ => ⟨by_, h11, Hst.out⟩⟩ trivial ⟨by_, h11, Hst.out⟩); (go_simp; refine hK _ ?_; clear hK K))
  (refine rel_ex (fun K hK => ?_); apply Exists.intro; refine ⟨fun done vf W hI h0 hd hn hf R hR => ?_, ?_, ?_⟩; (have hcell := HS4.out W hI; clear h0 hd hn hf; go_simp; exact hR _ _ (Cls.step hI (Below.refl _ _)) (initT.plain (Below.refl _ _) (by decide)) rfl trivial); exact (fun _ _ _ => rfl); (go_simp; refine hK _ ?_; clear hK K))
  intro done vf' w5 hd hI hF
  have Hb5 := Lib.hid (blk_below Hbx.out hI.2)
  have HL5 := Lib.hid (HL4.out w5 hI)
  have HBL5 := Lib.hid (HBL.out.trans (hI.2.mono (by have := Hs4.out; omega)))
  clear HS4 HL4 HQ4 hd hI hF
  go_wp2_with fail
  refine (made_any _ HL5.out).mono ?_
  rintro e w6 ⟨v6, rfl, hr6, hb6⟩
  have Hr6 := Lib.hid (rules_true hr6)
  have Hb6 := Lib.hid hb6
  obtain ⟨a6, c6, rfl, _⟩ := Sl.form hr6
  clear hr6 hb6
  go_wp2_with fail
  refine (made_any _ (HL5.out.below Hb6.out)).mono ?_
  rintro e w7 ⟨v7, rfl, hr7, hb7⟩
  have Hr7 := Lib.hid (rules_true hr7)
  have Hb7 := Lib.hid hb7
  obtain ⟨a7, c7, rfl, _⟩ := Sl.form hr7
  clear hr7 hb7
  go_wp2_with fail
  refine (alike_any _ _ madeP madeP _ (Hr6.out.below Hb7.out) Hr7.out).mono ?_
  rw [ord3]
  rintro e w8 ⟨rfl, hb8⟩
  have HBW := Lib.hid (((HBL5.out.trans (Hb6.out.mono (by have := HBL5.out.size; omega))).trans (Hb7.out.mono (by have := HBL5.out.size; have := Hb6.out.size; omega))).trans (hb8.mono (by have := HBL5.out.size; have := Hb6.out.size; have := Hb7.out.size; omega)))
  have hcb := cells_of (blk_below (blk_below (blk_below Hb5.out Hb6.out) Hb7.out) hb8)
  clear hb8
  have heq : ∀ W : World, Sem.run Tryz.prog (Op.equalIn 10000 26 (.agg #[.int .i64 3, .int .i64 0, .int .i64 0, .int .i64 0, .int .i64 0]) (.agg #[.int .i64 3, .int .i64 0, .int .i64 0, .int .i64 0, .int .i64 0])) W = .ok true W := fun W => by kernel_rfl
  go_wp2
  go_ret
  exact ⟨rfl, Hb1.out.trans (HBW.out.mono hs1)⟩
end Go.Proofs.YtioeliocdbckbaaGreatDoor
namespace Go.Proofs.YtioeliocdbckbaaGreatDoor
open Go.RowKit Go.Maps

/-- block r is a loop over the map at b, that says f; left: what is still to come. -/
def BoolRange (w : World) (b r n : Nat) (f left : Int → Bool) (cnt : Nat) : Prop :=
  ∃ (D : DataW Unit) (lf : Lit → Bool), w.ranges Tryz.prog 3 (plainElem Tryz.prog 4) b r n D lf cnt ∧ (∀ z : Int, D.atKey (.int .i64 z) (.lit (.bool false)) = .lit (.bool (f z))) ∧ ∀ z : Int, lf (.int .i64 z) = left z
theorem BoolRange.kept {w w' : World} {b r n cnt : Nat} {f left : Int → Bool} {row : Option Nat} (h : BoolRange w b r n f left cnt) (hg : w.grownBy w' row) (h1 : some b ≠ row) (h2 : some r ≠ row) : BoolRange w' b r n f left cnt := by
  obtain ⟨D, lf, hr, h3, h4⟩ := h
  exact ⟨D, lf, hr.kept hg h1 h2, h3, h4⟩
theorem BoolRange.left_eq {w : World} {b r n cnt : Nat} {f left : Int → Bool} (h : BoolRange w b r n f left cnt) : w.rangeLeft b r = cnt := by
  obtain ⟨D, lf, hr, _⟩ := h
  exact hr.left_eq
theorem BoolRange.lt {w : World} {b r n cnt : Nat} {f left : Int → Bool} (h : BoolRange w b r n f left cnt) : r < w.heap.size ∧ b < w.heap.size := by
  obtain ⟨D, lf, hr, _⟩ := h
  exact ⟨hr.lt, hr.owns.lt⟩
section
variable {w : World} {ops : Array Oper} {rest : List Oper} {o : Oper} {a : Act} {Q : Exit → Act → World → Prop}
theorem wpList_rangeBool (hg : o.guard = none) (m : Operand) (hop : o.op = Op.range 81 m) (b n : Nat) (f : Int → Bool) (hm : a.eval m = .map (some b)) (hown : BoolMap w b n f)
    (hK : ∀ w' left cnt, BoolRange w' b w.heap.size n f left cnt → (∀ z : Int, f z = true → left z = true) → cnt ≤ n → w.grownBy w' none → w'.heap.size = w.heap.size + 1 → wpList Tryz.prog ops Q rest (a.put o.dst (.pointer (some ⟨w.heap.size, 0, none⟩))) w') :
    wpList Tryz.prog ops Q (o :: rest) a w := by
  obtain ⟨D, ho, hat⟩ := hown
  refine wpList_range_own w hg m _ hop _ _ keyInt Tryz.underlying81 _ b n D hm ho fun w' hr hgr hs => hK w' (fun z => Maps.has D (.int .i64 z)) (Maps.size D) ⟨D, _, hr, hat, fun _ => rfl⟩ (fun z hz => ?_) ?_ hgr hs
  · cases h : Maps.has D (.int .i64 z) with
    | true => rfl
    | false =>
      have := hat z
      rw [Maps.atKey_of_not_has h, hz] at this
      cases this
  · obtain ⟨es, clock, _, _, hsz, hD⟩ := ho
    rw [hD]
    show List.length _ ≤ n
    rw [length_sorted]
    simpa using hsz
theorem wpList_nextBool (hg : o.guard = none) (it : Operand) (hop : o.op = Op.next it false) (b r n : Nat) (f left : Int → Bool) (cnt : Nat) (hit : a.eval it = .pointer (some ⟨r, 0, none⟩)) (h : BoolRange w b r n f left cnt)
    (hDone : (∀ z, left z = false) → wpList Tryz.prog ops Q rest (a.put o.dst (.tuple #[.bool false])) w)
    (hMore : ∀ (x : Int) (w' : World) (cnt' : Nat), left x = true → BoolRange w' b r n f (fun z => left z && !decide (z = x)) cnt' → cnt' < cnt → w.grownBy w' (some r) → w'.heap.size = w.heap.size →
      (Instr.entry (.pointer (some ⟨r, 0, none⟩))).run Tryz.prog w' = .ok (.tuple #[.int .i64 x, .bool (f x)]) w' → wpList Tryz.prog ops Q rest (a.put o.dst (.tuple #[.bool true, .int .i64 x, .bool (f x)])) w') :
    wpList Tryz.prog ops Q (o :: rest) a w := by
  obtain ⟨D, lf, hr, hat, hlf⟩ := h
  refine wpList_next_ranges w hg it hop 3 keyInt (plainElem Tryz.prog 4) (Value.int .i64) Value.bool (fun key kl hkey => by obtain ⟨x, rfl, _⟩ := Maps.keyOf_int_inv Tryz.underlying3 hkey; exact ⟨x, rfl⟩) (fun v y hv => ?_) b r n D lf cnt hit hr (fun _ hl => hDone fun z => by rw [← hlf z]; exact hl _) fun x c kl y w' cnt' hkey hlk hv hat' hrg hlt hgr hsz hen => ?_
  · have hu := Tryz.underlying4
    unfold plainElem at hv
    generalize Tryz.prog.underlying 4 = u at hv hu
    subst hu
    cases v <;> first | exact ⟨_, rfl⟩ | (cases hv)
  · obtain ⟨x', ex, rfl, _⟩ := Maps.keyOf_int_inv Tryz.underlying3 hkey
    cases ex
    have hy : y.1 = .lit (.bool (f x)) := by rw [← hat x]; exact (hat' _).symm
    obtain ⟨y1, y2⟩ := y
    subst hy
    have hc := plainElem_bool_inv hv
    injection hc with hc
    subst hc
    refine hMore x w' cnt' (by rw [← hlf]; exact hlk) ⟨D, _, hrg, hat, fun z => ?_⟩ hlt hgr hsz hen
    show (lf (.int .i64 z) && !(Lit.int .i64 z).sameKey (.int .i64 x)) = _
    rw [hlf]
    unfold Lit.sameKey
    simp
end
end Go.Proofs.YtioeliocdbckbaaGreatDoor
namespace Go.Proofs.YtioeliocdbckbaaGreatDoor

/-! ### the map of cuts -/
/-- what a condition makes of the map. -/
def atCond (f : Int) (g : Int → Bool) (c : TCond) : Int → Bool :=
  if c.f = f then fun t => if t = c.v + 1 then (if c.v + 1 = c.v then true else g (c.v + 1)) || decide (c.op = 1 ∨ c.op = 2) else if t = c.v then true else g t else g
def atStart : Int → Bool := fun t => if t = 0 then true else false
def atAll (f : Int) (cs : List TCond) : Int → Bool := cs.foldl (atCond f) atStart
theorem atCond_true {f : Int} {g : Int → Bool} {c : TCond} {t : Int} : atCond f g c t = true ↔ g t = true ∨ t ∈ condCuts f c := by
  rw [mem_condCuts]
  unfold atCond
  by_cases h : c.f = f
  · rw [if_pos h]
    by_cases h1 : t = c.v + 1
    · rw [if_pos h1, if_neg (by omega), Bool.or_eq_true, decide_eq_true_eq, ← h1]
      constructor
      · rintro (h2 | h2)
        · exact .inl h2
        · exact .inr ⟨h, .inr ⟨h2, rfl⟩⟩
      · rintro (h2 | ⟨_, h2 | ⟨h2, _⟩⟩)
        · exact .inl h2
        · omega
        · exact .inr h2
    · rw [if_neg h1]
      by_cases h2 : t = c.v
      · simp [h2, h]
      · rw [if_neg h2]
        constructor
        · exact .inl
        · rintro (h3 | ⟨_, h3 | ⟨_, h3⟩⟩)
          · exact h3
          · exact absurd h3 h2
          · exact absurd h3 h1
  · rw [if_neg h]
    constructor
    · exact .inl
    · rintro (h1 | ⟨h1, _⟩)
      · exact h1
      · exact absurd h1 h
theorem foldl_at {f t : Int} : ∀ (cs : List TCond) (g : Int → Bool), cs.foldl (atCond f) g t = true ↔ g t = true ∨ t ∈ cs.flatMap (condCuts f)
  | [], g => by simp
  | c :: cs, g => by
    rw [List.foldl_cons, foldl_at cs, atCond_true, List.flatMap_cons, List.mem_append, or_assoc]
def polConds (p : TPol) : List TCond := p.rules.flatMap fun r => r.conds
theorem atAll_true {f t : Int} {l : List TPol} : atAll f (l.flatMap polConds) t = true ↔ t ∈ cutVals l f := by
  unfold atAll
  rw [foldl_at, mem_vals]
  unfold atStart polConds
  simp only [List.mem_flatMap]
  constructor
  · rintro (h | ⟨c, ⟨p, hp, r, hr, hc⟩, h⟩)
    · left
      by_cases e : t = 0
      · exact e
      · simp [e] at h
    · exact .inr ⟨p, hp, r, hr, c, hc, h⟩
  · rintro (h | ⟨p, hp, r, hr, c, hc, h⟩)
    · left; simp [h]
    · exact .inr ⟨c, ⟨p, hp, r, hr, hc⟩, h⟩
theorem atAll_snoc (f : Int) (cs : List TCond) (c : TCond) : atAll f (cs ++ [c]) = atCond f (atAll f cs) c := by
  unfold atAll
  rw [List.foldl_append]
  rfl

/-! ### points by number -/
theorem fm_get {α β γ : Type} (M : List β) (hm : 0 < M.length) (g : α → β → γ) : ∀ (L : List α) (i : Nat), (L.flatMap fun x => M.map (g x))[i]? = (L[i / M.length]?).bind fun x => (M[i % M.length]?).map (g x)
  | [], i => by simp
  | x :: L, i => by
    rw [List.flatMap_cons, List.getElem?_append, List.length_map]
    by_cases h : i < M.length
    · rw [if_pos h, Nat.div_eq_of_lt h, Nat.mod_eq_of_lt h, List.getElem?_map]
      rfl
    · obtain ⟨j, rfl⟩ : ∃ j, i = j + M.length := ⟨i - M.length, by omega⟩
      rw [if_neg h, Nat.add_sub_cancel, fm_get M hm g L, Nat.add_div_right _ hm, Nat.add_mod_right, List.getElem?_cons_succ]
theorem stage_get (l : List TPol) (k i : Nat) : (stage l (k + 1))[i]? = ((stage l k)[i / (cutsOf l k).length]?).bind fun x => ((cutsOf l k)[i % (cutsOf l k).length]?).map fun n => x.set k n :=
  fm_get (cutsOf l k) (cuts_pos l k) (fun (x : TCall) (n : Int) => x.set k n) (stage l k) i
/-- a cut by its number. -/
def cutAt (l : List TPol) (k i : Nat) : Int := (cutsOf l k)[i % (cutsOf l k).length]?.getD 0
theorem cutAt_get (l : List TPol) (k i : Nat) : (cutsOf l k)[i % (cutsOf l k).length]? = some (cutAt l k i) := by
  unfold cutAt
  rw [List.getElem?_eq_getElem (Nat.mod_lt _ (cuts_pos l k))]
  rfl
/-- what is left of a number when the fields from k on have been told. -/
def leftOf (l : List TPol) (i : Nat) : Nat → Nat
  | 0 => i
  | j + 1 => leftOf l i j / (cutsOf l (4 - j : Nat)).length
/-- a point when j fields have been told, the last ones first. -/
def tellOf (l : List TPol) (i : Nat) : Nat → TCall
  | 0 => ⟨0, 0, 0, 0, 0⟩
  | j + 1 => (tellOf l i j).set (4 - j) (cutAt l (4 - j) (leftOf l i j))
theorem left_lt {l : List TPol} {i : Nat} (h : i < sizes l 5) : leftOf l i 5 = 0 ∧ ∀ j, j ≤ 5 → leftOf l i j < sizes l (5 - j) := by
  have step : ∀ j, j < 5 → leftOf l i j < sizes l (5 - j) → leftOf l i (j + 1) < sizes l (5 - (j + 1)) := fun j hj h => by
    show leftOf l i j / _ < _
    rw [Nat.div_lt_iff_lt_mul (cuts_pos l _)]
    have e : 5 - j = (4 - j) + 1 := by omega
    rw [e] at h
    have e' : 5 - (j + 1) = 4 - j := by omega
    rw [e']
    exact h
  have all : ∀ j, j ≤ 5 → leftOf l i j < sizes l (5 - j) := fun j => by
    induction j with
    | zero => intro _; exact h
    | succ j ih => intro hj; exact step j (by omega) (ih (by omega))
  have h5 := all 5 (by omega)
  simp only [Nat.sub_self, sizes] at h5
  exact ⟨by omega, all⟩
theorem tell_stage {l : List TPol} {i : Nat} (h : i < sizes l 5) : (stage l 5)[i]? = some (tellOf l i 5) := by
  obtain ⟨h0, _⟩ := left_lt h
  have e5 : leftOf l i 5 = leftOf l i 4 / (cutsOf l (0 : Nat)).length := rfl
  have e4 : leftOf l i 4 = leftOf l i 3 / (cutsOf l (1 : Nat)).length := rfl
  have e3 : leftOf l i 3 = leftOf l i 2 / (cutsOf l (2 : Nat)).length := rfl
  have e2 : leftOf l i 2 = leftOf l i 1 / (cutsOf l (3 : Nat)).length := rfl
  have e1 : leftOf l i 1 = i / (cutsOf l (4 : Nat)).length := rfl
  rw [stage_get, cutAt_get, ← e1, stage_get, cutAt_get, ← e2, stage_get, cutAt_get, ← e3, stage_get, cutAt_get, ← e4, stage_get, cutAt_get, ← e5, h0]
  rfl
theorem stage_tell (l : List TPol) : stage l 5 = (List.range (sizes l 5)).map fun i => tellOf l i 5 := by
  apply List.ext_getElem?
  intro i
  rw [List.getElem?_map]
  by_cases h : i < sizes l 5
  · rw [tell_stage h, List.getElem?_range h]
    rfl
  · rw [List.getElem?_eq_none (by rw [stage_length]; omega), List.getElem?_eq_none (by simp; omega)]
    rfl
theorem stage_take {l : List TPol} {i : Nat} (h : i < sizes l 5) : (stage l 5).take (i + 1) = (stage l 5).take i ++ [tellOf l i 5] := by
  have hl : i < (stage l 5).length := by rw [stage_length]; exact h
  rw [List.take_succ_eq_append_getElem hl]
  have := tell_stage h
  rw [List.getElem?_eq_getElem hl] at this
  rw [Option.some.inj this]
end Go.Proofs.YtioeliocdbckbaaGreatDoor
namespace Go.Proofs.YtioeliocdbckbaaGreatDoor
open Go.RowKit Go.Maps

theorem BoolMap.mono {w : World} {b n n' : Nat} {f : Int → Bool} (h : BoolMap w b n f) (hn : n ≤ n') : BoolMap w b n' f := by
  obtain ⟨D, ho, hat⟩ := h
  exact ⟨D, ho.mono hn, hat⟩
/-- the map of cuts, as it stands behind some conditions. -/
def CutMap (w wr : World) (f : Int) (cs : List TCond) : Prop := BoolMap wr w.heap.size (1 + 2 * cs.length) (atAll f cs) ∧ Below w.heap.size w wr
theorem CutMap.below {w wr w' : World} {f : Int} {cs : List TCond} (h : CutMap w wr f cs) (hb : Below wr.heap.size wr w') : CutMap w w' f cs := ⟨h.1.below hb, h.2.trans (hb.mono h.2.size)⟩
theorem CutMap.skip {w wr : World} {f : Int} {cs : List TCond} {c : TCond} (h : CutMap w wr f cs) (hc : c.f ≠ f) : CutMap w wr f (cs ++ [c]) := by
  refine ⟨?_, h.2⟩
  rw [atAll_snoc]
  unfold atCond
  rw [if_neg hc]
  exact h.1.mono (by simp; omega)
theorem CutMap.put {w w' : World} {f op v : Int} {cs : List TCond} {x : Bool} (hx : x = (atAll f cs (v + 1) || decide (op = 1 ∨ op = 2))) (h : BoolMap w' w.heap.size (1 + 2 * cs.length + 1 + 1) (fun t => if t = v + 1 then x else (fun t => if t = v then true else atAll f cs t) t)) (hb : Below w.heap.size w w') : CutMap w w' f (cs ++ [⟨f, op, v⟩]) := by
  refine ⟨?_, hb⟩
  have e : atAll f (cs ++ [⟨f, op, v⟩]) = (fun t => if t = v + 1 then x else (fun t => if t = v then true else atAll f cs t) t) := by
    rw [atAll_snoc]
    unfold atCond
    rw [if_pos rfl]
    funext t
    simp only
    rw [if_neg (show ¬ v + 1 = v by omega), hx]
  rw [e]
  exact h.mono (by simp; omega)
theorem CutMap.start {w wr : World} {f : Int} (h : BoolMap wr w.heap.size 1 atStart) (hb : Below w.heap.size w wr) : CutMap w wr f [] := ⟨h, hb⟩
theorem BoolMap.put0 (w : World) : ∃ w', (Instr.mapUpdate 81 (.map (some w.heap.size)) (.int .i64 0) (.bool true)).run Tryz.prog (w.alloc (.map #[] 0)) = .ok () w' ∧ BoolMap w' w.heap.size 1 atStart ∧ (w.alloc (.map #[] 0)).grownBy w' (some w.heap.size) := by
  obtain ⟨D, ho, hat⟩ := BoolMap.made w
  have hkey := keyOf_int_mk (P := Tryz.prog) Tryz.underlying3 (wfInt (z := 0) (by omega) (by omega))
  obtain ⟨w', hrun, ho', hg⟩ := ho.update keyInt Tryz.underlying81 (by unfold maxLen; omega) hkey (plainElem_bool Tryz.underlying4 true)
  refine ⟨w', hrun, ⟨_, ho', fun t => ?_⟩, hg⟩
  show _ = DataW.lit (.bool (if t = 0 then true else false))
  by_cases e : t = 0
  · subst e
    rw [if_pos rfl, atKey_put_same ho.isMap (keyInt.key hkey)]
  · rw [if_neg e, atKey_put_other (fun e' => by injection e' with _ e'; exact e e')]
    exact hat t
theorem below_grow0 {w w' : World} (hb : Below w.heap.size w w') : w.grownBy w' none := ⟨hb.os, hb.tape, hb.output, hb.size, fun k hk _ => hb.block k hk⟩
theorem sorted_unique {xs M : List Int} (hnd : xs.Nodup) (hM : Rising M) (h : ∀ z, z ∈ xs ↔ z ∈ M) : (xs.mergeSort fun x y => decide (x ≤ y)) = M := by
  have hs : (xs.mergeSort fun x y => decide (x ≤ y)).Pairwise (fun x y => decide (x ≤ y) = true) := List.pairwise_mergeSort (fun a b c h1 h2 => by simp at *; omega) (fun a b => by simp; omega) xs
  have hp := List.mergeSort_perm xs (fun x y => decide (x ≤ y))
  have hn : (xs.mergeSort fun x y => decide (x ≤ y)).Nodup := hp.nodup_iff.2 hnd
  refine rising_unique _ _ ?_ hM fun z => by rw [hp.mem_iff]; exact h z
  exact (hs.and hn).imp fun {a b} hab => by
    have := of_decide_eq_true hab.1
    have := hab.2
    omega
theorem flatMap_takeC {α β : Type} (g : α → List β) (l : List α) (k : Nat) (h : k < l.length) : (l.take (k + 1)).flatMap g = (l.take k).flatMap g ++ g l[k] := by
  rw [List.take_succ_eq_append_getElem h, List.flatMap_append]
  simp

set_option maxRecDepth 100000 in
set_option maxHeartbeats 8000000 in
theorem rcuts_any (v : Value) (l : List TPol) (f : Int) (D : Nat → Prop) (w : World) (h : RdPols w D v l) (hok : ∀ p ∈ l, OkPol p) (hn : (1 + 2 * (l.flatMap polConds).length) * 8 ≤ 140737488355328) :
    Calls Tryz.prog 62 #[v, .int .i64 f] w fun e w' => ∃ v', e = .returned v' ∧ OwnSl w' w.heap.size 3 1 intR v' (cutsOf l f) ∧ Below w.heap.size w w' := by
  have H := Lib.hid h
  obtain ⟨a, c, rfl, hlc, hcm, hat⟩ := Sl.form h
  obtain ⟨i0, hi, hz0, hz1, hz2⟩ := info_parts infoInt
  have Hi := Lib.hid hi
  have Hok := Lib.hid hok
  have Hn := Lib.hid hn
  clear h hi hok hn
  have hmm := @run_makeMap Tryz.prog
  obtain ⟨w0, hmu, hb0, hg0⟩ := BoolMap.put0 w
  have HM0 : Hid (CutMap w w0 f []) := CutMap.start hb0 (Below.grown (bel_alloc (Below.refl _ _) _) hg0 (by simp) (fun g hg => by injection hg with hg; omega))
  clear hb0 hg0
  go_enter Tryz.func62, Tryz.ntmps62
  go_wp2_with fail
  clear hmm hmu
  go_loopw [19] (fun kv wr => ∃ k : Nat, kv = .int .i64 k ∧ k ≤ l.length ∧ CutMap w wr f ((l.take k).flatMap polConds)) (fun kv _ => l.length - (intOf kv).toNat)
  case atStart => exact ⟨0, rfl, by omega, HM0.out⟩
  case round =>
    obtain ⟨k, rfl, hk, hm⟩ := hrel
    have Hm := Lib.hid hm
    clear hm HM0
    have HbA := Lib.hid Hm.out.2
    by_cases hlt : k < l.length
    · obtain ⟨b, o, rfl, hDb, hblt⟩ := hat (by omega)
      obtain ⟨ca, cc, hc0w, hc1w, hrd, hcl, hcmx, hcat⟩ := RdPols.cells H.out hlt
      have Hs := Lib.hid (flatMap_takeC polConds l k hlt)
      obtain ⟨p, hp⟩ : ∃ p, l[k] = p := ⟨_, rfl⟩
      have Hkp := Lib.hid (Hok.out l[k] (List.getElem_mem hlt))
      rw [hp] at hc0w hc1w hrd hcl hcat Hkp Hs
      have hc0 := (HbA.out.cell (p := ⟨b, o + k * 2, none⟩) hblt).trans hc0w
      have hc1 := (HbA.out.cell (p := ⟨b, o + k * 2 + 1, none⟩) hblt).trans hc1w
      have HL1 : Hid (((l.take k).flatMap polConds).length + (p.rules.flatMap fun r => r.conds).length ≤ (l.flatMap polConds).length) := by
        show _ ≤ _
        have h1 : (l.flatMap polConds).length = ((l.take (k + 1)).flatMap polConds).length + ((l.drop (k + 1)).flatMap polConds).length := by rw [← List.length_append, ← List.flatMap_append, List.take_append_drop]
        rw [Hs.out, List.length_append] at h1
        unfold polConds at h1 ⊢
        omega
      have Hrd := Lib.hid hrd
      obtain ⟨L, hL⟩ : ∃ L, L = (l.take k).flatMap polConds := ⟨_, rfl⟩
      rw [← hL] at Hm Hs HL1
      have Hcs2 : Hid ((l.take (k + 1)).flatMap polConds = L ++ p.rules.flatMap fun r => r.conds) := Hs.out
      clear hrd hp hL hc0w hc1w
      obtain ⟨wo, rfl⟩ : ∃ wo : World, wo = wr := ⟨_, rfl⟩
      go_wp2_with fail
      clear hc0 hc1
      go_loopw [26] (fun jv wj => ∃ j : Nat, jv = .int .i64 j ∧ j ≤ p.rules.length ∧ CutMap w wj f (L ++ (p.rules.take j).flatMap fun r => r.conds)) (fun jv _ => p.rules.length - (intOf jv).toNat)
      case atStart => exact ⟨0, rfl, by omega, by simpa using Hm.out.below (bel_alloc (Below.refl _ _) _)⟩
      case round =>
        obtain ⟨j, rfl, hj, hm⟩ := hrel
        have Hmj := Lib.hid hm
        clear hm
        have HbJ := Lib.hid Hmj.out.2
        by_cases hjl : j < p.rules.length
        · obtain ⟨b2, o2, rfl, hDb2, hblt2⟩ := hcat (by omega)
          obtain ⟨da, dc, hd0w, hd1w, hrd2, hdl, hdmx, hdat⟩ := RdRules.cells Hrd.out hjl
          have Hs2 := Lib.hid (flatMap_takeC (fun r : TRule => r.conds) p.rules j hjl)
          obtain ⟨r, hr⟩ : ∃ r, p.rules[j] = r := ⟨_, rfl⟩
          have Hkr := Lib.hid (Hkp.out.rules p.rules[j] (List.getElem_mem hjl))
          rw [hr] at hd0w hd1w hrd2 hdl hdat Hkr Hs2
          have hd0 := (HbJ.out.cell (p := ⟨b2, o2 + j * 2, none⟩) hblt2).trans hd0w
          have hd1 := (HbJ.out.cell (p := ⟨b2, o2 + j * 2 + 1, none⟩) hblt2).trans hd1w
          have HL2 : Hid ((L ++ (p.rules.take j).flatMap fun r => r.conds).length + r.conds.length ≤ (l.flatMap polConds).length) := by
            show _ ≤ _
            have h0 := HL1.out
            have h1 : (p.rules.flatMap fun r => r.conds).length = ((p.rules.take (j + 1)).flatMap fun r => r.conds).length + ((p.rules.drop (j + 1)).flatMap fun r => r.conds).length := by rw [← List.length_append, ← List.flatMap_append, List.take_append_drop]
            rw [Hs2.out, List.length_append] at h1
            rw [List.length_append]
            omega
          have Hrd2 := Lib.hid hrd2
          obtain ⟨M, hM⟩ : ∃ M, M = L ++ (p.rules.take j).flatMap fun r => r.conds := ⟨_, rfl⟩
          rw [← hM] at Hmj HL2
          have Hs3 : Hid (L ++ ((p.rules.take (j + 1)).flatMap fun r => r.conds) = M ++ r.conds) := by show _ = _; rw [Hs2.out, hM, List.append_assoc]
          clear hrd2 hr hM hd0w hd1w
          obtain ⟨wo2, rfl⟩ : ∃ wo2 : World, wo2 = wr := ⟨_, rfl⟩
          go_wp2_with fail
          clear hd0 hd1
          go_loopw [33] (fun iv wi => ∃ i : Nat, iv = .int .i64 i ∧ i ≤ r.conds.length ∧ CutMap w wi f (M ++ r.conds.take i)) (fun iv _ => r.conds.length - (intOf iv).toNat)
          case atStart => exact ⟨0, rfl, by omega, by simpa using Hmj.out.below (bel_alloc (Below.refl _ _) _)⟩
          case round =>
            obtain ⟨i, rfl, hi, hm⟩ := hrel
            have Hmi := Lib.hid hm
            clear hm
            have HbI := Lib.hid Hmi.out.2
            by_cases hil : i < r.conds.length
            · obtain ⟨b3, o3, rfl, hDb3, hblt3⟩ := hdat (by omega)
              obtain ⟨he0, he1, he2⟩ := RdConds.cells (Hrd2.out.below HbI.out) hil
              have Htk := Lib.hid (List.take_succ_eq_append_getElem hil)
              have Hoc := Lib.hid (Hkr.out.conds r.conds[i] (List.getElem_mem hil))
              obtain ⟨⟨cf, cop, cv⟩, hcj⟩ : ∃ y : TCond, r.conds[i] = y := ⟨_, rfl⟩
              rw [hcj] at he0 he1 he2 Htk Hoc
              have hv0 : 0 ≤ cv := Hoc.out.v0
              have hv1 : cv ≤ 65535 := Int.le_trans Hoc.out.v1 (by show mostOf cf ≤ 65535; unfold mostOf; split <;> (try split) <;> omega)
              have ho0 : 1 ≤ cop := Hoc.out.o0
              have ho1 : cop ≤ 4 := Hoc.out.o1
              dsimp only at he0 he1 he2
              have hlen : 1 + 2 * (M ++ r.conds.take i).length + 2 ≤ 17592186044416 := by
                have h1 := HL2.out
                have h2 := Hn.out
                rw [List.length_append, List.length_take]
                omega
              obtain ⟨X, hX⟩ : ∃ X, X = M ++ r.conds.take i := ⟨_, rfl⟩
              have Hnx : Hid (M ++ r.conds.take (i + 1) = X ++ [⟨cf, cop, cv⟩]) := by show _ = _; rw [Htk.out, hX, List.append_assoc]
              rw [← hX] at Hmi hlen
              have hbx := cells_of (heap_last wr (.cells #[.int .i64 cf, .int .i64 cop, .int .i64 cv] 84))
              have Hm1 := Lib.hid (Hmi.out.below (bel_alloc (Below.refl _ _) (.cells #[.int .i64 cf, .int .i64 cop, .int .i64 cv] 84)))
              have hszw := Hmi.out.2.size
              have hblk := heap_last wr (.cells #[.int .i64 cf, .int .i64 cop, .int .i64 cv] 84)
              have Hblk := Lib.hid hblk
              have hmw : w.heap.size < wr.heap.size := Hmi.out.1.lt
              clear hcj hX hblk
              by_cases hcf : cf = f
              · subst hcf
                have hw1 : IntKind.i64.wrap (cv + 1) = cv + 1 := by rw [IntKind.wrap_i64]; omega
                have hbf : (cf == cf) = true := by simp
                obtain ⟨bv, hbv⟩ : ∃ bv, atAll cf X (cv + 1) = bv := ⟨_, rfl⟩
                have Hbv := Lib.hid hbv
                clear hbv
                cases bv
                all_goals rcases (by omega : cop = 1 ∨ cop = 2 ∨ cop = 3 ∨ cop = 4) with rfl | rfl | rfl | rfl
                all_goals
                  go_wp2_with (at_mapUpdate; first | (refine wpList_putBool rfl _ _ _ rfl w.heap.size _ _ rfl Hm1.out.1 (by unfold maxLen; omega) cv (by omega) (by omega) true rfl rfl ?_; intro w5 hm5 hg5; have Hm5 := Lib.hid hm5; have Hb5 := Lib.hid (Below.grown Hm1.out.2 hg5 Hm1.out.2.size (fun g hg => by injection hg with hg; omega)); have hb5 := cells_of ((hg5.block wr.heap.size (by simp) (fun e => by injection e with e; omega)).trans Hblk.out); have hlk := Hm5.out.look (z := cv + 1) (by omega) (by omega); simp only [show ¬ (cv + 1 = cv) by omega, if_false, Hbv.out] at hlk; clear hm5 hg5 hbx) | (refine wpList_putBool rfl _ _ _ rfl w.heap.size _ _ rfl Hm5.out (by unfold maxLen; omega) (cv + 1) (by omega) (by omega) _ rfl rfl ?_; intro w6 hm6 hg6; have Hm6 := Lib.hid hm6; have Hb6 := Lib.hid (Below.grown Hb5.out hg6 Hb5.out.size (fun g hg => by injection hg with hg; omega)); clear hm6 hg6))
                  go_roundw
                  case rel => exact ⟨i + 1, by go_num, by omega, by rw [Hnx.out]; exact CutMap.put (by rw [Hbv.out]; rfl) Hm6.out Hb6.out⟩
                  case measure => simp [intOf]; omega
              · have hb0 : (cf == f) = false := by simpa using hcf
                have Hm2 := Lib.hid (Hm1.out.skip (c := ⟨cf, cop, cv⟩) hcf)
                clear hcf
                go_wp2_with fail
                go_roundw
                case rel => exact ⟨i + 1, by go_num, by omega, by rw [Hnx.out]; exact Hm2.out⟩
                case measure => simp [intOf]; omega
            · obtain rfl : i = r.conds.length := by omega
              go_wp2
              go_roundw
              case rel => exact ⟨j + 1, by go_num, by omega, by have := Hmi.out; rw [List.take_length] at this; rw [Hs3.out]; exact this⟩
              case measure => simp [intOf]; omega
        · obtain rfl : j = p.rules.length := by omega
          go_wp2
          go_roundw
          case rel => exact ⟨k + 1, by go_num, by omega, by have := Hmj.out; rw [List.take_length] at this; rw [Hcs2.out]; exact this⟩
          case measure => simp [intOf]; omega
    · obtain rfl : k = l.length := by omega
      have hmf : CutMap w wr f (l.flatMap polConds) := by have := Hm.out; rw [List.take_length] at this; exact this
      obtain ⟨n, hn⟩ : ∃ n, n = 1 + 2 * (l.flatMap polConds).length := ⟨_, rfl⟩
      obtain ⟨g, hg⟩ : ∃ g, g = atAll f (l.flatMap polConds) := ⟨_, rfl⟩
      have Hg : Hid (∀ t, g t = true ↔ t ∈ cutVals l f) := fun t => by rw [hg]; exact atAll_true
      have Hmap : Hid (BoolMap wr w.heap.size n g) := by show BoolMap _ _ _ _; rw [hn, hg]; exact hmf.1
      have hn8 : n * 8 ≤ 140737488355328 := by rw [hn]; exact Hn.out
      have hmw : w.heap.size < wr.heap.size := hmf.1.lt
      clear hmf hn hg Hm
      obtain ⟨wB, rfl⟩ : ∃ wB : World, wB = wr := ⟨_, rfl⟩
      go_wp2_with (at_range; refine wpList_rangeBool rfl _ rfl w.heap.size n g rfl Hmap.out ?_; intro w2 left0 cnt0 hr0 hl0 hc0 hg0 hs0)
      go_frame
      go_loopw [12] (fun ov wi => ∃ (left : Int → Bool) (cnt : Nat) (vs : Value) (xs : List Int), vs = ov ∧ OwnSl wi (wB.heap.size + 1) 3 1 intR vs xs ∧ BoolRange wi w.heap.size wB.heap.size n g left cnt ∧ xs.Nodup ∧ (∀ z, z ∈ xs ↔ left z = false ∧ g z = true ∧ z ≤ mostOf f) ∧ xs.length + cnt ≤ n ∧ Below w.heap.size w wi) (fun _ wi => wi.rangeLeft w.heap.size wB.heap.size)
      case atStart => exact ⟨left0, cnt0, _, [], rfl, OwnSl.nil, hr0, List.nodup_nil, fun z => ⟨fun h => by simp at h, fun h => by have := hl0 z h.2.1; rw [h.1] at this; cases this⟩, by simpa using hc0, Below.grown HbA.out hg0 HbA.out.size (fun g hg => by cases hg)⟩
      case round =>
        obtain ⟨left, cnt, vs, xs, rfl, hown, hrg, hnd, hmem, hlen, hb⟩ := hrel
        have Hown := Lib.hid hown
        have HR := Lib.hid hrg
        have Hnd := Lib.hid hnd
        have Hmem := Lib.hid hmem
        have Hlen := Lib.hid hlen
        have Hb := Lib.hid hb
        have hrl := hrg.lt.1
        have Hob : Hid (∀ g, vs.ownBlock = some g → wB.heap.size + 1 ≤ g ∧ g < wr.heap.size) := fun g hg => by obtain ⟨rows, _, hrw⟩ := hown; exact hrw.lt g hg
        clear hown hrg hnd hmem hlen hb hr0 hl0 hc0 hg0 hs0
        go_wp2_with (at_next; refine wpList_nextBool rfl _ rfl w.heap.size wB.heap.size n g _ _ rfl HR.out ?_ ?_)
        · intro hl0
          have Hx : Hid (∀ z, z ∈ xs ↔ z ∈ cutsOf l f) := fun z => by
            rw [Hmem.out z, hl0 z, mem_cuts, Hg.out z]
            exact ⟨fun h => h.2, fun h => ⟨rfl, h⟩⟩
          have hxl : xs.length ≤ n := by have := Hlen.out; omega
          clear hl0
          go_wp2_with fail
          refine (sortI_any vs xs _ _ Hown.out (fun e => by have := (Hx.out 0).2 (zero_cut l f); rw [e] at this; simp at this) (by omega)).mono ?_
          rintro e w3 ⟨rfl, ho3, hg3⟩
          rw [sorted_unique Hnd.out (rising_cuts l f) Hx.out] at ho3
          have Ho3 := Lib.hid ho3
          have Hb3 := Lib.hid (Below.grown Hb.out hg3 Hb.out.size (fun g hg => by have := (Hob.out g hg).1; omega))
          clear ho3 hg3
          go_wp2
          go_ret
          exact ⟨_, rfl, Ho3.out.base (by omega), Hb3.out⟩
        · intro x w1 cnt1 hlx hr1 hlt hg1 hs1 hen
          have Ho1 : Hid (OwnSl w1 (wB.heap.size + 1) 3 1 intR vs xs) := Hown.out.keepFrom fun b hb hlt => hg1.block b hlt (fun e => by injection e with e; omega)
          have HR1 := Lib.hid hr1
          have Hb1 := Lib.hid (Below.grown Hb.out hg1 Hb.out.size (fun g hg => by injection hg with hg; omega))
          have Hlt := Lib.hid hlt
          have Hlx := Lib.hid hlx
          have hob1 : ∀ g, vs.ownBlock = some g → wB.heap.size + 1 ≤ g ∧ g < w1.heap.size := fun g hg => by have := Hob.out g hg; omega
          have Hob1 := Lib.hid hob1
          have hrl1 := hr1.lt.1
          obtain ⟨gx, hgx⟩ : ∃ b, g x = b := ⟨_, rfl⟩
          rw [hgx] at hen ⊢
          have Hgx := Lib.hid hgx
          clear hgx hr1 hg1 hs1 hlt hlx hob1
          have hnx : x ∉ xs := fun h => by have := ((Hmem.out x).1 h).1; rw [Hlx.out] at this; cases this
          have Hnx := Lib.hid hnx
          clear hnx
          cases gx with
          | false =>
            go_wp2_with fail
            go_roundw
            case rel =>
              refine ⟨_, cnt1, vs, xs, rfl, Ho1.out, HR1.out, Hnd.out, fun z => ?_, by have := Hlen.out; have := Hlt.out; omega, Hb1.out⟩
              by_cases hz : z = x
              · subst hz
                rw [Hgx.out]
                exact ⟨fun h => absurd h Hnx.out, fun h => by cases h.2.1⟩
              · rw [Hmem.out z]
                simp [hz]
            case measure => rw [HR1.out.left_eq, HR.out.left_eq]; exact Hlt.out
          | true =>
            go_wp2_with fail
            refine (mostof_any f _).mono ?_
            rintro e w3 ⟨rfl, hb3⟩
            have Ho3 := Lib.hid (Ho1.out.below hb3)
            have HR3 := Lib.hid (HR1.out.kept (below_grow0 hb3) (by simp) (by simp))
            have Hb3 := Lib.hid (Hb1.out.trans (hb3.mono Hb1.out.size))
            have hs13 := hb3.size
            clear hb3 hen
            by_cases hle : x ≤ mostOf f
            · have hd : decide (x ≤ mostOf f) = true := decide_eq_true hle
              have Hle := Lib.hid hle
              have HoA := Lib.hid (Ho3.out.below (bel_alloc (Below.refl _ w3) (.cells #[.int .i64 x] 3)))
              have HRA := Lib.hid (HR3.out.kept (below_grow0 (bel_alloc (Below.refl _ w3) (.cells #[.int .i64 x] 3))) (by simp) (by simp))
              have HbA3 := Lib.hid (Hb3.out.trans ((bel_alloc (Below.refl _ w3) (.cells #[.int .i64 x] 3)).mono Hb3.out.size))
              have hxl : xs.length + 1 ≤ n := by have := Hlen.out; have := Hlt.out; omega
              clear hle
              go_wp2_with (at_builtin; refine wpList_app2 rfl _ _ 62 rfl (wB.heap.size + 1) 3 i0 _ 1 8 Tryz.underlying62 Hi.out hz0 hz1 hz2 rfl (by decide) _ _ rfl HoA.out _ _ rfl (one_int (by simp)) (fun y _ cs h => intR_one y cs h) (by show _ + 1 ≤ maxLen; unfold maxLen; omega) (by show (_ + 1) * 8 ≤ _; omega) (by simp; omega) ?_; intro v' w5 hown' hg' hat'; have Hown' := Lib.hid hown'; have HR5 := Lib.hid (HRA.out.kept hg' (fun e => by have := (Hob1.out _ e.symm).1; omega) (fun e => by have := (Hob1.out _ e.symm).1; omega)); have Hb5 := Lib.hid (Below.grown HbA3.out hg' HbA3.out.size (fun g hg => by have := (Hob1.out g hg).1; omega)); clear hown' hg' hat')
              go_roundw
              case rel =>
                refine ⟨_, cnt1, v', xs ++ [x], rfl, Hown'.out, HR5.out, ?_, fun z => ?_, by have := Hlen.out; have := Hlt.out; simp; omega, Hb5.out⟩
                · rw [List.nodup_append]
                  exact ⟨Hnd.out, by simp, fun a ha b hb => by simp at hb; subst hb; exact fun e => Hnx.out (e ▸ ha)⟩
                · rw [List.mem_append, Hmem.out z]
                  by_cases hz : z = x
                  · subst hz
                    simp [Hgx.out, Hle.out]
                  · simp [hz]
              case measure => rw [HR5.out.left_eq, HR.out.left_eq]; exact Hlt.out
            · have hd : decide (x ≤ mostOf f) = false := decide_eq_false hle
              have Hle := Lib.hid hle
              clear hle
              go_wp2_with fail
              go_roundw
              case rel =>
                refine ⟨_, cnt1, vs, xs, rfl, Ho3.out, HR3.out, Hnd.out, fun z => ?_, by have := Hlen.out; have := Hlt.out; omega, Hb3.out⟩
                by_cases hz : z = x
                · subst hz
                  exact ⟨fun h => absurd h Hnx.out, fun h => by have h1 := Hle.out; have h2 := h.2.2; omega⟩
                · rw [Hmem.out z]
                  simp [hz]
              case measure => rw [HR3.out.left_eq, HR.out.left_eq]; exact Hlt.out
end Go.Proofs.YtioeliocdbckbaaGreatDoor
namespace Go.Proofs.YtioeliocdbckbaaGreatDoor
open Go.RowKit

set_option maxRecDepth 100000 in
set_option maxHeartbeats 4000000 in
theorem rall_any (v : Value) (l : List TPol) (D : Nat → Prop) (w : World) (h : RdPols w D v l) :
    Calls Tryz.prog 54 #[v] w fun e w' => e = .returned (.int .i64 (polsE l)) ∧ Below w.heap.size w w' := by
  have H := Lib.hid h
  obtain ⟨a, c, rfl, hlc, hcm, hat⟩ := Sl.form h
  clear h
  go_enter Tryz.func54, Tryz.ntmps54
  go_wp2_with fail
  go_loopw [8] (fun kv wr => ∃ k : Nat, kv = .int .i64 k ∧ k ≤ l.length ∧ polsE (l.drop k) = polsE l ∧ Below w.heap.size w wr) (fun kv _ => l.length - (intOf kv).toNat)
  case atStart => exact ⟨0, rfl, Nat.zero_le _, rfl, Below.refl _ _⟩
  case round =>
    obtain ⟨k, rfl, hk, hdr, hb⟩ := hrel
    have Hdr := Lib.hid hdr
    have Hb := Lib.hid hb
    have hsz := hb.size
    clear hdr hb
    by_cases hlt : k < l.length
    · obtain ⟨b, o, rfl, hDb, hblt⟩ := hat (by omega)
      obtain ⟨ca, cc, hc0w, hc1w, hrd, hcl, hcmx, hcat⟩ := RdPols.cells H.out hlt
      have Hs := Lib.hid (polsE_drop l k hlt)
      obtain ⟨p, hp⟩ : ∃ p, l[k] = p := ⟨_, rfl⟩
      rw [hp] at hc0w hc1w hrd hcl hcat Hs
      have Hrd := Lib.hid hrd
      have hc0 := (Hb.out.cell (p := ⟨b, o + k * 2, none⟩) hblt).trans hc0w
      have hc1 := (Hb.out.cell (p := ⟨b, o + k * 2 + 1, none⟩) hblt).trans hc1w
      clear hrd hp hc0w hc1w
      go_wp2_with fail
      refine (rpolcheck_any _ p D _ (RdRules.below Hrd.out (bel_alloc Hb.out _))).mono ?_
      rintro e w1 ⟨rfl, hb1⟩
      have Hb1 := Lib.hid (bel_alloc_call Hb.out hb1)
      clear hb1 hc0 hc1
      by_cases h0 : polE p = 0
      · have H0 := Lib.hid h0
        rw [h0]
        clear h0
        go_wp2
        go_roundw
        case rel => exact ⟨k + 1, by go_num, by omega, by have := Hs.out; rw [if_pos H0.out, Hdr.out] at this; exact this.symm, Hb1.out⟩
        case measure => simp [intOf]; omega
      · have hb0 : (polE p != 0) = true := bne_iff_ne.2 h0
        have HE : Hid (polsE l = polE p) := by
          show polsE l = _
          have := Hs.out
          rw [if_neg h0, Hdr.out] at this
          exact this
        clear h0
        go_wp2
        go_ret
        rw [HE.out]
        exact ⟨rfl, Hb1.out⟩
    · obtain rfl : k = l.length := by omega
      have H0 : Hid (polsE l = 0) := by have := Hdr.out; rw [List.drop_length] at this; exact this.symm
      go_wp2
      go_ret
      rw [H0.out]
      exact ⟨rfl, Hb.out⟩
end Go.Proofs.YtioeliocdbckbaaGreatDoor
namespace Go.Proofs.YtioeliocdbckbaaGreatDoor
open Go.RowKit

/-- doneE of the pruned operations, said of the operations as they stand. -/
def doneP (P : Program) (ops : Array Oper) (Inv : (Nat → Bool) → World → Prop) (bs : List (List Nat)) (Q : Act → World → Prop) (n : Nat) : List Oper → Nat → Act → Prop
  | [], _, a => ∀ (done : Nat → Bool) (w : World), (∀ k, k < n → done k = true) → Inv done w → Q a w
  | o :: l, i, a => ∃ x : Value, (∀ (done : Nat → Bool) (w : World), Inv done w → done i = false → (∀ k ∈ (prune o).after.toList.map (fun e => e.on), done k = true) → (∀ k : Nat, i ∈ bs.getD k [] → done k = false) →
      ∀ R : Value → World → Prop, (∀ (v : Value) (w' : World), Inv (updDone done i) w' → v = x → R v w') → if Region.wanted o (yielded ops a.tmps) then gives P o a w R else R undef w) ∧
      doneP P ops Inv bs Q n l (i + 1) (a.put o.dst x)
theorem doneP_step {P : Program} {ops : Array Oper} {Inv : (Nat → Bool) → World → Prop} {bs : List (List Nat)} {Q : Act → World → Prop} {n : Nat} {o : Oper} {l : List Oper} {i : Nat} {a : Act}
    (h : ∀ K : Act → Prop, (∀ a, doneP P ops Inv bs Q n l (i + 1) a → K a) → ∃ x : Value, (∀ (done : Nat → Bool) (w : World), Inv done w → done i = false → (∀ k ∈ (prune o).after.toList.map (fun e => e.on), done k = true) → (∀ k : Nat, i ∈ bs.getD k [] → done k = false) →
      ∀ R : Value → World → Prop, (∀ (v : Value) (w' : World), Inv (updDone done i) w' → v = x → R v w') → if Region.wanted o (yielded ops a.tmps) then gives P o a w R else R undef w) ∧ K (a.put o.dst x)) :
    doneP P ops Inv bs Q n (o :: l) i a := h _ (fun _ h => h)
theorem doneP_prune {P : Program} {ops : List Oper} {Inv : (Nat → Bool) → World → Prop} {bs : List (List Nat)} {Q : Act → World → Prop} {n : Nat} : ∀ (l : List Oper) (i : Nat) (a : Act), doneP P ops.toArray Inv bs Q n l i a → doneE P (ops.map prune).toArray Inv bs Q n (l.map prune) i a
  | [], _, _, h => h
  | o :: l, i, a, ⟨x, h1, h2⟩ => by
    refine ⟨x, fun d w hC h0 hd hn R hR => ?_, doneP_prune l _ _ h2⟩
    have := h1 d w hC h0 hd hn R hR
    rw [← yielded_prune] at this
    exact this
/-- As wp_region_stores: edges that bind no order are left out. -/
theorem wp_region_stores3 {P : Program} {l : List Oper} {Q : Exit → Act → World → Prop} {a : Act} {id : Nat} {w : World} (Inv : (Nat → Bool) → World → Prop) (hm : P.follows .mixedOrders = true) (hB : monoB2 (l.map prune) a.tmps.size = true) (hC : Inv (fun _ => false) w.drew)
    (bs : List (List Nat)) (hbs : befores (l.map prune) [] = bs) (h : doneP P l.toArray Inv bs (Q .normal) l.length l 0 a) : (Code.region id l.toArray true).wp P Q a w := by
  subst hbs
  have h' := doneP_prune (ops := l) l 0 a h
  have hlen : l.length = (l.map prune).length := by simp
  rw [hlen] at h'
  generalize hl : l.map prune = l' at hB h'
  obtain ⟨xs, hx⟩ := doneE_list l' 0 a [] h'
  refine wp_region_any hm (wpAny_prune _ _ _ _ ?_)
  rw [hl]
  refine wpAny_done (Inv := Inv) (T := fun _ _ _ => True) (ss := xs.map ex) hB (fun i k s _ hk v done w1 w2 _ _ _ => ?_) hx _ _ (fun _ => undef) _ _ ?_ ⟨?_, ?_, by simp [← hl], rfl, rfl, ?_, fun _ _ => rfl⟩
  · obtain ⟨x, _, rfl⟩ := List.mem_map.1 (List.mem_of_getElem? hk)
    trivial
  · have := List.length_filter_le (fun i => (Array.replicate l.toArray.size false)[i]? != some true) (List.range l'.length)
    simpa [undone, ← hl] using this
  · refine (congrArg (fun d => Inv d _) ?_).mp hC
    funext k
    rw [Array.getElem?_replicate]
    split <;> simp
  · intro j o hj hl
    rw [Array.getElem?_replicate] at hl
    split at hl <;> simp at hl
  · intro j o s hj _ hl
    rw [Array.getElem?_replicate] at hl
    split at hl <;> simp at hl
end Go.Proofs.YtioeliocdbckbaaGreatDoor
namespace Go.Proofs.YtioeliocdbckbaaGreatDoor
open Go.RowKit
attribute [local go_sem] gives givesUpon

/-- a region with one store, operation n. -/
def OneSt (n : Nat) (w1 w2 : World) (done : Nat → Bool) (W : World) : Prop := W = if done n = true then w2 else w1
section
variable {n k : Nat} {w1 w2 W : World} {done : Nat → Bool}
theorem OneSt.start : OneSt n w1 w2 (fun _ => false) w1 := rfl
theorem OneSt.before (h : OneSt n w1 w2 done W) (hd : done n = false) : W = w1 := by
  unfold OneSt at h
  rw [hd] at h
  exact h
theorem OneSt.step (hk : n ≠ k) (hd : done n = false) : OneSt n w1 w2 (updDone done k) w1 := by
  unfold OneSt updDone
  rw [if_neg hk, hd]
  rfl
theorem OneSt.at_ : OneSt n w1 w2 (updDone done n) w2 := by
  unfold OneSt updDone
  rw [if_pos rfl]
  rfl
theorem OneSt.after (h : OneSt n w1 w2 done W) (hd : done n = true) : W = w2 := by
  unfold OneSt at h
  rw [hd] at h
  exact h
end
theorem ints_set {w : World} {β k : Nat} {v u : Value} {l : List Int} (h : RdInts w (fun b => b ≠ β) u l) : RdInts (w.setCell ⟨β, k, none⟩ v) (fun b => b ≠ β) u l :=
  h.keep (fun _ hb _ => hb) (fun _ hb _ => set_other hb) (by rw [set_size]; exact Nat.le_refl _)
theorem cuts_len (l : List TPol) (f : Int) : (cutsOf l f).length ≤ (cutVals l f).length := by
  unfold cutsOf
  refine Nat.le_trans (List.length_filter_le _ _) ?_
  have h3 : ∀ m : List Int, (setOf m).length ≤ m.length := fun m => by
    have h4 : ∀ (x : Int) (m : List Int), (insU x m).length ≤ m.length + 1 := fun x m => by
      induction m with
      | nil => simp [insU]
      | cons y m ih => unfold insU; split <;> (try split) <;> simp <;> omega
    induction m with
    | nil => simp [setOf]
    | cons x m ih => have := h4 x (setOf m); simp [setOf]; omega
  exact h3 _
theorem flat_le2 (f : Int) : ∀ cs : List TCond, (cs.flatMap (condCuts f)).length ≤ 2 * cs.length
  | [] => by simp
  | c :: cs => by
    have := flat_le2 f cs
    have h2 : (condCuts f c).length ≤ 2 := by unfold condCuts; split <;> (try split) <;> simp
    simp only [List.flatMap_cons, List.length_append, List.length_cons]
    omega
theorem vals_le2 (l : List TPol) (f : Int) : (cutVals l f).length ≤ 1 + 2 * (l.flatMap polConds).length := by
  have e : l.flatMap (polCuts f) = (l.flatMap polConds).flatMap (condCuts f) := by
    unfold polCuts ruleCuts polConds
    simp only [List.flatMap_assoc]
  unfold cutVals
  rw [List.length_cons, e]
  have := flat_le2 f (l.flatMap polConds)
  omega

set_option maxRecDepth 100000 in
set_option maxHeartbeats 16000000 in
theorem rpoints_any (v : Value) (l : List TPol) (D : Nat → Prop) (w : World) (h : RdPols w D v l) (hn : polsE l = 0 → (1 + 2 * (l.flatMap polConds).length) * 8 ≤ 140737488355328) :
    Calls Tryz.prog 31 #[v] w fun e w' => ∃ v', e = .returned (.tuple #[v', .int .i64 (pointsE l).2]) ∧ OwnSl w' w.heap.size 26 5 callR v' (pointsE l).1 ∧ Below w.heap.size w w' := by
  have H := Lib.hid h
  have Hn := Lib.hid hn
  obtain ⟨i0, hi, hz0, hz1, hz2⟩ := info_parts infoCall
  have Hi := Lib.hid hi
  clear h hn hi
  go_enter Tryz.func31, Tryz.ntmps31
  go_wp2_with fail
  refine (rall_any _ l D _ H.out).mono ?_
  rintro e w1 ⟨rfl, hb1⟩
  have Hb1 := Lib.hid hb1
  have H1 := Lib.hid (RdPols.below H.out hb1)
  have hsz1 := hb1.size
  clear hb1
  by_cases h0 : polsE l = 0
  · have H0 := Lib.hid h0
    have Hok := Lib.hid ((polsE_iff l).1 h0)
    have Hnn := Lib.hid (Hn.out h0)
    rw [h0]
    clear h0
    go_wp2_with fail
    go_loopw [6, 17] (fun nv kv wr => ∃ (k : Nat) (cs : Array Value), kv = .int .i64 k ∧ nv = .int .i64 (sizes l k : Nat) ∧ k ≤ 5 ∧ sizes l k ≤ 1000 ∧ cs.size = 5 ∧ wr.heap[w1.heap.size]? = some (.cells cs 91) ∧ (∀ j : Nat, j < k → ∃ u, cs[j]? = some u ∧ RdInts wr (fun b => b ≠ w1.heap.size) u (cutsOf l j)) ∧ Below w1.heap.size w1 wr) (fun _ kv _ => 5 - (intOf kv).toNat)
    case atStart => exact ⟨0, #[.slice none 0 0, .slice none 0 0, .slice none 0 0, .slice none 0 0, .slice none 0 0], rfl, rfl, by omega, by simp [sizes], rfl, heap_last _ _, fun j hj => absurd hj (by omega), bel_alloc (Below.refl _ _) _⟩
    case round =>
      obtain ⟨k, cs, rfl, rfl, hk, hs, hcs, hbk, hrd, hb⟩ := hrel
      have Hs := Lib.hid hs
      have Hcs := Lib.hid hcs
      have Hbk := Lib.hid hbk
      have Hrd := Lib.hid hrd
      have Hb := Lib.hid hb
      have hszr := hb.size
      have hβ : w1.heap.size < wr.heap.size := (Array.getElem?_eq_some_iff.1 hbk).1
      clear hs hcs hbk hrd hb
      by_cases hlt : k < 5
      · have hk5 : (k : Int) < 5 := by omega
        have hk0 : (0 : Int) ≤ (k : Int) := by omega
        have hkw : IntKind.i64.wrap (k : Int) = (k : Int) := IntWalk.i64_in _ (by omega)
        go_wp2_with fail
        refine (rcuts_any _ l k D _ (RdPols.below H1.out Hb.out) Hok.out Hnn.out).mono ?_
        rintro e w2 ⟨v2, rfl, ho2, hb2⟩
        have Hb2 := Lib.hid (bel_call Hb.out hb2)
        have Hbk2 := Lib.hid (blk_below Hbk.out hb2)
        have Ho2 : Hid (RdInts w2 (fun b => b ≠ w1.heap.size) v2 (cutsOf l k)) := ho2.sl (fun b hb => by omega)
        have Hrd2 : Hid (∀ j : Nat, j < k → ∃ u, cs[j]? = some u ∧ RdInts w2 (fun b => b ≠ w1.heap.size) u (cutsOf l j)) := fun j hj => by obtain ⟨u, h1, h2⟩ := Hrd.out j hj; exact ⟨u, h1, h2.below hb2⟩
        obtain ⟨a2, c2, rfl⟩ := ho2.slice
        clear ho2 hb2
        have hlen : (cutsOf l k).length ≤ 17592186044416 := by
          have h1 := Hnn.out
          have h2 := cuts_len l k
          have h3 := vals_le2 l k
          omega
        have Hss : Hid (sizes l (k + 1) = sizes l k * (cutsOf l k).length) := rfl
        obtain ⟨m, hm⟩ : ∃ m, m = (cutsOf l k).length := ⟨_, rfl⟩
        obtain ⟨s, hs⟩ : ∃ s, s = sizes l k := ⟨_, rfl⟩
        obtain ⟨s', hs'⟩ : ∃ s', s' = sizes l (k + 1) := ⟨_, rfl⟩
        have hmul : (s : Int) * (m : Int) = (s' : Int) := by rw [hs', Hss.out, ← hs, ← hm, Int.natCast_mul]
        have hmb : s' ≤ 1000 * 17592186044416 := by rw [hs', Hss.out, ← hm]; exact Nat.mul_le_mul Hs.out (by rw [hm]; exact hlen)
        have hwr : IntKind.i64.wrap (s' : Int) = (s' : Int) := IntWalk.i64_in _ (by omega)
        have hce := cells_of Hbk2.out
        have hfe := not_frozen Hbk2.out
        have Hst := Lib.hid (set_at (o := k) (v := .slice a2 (cutsOf l k).length c2) Hbk2.out)
        have hse := cells_of Hst.out
        have hget : (cs.setIfInBounds k (.slice a2 (cutsOf l k).length c2))[k]? = some (.slice a2 (cutsOf l k).length c2) := Array.getElem?_setIfInBounds_self_of_lt (by rw [Hcs.out]; exact hlt)
        have hck : cs[k]? = some (cs[k]'(by rw [Hcs.out]; exact hlt)) := Array.getElem?_eq_getElem _
        rw [← hm] at hse hget
        rw [← hs, ← hm]
        have Hm := Lib.hid hm
        have HS := Lib.hid hs
        have HS' := Lib.hid hs'
        clear hm hs hs' hlen
        by_cases hbig : 1000 < s'
        · have hd : decide ((1000 : Int) < (s' : Int)) = true := decide_eq_true (by omega)
          have HP : Hid (pointsE l = ([], 2)) := pointsE_err2 H0.out hlt (by rw [← HS'.out]; exact hbig)
          clear hbig hmb
          go_wp2_with fail
          go_ret2
          rw [HP.out]
          exact ⟨_, rfl, OwnSl.nil, Hb1.out.trans ((set_below Hb2.out (Nat.le_refl _)).mono hsz1)⟩
        · have hd : decide ((1000 : Int) < (s' : Int)) = false := decide_eq_false (by omega)
          have Hbig := Lib.hid hbig
          clear hbig hmb
          go_wp2_with fail
          go_roundw
          case rel =>
            refine ⟨k + 1, cs.setIfInBounds k (.slice a2 m c2), by go_num, by rw [HS'.out], by omega, by rw [← HS'.out]; have := Hbig.out; omega, by rw [Array.size_setIfInBounds]; exact Hcs.out, by rw [Hm.out]; exact Hst.out, fun j hj => ?_, set_below Hb2.out (Nat.le_refl _)⟩
            by_cases hjk : j = k
            · subst hjk
              exact ⟨_, hget, by rw [Hm.out]; exact ints_set Ho2.out⟩
            · obtain ⟨u, h1, h2⟩ := Hrd2.out j (by omega)
              exact ⟨u, by rw [Array.getElem?_setIfInBounds_ne (Ne.symm hjk)]; exact h1, ints_set h2⟩
          case measure => simp [intOf]; omega
      · obtain rfl : k = 5 := by omega
        have HP : Hid (pointsE l = (stage l 5, 0)) := pointsE_of Hok.out Hs.out
        have Hsl := Lib.hid (stage_length l 5)
        have Htk := Lib.hid (fun i (h : i < sizes l 5) => stage_take (l := l) h)
        have hn1000 : sizes l 5 ≤ 1000 := Hs.out
        have Hcl : Hid (∀ k : Nat, (cutsOf l k).length ≤ 17592186044416) := fun k => by
          have h1 := Hnn.out
          have h2 := cuts_len l k
          have h3 := vals_le2 l k
          omega
        obtain ⟨n, hn⟩ : ∃ n, n = sizes l 5 := ⟨_, rfl⟩
        have HN := Lib.hid hn
        rw [← hn] at hn1000 ⊢
        clear hn
        obtain ⟨wB, rfl⟩ : ∃ wB : World, wB = wr := ⟨_, rfl⟩
        go_wp2_with fail
        go_loopw [8, 35] (fun ov iv wi => ∃ (i : Nat) (vs : Value), iv = .int .i64 i ∧ vs = ov ∧ i ≤ n ∧ OwnSl wi wB.heap.size 26 5 callR vs ((stage l 5).take i) ∧ Below wB.heap.size wB wi) (fun _ iv _ => n - (intOf iv).toNat)
        case atStart => exact ⟨0, _, rfl, rfl, Nat.zero_le _, OwnSl.nil, Below.refl _ _⟩
        case round =>
          obtain ⟨i, vs, rfl, rfl, hi, hown, hbi⟩ := hrel
          have Hown := Lib.hid hown
          have Hbi := Lib.hid hbi
          have hszi := hbi.size
          clear hown hbi
          by_cases hil : i < n
          · have Htki := Lib.hid (Htk.out i (by rw [← HN.out]; exact hil))
            have Hsli : Hid (((stage l 5).take i).length ≤ 1000) := by show _ ≤ _; rw [List.length_take]; omega
            obtain ⟨L, hL⟩ : ∃ L, L = (stage l 5).take i := ⟨_, rfl⟩
            rw [← hL] at Hown Htki Hsli
            obtain ⟨wo, rfl⟩ : ∃ wo : World, wo = wr := ⟨_, rfl⟩
            have hiw : IntKind.i64.wrap (i : Int) = (i : Int) := IntWalk.i64_in _ (by omega)
            have Hleft : Hid (i < sizes l 5) := by show _ < _; rw [← HN.out]; exact hil
            clear hL
            go_wp2_with fail
            go_loopw [9, 11] (fun qv kv wj => ∃ j : Nat, kv = .int .i64 (4 - (j : Int)) ∧ qv = .int .i64 (leftOf l i j : Nat) ∧ j ≤ 5 ∧ wj.heap[wo.heap.size]? = some (.cells (callArr (tellOf l i j)) 26) ∧ Below wo.heap.size wo wj) (fun _ kv _ => (intOf kv + 1).toNat)
            case atStart => exact ⟨0, rfl, rfl, by omega, heap_last _ _, bel_alloc (Below.refl _ _) _⟩
            case round =>
              obtain ⟨j, rfl, rfl, hj, hbox, hbj⟩ := hrel
              have Hbox := Lib.hid hbox
              have Hbj := Lib.hid hbj
              have hszj := hbj.size
              have hγ : wo.heap.size < wr.heap.size := (Array.getElem?_eq_some_iff.1 hbox).1
              clear hbox hbj
              by_cases hj5 : j < 5
              · obtain ⟨k, hk⟩ : ∃ k, k + j = 4 := ⟨4 - j, by omega⟩
                have e4 : (4 : Int) - (j : Int) = (k : Int) := by omega
                rw [e4]
                obtain ⟨u, hu, hru⟩ := Hrd.out k (by omega)
                obtain ⟨au, cu, rfl, _⟩ := Sl.form hru
                obtain ⟨b2, o2, rfl, _⟩ := Sl.at_ hru (cuts_pos l k)
                have hbB : Below wB.heap.size wB wr := Hbi.out.trans (Hbj.out.mono hszi)
                obtain ⟨x, hx⟩ : ∃ x, x = leftOf l i j := ⟨_, rfl⟩
                obtain ⟨m, hm⟩ : ∃ m, m = (cutsOf l k).length := ⟨_, rfl⟩
                have hm0 : 0 < m := by rw [hm]; exact cuts_pos l k
                obtain ⟨r, hr⟩ : ∃ r, r = x % m := ⟨_, rfl⟩
                have hrm : r < m := by rw [hr]; exact Nat.mod_lt _ hm0
                have hcell := RdInts.cell (hru.belowR hbB (fun _ _ _ h => h)) (i := r) (by rw [← hm]; exact hrm)
                obtain ⟨q, hq⟩ : ∃ q, q = (cutsOf l k)[r]'(by rw [← hm]; exact hrm) := ⟨_, rfl⟩
                rw [← hq] at hcell
                have Hq : Hid (cutAt l k x = q) := by
                  show cutAt l k x = q
                  have h1 := cutAt_get l k x
                  rw [← hm, ← hr, List.getElem?_eq_getElem (by rw [← hm]; exact hrm), ← hq] at h1
                  exact (Option.some.inj h1).symm
                have hbkj := cells_of (blk_below Hbk.out hbB)
                have hrw : IntKind.i64.wrap (r : Int) = (r : Int) := IntWalk.i64_in _ (by omega)
                have hm47 : m ≤ 17592186044416 := by rw [hm]; exact Hcl.out k
                have hx1 : x ≤ 1000 := by
                  have h1 := (left_lt Hleft.out).2 j hj
                  have h2 : sizes l (5 - j) ≤ sizes l 5 := sizes_le l (by omega)
                  rw [← hx] at h1
                  have h3 := HN.out
                  omega
                have hrem : Int.tmod (x : Int) (m : Int) = (r : Int) := by rw [hr]; exact (Int.ofNat_tmod x m).symm
                obtain ⟨d, hd⟩ : ∃ d, d = x / m := ⟨_, rfl⟩
                have hquo : Int.tdiv (x : Int) (m : Int) = (d : Int) := by rw [hd]; exact (Int.ofNat_tdiv x m).symm
                have hdx : d ≤ x := by rw [hd]; exact Nat.div_le_self x m
                have hdw : IntKind.i64.wrap (d : Int) = (d : Int) := IntWalk.i64_in _ (by omega)
                have hmn : ¬ (m = 0) := by omega
                have hk5 : (k : Int) < 5 := by omega
                have hk0 : (0 : Int) ≤ (k : Int) := by omega
                have hkw : IntKind.i64.wrap (k : Int) = (k : Int) := IntWalk.i64_in _ (by omega)
                have hrm' : (r : Int) < (m : Int) := by omega
                have hr0 : (0 : Int) ≤ (r : Int) := by omega
                rw [← hm] at hu
                rw [← hx]
                have Hx := Lib.hid hx
                have Hd := Lib.hid hd
                have Hm := Lib.hid hm
                obtain ⟨wd, hwd⟩ : ∃ wd, wd = wr.drew := ⟨_, rfl⟩
                have Hwd := Lib.hid hwd
                have hbkd : ∀ j, wd.cell? ⟨w1.heap.size, j, none⟩ = cs[j]? := fun j => by rw [hwd]; exact hbkj j
                have hcelld : wd.cell? ⟨b2, o2 + r, none⟩ = some (.int .i64 q) := by rw [hwd]; exact hcell
                have hbd : wd.heap[wo.heap.size]? = some (.cells (callArr (tellOf l i j)) 26) := by rw [hwd]; exact Hbox.out
                have Hbd := Lib.hid hbd
                have hfz := not_frozen hbd
                have hck : (callArr (tellOf l i j))[k]? = some (.int .i64 ((tellOf l i j).get k)) := callArr_get _ k (by omega)
                have hbdc := cells_of hbd
                clear hx hd hm hr hq hbkj hcell hbd hwd hru
                go_wp2_with fail
                refine wp_region_stores3 (OneSt 13 wd (wd.setCell ⟨wo.heap.size, k, none⟩ (.int .i64 q))) (by kernel_rfl) (by kernel_rfl) (by rw [← Hwd.out]; exact OneSt.start) _ rfl ?_
                iterate 13 (refine doneP_step (fun K hK => ?_); apply Exists.intro; refine ⟨fun done W hI h0 hd hn R hR => ?_, ?_⟩; (have h13 : done 13 = false := hn 13 (by decide); obtain rfl : W = wd := hI.before h13; clear h0 hd hn hI; go_simp; exact hR _ _ (OneSt.step (by decide) h13) rfl); (go_simp; refine hK _ ?_; clear hK K))
                (refine doneP_step (fun K hK => ?_); apply Exists.intro; refine ⟨fun done W hI h0 hd hn R hR => ?_, ?_⟩; (obtain rfl : W = wd := hI.before h0; clear h0 hd hn hI; go_simp; exact hR _ _ OneSt.at_ rfl); (go_simp; refine hK _ ?_; clear hK K))
                intro done W hd hI
                obtain rfl := hI.after (hd 13 (by decide))
                clear hd hI
                have Hq' := Lib.hid (callArr_set (tellOf l i j) k (by omega) q)
                have Hst := Lib.hid (set_at (o := k) (v := .int .i64 q) Hbd.out)
                have hbks : ∀ j, (wd.setCell ⟨wo.heap.size, k, none⟩ (.int .i64 q)).cell? ⟨w1.heap.size, j, none⟩ = cs[j]? := fun j => by rw [← hbkd j]; exact World.cell?_setCell_other _ _ _ _ (by intro h; simp only [Addr.mk.injEq] at h; omega)
                have Hbd2 : Hid (Below wo.heap.size wo (wd.setCell ⟨wo.heap.size, k, none⟩ (.int .i64 q))) := set_below (by rw [Hwd.out]; exact Hbj.out.drew) (Nat.le_refl _)
                clear hbkd hcelld hfz hbdc hmn
                have hmn : ¬ (m = 0) := by omega
                go_wp2_with fail
                go_roundw
                case rel => (repeat apply Exists.intro); exact ⟨⟨j + 1, by go_num, by rw [Hd.out, Hx.out, Hm.out]; show Value.int .i64 _ = Value.int .i64 ((leftOf l i j / (cutsOf l (4 - j : Nat)).length : Nat) : Int); rw [show 4 - j = k by omega], by omega, by show _ = some (Obj.cells (callArr ((tellOf l i j).set (4 - j) (cutAt l (4 - j) (leftOf l i j)))) _); rw [show 4 - j = k by omega, ← Hx.out, Hq.out, ← Hq'.out]; exact Hst.out, Hbd2.out⟩, rfl⟩
                case measure => first | (simp [intOf]; done) | (simp [intOf]; omega)
              · obtain rfl : j = 5 := by omega
                have Hown2 := Lib.hid ((Hown.out.below Hbj.out).below (bel_alloc (Below.refl _ wr) (.cells (callArr (tellOf l i 5)) 26)))
                have Hbi2 := Lib.hid ((Hbi.out.trans (Hbj.out.mono hszi)).trans ((bel_alloc (Below.refl _ wr) (.cells (callArr (tellOf l i 5)) 26)).mono (Nat.le_trans hszi hszj)))
                have hbc := cells_of Hbox.out
                generalize hT : tellOf l i 5 = T at *
                have hsl := Hsli.out
                go_wp2_with (at_builtin; refine wpList_app2 rfl _ _ 40 rfl wB.heap.size 26 i0 _ 5 40 Tryz.underlying40 Hi.out hz0 hz1 hz2 rfl (by decide) _ _ rfl Hown2.out _ _ rfl (one_call (x := T) (by simp)) (fun y _ cs h => callR_one y cs h) (by show _ + 1 ≤ maxLen; unfold maxLen; omega) (by show (_ + 1) * 40 ≤ _; omega) (by simp; omega) ?_; intro v' w5 hown' hg' hat'; have Hown' := Lib.hid hown'; have Hb5 := Lib.hid (Hown2.out.grown Hbi2.out hg' (by simp; omega) (Nat.le_refl _)); clear hown' hg' hat')
                go_roundw
                case rel => (repeat apply Exists.intro); exact ⟨⟨i + 1, v', by go_num, rfl, by omega, by rw [Htki.out]; exact Hown'.out, Hb5.out⟩, rfl⟩
                case measure => simp [intOf]; omega
          · obtain rfl : i = n := by omega
            have Ho : Hid (OwnSl wr wB.heap.size 26 5 callR vs (stage l 5)) := by
              have := Hown.out
              rw [List.take_of_length_le (by rw [Hsl.out, ← HN.out]; exact Nat.le_refl _)] at this
              exact this
            go_wp2
            go_ret2
            rw [HP.out]
            exact ⟨_, rfl, Ho.out.base (by omega), Hb1.out.trans ((Hb.out.trans (Hbi.out.mono hszr)).mono hsz1)⟩
  · have hb0 : (polsE l != 0) = true := bne_iff_ne.2 h0
    have HP : Hid (pointsE l = ([], polsE l)) := by show pointsE l = _; unfold pointsE; rw [if_pos h0]
    clear h0
    go_wp2
    go_ret2
    rw [HP.out]
    exact ⟨_, rfl, OwnSl.nil, Hb1.out⟩
end Go.Proofs.YtioeliocdbckbaaGreatDoor
namespace Go.Proofs.YtioeliocdbckbaaGreatDoor
open Go.RowKit
open Go.MapKept (IsKey)
attribute [local go_sem] gives givesUpon

/-- a condition of a number. -/
def holdsN (op v n : Int) : Bool := if op = 1 then n == v else if op = 2 then n != v else if op = 3 then decide (n < v) else decide (v ≤ n)
theorem holdsB_eq (c : TCond) (x : TCall) : holdsB c x = holdsN c.op c.v (x.get c.f) := rfl
@[reducible] def hm1 (n v : Int) : Array MapEntry := #[⟨.int .i64 1, .bool (n == v), 0⟩]
@[reducible] def hm2 (n v : Int) : Array MapEntry := #[⟨.int .i64 1, .bool (n == v), 0⟩, ⟨.int .i64 2, .bool (n != v), 1⟩]
@[reducible] def hm3 (n v : Int) : Array MapEntry := #[⟨.int .i64 1, .bool (n == v), 0⟩, ⟨.int .i64 2, .bool (n != v), 1⟩, ⟨.int .i64 3, .bool (decide (n < v)), 2⟩]
@[reducible] def hm4 (n v : Int) : Array MapEntry := #[⟨.int .i64 1, .bool (n == v), 0⟩, ⟨.int .i64 2, .bool (n != v), 1⟩, ⟨.int .i64 3, .bool (decide (n < v)), 2⟩, ⟨.int .i64 4, .bool (decide (v ≤ n)), 3⟩]
theorem hm_find (op n v : Int) (h0 : 1 ≤ op) (h1 : op ≤ 4) : ∃ j, Instr.findNow (.int .i64) (.int .i64 op) (hm4 n v).toList 0 = some (some (j, .bool (holdsN op v n))) := by
  have hop : op = 1 ∨ op = 2 ∨ op = 3 ∨ op = 4 := by omega
  rcases hop with rfl | rfl | rfl | rfl
  · exact ⟨0, rfl⟩
  · exact ⟨1, rfl⟩
  · exact ⟨2, rfl⟩
  · exact ⟨3, rfl⟩

set_option maxHeartbeats 2000000 in
theorem rholds_any (c : TCond) (n : Int) (w : World) (ho0 : 1 ≤ c.op) (ho1 : c.op ≤ 4) : Calls Tryz.prog 63 #[condV c, .int .i64 n] w fun e w' => e = .returned (.bool (holdsN c.op c.v n)) ∧ Below w.heap.size w w' := by
  obtain ⟨f, op, v⟩ := c
  dsimp only at ho0 ho1 ⊢
  have hmm := @run_makeMap Tryz.prog
  have hb : w.heap.size + 1 = (w.alloc (.cells #[.int .i64 f, .int .i64 op, .int .i64 v] 84)).heap.size := by simp
  have h1 := run_insert_at (P := Tryz.prog) (t := 81) (es := #[]) (c := 0) (key := .int .i64 1) (v := .bool (n == v)) hb Tryz.underlying81 Tryz.underlying3 rfl rfl
  have h2 := run_insert_at (P := Tryz.prog) (t := 81) (es := hm1 n v) (c := 1) (key := .int .i64 2) (v := .bool (n != v)) hb Tryz.underlying81 Tryz.underlying3 rfl rfl
  have h3 := run_insert_at (P := Tryz.prog) (t := 81) (es := hm2 n v) (c := 2) (key := .int .i64 3) (v := .bool (decide (n < v))) hb Tryz.underlying81 Tryz.underlying3 rfl rfl
  have h4 := run_insert_at (P := Tryz.prog) (t := 81) (es := hm3 n v) (c := 3) (key := .int .i64 4) (v := .bool (decide (v ≤ n))) hb Tryz.underlying81 Tryz.underlying3 rfl rfl
  simp only [List.push_toArray, List.nil_append, List.cons_append, Nat.reduceAdd] at h1 h2 h3 h4
  obtain ⟨j, hf⟩ := hm_find op n v ho0 ho1
  have hz : ∀ W : World, (zeroValue 4).run Tryz.prog W = .ok (.bool false) W := fun W => by kernel_rfl
  have h5 := run_lookup_bare (P := Tryz.prog) (key := .int .i64 op) (t := 81) Tryz.underlying81 Tryz.underlying3 (blk_at (w := w.alloc (.cells #[.int .i64 f, .int .i64 op, .int .i64 v] 84)) (o := .map (hm4 n v) 4) hb) (hz _) rfl hf
  simp only [Option.map_some, Option.getD_some] at h5
  clear hz hf hb
  go_enter Tryz.func63, Tryz.ntmps63
  go_wp2
  go_ret
  exact ⟨rfl, bel_alloc (bel_alloc (Below.refl _ _) _) _⟩

theorem callCells_get (x : TCall) {q : Nat} (h : q < 5) : (callCells x)[q]? = some (.int .i64 (x.get q)) := by
  have : q = 0 ∨ q = 1 ∨ q = 2 ∨ q = 3 ∨ q = 4 := by omega
  rcases this with rfl | rfl | rfl | rfl | rfl <;> rfl

theorem allHold_take_succ {x : TCall} {l : List TCond} {k : Nat} (hk : k < l.length) : allHold x (l.take (k + 1)) = (allHold x (l.take k) && holdsB l[k] x) := by
  rw [List.take_succ_eq_append_getElem hk]
  unfold allHold
  rw [List.all_append]
  simp
/-- which rule says, told from place k on. -/
def whichFrom (x : TCall) (rs : List TRule) (k : Nat) : Nat := k + which x (rs.drop k)
theorem whichFrom_end (x : TCall) (rs : List TRule) : whichFrom x rs rs.length = rs.length := by unfold whichFrom; rw [List.drop_length]; rfl
theorem whichFrom_zero (x : TCall) (rs : List TRule) : whichFrom x rs 0 = which x rs := by unfold whichFrom; simp
theorem whichFrom_yes {x : TCall} {rs : List TRule} {k : Nat} (h : k < rs.length) (hh : allHold x rs[k].conds = true) : whichFrom x rs k = k := by
  unfold whichFrom; rw [which_drop x rs k h, if_pos hh]; rfl
theorem whichFrom_no {x : TCall} {rs : List TRule} {k : Nat} (h : k < rs.length) (hh : allHold x rs[k].conds = false) : whichFrom x rs k = whichFrom x rs (k + 1) := by
  unfold whichFrom; rw [which_drop x rs k h, hh]; simp; omega
theorem verdictAt_lt {p : TPol} {k : Nat} (h : k < p.rules.length) : verdictAt p k = p.rules[k].verdict := by unfold verdictAt; rw [List.getElem?_eq_getElem h]
theorem verdictAt_end (p : TPol) : verdictAt p p.rules.length = p.dflt := by unfold verdictAt; rw [List.getElem?_eq_none (Nat.le_refl _)]

set_option maxHeartbeats 4000000 in
theorem rjudged_any (v : Value) (p : TPol) (x : TCall) (D : Nat → Prop) (w : World) (h : RdRules w D v p.rules) (hok : OkPol p) :
    Calls Tryz.prog 32 #[polV v p.dflt, callV x] w fun e w' => e = .returned (.tuple #[.int .i64 (judged p x).1, .int .i64 (judged p x).2]) ∧ Below w.heap.size w w' := by
  obtain ⟨a, c, rfl, hlc, hcm, hat⟩ := Sl.form h
  have H := Lib.hid h
  have Hok := Lib.hid hok
  have hlen : p.rules.length ≤ 120 := hok.len
  clear h hok
  go_enter Tryz.func32, Tryz.ntmps32
  go_wp2_with fail
  have hcl : ∀ W, Cls (w.heap.size + 2) ((w.alloc (.cells #[.slice a p.rules.length c, .int .i64 p.dflt] 24)).alloc (.cells (callCells x) 26)) W → ∀ j : Nat, W.cell? ⟨w.heap.size, j, none⟩ = (#[Value.slice a p.rules.length c, .int .i64 p.dflt] : Array Value)[j]? := fun W hW j => (box2_cells hW.2).1 j
  have Hcl := Lib.hid hcl
  clear hcl
  refine wp_region_exact3 (w.heap.size + 2) (by simp) (by kernel_rfl) (by kernel_rfl) ?_
  repeat (refine monoE_step (fun K hK => ?_); apply Exists.intro; refine ⟨fun W hC R hR => ?_, ?_⟩; (have hcell := Hcl.out W hC; go_simp; exact hR _ _ (Below.refl _ _) rfl); (go_simp; refine hK _ ?_; clear hK K))
  intro w2 hC2
  obtain ⟨hc1, hc2⟩ := box2_cells hC2.2
  have hv0 : verdictAt p (whichFrom x p.rules p.rules.length) = p.dflt := by rw [whichFrom_end, verdictAt_end]
  have Hv0 := Lib.hid hv0
  have Hw0 := Lib.hid (whichFrom_end x p.rules)
  clear hv0
  go_wp2_with fail
  go_loopw [6, 7, 8] (fun vd kk i wr => ∃ (k : Nat) (z : Int), k ≤ p.rules.length ∧ Hid (z = (k : Int) - 1) ∧ i = .int .i64 z ∧ vd = .int .i64 (verdictAt p (whichFrom x p.rules k)) ∧ kk = .int .i64 (whichFrom x p.rules k) ∧ Below (w.heap.size + 2) ((w.alloc (.cells #[.slice a p.rules.length c, .int .i64 p.dflt] 24)).alloc (.cells (callCells x) 26)) wr) (fun _ _ i _ => (intOf i + 1).toNat)
  case atStart => exact ⟨p.rules.length, _, Nat.le_refl _, rfl, rfl, by rw [Hv0.out], by rw [Hw0.out], hC2.2⟩
  case round =>
    obtain ⟨k, z, hk, hz, rfl, rfl, rfl, hbx⟩ := hrel
    have Hb := Lib.hid (bel_box2 hbx)
    have hsz := size_box2 hbx
    clear hc1 hc2 hC2 Hv0 Hw0
    obtain ⟨hc1, hc2⟩ := box2_cells hbx
    cases k with
    | zero =>
      obtain rfl : z = -1 := by have := hz.out; omega
      have Hw := Lib.hid (whichFrom_zero x p.rules)
      go_wp2
      go_ret2
      exact ⟨by rw [Hw.out]; rfl, Hb.out⟩
    | succ m =>
      obtain rfl : z = m := by have := hz.out; omega
      have hlt : m < p.rules.length := by omega
      obtain ⟨b, o, rfl, hDb, hbb⟩ := hat (by omega)
      obtain ⟨a', c', k0, k1, hr, hlc', hcm', hat'⟩ := RdRules.cells (RdRules.below H.out Hb.out) hlt
      have Hr := Lib.hid hr
      have Hrok := Lib.hid (Hok.out.rules _ (List.getElem_mem hlt))
      have hm0 : (0 : Int) ≤ m := by omega
      clear hr
      obtain ⟨wo, rfl⟩ : ∃ wo : World, wo = wr := ⟨_, rfl⟩
      go_wp2_with fail
      go_loopw [9, 32] (fun al i wr => ∃ (j : Nat) (ab : Bool), j ≤ p.rules[m].conds.length ∧ i = .int .i64 j ∧ al = .bool ab ∧ Hid (ab = allHold x (p.rules[m].conds.take j)) ∧ Below wo.heap.size wo wr) (fun _ i _ => p.rules[m].conds.length - (intOf i).toNat)
      case atStart => exact ⟨0, true, by omega, rfl, rfl, rfl, Below.refl _ _⟩
      case round =>
        obtain ⟨j, ab, hj, rfl, rfl, hab, hbi⟩ := hrel
        have hbx' := box2_step hbx hbi
        have Hbx := Lib.hid hbx'
        have hszi := hbi.size
        have Hbi := Lib.hid hbi
        clear hc1 hc2
        obtain ⟨hc1, hc2⟩ := box2_cells hbx'
        clear hbx'
        by_cases hlj : j < p.rules[m].conds.length
        · obtain ⟨b', o', rfl, hDb', hb'⟩ := hat' (by omega)
          obtain ⟨d0, d1, d2⟩ := RdConds.cells (RdConds.below Hr.out Hbi.out) hlj
          have Hck := Lib.hid (Hrok.out.conds _ (List.getElem_mem hlj))
          have Hsucc := Lib.hid (allHold_take_succ (x := x) hlj)
          clear k0 k1
          obtain ⟨q, hq⟩ : ∃ q : Nat, p.rules[m].conds[j].f = q := ⟨p.rules[m].conds[j].f.toNat, by have := Hck.out.f0; omega⟩
          have hq5 : q < 5 := by have := Hck.out.f1; omega
          rw [hq] at d0
          have Hq := Lib.hid hq
          clear hq
          have hx0 : ∀ W, Cls (wr.heap.size + 1) (wr.alloc (.cells #[.int .i64 q, .int .i64 p.rules[m].conds[j].op, .int .i64 p.rules[m].conds[j].v] 84)) W → (∀ i : Nat, W.cell? ⟨wr.heap.size, i, none⟩ = (#[.int .i64 q, .int .i64 p.rules[m].conds[j].op, .int .i64 p.rules[m].conds[j].v] : Array Value)[i]?) ∧ (∀ i : Nat, W.cell? ⟨w.heap.size + 1, i, none⟩ = (callCells x)[i]?) :=
            fun W hW => ⟨box_cells hW.2, fun i => ((hW.2.cell (p := ⟨w.heap.size + 1, i, none⟩) (by show w.heap.size + 1 < wr.heap.size + 1; omega)).trans (World.cell?_alloc_lt _ _ _ (by show w.heap.size + 1 < wr.heap.size; omega))).trans (hc2 i)⟩
          have Hx0 := Lib.hid hx0
          clear hx0
          have Hget := Lib.hid (callCells_get x hq5)
          cases ab with
          | true =>
            have Hn : Hid (holdsN p.rules[m].conds[j].op p.rules[m].conds[j].v (x.get q) = allHold x (p.rules[m].conds.take (j + 1))) := by
              have h2 := Hsucc.out
              rw [← hab.out, Bool.true_and, holdsB_eq, Hq.out] at h2
              exact h2.symm
            clear hab Hsucc
            have Hh : ∀ W : World, Calls Tryz.prog 63 #[.agg #[.int .i64 q, .int .i64 p.rules[m].conds[j].op, .int .i64 p.rules[m].conds[j].v], .int .i64 (x.get q)] W fun e w' => e = .returned (.bool (holdsN p.rules[m].conds[j].op p.rules[m].conds[j].v (x.get q))) ∧ Below W.heap.size W w' := fun W => rholds_any ⟨q, _, _⟩ _ W Hck.out.o0 Hck.out.o1
            have HH := Lib.hid Hh
            clear Hh
            have hqi : (q : Int) < 5 := by omega
            go_wp2_with fail
            refine wp_region_exact3 (wr.heap.size + 1) (by simp) (by kernel_rfl) (by kernel_rfl) ?_
            repeat (refine monoE_step (fun K hK => ?_); apply Exists.intro; refine ⟨fun W hC R hR => ?_, ?_⟩; (first
              | (have hcell := (Hx0.out W hC).1; go_simp; exact hR _ _ (Below.refl _ _) rfl)
              | (have hcell := ((Hx0.out W hC).2 q).trans Hget.out; go_simp; exact hR _ _ (Below.refl _ _) rfl)
              | (go_simp; go_at_call 63; refine (HH.out _).mono ?_; rintro e w1 ⟨rfl, hb1⟩; exact ⟨_, rfl, hR _ _ hb1 rfl⟩)); (go_simp; refine hK _ ?_; clear hK K))
            intro w2 hC2
            go_wp2_with fail
            go_roundw
            case rel => exact ⟨j + 1, _, by omega, by go_num, rfl, Hn, Hbi.out.trans ((bel_box hC2.2).mono Hbi.out.size)⟩
            case measure => simp [intOf]; omega
          | false =>
            have Hn : Hid (false = allHold x (p.rules[m].conds.take (j + 1))) := by
              have h2 := Hsucc.out
              rw [← hab.out, Bool.false_and] at h2
              exact h2.symm
            clear hab Hsucc
            go_wp2_with fail
            refine wp_region_exact3 (wr.heap.size + 1) (by simp) (by kernel_rfl) (by kernel_rfl) ?_
            repeat (refine monoE_step (fun K hK => ?_); apply Exists.intro; refine ⟨fun W hC R hR => ?_, ?_⟩; (go_simp; exact hR _ _ (Below.refl _ _) rfl); (go_simp; refine hK _ ?_; clear hK K))
            intro w2 hC2
            go_wp2_with fail
            go_roundw
            case rel => exact ⟨j + 1, _, by omega, by go_num, rfl, Hn, Hbi.out.trans ((bel_box hC2.2).mono Hbi.out.size)⟩
            case measure => simp [intOf]; omega
        · obtain rfl : j = p.rules[m].conds.length := by omega
          have Hab : Hid (ab = allHold x p.rules[m].conds) := by have := hab.out; rwa [List.take_length] at this
          have k1' := (Hbi.out.cell (p := ⟨b, o + m * 2 + 1, none⟩) (World.block_lt_of_cell? _ _ k1)).trans k1
          clear k0 k1 hab hat'
          cases ab with
          | true =>
            have Hn := Lib.hid (whichFrom_yes hlt Hab.out.symm)
            have Hvv := Lib.hid (verdictAt_lt hlt)
            clear Hab
            go_wp2
            go_roundw
            case rel => exact ⟨m, (m : Int) - 1, by omega, rfl, rfl, by rw [Hn.out, Hvv.out], by rw [Hn.out], Hbx.out⟩
            case measure => simp [intOf]
          | false =>
            have Hn := Lib.hid (whichFrom_no hlt Hab.out.symm)
            clear Hab
            go_wp2
            go_roundw
            case rel => exact ⟨m, (m : Int) - 1, by omega, rfl, rfl, by rw [Hn.out], by rw [Hn.out], Hbx.out⟩
            case measure => simp [intOf]
end Go.Proofs.YtioeliocdbckbaaGreatDoor
namespace Go.Proofs.YtioeliocdbckbaaGreatDoor
open Go.RowKit
attribute [local go_sem] gives givesUpon

theorem polConds_len {p : TPol} (h : OkPol p) : (polConds p).length ≤ 1200 := by
  have := flatMap_len (fun r : TRule => r.conds) 10 p.rules (fun r hr => (h.rules r hr).len)
  have := h.len
  show (p.rules.flatMap fun r => r.conds).length ≤ 1200
  omega
theorem rvals_len {l : List TPol} (h : polsE l = 0) (hl : l.length ≤ 2) : (1 + 2 * (l.flatMap polConds).length) * 8 ≤ 140737488355328 := by
  have h1 := flatMap_len polConds 1200 l (fun p hp => polConds_len ((polsE_iff l).1 h p hp))
  have : l.length * 1200 ≤ 2 * 1200 := Nat.mul_le_mul_right _ hl
  omega
def rlooserGo (pe : Int) (o : Option TCall) : Bool × TCall × Int := match o with
  | some x => (true, x, pe)
  | none => (false, zeroCall, pe)
theorem rlooser_spec {p q : TPol} {S : List TCall} {pe : Int} (h : pointsE [p, q] = (S, pe)) : (∀ x ∈ S, OkPol p ∧ OkPol q ∧ x.ok) ∧ S.length ≤ 1000 ∧ looserE p q = rlooserGo pe (S.find? (looserAt p q)) := by
  by_cases h0 : pe = 0
  · subst h0
    obtain ⟨hok, hsz, hpe⟩ := pointsE_ok (l := [p, q]) (by rw [h])
    rw [h] at hpe
    have hS : S = stage [p, q] 5 := (Prod.mk.inj hpe).1
    refine ⟨fun x hx => ⟨hok p (by simp), hok q (by simp), point_ok hok (hS ▸ hx)⟩, by rw [hS, stage_length]; exact hsz, ?_⟩
    unfold looserE
    rw [h]
    simp only [ne_eq, not_true_eq_false, if_false]
    unfold rlooserGo
    cases S.find? (looserAt p q) <;> rfl
  · have hS : S = [] := by
      unfold pointsE at h
      split at h
      · exact (Prod.mk.inj h).1.symm
      · split at h
        · exact (Prod.mk.inj h).1.symm
        · exact absurd (Prod.mk.inj h).2.symm h0
    subst hS
    refine ⟨fun x hx => by simp at hx, by simp, ?_⟩
    unfold looserE
    rw [h]
    rw [if_pos h0]
    rfl

set_option maxRecDepth 100000 in
set_option maxHeartbeats 8000000 in
theorem rlooser_any (u v : Value) (p q : TPol) (w : World) (hp : RdRules w (fun _ => True) u p.rules) (hq : RdRules w (fun _ => True) v q.rules) :
    Calls Tryz.prog 12 #[polV u p.dflt, polV v q.dflt] w fun e w' => e = .returned (.tuple #[.bool (looserE p q).1, callV (looserE p q).2.1, .int .i64 (looserE p q).2.2]) ∧ Below w.heap.size w w' := by
  have Hp := Lib.hid hp
  have Hq := Lib.hid hq
  obtain ⟨ap, cp, rfl, _⟩ := Sl.form hp
  obtain ⟨aq, cq, rfl, _⟩ := Sl.form hq
  obtain ⟨⟨S, pe⟩, hE⟩ : ∃ E, pointsE [p, q] = E := ⟨_, rfl⟩
  obtain ⟨hall, hSl, hL⟩ := rlooser_spec hE
  have HE := Lib.hid hE
  have Hall := Lib.hid hall
  have HL := Lib.hid hL
  clear hp hq hE hall hL
  go_enter Tryz.func12, Tryz.ntmps12
  go_wp2_with fail
  refine (rpoints_any _ [p, q] (fun _ => True) _ (two_pols (blk_at (by simp)) (Hp.out.below (bel_alloc (bel_alloc (bel_alloc (bel_alloc (Below.refl _ _) _) _) _) _)) (Hq.out.below (bel_alloc (bel_alloc (bel_alloc (bel_alloc (Below.refl _ _) _) _) _) _)) trivial) (fun h0 => rvals_len h0 (by simp))).mono ?_
  rw [HE.out]
  rintro e w1 ⟨v1, rfl, ho1, hb1⟩
  have HB1 := Lib.hid (Bx.three.below ((bel_alloc (Below.refl _ _) _).trans (hb1.mono (by simp))))
  have Ho1 := Lib.hid ho1
  obtain ⟨a1, c1, rfl⟩ := ho1.slice
  have Hl1 : Hid (RdCalls w1 (fun _ => True) (.slice a1 S.length c1) S) := Ho1.out.sl (fun _ _ => trivial)
  have hat := fun h0 => Sl.at_ Hl1.out h0
  clear ho1 hb1 Ho1
  go_wp2_with fail
  go_loopw [24] (fun kv wr => ∃ k : Nat, kv = .int .i64 k ∧ k ≤ S.length ∧ (S.drop k).find? (looserAt p q) = S.find? (looserAt p q) ∧ Below w1.heap.size w1 wr) (fun kv _ => S.length - (intOf kv).toNat)
  case atStart => exact ⟨0, rfl, Nat.zero_le _, rfl, Below.refl _ _⟩
  case round =>
    obtain ⟨k, rfl, hk, hfd, hb⟩ := hrel
    have Hfd := Lib.hid hfd
    have Hb := Lib.hid hb
    have hszr := hb.size
    have HBr := Lib.hid (HB1.out.below hb)
    have hc0 := HBr.out.cells0
    have hc1 := HBr.out.cells1
    clear hfd hb
    by_cases hlt : k < S.length
    · obtain ⟨b, o, rfl, _, hblt⟩ := hat (by omega)
      obtain ⟨h0c, h1c, h2c, h3c, h4c⟩ := RdCalls.cells (Hl1.out.below Hb.out) hlt
      have Hs := Lib.hid (find_drop (looserAt p q) S k hlt)
      have Hxo := Lib.hid (Hall.out S[k] (List.getElem_mem hlt))
      obtain ⟨x, hx⟩ : ∃ x, S[k] = x := ⟨_, rfl⟩
      rw [hx] at h0c h1c h2c h3c h4c Hs Hxo
      have HBa := Lib.hid (HBr.out.alloc (.cells (callArr x) 26))
      have Hxb : Hid ((wr.alloc (.cells (callArr x) 26)).heap[wr.heap.size]? = some (.cells (callArr x) 26)) := heap_last _ _
      have hc0' := HBa.out.cells0
      have hcx' := cells_of Hxb.out
      clear hx hc0 hc1
      go_wp2_with fail
      refine (rjudged_any _ p x _ _ (Hp.out.below HBa.out.bel) Hxo.out.1).mono ?_
      rintro e w2 ⟨rfl, hb2⟩
      have HB2 := Lib.hid (HBa.out.below hb2)
      have Hx2 := Lib.hid (blk_below Hxb.out hb2)
      have Hbb2 := Lib.hid (bel_alloc_call (Hb.out.mono (Nat.le_refl _)) hb2)
      have hc1 := HB2.out.cells1
      have hcx := cells_of Hx2.out
      clear hb2 hc0' hcx' h0c h1c h2c h3c h4c
      go_wp2_with fail
      refine (rjudged_any _ q x _ _ (Hq.out.below HB2.out.bel) Hxo.out.2.1).mono ?_
      rintro e w3 ⟨rfl, hb3⟩
      have HB3 := Lib.hid (HB2.out.below hb3)
      have Hx3 := Lib.hid (blk_below Hx2.out hb3)
      have Hbb3 := Lib.hid (bel_call Hbb2.out hb3)
      clear hb3 hc1 hcx
      by_cases hgt : (judged q x).1 < (judged p x).1
      · have hd : decide ((judged q x).1 < (judged p x).1) = true := decide_eq_true hgt
        have HR : Hid (looserE p q = (true, x, pe)) := by
          show looserE p q = _
          rw [HL.out, ← Hfd.out, Hs.out, if_pos (by unfold looserAt; exact hd)]
          rfl
        have hcx := cells_of Hx3.out
        have hc2 := HB3.out.cells2
        have hf2 : ∀ j, w3.frozen? ⟨w.heap.size + 1 + 1, j, none⟩ = false := fun j => HB3.out.free (i := 2) rfl j
        clear hgt
        go_wp2_with fail
        go_region
        have HBf := Lib.hid ((HB3.out.setCall2 (x := ⟨0, 0, 0, 0, 0⟩) (y := x)).drew)
        have hcf := HBf.out.cells2
        go_wp2
        refine bodyPost_ret (v := .tuple #[.bool true, callV x, .int .i64 pe]) ?_ rfl ⟨by rw [HR.out], HBf.out.bel⟩
        simp [results, Tryz.results12, go_sem, hcf]
      · have hd : decide ((judged q x).1 < (judged p x).1) = false := decide_eq_false hgt
        have HR : Hid ((S.drop (k + 1)).find? (looserAt p q) = S.find? (looserAt p q)) := by
          show _ = _
          have := Hs.out
          rw [if_neg (by unfold looserAt says; rw [hd]; simp), Hfd.out] at this
          exact this.symm
        clear hgt
        go_wp2
        go_roundw
        case rel => exact ⟨k + 1, by go_num, by omega, HR.out, Hbb3.out⟩
        case measure => simp [intOf]; omega
    · obtain rfl : k = S.length := by omega
      have HR : Hid (looserE p q = (false, zeroCall, pe)) := by
        show looserE p q = _
        rw [HL.out, ← Hfd.out, List.drop_length]
        rfl
      have hc2 := HBr.out.cells2
      have hf2 : ∀ j, wr.frozen? ⟨w.heap.size + 1 + 1, j, none⟩ = false := fun j => HBr.out.free (i := 2) rfl j
      clear hc0 hc1
      have HBf := Lib.hid (HBr.out.setCall2 (x := ⟨0, 0, 0, 0, 0⟩) (y := ⟨0, 0, 0, 0, 0⟩))
      have hcf := HBf.out.cells2
      go_wp2
      refine bodyPost_ret (v := .tuple #[.bool false, callV ⟨0, 0, 0, 0, 0⟩, .int .i64 pe]) ?_ rfl ⟨by rw [HR.out]; rfl, HBf.out.bel⟩
      simp [results, Tryz.results12, go_sem, hcf]
end Go.Proofs.YtioeliocdbckbaaGreatDoor
namespace Go.Proofs.YtioeliocdbckbaaGreatDoor
open Go.RowKit

theorem infoIntE : (Tryz.prog.info? 3).map (·.size) = some 1 := by kernel_rfl
theorem part5 (x : TCall) (k : Nat) (h : k < 5) (W : World) : (part 3 #[.int .i64 x.a0, .int .i64 x.a1, .int .i64 x.a2, .int .i64 x.a3, .int .i64 x.a4] (k * Tryz.prog.cellsOf 3)).run Tryz.prog W = .ok (.int .i64 (x.get k)) W := by
  rcases (by omega : k = 0 ∨ k = 1 ∨ k = 2 ∨ k = 3 ∨ k = 4) with rfl | rfl | rfl | rfl | rfl <;> (change _ = _; kernel_rfl)
theorem eqItems5 (d : Nat) (x y : TCall) (W : World) : ∀ l : List Nat, (∀ k ∈ l, k < 5) → (Op.eqItems (d + 1) 3 (Tryz.prog.cellsOf 3) #[.int .i64 x.a0, .int .i64 x.a1, .int .i64 x.a2, .int .i64 x.a3, .int .i64 x.a4] #[.int .i64 y.a0, .int .i64 y.a1, .int .i64 y.a2, .int .i64 y.a3, .int .i64 y.a4] l).run Tryz.prog W = .ok (l.all fun k : Nat => x.get k == y.get k) W
  | [], _ => rfl
  | k :: l, h => by
    have h1 := part5 x k (h k (List.mem_cons_self ..)) W
    have h2 := part5 y k (h k (List.mem_cons_self ..)) W
    have h3 := run_equalIn_int (P := Tryz.prog) W d 3 .i64 .i64 (x.get k) (y.get k) Tryz.underlying3
    have ih := eqItems5 d x y W l (fun j hj => h j (List.mem_cons_of_mem _ hj))
    simp only [Op.eqItems, Sem.run_bind, h1, h2, h3, Result.andThen_ok, List.all_cons]
    cases hb : x.get k == y.get k with
    | true => simpa using ih
    | false => simp
theorem calls_all (x y : TCall) : ((List.range 5).all fun k : Nat => x.get k == y.get k) = decide (x = y) := by
  obtain ⟨x0, x1, x2, x3, x4⟩ := x
  obtain ⟨y0, y1, y2, y3, y4⟩ := y
  rw [Bool.eq_iff_iff, decide_eq_true_iff]
  simp only [List.all_eq_true, List.mem_range, beq_iff_eq, TCall.mk.injEq]
  constructor
  · intro h
    exact ⟨h 0 (by omega), h 1 (by omega), h 2 (by omega), h 3 (by omega), h 4 (by omega)⟩
  · rintro ⟨rfl, rfl, rfl, rfl, rfl⟩ k _
    rfl
theorem calleq_run (x y : TCall) (W : World) : Sem.run Tryz.prog (Op.equalIn 10000 26 (.agg #[.int .i64 x.a0, .int .i64 x.a1, .int .i64 x.a2, .int .i64 x.a3, .int .i64 x.a4]) (.agg #[.int .i64 y.a0, .int .i64 y.a1, .int .i64 y.a2, .int .i64 y.a3, .int .i64 y.a4])) W = .ok (decide (x = y)) W := by
  obtain ⟨i, hi, _⟩ := Option.map_eq_some_iff.1 infoIntE
  rw [run_equalIn_array (P := Tryz.prog) W 9999 _ _ Tryz.underlying26 hi, eqItems5 9998 x y W _ (fun k hk => by simpa using hk), calls_all]
theorem calleq_self (x : TCall) (W : World) : Sem.run Tryz.prog (Op.equalIn 10000 26 (.agg #[.int .i64 x.a0, .int .i64 x.a1, .int .i64 x.a2, .int .i64 x.a3, .int .i64 x.a4]) (.agg #[.int .i64 x.a0, .int .i64 x.a1, .int .i64 x.a2, .int .i64 x.a3, .int .i64 x.a4])) W = .ok true W := by
  rw [calleq_run, decide_eq_true rfl]
end Go.Proofs.YtioeliocdbckbaaGreatDoor
