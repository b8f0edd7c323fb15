/- KeeperSays returns true at every two lists of sessions and record. Condition: Laid. -/
import Derived.Test.YtkiipnbjckdlbaaGreatDoorK17
import Derived.Test.YtkiipnbjckdlbaaGreatDoorK11
import Derived.Test.YtkiipnbjckdlbaaGreatDoorK9
namespace Go.Proofs.YtkiipnbjckdlbaaGreatDoor
open Go.RowKit
attribute [local go_sem] gives givesUpon

theorem new_stable : stableP (fun v W => ∃ a c, v = .slice a newCells.length c ∧ RdCells W (fun _ => True) v newCells) := fun _ _ _ hb ⟨a, c, h1, h2⟩ => ⟨a, c, h1, h2.below hb⟩
set_option maxRecDepth 100000 in
set_option maxHeartbeats 16000000 in
theorem keeperSays_walk {w : World} (hL : Laid w) (v0 : Value) (l : List TCell) (rd0 : RdCells w (fun _ => True) v0 l) (v1 : Value) (r : TRec) (rd1 : RdRec w v1 r) (v2 : Value) (m : List TCell) (rd2 : RdCells w (fun _ => True) v2 m) :
    Calls Tryz.prog 6 #[v0, v1, v2] w fun e w' => e = .returned (.bool true) ∧ Below w.heap.size w w' := by
  have HL := Lib.hid hL
  have HcL0 := Lib.hid rd0
  have HcM0 := Lib.hid rd2
  obtain ⟨al, cl, rfl, _⟩ := Sl.form rd0
  obtain ⟨am, cm, rfl, _⟩ := Sl.form rd2
  obtain ⟨u, rfl, hru⟩ := rd1
  have HrU := Lib.hid hru
  obtain ⟨au, cu, rfl, _⟩ := Sl.form hru
  clear rd0 rd2 hL hru
  obtain ⟨⟨N, ne⟩, hN⟩ : ∃ E, nextE l r = E := ⟨_, rfl⟩
  have HN := Lib.hid hN
  obtain ⟨E, hE⟩ : ∃ E, cellsE l = E := ⟨_, rfl⟩
  have HE := Lib.hid hE
  obtain ⟨sm, hsm⟩ : ∃ b, decide (l = m) = b := ⟨_, rfl⟩
  have HS := Lib.hid hsm
  clear hN hE hsm
  go_enter Tryz.func6, Tryz.ntmps6
  go_wp2_with fail
  have HX := Lib.hid (Bx.one (w := w) (o := .cells #[.int .i64 r.kind, .int .i64 r.cell, .int .i64 r.from_, .slice au r.p.rules.length cu, .int .i64 r.p.dflt] 55))
  refine (next_any _ _ l r _ _ _ (HcL0.out.below HX.out.bel) (RdRules.below HrU.out HX.out.bel)).mono ?_
  rw [HN.out]
  rintro e w1 ⟨a1, c1, rfl, hr1, hb1⟩
  have HX1 := Lib.hid (HX.out.below hb1)
  have Hr1 := Lib.hid (cells_true hr1)
  have hq1 := HX1.out.cells0
  clear hr1 hb1 HX
  go_wp2_with fail
  refine (rnext_any _ _ l r _ _ _ (HcL0.out.below HX1.out.bel) (RdRules.below HrU.out HX1.out.bel)).mono ?_
  rw [HN.out]
  rintro e w2 ⟨a3, c3, rfl, hr2, hb2⟩
  have HX2 := Lib.hid (HX1.out.below hb2)
  have Hr12 := Lib.hid (Hr1.out.below hb2)
  have Hr2 := Lib.hid hr2
  have HB : Hid (Below w.heap.size w w2) := HX2.out.bel
  have HcL := Lib.hid (HcL0.out.below HB.out)
  have HcM := Lib.hid (HcM0.out.below HB.out)
  clear hr2 hb2 Hr1 hq1 HX1 HX2
  go_wp2_with fail
  refine wp_region_B [ex (.bool true), ex (.bool true), ex (.slice al l.length cl), ex (.int .i64 E), ex (.slice al l.length cl), ex (.int .i64 E), ex (.bool true), ex (.bool true), ex (.bool true), ex (.slice al l.length cl), ex (.slice am m.length cm), ex (.bool sm), ex (.slice al l.length cl), ex (.slice am m.length cm), ex (.bool sm), ex (.bool true), ex (.bool true), ex (.bool true), pr (fun v W => ∃ a c, v = .slice a newCells.length c ∧ RdCells W (fun _ => True) v newCells), pr (fun v W => ∃ a c, v = .slice a newCells.length c ∧ RdCells W (fun _ => True) v newCells), ex (.bool true), ex (.bool true), ex (.bool true), ex (.int .i64 ne), ex (.int .i64 ne), ex (.bool true), ex (.bool true), ex (.bool true), ex (.slice a1 N.length c1), ex (.slice a3 N.length c3), ex (.bool true), ex (.bool true), ex (.bool true)] _ (Nat.le_refl _) (by kernel_rfl) (by kernel_rfl) ⟨.inl ⟨_, rfl⟩, .inl ⟨_, rfl⟩, .inl ⟨_, rfl⟩, .inl ⟨_, rfl⟩, .inl ⟨_, rfl⟩, .inl ⟨_, rfl⟩, .inl ⟨_, rfl⟩, .inl ⟨_, rfl⟩, .inl ⟨_, rfl⟩, .inl ⟨_, rfl⟩, .inl ⟨_, rfl⟩, .inl ⟨_, rfl⟩, .inl ⟨_, rfl⟩, .inl ⟨_, rfl⟩, .inl ⟨_, rfl⟩, .inl ⟨_, rfl⟩, .inl ⟨_, rfl⟩, .inl ⟨_, rfl⟩, .inr ⟨_, rfl, new_stable⟩, .inr ⟨_, rfl, new_stable⟩, .inl ⟨_, rfl⟩, .inl ⟨_, rfl⟩, .inl ⟨_, rfl⟩, .inl ⟨_, rfl⟩, .inl ⟨_, rfl⟩, .inl ⟨_, rfl⟩, .inl ⟨_, rfl⟩, .inl ⟨_, rfl⟩, .inl ⟨_, rfl⟩, .inl ⟨_, rfl⟩, .inl ⟨_, rfl⟩, .inl ⟨_, rfl⟩, .inl ⟨_, rfl⟩, trivial⟩ ?_
  (refine walkB_ex (fun K hK => ?_); refine ⟨fun W hC hd R hR => ?_, ?_⟩; (have HLW := Lib.hid (HL.out.below (bel_call HB.out hC.2)); clear hd; go_simp; go_at_call 32; refine (opened_walk _ HLW.out).mono ?_; rintro e w9 ⟨rfl, hb9⟩; exact ⟨_, rfl, hR _ _ hb9 rfl⟩); (go_simp; refine hK _ ?_; clear hK K))
  (refine walkB_ex (fun K hK => ?_); refine ⟨fun W hC hd R hR => ?_, ?_⟩; (clear hd; go_simp; exact hR _ _ (Below.refl _ _) rfl); (go_simp; refine hK _ ?_; clear hK K))
  (refine walkB_ex (fun K hK => ?_); refine ⟨fun W hC hd R hR => ?_, ?_⟩; (clear hd; go_simp; exact hR _ _ (Below.refl _ _) rfl); (go_simp; refine hK _ ?_; clear hK K))
  (refine walkB_ex (fun K hK => ?_); refine ⟨fun W hC hd R hR => ?_, ?_⟩; (have HlW := Lib.hid (HcL.out.below hC.2); have HmW := Lib.hid (HcM.out.below hC.2); clear hd; go_simp; go_at_call 33; refine (kcheck_any _ l _ _ HlW.out).mono ?_; rw [HE.out]; rintro e w9 ⟨rfl, hb9⟩; exact ⟨_, rfl, hR _ _ hb9 rfl⟩); (go_simp; refine hK _ ?_; clear hK K))
  (refine walkB_ex (fun K hK => ?_); refine ⟨fun W hC hd R hR => ?_, ?_⟩; (clear hd; go_simp; exact hR _ _ (Below.refl _ _) rfl); (go_simp; refine hK _ ?_; clear hK K))
  (refine walkB_ex (fun K hK => ?_); refine ⟨fun W hC hd R hR => ?_, ?_⟩; (have HlW := Lib.hid (HcL.out.below hC.2); have HmW := Lib.hid (HcM.out.below hC.2); clear hd; go_simp; go_at_call 34; refine (rkcheck_any _ l _ _ HlW.out).mono ?_; rw [HE.out]; rintro e w9 ⟨rfl, hb9⟩; exact ⟨_, rfl, hR _ _ hb9 rfl⟩); (go_simp; refine hK _ ?_; clear hK K))
  (refine walkB_ex (fun K hK => ?_); refine ⟨fun W hC hd R hR => ?_, ?_⟩; (clear hd; go_simp; exact hR _ _ (Below.refl _ _) rfl); (go_simp; refine hK _ ?_; clear hK K))
  (refine walkB_ex (fun K hK => ?_); refine ⟨fun W hC hd R hR => ?_, ?_⟩; (clear hd; go_simp; exact hR _ _ (Below.refl _ _) rfl); (go_simp; refine hK _ ?_; clear hK K))
  (refine walkB_ex (fun K hK => ?_); refine ⟨fun W hC hd R hR => ?_, ?_⟩; (clear hd; go_simp; exact hR _ _ (Below.refl _ _) rfl); (go_simp; refine hK _ ?_; clear hK K))
  (refine walkB_ex (fun K hK => ?_); refine ⟨fun W hC hd R hR => ?_, ?_⟩; (clear hd; go_simp; exact hR _ _ (Below.refl _ _) rfl); (go_simp; refine hK _ ?_; clear hK K))
  (refine walkB_ex (fun K hK => ?_); refine ⟨fun W hC hd R hR => ?_, ?_⟩; (clear hd; go_simp; exact hR _ _ (Below.refl _ _) rfl); (go_simp; refine hK _ ?_; clear hK K))
  (refine walkB_ex (fun K hK => ?_); refine ⟨fun W hC hd R hR => ?_, ?_⟩; (have HlW := Lib.hid (HcL.out.below hC.2); have HmW := Lib.hid (HcM.out.below hC.2); clear hd; go_simp; go_at_call 35; refine (keepsame_any _ _ l m _ HlW.out HmW.out).mono ?_; rw [HS.out]; rintro e w9 ⟨rfl, hb9⟩; exact ⟨_, rfl, hR _ _ hb9 rfl⟩); (go_simp; refine hK _ ?_; clear hK K))
  (refine walkB_ex (fun K hK => ?_); refine ⟨fun W hC hd R hR => ?_, ?_⟩; (clear hd; go_simp; exact hR _ _ (Below.refl _ _) rfl); (go_simp; refine hK _ ?_; clear hK K))
  (refine walkB_ex (fun K hK => ?_); refine ⟨fun W hC hd R hR => ?_, ?_⟩; (clear hd; go_simp; exact hR _ _ (Below.refl _ _) rfl); (go_simp; refine hK _ ?_; clear hK K))
  (refine walkB_ex (fun K hK => ?_); refine ⟨fun W hC hd R hR => ?_, ?_⟩; (have HlW := Lib.hid (HcL.out.below hC.2); have HmW := Lib.hid (HcM.out.below hC.2); clear hd; go_simp; go_at_call 36; refine (rkeepsame_any _ _ l m _ HlW.out HmW.out).mono ?_; rw [HS.out]; rintro e w9 ⟨rfl, hb9⟩; exact ⟨_, rfl, hR _ _ hb9 rfl⟩); (go_simp; refine hK _ ?_; clear hK K))
  (refine walkB_ex (fun K hK => ?_); refine ⟨fun W hC hd R hR => ?_, ?_⟩; (clear hd; go_simp; exact hR _ _ (Below.refl _ _) rfl); (go_simp; refine hK _ ?_; clear hK K))
  (refine walkB_ex (fun K hK => ?_); refine ⟨fun W hC hd R hR => ?_, ?_⟩; (clear hd; go_simp; exact hR _ _ (Below.refl _ _) rfl); (go_simp; refine hK _ ?_; clear hK K))
  (refine walkB_ex (fun K hK => ?_); refine ⟨fun W hC hd R hR => ?_, ?_⟩; (clear hd; go_simp; exact hR _ _ (Below.refl _ _) rfl); (go_simp; refine hK _ ?_; clear hK K))
  (refine walkB_pr (fun K hK => ?_); refine ⟨fun W hC hd R hR => ?_, fun v18 => ?_⟩; (clear hd; go_simp; go_at_call 37; refine (keepnew_any _).mono ?_; rintro e w9 ⟨v9, rfl, hr9, hb9⟩; obtain ⟨a9, c9, rfl, _⟩ := Sl.form hr9; exact ⟨_, rfl, hR _ _ hb9 ⟨_, _, rfl, cells_true hr9⟩⟩); (go_simp; refine hK _ _ ?_; clear hK K))
  (refine walkB_pr (fun K hK => ?_); refine ⟨fun W hC hd R hR => ?_, fun v19 => ?_⟩; (clear hd; have hmk := made4; have HR4 := Lib.hid (cells_true (made4_rd W)); go_simp; exact hR _ _ (bel_alloc (Below.refl _ _) _) ⟨_, _, rfl, HR4.out⟩); (go_simp; refine hK _ _ ?_; clear hK K))
  (refine walkB_ex (fun K hK => ?_); refine ⟨fun W hC hd R hR => ?_, ?_⟩; (have h18 : ∃ a c, v18 = .slice a newCells.length c ∧ RdCells W (fun _ => True) v18 newCells := hd 18 (by decide); have h19 : ∃ a c, v19 = .slice a newCells.length c ∧ RdCells W (fun _ => True) v19 newCells := hd 19 (by decide); obtain ⟨a8, c8, rfl, h18⟩ := h18; obtain ⟨a9, c9, rfl, h19⟩ := h19; have H18 := Lib.hid h18; have H19 := Lib.hid h19; clear h18 h19; clear hd; go_simp; go_at_call 36; refine (rkeepsame_any _ _ newCells newCells _ H18.out H19.out).mono ?_; rw [decide_eq_true (rfl : newCells = newCells)]; rintro e w9 ⟨rfl, hb9⟩; exact ⟨_, rfl, hR _ _ hb9 rfl⟩); (go_simp; refine hK _ ?_; clear hK K))
  (refine walkB_ex (fun K hK => ?_); refine ⟨fun W hC hd R hR => ?_, ?_⟩; (clear hd; go_simp; exact hR _ _ (Below.refl _ _) rfl); (go_simp; refine hK _ ?_; clear hK K))
  (refine walkB_ex (fun K hK => ?_); refine ⟨fun W hC hd R hR => ?_, ?_⟩; (clear hd; go_simp; exact hR _ _ (Below.refl _ _) rfl); (go_simp; refine hK _ ?_; clear hK K))
  (refine walkB_ex (fun K hK => ?_); refine ⟨fun W hC hd R hR => ?_, ?_⟩; (clear hd; go_simp; exact hR _ _ (Below.refl _ _) rfl); (go_simp; refine hK _ ?_; clear hK K))
  (refine walkB_ex (fun K hK => ?_); refine ⟨fun W hC hd R hR => ?_, ?_⟩; (clear hd; go_simp; exact hR _ _ (Below.refl _ _) rfl); (go_simp; refine hK _ ?_; clear hK K))
  (refine walkB_ex (fun K hK => ?_); refine ⟨fun W hC hd R hR => ?_, ?_⟩; (clear hd; go_simp; exact hR _ _ (Below.refl _ _) rfl); (go_simp; refine hK _ ?_; clear hK K))
  (refine walkB_ex (fun K hK => ?_); refine ⟨fun W hC hd R hR => ?_, ?_⟩; (clear hd; go_simp; exact hR _ _ (Below.refl _ _) rfl); (go_simp; refine hK _ ?_; clear hK K))
  (refine walkB_ex (fun K hK => ?_); refine ⟨fun W hC hd R hR => ?_, ?_⟩; (clear hd; go_simp; exact hR _ _ (Below.refl _ _) rfl); (go_simp; refine hK _ ?_; clear hK K))
  (refine walkB_ex (fun K hK => ?_); refine ⟨fun W hC hd R hR => ?_, ?_⟩; (clear hd; go_simp; exact hR _ _ (Below.refl _ _) rfl); (go_simp; refine hK _ ?_; clear hK K))
  (refine walkB_ex (fun K hK => ?_); refine ⟨fun W hC hd R hR => ?_, ?_⟩; (clear hd; go_simp; exact hR _ _ (Below.refl _ _) rfl); (go_simp; refine hK _ ?_; clear hK K))
  (refine walkB_ex (fun K hK => ?_); refine ⟨fun W hC hd R hR => ?_, ?_⟩; (have H1W := Lib.hid (Hr12.out.below hC.2); have H3W := Lib.hid (Hr2.out.below hC.2); clear hd; go_simp; go_at_call 36; refine (rkeepsame_any _ _ N N _ H1W.out H3W.out).mono ?_; rw [decide_eq_true (rfl : N = N)]; rintro e w9 ⟨rfl, hb9⟩; exact ⟨_, rfl, hR _ _ hb9 rfl⟩); (go_simp; refine hK _ ?_; clear hK K))
  (refine walkB_ex (fun K hK => ?_); refine ⟨fun W hC hd R hR => ?_, ?_⟩; (clear hd; go_simp; exact hR _ _ (Below.refl _ _) rfl); (go_simp; refine hK _ ?_; clear hK K))
  (refine walkB_ex (fun K hK => ?_); refine ⟨fun W hC hd R hR => ?_, ?_⟩; (clear hd; go_simp; exact hR _ _ (Below.refl _ _) rfl); (go_simp; refine hK _ ?_; clear hK K))
  intro w7 hC _
  have HBf := Lib.hid (bel_call HB.out hC.2)
  clear hC
  go_wp2
  go_ret
  exact ⟨rfl, HBf.out⟩
end Go.Proofs.YtkiipnbjckdlbaaGreatDoor
