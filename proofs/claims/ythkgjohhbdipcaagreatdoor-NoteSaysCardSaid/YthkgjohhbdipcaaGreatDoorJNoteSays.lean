/- NoteSays returns true at every two records and string. Condition: LaidF. -/
import Derived.Test.YthkgjohhbdipcaaGreatDoorK10
import Derived.Test.YthkgjohhbdipcaaGreatDoorK11
namespace Go.Proofs.YthkgjohhbdipcaaGreatDoor
open Go.RowKit
attribute [local go_sem] gives givesUpon

set_option maxRecDepth 100000 in
set_option maxHeartbeats 16000000 in
theorem noteSays_walk {w : World} (hL : LaidF w) (v0 : Value) (t0 : TRec) (rd0 : RdRec w v0 t0) (v1 : Value) (t1 : TRec) (rd1 : RdRec w v1 t1) (s : ByteArray) (ws : s.size ≤ maxLen) :
    Calls Tryz.prog 5 #[v0, v1, .string s] w fun e w' => e = .returned (.bool true) ∧ Below w.heap.size w w' := by
  have HL := Lib.hid hL
  obtain ⟨u0, rfl, hr0⟩ := rd0
  obtain ⟨u1, rfl, hr1⟩ := rd1
  have H0 := Lib.hid hr0
  have H1 := Lib.hid hr1
  obtain ⟨a0, c0, rfl, _⟩ := Sl.form hr0
  obtain ⟨a1, c1, rfl, _⟩ := Sl.form hr1
  obtain ⟨L, rfl⟩ : ∃ L, s = bsL L := ⟨s.data.toList, by cases s; simp [bsL]⟩
  have hsz : (bsL L).size = L.length := by simp [bsL, ByteArray.size]
  clear hL hr0 hr1 ws
  obtain ⟨⟨PT, E⟩, hP⟩ : ∃ P, nprintE t0 = P := ⟨_, rfl⟩
  have HP := Lib.hid hP
  have HEc : Hid (recE t0 = E) := by
    show _ = _
    unfold nprintE at hP
    split at hP
    · rename_i h0; simp only [Prod.mk.injEq] at hP; rw [h0]; exact hP.2
    · simp only [Prod.mk.injEq] at hP; exact hP.2
  have Hee : Hid ((E != E) = false) := bne_self_eq_false _
  have Hss : Hid (((bsL PT).toList != (bsL PT).toList) = false) := bne_self_eq_false _
  obtain ⟨sm, hsm⟩ : ∃ b, decide (t0 = t1) = b := ⟨_, rfl⟩
  have Hsm := Lib.hid hsm
  have Hmm : Hid ((sm != sm) = false) := bne_self_eq_false _
  clear hP hsm
  go_enter Tryz.func5, Tryz.ntmps5
  go_wp2_with fail
  have HB := Lib.hid (Bx.two (w := w) (o := .cells #[.int .i64 t0.kind, .int .i64 t0.cell, .int .i64 t0.from_, .slice a0 t0.p.rules.length c0, .int .i64 t0.p.dflt] 56) (o' := .cells #[.int .i64 t1.kind, .int .i64 t1.cell, .int .i64 t1.from_, .slice a1 t1.p.rules.length c1, .int .i64 t1.p.dflt] 56))
  refine (nprint_any _ t0 _ _ (RdRules.below H0.out HB.out.bel) (HL.out.below HB.out.bel).base).mono ?_
  rw [HP.out]
  rintro e w1 ⟨rfl, hb1⟩
  have HB1 := Lib.hid (HB.out.below hb1)
  clear hb1 HB
  dsimp only
  go_wp2_with fail
  refine (nparse_any L _ (HL.out.below HB1.out.bel).base).mono ?_
  obtain ⟨⟨X, xe⟩, hX⟩ : ∃ P, nreadE L = P := ⟨_, rfl⟩
  have HX := Lib.hid hX
  rw [hX]
  rintro e w2 ⟨vx, rfl, hrx, hbx⟩
  dsimp only at hrx
  obtain ⟨ax, cx, rfl, _⟩ := Sl.form hrx
  have HBx := Lib.hid (HB1.out.below hbx)
  have HC := Lib.hid (Bx.one (w := w2) (o := .cells #[.int .i64 X.kind, .int .i64 X.cell, .int .i64 X.from_, .slice ax X.p.rules.length cx, .int .i64 X.p.dflt] 56))
  have HB2 := Lib.hid (HBx.out.below HC.out.bel)
  have Hrx := Lib.hid (rules_true (RdRules.below hrx HC.out.bel))
  have hq0 := HB2.out.cells0
  clear hX hrx hbx HBx HB1
  dsimp only
  go_wp2_with fail
  clear hq0
  refine (rrectext_any _ t0 _ _ (RdRules.below H0.out HB2.out.bel) (HL.out.below HB2.out.bel)).mono ?_
  rw [HP.out]
  rintro e w3 ⟨rfl, hb3⟩
  have HB3 := Lib.hid (HB2.out.below hb3)
  have HC3 := Lib.hid (HC.out.below hb3)
  have Hrx3 := Lib.hid (RdRules.below Hrx.out hb3)
  clear hb3 HB2 HC Hrx
  dsimp only
  go_wp2_with fail
  refine wp_region_B [ex (.bool true), ex (.bool false), ex (.bool false), ex (.agg #[.int .i64 t0.kind, .int .i64 t0.cell, .int .i64 t0.from_, .slice a0 t0.p.rules.length c0, .int .i64 t0.p.dflt]), ex (.int .i64 E), ex (.int .i64 E), ex (.bool false), ex (.bool false), ex (.bool false), ex (.int .i64 E), ex (.int .i64 E), ex (.bool false), ex (.bool false), ex (.bool false), ex (.string (bsL PT)), ex (.string (bsL PT)), ex (.bool false), ex (.bool false), ex (.bool false), ex (.agg #[.int .i64 t0.kind, .int .i64 t0.cell, .int .i64 t0.from_, .slice a0 t0.p.rules.length c0, .int .i64 t0.p.dflt]), ex (.agg #[.int .i64 t1.kind, .int .i64 t1.cell, .int .i64 t1.from_, .slice a1 t1.p.rules.length c1, .int .i64 t1.p.dflt]), ex (.bool sm), ex (.agg #[.int .i64 t0.kind, .int .i64 t0.cell, .int .i64 t0.from_, .slice a0 t0.p.rules.length c0, .int .i64 t0.p.dflt]), ex (.agg #[.int .i64 t1.kind, .int .i64 t1.cell, .int .i64 t1.from_, .slice a1 t1.p.rules.length c1, .int .i64 t1.p.dflt]), ex (.bool sm), ex (.bool false), ex (.bool false)] _ (Nat.le_refl _) (by kernel_rfl) (by kernel_rfl) ⟨.inl ⟨_, rfl⟩, .inl ⟨_, rfl⟩, .inl ⟨_, rfl⟩, .inl ⟨_, rfl⟩, .inl ⟨_, rfl⟩, .inl ⟨_, rfl⟩, .inl ⟨_, rfl⟩, .inl ⟨_, rfl⟩, .inl ⟨_, rfl⟩, .inl ⟨_, rfl⟩, .inl ⟨_, rfl⟩, .inl ⟨_, rfl⟩, .inl ⟨_, rfl⟩, .inl ⟨_, rfl⟩, .inl ⟨_, rfl⟩, .inl ⟨_, rfl⟩, .inl ⟨_, rfl⟩, .inl ⟨_, rfl⟩, .inl ⟨_, rfl⟩, .inl ⟨_, rfl⟩, .inl ⟨_, rfl⟩, .inl ⟨_, rfl⟩, .inl ⟨_, rfl⟩, .inl ⟨_, rfl⟩, .inl ⟨_, rfl⟩, .inl ⟨_, rfl⟩, .inl ⟨_, rfl⟩, trivial⟩ ?_
  (refine walkB_ex (fun K hK => ?_); refine ⟨fun W hC hd R hR => ?_, ?_⟩; (have HLW := Lib.hid (HL.out.below (HB3.out.below hC.2).bel).base; clear hd; go_simp; go_at_call 28; refine (noted_walk _ HLW.out).mono ?_; rintro e w9 ⟨rfl, hb9⟩; exact ⟨_, rfl, hR _ _ hb9 rfl⟩); (go_simp; refine hK _ ?_; clear hK K))
  (refine walkB_ex (fun K hK => ?_); refine ⟨fun W hC hd R hR => ?_, ?_⟩; (clear hd; go_simp; exact hR _ _ (Below.refl _ _) rfl); (go_simp; refine hK _ ?_; clear hK K))
  (refine walkB_ex (fun K hK => ?_); refine ⟨fun W hC hd R hR => ?_, ?_⟩; (clear hd; go_simp; exact hR _ _ (Below.refl _ _) rfl); (go_simp; refine hK _ ?_; clear hK K))
  (refine walkB_ex (fun K hK => ?_); refine ⟨fun W hC hd R hR => ?_, ?_⟩; (have hqa := (HB3.out.below hC.2).cells0; have hqb := (HB3.out.below hC.2).cells1; clear hd; go_simp; exact hR _ _ (Below.refl _ _) rfl); (go_simp; refine hK _ ?_; clear hK K))
  (refine walkB_ex (fun K hK => ?_); refine ⟨fun W hC hd R hR => ?_, ?_⟩; (have HR0 := Lib.hid (RdRules.below H0.out (HB3.out.below hC.2).bel); have HR1 := Lib.hid (RdRules.below H1.out (HB3.out.below hC.2).bel); clear hd; go_simp; go_at_call 29; refine (notecheck_any _ t0 _ _ HR0.out).mono ?_; rw [HEc.out]; rintro e w9 ⟨rfl, hb9⟩; exact ⟨_, rfl, hR _ _ hb9 rfl⟩); (go_simp; refine hK _ ?_; clear hK K))
  (refine walkB_ex (fun K hK => ?_); refine ⟨fun W hC hd R hR => ?_, ?_⟩; (clear hd; go_simp; exact hR _ _ (Below.refl _ _) rfl); (go_simp; refine hK _ ?_; clear hK K))
  (refine walkB_ex (fun K hK => ?_); refine ⟨fun W hC hd R hR => ?_, ?_⟩; (have hee := Hee.out; clear hd; go_simp; exact hR _ _ (Below.refl _ _) rfl); (go_simp; refine hK _ ?_; clear hK K))
  (refine walkB_ex (fun K hK => ?_); refine ⟨fun W hC hd R hR => ?_, ?_⟩; (clear hd; go_simp; exact hR _ _ (Below.refl _ _) rfl); (go_simp; refine hK _ ?_; clear hK K))
  (refine walkB_ex (fun K hK => ?_); refine ⟨fun W hC hd R hR => ?_, ?_⟩; (clear hd; go_simp; exact hR _ _ (Below.refl _ _) rfl); (go_simp; refine hK _ ?_; clear hK K))
  (refine walkB_ex (fun K hK => ?_); refine ⟨fun W hC hd R hR => ?_, ?_⟩; (clear hd; go_simp; exact hR _ _ (Below.refl _ _) rfl); (go_simp; refine hK _ ?_; clear hK K))
  (refine walkB_ex (fun K hK => ?_); refine ⟨fun W hC hd R hR => ?_, ?_⟩; (clear hd; go_simp; exact hR _ _ (Below.refl _ _) rfl); (go_simp; refine hK _ ?_; clear hK K))
  (refine walkB_ex (fun K hK => ?_); refine ⟨fun W hC hd R hR => ?_, ?_⟩; (have hee := Hee.out; clear hd; go_simp; exact hR _ _ (Below.refl _ _) rfl); (go_simp; refine hK _ ?_; clear hK K))
  (refine walkB_ex (fun K hK => ?_); refine ⟨fun W hC hd R hR => ?_, ?_⟩; (clear hd; go_simp; exact hR _ _ (Below.refl _ _) rfl); (go_simp; refine hK _ ?_; clear hK K))
  (refine walkB_ex (fun K hK => ?_); refine ⟨fun W hC hd R hR => ?_, ?_⟩; (clear hd; go_simp; exact hR _ _ (Below.refl _ _) rfl); (go_simp; refine hK _ ?_; clear hK K))
  (refine walkB_ex (fun K hK => ?_); refine ⟨fun W hC hd R hR => ?_, ?_⟩; (clear hd; go_simp; exact hR _ _ (Below.refl _ _) rfl); (go_simp; refine hK _ ?_; clear hK K))
  (refine walkB_ex (fun K hK => ?_); refine ⟨fun W hC hd R hR => ?_, ?_⟩; (clear hd; go_simp; exact hR _ _ (Below.refl _ _) rfl); (go_simp; refine hK _ ?_; clear hK K))
  (refine walkB_ex (fun K hK => ?_); refine ⟨fun W hC hd R hR => ?_, ?_⟩; (have hss := Hss.out; clear hd; go_simp; exact hR _ _ (Below.refl _ _) rfl); (go_simp; refine hK _ ?_; clear hK K))
  (refine walkB_ex (fun K hK => ?_); refine ⟨fun W hC hd R hR => ?_, ?_⟩; (clear hd; go_simp; exact hR _ _ (Below.refl _ _) rfl); (go_simp; refine hK _ ?_; clear hK K))
  (refine walkB_ex (fun K hK => ?_); refine ⟨fun W hC hd R hR => ?_, ?_⟩; (clear hd; go_simp; exact hR _ _ (Below.refl _ _) rfl); (go_simp; refine hK _ ?_; clear hK K))
  (refine walkB_ex (fun K hK => ?_); refine ⟨fun W hC hd R hR => ?_, ?_⟩; (have hqa := (HB3.out.below hC.2).cells0; have hqb := (HB3.out.below hC.2).cells1; clear hd; go_simp; exact hR _ _ (Below.refl _ _) rfl); (go_simp; refine hK _ ?_; clear hK K))
  (refine walkB_ex (fun K hK => ?_); refine ⟨fun W hC hd R hR => ?_, ?_⟩; (have hqa := (HB3.out.below hC.2).cells0; have hqb := (HB3.out.below hC.2).cells1; clear hd; go_simp; exact hR _ _ (Below.refl _ _) rfl); (go_simp; refine hK _ ?_; clear hK K))
  (refine walkB_ex (fun K hK => ?_); refine ⟨fun W hC hd R hR => ?_, ?_⟩; (have HR0 := Lib.hid (RdRules.below H0.out (HB3.out.below hC.2).bel); have HR1 := Lib.hid (RdRules.below H1.out (HB3.out.below hC.2).bel); clear hd; go_simp; go_at_call 30; refine (nsame_any t0 t1 _ _ _ (rules_true HR0.out) (rules_true HR1.out)).mono ?_; rw [Hsm.out]; rintro e w9 ⟨rfl, hb9⟩; exact ⟨_, rfl, hR _ _ hb9 rfl⟩); (go_simp; refine hK _ ?_; clear hK K))
  (refine walkB_ex (fun K hK => ?_); refine ⟨fun W hC hd R hR => ?_, ?_⟩; (have hqa := (HB3.out.below hC.2).cells0; have hqb := (HB3.out.below hC.2).cells1; clear hd; go_simp; exact hR _ _ (Below.refl _ _) rfl); (go_simp; refine hK _ ?_; clear hK K))
  (refine walkB_ex (fun K hK => ?_); refine ⟨fun W hC hd R hR => ?_, ?_⟩; (have hqa := (HB3.out.below hC.2).cells0; have hqb := (HB3.out.below hC.2).cells1; clear hd; go_simp; exact hR _ _ (Below.refl _ _) rfl); (go_simp; refine hK _ ?_; clear hK K))
  (refine walkB_ex (fun K hK => ?_); refine ⟨fun W hC hd R hR => ?_, ?_⟩; (have HR0 := Lib.hid (RdRules.below H0.out (HB3.out.below hC.2).bel); have HR1 := Lib.hid (RdRules.below H1.out (HB3.out.below hC.2).bel); clear hd; go_simp; go_at_call 31; refine (rnsame_any t0 t1 _ _ _ (rules_true HR0.out) (rules_true HR1.out)).mono ?_; rw [Hsm.out]; rintro e w9 ⟨rfl, hb9⟩; exact ⟨_, rfl, hR _ _ hb9 rfl⟩); (go_simp; refine hK _ ?_; clear hK K))
  (refine walkB_ex (fun K hK => ?_); refine ⟨fun W hC hd R hR => ?_, ?_⟩; (have hmm := Hmm.out; clear hd; go_simp; exact hR _ _ (Below.refl _ _) rfl); (go_simp; refine hK _ ?_; clear hK K))
  (refine walkB_ex (fun K hK => ?_); refine ⟨fun W hC hd R hR => ?_, ?_⟩; (clear hd; go_simp; exact hR _ _ (Below.refl _ _) rfl); (go_simp; refine hK _ ?_; clear hK K))
  intro w5 hC5 _
  have HB5 := Lib.hid (HB3.out.below hC5.2)
  have HC5 := Lib.hid (HC3.out.below hC5.2)
  have Hrx5 := Lib.hid (RdRules.below Hrx3.out hC5.2)
  clear hC5 HB3 HC3 Hrx3
  have hqc := HC5.out.cells0
  by_cases hl : 60000 < L.length
  · have HE : Hid ((X, xe) = (⟨0, 0, 0, ⟨[], 0⟩⟩, 2)) := by show _ = _; rw [← HX.out]; exact if_pos hl
    obtain ⟨rfl, rfl⟩ : X = ⟨0, 0, 0, ⟨[], 0⟩⟩ ∧ xe = 2 := by have := HE.out; simpa using this
    have hl' : (60000 : Int) < (L.length : Int) := by omega
    clear hl HE
    go_wp2_with fail
    clear hqc
    refine (rnsame_any ⟨0, 0, 0, ⟨[], 0⟩⟩ ⟨0, 0, 0, ⟨[], 0⟩⟩ _ _ _ Hrx5.out (nil_rulesP _ _)).mono ?_
    rw [decide_eq_true (rfl : (⟨0, 0, 0, ⟨[], 0⟩⟩ : TRec) = ⟨0, 0, 0, ⟨[], 0⟩⟩)]
    rintro e w6 ⟨rfl, hb6⟩
    have HBf := Lib.hid (HB5.out.below hb6).bel
    clear hb6
    go_wp2
    go_ret
    exact ⟨rfl, HBf.out⟩
  · have hl' : ¬ (60000 : Int) < (L.length : Int) := by omega
    have HR : Hid (readRec L = (X, xe)) := by show _ = _; rw [← HX.out]; exact (nreadE_short (by omega)).symm
    have Hl : Hid (L.length ≤ 100000) := by show _ ≤ _; omega
    clear hl
    go_wp2_with fail
    clear hqc
    refine (rrecread_any L _ (HL.out.below HB5.out.bel).base Hl.out).mono ?_
    rw [HR.out]
    rintro e w6 ⟨vy, rfl, hry, hby⟩
    dsimp only at hry
    obtain ⟨ay, cy, rfl, _⟩ := Sl.form hry
    have HB6 := Lib.hid (HB5.out.below hby)
    have HC6 := Lib.hid (HC5.out.below hby)
    have Hrx6 := Lib.hid (RdRules.below Hrx5.out hby)
    have HD := Lib.hid (Bx.one (w := w6) (o := .cells #[.int .i64 X.kind, .int .i64 X.cell, .int .i64 X.from_, .slice ay X.p.rules.length cy, .int .i64 X.p.dflt] 56))
    have HB7 := Lib.hid (HB6.out.below HD.out.bel)
    have HC7 := Lib.hid (HC6.out.below HD.out.bel)
    have Hrx7 := Lib.hid (RdRules.below Hrx6.out HD.out.bel)
    have Hry := Lib.hid (rules_true (RdRules.below hry HD.out.bel))
    have hqc := HC7.out.cells0
    have hqd := HD.out.cells0
    have hee : (xe == xe) = true := beq_self_eq_true _
    clear hry hby HB6 HC6 Hrx6 HX HR
    dsimp only
    go_wp2_with fail
    clear hqc hqd hee
    refine (rnsame_any X X _ _ _ Hrx7.out Hry.out).mono ?_
    rw [decide_eq_true (rfl : X = X)]
    rintro e w8 ⟨rfl, hb8⟩
    have HBf := Lib.hid (HB7.out.below hb8).bel
    clear hb8
    go_wp2
    go_ret
    exact ⟨rfl, HBf.out⟩
end Go.Proofs.YthkgjohhbdipcaaGreatDoor
