/- TextSays returns true at every policy and string. Condition: Laid, with the table of blanks. -/
import Derived.Test.YthkgjohhbdipcaaDoorK7
import Derived.Test.YthkgjohhbdipcaaDoorK3
namespace Go.Proofs.YthkgjohhbdipcaaDoor
open Go.RowKit

set_option maxRecDepth 100000 in
set_option maxHeartbeats 16000000 in
theorem textSays_walk {w : World} (hL : LaidF w) (u0 : Value) (t0 : TPol) (rd0 : RdRules w (fun _ => True) u0 t0.rules) (s : ByteArray) (ws : s.size ≤ maxLen) :
    Calls Tryd.prog 6 #[polV u0 t0.dflt, .string s] w fun e w' => e = .returned (.bool true) ∧ Below w.heap.size w w' := by
  have HL := Lib.hid hL
  have H0 := Lib.hid rd0
  obtain ⟨a0, c0, rfl, _⟩ := Sl.form rd0
  obtain ⟨L, rfl⟩ : ∃ L, s = bsL L := ⟨s.data.toList, by cases s; simp [bsL]⟩
  have hsz : (bsL L).size = L.length := by simp [bsL, ByteArray.size]
  clear hL rd0 ws
  go_enter Tryd.func6, Tryd.ntmps6
  go_wp2_with fail
  have HB := Lib.hid (Bx.one (w := w) (o := .cells #[.slice a0 t0.rules.length c0, .int .i64 t0.dflt] 24))
  refine (tprint_any _ t0 _ _ (RdRules.below H0.out HB.out.bel) (HL.out.below HB.out.bel).base).mono ?_
  rintro e w1 ⟨rfl, hb1⟩
  have HB1 := Lib.hid (HB.out.below hb1)
  clear hb1 HB
  go_wp2_with fail
  refine (parse_any L _ (HL.out.below HB1.out.bel).base).mono ?_
  obtain ⟨⟨X, xe⟩, hX⟩ : ∃ E, textE L = E := ⟨_, rfl⟩
  have HX := Lib.hid hX
  rw [hX]
  rintro e w2 ⟨vx, rfl, hrx, hbx⟩
  dsimp only at hrx
  obtain ⟨ax, cx, rfl, _⟩ := Sl.form hrx
  have HBx := Lib.hid (HB1.out.below hbx)
  have HC := Lib.hid (Bx.one (w := w2) (o := .cells #[.slice ax X.rules.length cx, .int .i64 X.dflt] 24))
  have HB2 := Lib.hid (HBx.out.below HC.out.bel)
  have Hrx := Lib.hid (rules_true (RdRules.below hrx HC.out.bel))
  have hq0 := HB2.out.cells0
  clear hX hrx hbx HBx HB1
  dsimp only
  go_wp2_with fail
  clear hq0
  refine (rpolcheck_any _ t0 _ _ (RdRules.below H0.out HB2.out.bel)).mono ?_
  rintro e w3 ⟨rfl, hb3⟩
  have HB3 := Lib.hid (HB2.out.below hb3)
  have HC3 := Lib.hid (HC.out.below hb3)
  have Hrx3 := Lib.hid (RdRules.below Hrx.out hb3)
  clear hb3 HB2 HC Hrx
  by_cases h0 : polE t0 = 0
  · have HP0 : Hid (printE t0 = (textP t0, 0)) := if_pos h0
    have Hk0 : Hid (OkPol t0) := (okPol_iff t0).1 h0
    have hcmp : ((bsL (textP t0)).toList == (bsL (textP t0)).toList) = true := beq_self_eq_true _
    have hcmp2 : ((bsL (textP t0)).toList != (bsL (textP t0)).toList) = false := bne_self_eq_false _
    rw [h0, HP0.out]
    dsimp only
    clear h0
    have hq0 := HB3.out.cells0
    go_wp2_with fail
    clear hq0
    refine (ptext_any _ t0 _ _ (RdRules.below H0.out HB3.out.bel) Hk0.out (HL.out.below HB3.out.bel)).mono ?_
    rintro e w4 ⟨rfl, hb4⟩
    have HB4 := Lib.hid (HB3.out.below hb4)
    have HC4 := Lib.hid (HC3.out.below hb4)
    have Hrx4 := Lib.hid (RdRules.below Hrx3.out hb4)
    clear hb4
    go_wp2_with fail
    refine (worded_walk _ (HL.out.below HB4.out.bel).base).mono ?_
    rintro e w5 ⟨rfl, hb5⟩
    have HB5 := Lib.hid (HB4.out.below hb5)
    have HC5 := Lib.hid (HC4.out.below hb5)
    have Hrx5 := Lib.hid (RdRules.below Hrx4.out hb5)
    clear hb5
    by_cases hl : 60000 < L.length
    · have HE : Hid ((X, xe) = (⟨[], 0⟩, 2)) := by show _ = _; rw [← HX.out]; unfold textE; rw [if_pos hl]
      obtain ⟨rfl, rfl⟩ : X = ⟨[], 0⟩ ∧ xe = 2 := by have := HE.out; simpa using this
      have hl' : (60000 : Int) < (L.length : Int) := by omega
      have hqc := HC5.out.cells0
      clear hl HE
      go_wp2_with fail
      clear hqc
      refine (rsame_any _ _ ⟨[], 0⟩ ⟨[], 0⟩ (fun _ => True) _ Hrx5.out (nil_rulesP _ _)).mono ?_
      rw [decide_eq_true (rfl : (⟨[], 0⟩ : TPol) = ⟨[], 0⟩)]
      rintro e w6 ⟨rfl, hb6⟩
      have HBf := Lib.hid (HB5.out.below hb6).bel
      clear hb6
      go_wp2
      go_ret
      exact ⟨rfl, HBf.out⟩
    · have hl' : ¬ (60000 : Int) < (L.length : Int) := by omega
      have HE : Hid (readP L = (X, xe)) := by show _ = _; rw [← HX.out]; exact (textE_short (by omega)).symm
      have Hl : Hid (L.length ≤ 60000) := by show _ ≤ _; omega
      clear hl
      go_wp2_with fail
      refine (read_walk (bsL L) _ (HL.out.below HB5.out.bel).base (by rw [hsz]; have := Hl.out; omega) (by rw [hsz]; have := Hl.out; omega)).mono ?_
      rw [bsL_toList, HE.out]
      rintro e w6 ⟨vy, rfl, hry, hby⟩
      dsimp only at hry
      obtain ⟨ay, cy, rfl, _⟩ := Sl.form hry
      have HB6 := Lib.hid (HB5.out.below hby)
      have HC6 := Lib.hid (HC5.out.below hby)
      have Hrx6 := Lib.hid (RdRules.below Hrx5.out hby)
      have HD := Lib.hid (Bx.one (w := w6) (o := .cells #[.slice ay X.rules.length cy, .int .i64 X.dflt] 24))
      have HB7 := Lib.hid (HB6.out.below HD.out.bel)
      have HC7 := Lib.hid (HC6.out.below HD.out.bel)
      have Hrx7 := Lib.hid (RdRules.below Hrx6.out HD.out.bel)
      have Hry := Lib.hid (rules_true (RdRules.below hry HD.out.bel))
      have hqc := HC7.out.cells0
      have hqd := HD.out.cells0
      have hee : (xe == xe) = true := beq_self_eq_true _
      clear hry hby HB6 HC6 Hrx6 HX HE
      dsimp only
      go_wp2_with fail
      clear hqc hqd hee
      refine (rsame_any _ _ X X (fun _ => True) _ Hrx7.out Hry.out).mono ?_
      rw [decide_eq_true (rfl : X = X)]
      rintro e w8 ⟨rfl, hb8⟩
      have HBf := Lib.hid (HB7.out.below hb8).bel
      clear hb8
      go_wp2
      go_ret
      exact ⟨rfl, HBf.out⟩
  · have hne : (polE t0 == 0) = false := beq_eq_false_iff_ne.2 h0
    have hnn : (polE t0 != polE t0) = false := bne_self_eq_false _
    have HP0 : Hid (printE t0 = ([], polE t0)) := if_neg h0
    have hs1 : (bsL []).toList = [] := by rw [ByteArray.toList_eq]; rfl
    rw [HP0.out]
    dsimp only
    generalize polE t0 = E0 at *
    clear h0
    go_wp2_with fail
    refine (worded_walk _ (HL.out.below HB3.out.bel).base).mono ?_
    rintro e w5 ⟨rfl, hb5⟩
    have HB5 := Lib.hid (HB3.out.below hb5)
    have HC5 := Lib.hid (HC3.out.below hb5)
    have Hrx5 := Lib.hid (RdRules.below Hrx3.out hb5)
    clear hb5
    by_cases hl : 60000 < L.length
    · have HE : Hid ((X, xe) = (⟨[], 0⟩, 2)) := by show _ = _; rw [← HX.out]; unfold textE; rw [if_pos hl]
      obtain ⟨rfl, rfl⟩ : X = ⟨[], 0⟩ ∧ xe = 2 := by have := HE.out; simpa using this
      have hl' : (60000 : Int) < (L.length : Int) := by omega
      have hqc := HC5.out.cells0
      clear hl HE
      go_wp2_with fail
      clear hqc
      refine (rsame_any _ _ ⟨[], 0⟩ ⟨[], 0⟩ (fun _ => True) _ Hrx5.out (nil_rulesP _ _)).mono ?_
      rw [decide_eq_true (rfl : (⟨[], 0⟩ : TPol) = ⟨[], 0⟩)]
      rintro e w6 ⟨rfl, hb6⟩
      have HBf := Lib.hid (HB5.out.below hb6).bel
      clear hb6
      go_wp2
      go_ret
      exact ⟨rfl, HBf.out⟩
    · have hl' : ¬ (60000 : Int) < (L.length : Int) := by omega
      have HE : Hid (readP L = (X, xe)) := by show _ = _; rw [← HX.out]; exact (textE_short (by omega)).symm
      have Hl : Hid (L.length ≤ 60000) := by show _ ≤ _; omega
      clear hl
      go_wp2_with fail
      refine (read_walk (bsL L) _ (HL.out.below HB5.out.bel).base (by rw [hsz]; have := Hl.out; omega) (by rw [hsz]; have := Hl.out; omega)).mono ?_
      rw [bsL_toList, HE.out]
      rintro e w6 ⟨vy, rfl, hry, hby⟩
      dsimp only at hry
      obtain ⟨ay, cy, rfl, _⟩ := Sl.form hry
      have HB6 := Lib.hid (HB5.out.below hby)
      have HC6 := Lib.hid (HC5.out.below hby)
      have Hrx6 := Lib.hid (RdRules.below Hrx5.out hby)
      have HD := Lib.hid (Bx.one (w := w6) (o := .cells #[.slice ay X.rules.length cy, .int .i64 X.dflt] 24))
      have HB7 := Lib.hid (HB6.out.below HD.out.bel)
      have HC7 := Lib.hid (HC6.out.below HD.out.bel)
      have Hrx7 := Lib.hid (RdRules.below Hrx6.out HD.out.bel)
      have Hry := Lib.hid (rules_true (RdRules.below hry HD.out.bel))
      have hqc := HC7.out.cells0
      have hqd := HD.out.cells0
      have hee : (xe == xe) = true := beq_self_eq_true _
      clear hry hby HB6 HC6 Hrx6 HX HE
      dsimp only
      go_wp2_with fail
      clear hqc hqd hee
      refine (rsame_any _ _ X X (fun _ => True) _ Hrx7.out Hry.out).mono ?_
      rw [decide_eq_true (rfl : X = X)]
      rintro e w8 ⟨rfl, hb8⟩
      have HBf := Lib.hid (HB7.out.below hb8).bel
      clear hb8
      go_wp2
      go_ret
      exact ⟨rfl, HBf.out⟩
end Go.Proofs.YthkgjohhbdipcaaDoor
