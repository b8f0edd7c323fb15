/- MeetSays returns true at every two policies. Condition: LaidF. -/
import Derived.Test.YtioeliocdbckbaaGreatDoorK7
import Derived.Test.YtioeliocdbckbaaGreatDoorK11
namespace Go.Proofs.YtioeliocdbckbaaGreatDoor
open Go.RowKit

set_option maxRecDepth 100000 in
set_option maxHeartbeats 16000000 in
theorem meetSays_walk {w : World} (hL : LaidF w) (u0 : Value) (t0 : TPol) (rd0 : RdRules w (fun _ => True) u0 t0.rules) (u1 : Value) (t1 : TPol) (rd1 : RdRules w (fun _ => True) u1 t1.rules) :
    Calls Tryz.prog 8 #[polV u0 t0.dflt, polV u1 t1.dflt] w fun e w' => e = .returned (.bool true) ∧ Below w.heap.size w w' := by
  have HL := Lib.hid hL
  have H0 := Lib.hid rd0
  have H1 := Lib.hid rd1
  obtain ⟨a0, c0, rfl, _⟩ := Sl.form rd0
  obtain ⟨a1, c1, rfl, _⟩ := Sl.form rd1
  clear hL rd0 rd1
  go_enter Tryz.func8, Tryz.ntmps8
  go_wp2_with fail
  have HB := Lib.hid (Bx.two (w := w) (o := .cells #[.slice a0 t0.rules.length c0, .int .i64 t0.dflt] 24) (o' := .cells #[.slice a1 t1.rules.length c1, .int .i64 t1.dflt] 24))
  obtain ⟨⟨A, Ae⟩, hA⟩ : ∃ E, pairE minOf t0 t1 = E := ⟨_, rfl⟩
  obtain ⟨⟨B, Be⟩, hB⟩ : ∃ E, pairE exceptOf t0 t1 = E := ⟨_, rfl⟩
  obtain ⟨⟨C, Ce⟩, hC⟩ : ∃ E, shortE t0 = E := ⟨_, rfl⟩
  have HA := Lib.hid hA
  have HB0 := Lib.hid hB
  have HC0 := Lib.hid hC
  clear hA hB hC
  refine (meet_any _ _ t0 t1 _ (H0.out.below HB.out.bel) (H1.out.below HB.out.bel)).mono ?_
  rw [HA.out]
  rintro e w1 ⟨rA, rfl, hrA, hb1⟩
  replace HB := Lib.hid (HB.out.below hb1)
  have RA := Lib.hid (rules_true hrA)
  obtain ⟨aA, cA, rfl, _⟩ := Sl.form hrA
  clear hrA hb1
  have HCA := Lib.hid (Bx.one (w := w1) (o := .cells #[.slice aA A.rules.length cA, .int .i64 A.dflt] 24))
  replace RA := Lib.hid (RA.out.below HCA.out.bel)
  replace HB := Lib.hid (HB.out.below HCA.out.bel)
  have hq0 := HB.out.cells0
  have hq1 := HB.out.cells1
  go_wp2_with fail
  clear hq0 hq1
  revert HCA RA HB
  generalize (w1.alloc (.cells #[.slice aA A.rules.length cA, .int .i64 A.dflt] 24)) = w2
  intro HCA RA HB
  refine (exceptPol_any _ _ t0 t1 _ (H0.out.below HB.out.bel) (H1.out.below HB.out.bel)).mono ?_
  rw [HB0.out]
  rintro e w3 ⟨rB, rfl, hrB, hb3⟩
  replace HB := Lib.hid (HB.out.below hb3)
  replace RA := Lib.hid (RA.out.below hb3)
  replace HCA := Lib.hid (HCA.out.below hb3)
  have RB := Lib.hid (rules_true hrB)
  obtain ⟨aB, cB, rfl, _⟩ := Sl.form hrB
  clear hrB hb3
  have HCB := Lib.hid (Bx.one (w := w3) (o := .cells #[.slice aB B.rules.length cB, .int .i64 B.dflt] 24))
  replace RB := Lib.hid (RB.out.below HCB.out.bel)
  replace HB := Lib.hid (HB.out.below HCB.out.bel)
  replace RA := Lib.hid (RA.out.below HCB.out.bel)
  replace HCA := Lib.hid (HCA.out.below HCB.out.bel)
  have hq0 := HB.out.cells0
  have hq1 := HB.out.cells1
  have hqHCA := HCA.out.cells0
  go_wp2_with fail
  clear hq0 hq1 hqHCA
  revert HCB RB HB RA HCA
  generalize (w3.alloc (.cells #[.slice aB B.rules.length cB, .int .i64 B.dflt] 24)) = w4
  intro HCB RB HB RA HCA
  refine (short_any _ t0 _ (H0.out.below HB.out.bel)).mono ?_
  rw [HC0.out]
  rintro e w5 ⟨rC, rfl, hrC, hb5⟩
  replace HB := Lib.hid (HB.out.below hb5)
  replace RA := Lib.hid (RA.out.below hb5)
  replace HCA := Lib.hid (HCA.out.below hb5)
  replace RB := Lib.hid (RB.out.below hb5)
  replace HCB := Lib.hid (HCB.out.below hb5)
  have RC := Lib.hid (rules_true hrC)
  obtain ⟨aC, cC, rfl, _⟩ := Sl.form hrC
  clear hrC hb5
  have HCC := Lib.hid (Bx.one (w := w5) (o := .cells #[.slice aC C.rules.length cC, .int .i64 C.dflt] 24))
  replace RC := Lib.hid (RC.out.below HCC.out.bel)
  replace HB := Lib.hid (HB.out.below HCC.out.bel)
  replace RA := Lib.hid (RA.out.below HCC.out.bel)
  replace HCA := Lib.hid (HCA.out.below HCC.out.bel)
  replace RB := Lib.hid (RB.out.below HCC.out.bel)
  replace HCB := Lib.hid (HCB.out.below HCC.out.bel)
  have hq0 := HB.out.cells0
  have hq1 := HB.out.cells1
  have hqHCA := HCA.out.cells0
  have hqHCB := HCB.out.cells0
  go_wp2_with fail
  clear hq0 hq1 hqHCA hqHCB
  revert HCC RC HB RA HCA RB HCB
  generalize (w5.alloc (.cells #[.slice aC C.rules.length cC, .int .i64 C.dflt] 24)) = w6
  intro HCC RC HB RA HCA RB HCB
  refine (rboth_any false _ _ t0 t1 _ (H0.out.below HB.out.bel) (H1.out.below HB.out.bel)).mono ?_
  rw [bothOf_false, HA.out]
  rintro e w7 ⟨rD, rfl, hrD, hb7⟩
  replace HB := Lib.hid (HB.out.below hb7)
  replace RA := Lib.hid (RA.out.below hb7)
  replace HCA := Lib.hid (HCA.out.below hb7)
  replace RB := Lib.hid (RB.out.below hb7)
  replace HCB := Lib.hid (HCB.out.below hb7)
  replace RC := Lib.hid (RC.out.below hb7)
  replace HCC := Lib.hid (HCC.out.below hb7)
  have RD := Lib.hid (rules_true hrD)
  obtain ⟨aD, cD, rfl, _⟩ := Sl.form hrD
  clear hrD hb7
  have HCD := Lib.hid (Bx.one (w := w7) (o := .cells #[.slice aD A.rules.length cD, .int .i64 A.dflt] 24))
  replace RD := Lib.hid (RD.out.below HCD.out.bel)
  replace HB := Lib.hid (HB.out.below HCD.out.bel)
  replace RA := Lib.hid (RA.out.below HCD.out.bel)
  replace HCA := Lib.hid (HCA.out.below HCD.out.bel)
  replace RB := Lib.hid (RB.out.below HCD.out.bel)
  replace HCB := Lib.hid (HCB.out.below HCD.out.bel)
  replace RC := Lib.hid (RC.out.below HCD.out.bel)
  replace HCC := Lib.hid (HCC.out.below HCD.out.bel)
  have hq0 := HB.out.cells0
  have hq1 := HB.out.cells1
  have hqHCA := HCA.out.cells0
  have hqHCB := HCB.out.cells0
  have hqHCC := HCC.out.cells0
  go_wp2_with fail
  clear hq0 hq1 hqHCA hqHCB hqHCC
  revert HCD RD HB RA HCA RB HCB RC HCC
  generalize (w7.alloc (.cells #[.slice aD A.rules.length cD, .int .i64 A.dflt] 24)) = w8
  intro HCD RD HB RA HCA RB HCB RC HCC
  refine (rboth_any true _ _ t0 t1 _ (H0.out.below HB.out.bel) (H1.out.below HB.out.bel)).mono ?_
  rw [bothOf_true, HB0.out]
  rintro e w9 ⟨rE, rfl, hrE, hb9⟩
  replace HB := Lib.hid (HB.out.below hb9)
  replace RA := Lib.hid (RA.out.below hb9)
  replace HCA := Lib.hid (HCA.out.below hb9)
  replace RB := Lib.hid (RB.out.below hb9)
  replace HCB := Lib.hid (HCB.out.below hb9)
  replace RC := Lib.hid (RC.out.below hb9)
  replace HCC := Lib.hid (HCC.out.below hb9)
  replace RD := Lib.hid (RD.out.below hb9)
  replace HCD := Lib.hid (HCD.out.below hb9)
  have RE := Lib.hid (rules_true hrE)
  obtain ⟨aE, cE, rfl, _⟩ := Sl.form hrE
  clear hrE hb9
  have HCE := Lib.hid (Bx.one (w := w9) (o := .cells #[.slice aE B.rules.length cE, .int .i64 B.dflt] 24))
  replace RE := Lib.hid (RE.out.below HCE.out.bel)
  replace HB := Lib.hid (HB.out.below HCE.out.bel)
  replace RA := Lib.hid (RA.out.below HCE.out.bel)
  replace HCA := Lib.hid (HCA.out.below HCE.out.bel)
  replace RB := Lib.hid (RB.out.below HCE.out.bel)
  replace HCB := Lib.hid (HCB.out.below HCE.out.bel)
  replace RC := Lib.hid (RC.out.below HCE.out.bel)
  replace HCC := Lib.hid (HCC.out.below HCE.out.bel)
  replace RD := Lib.hid (RD.out.below HCE.out.bel)
  replace HCD := Lib.hid (HCD.out.below HCE.out.bel)
  have hq0 := HB.out.cells0
  have hq1 := HB.out.cells1
  have hqHCA := HCA.out.cells0
  have hqHCB := HCB.out.cells0
  have hqHCC := HCC.out.cells0
  have hqHCD := HCD.out.cells0
  go_wp2_with fail
  clear hq0 hq1 hqHCA hqHCB hqHCC hqHCD
  revert HCE RE HB RA HCA RB HCB RC HCC RD HCD
  generalize (w9.alloc (.cells #[.slice aE B.rules.length cE, .int .i64 B.dflt] 24)) = w10
  intro HCE RE HB RA HCA RB HCB RC HCC RD HCD
  refine (rshort_any _ t0 _ _ (H0.out.below HB.out.bel)).mono ?_
  rw [HC0.out]
  rintro e w11 ⟨rF, rfl, hrF, hb11⟩
  replace HB := Lib.hid (HB.out.below hb11)
  replace RA := Lib.hid (RA.out.below hb11)
  replace HCA := Lib.hid (HCA.out.below hb11)
  replace RB := Lib.hid (RB.out.below hb11)
  replace HCB := Lib.hid (HCB.out.below hb11)
  replace RC := Lib.hid (RC.out.below hb11)
  replace HCC := Lib.hid (HCC.out.below hb11)
  replace RD := Lib.hid (RD.out.below hb11)
  replace HCD := Lib.hid (HCD.out.below hb11)
  replace RE := Lib.hid (RE.out.below hb11)
  replace HCE := Lib.hid (HCE.out.below hb11)
  have RF := Lib.hid (rules_true hrF)
  obtain ⟨aF, cF, rfl, _⟩ := Sl.form hrF
  clear hrF hb11
  have HCF := Lib.hid (Bx.one (w := w11) (o := .cells #[.slice aF C.rules.length cF, .int .i64 C.dflt] 24))
  replace RF := Lib.hid (RF.out.below HCF.out.bel)
  replace HB := Lib.hid (HB.out.below HCF.out.bel)
  replace RA := Lib.hid (RA.out.below HCF.out.bel)
  replace HCA := Lib.hid (HCA.out.below HCF.out.bel)
  replace RB := Lib.hid (RB.out.below HCF.out.bel)
  replace HCB := Lib.hid (HCB.out.below HCF.out.bel)
  replace RC := Lib.hid (RC.out.below HCF.out.bel)
  replace HCC := Lib.hid (HCC.out.below HCF.out.bel)
  replace RD := Lib.hid (RD.out.below HCF.out.bel)
  replace HCD := Lib.hid (HCD.out.below HCF.out.bel)
  replace RE := Lib.hid (RE.out.below HCF.out.bel)
  replace HCE := Lib.hid (HCE.out.below HCF.out.bel)
  have hq0 := HB.out.cells0
  have hq1 := HB.out.cells1
  have hqHCA := HCA.out.cells0
  have hqHCB := HCB.out.cells0
  have hqHCC := HCC.out.cells0
  have hqHCD := HCD.out.cells0
  have hqHCE := HCE.out.cells0
  go_wp2_with fail
  clear hq0 hq1 hqHCA hqHCB hqHCC hqHCD hqHCE
  revert HCF RF HB RA HCA RB HCB RC HCC RD HCD RE HCE
  generalize (w11.alloc (.cells #[.slice aF C.rules.length cF, .int .i64 C.dflt] 24)) = w12
  intro HCF RF HB RA HCA RB HCB RC HCC RD HCD RE HCE
  refine (met_walk _ (HL.out.below HB.out.bel)).mono ?_
  rintro e w13 ⟨rfl, hb13⟩
  replace HB := Lib.hid (HB.out.below hb13)
  replace RA := Lib.hid (RA.out.below hb13)
  replace HCA := Lib.hid (HCA.out.below hb13)
  replace RB := Lib.hid (RB.out.below hb13)
  replace HCB := Lib.hid (HCB.out.below hb13)
  replace RC := Lib.hid (RC.out.below hb13)
  replace HCC := Lib.hid (HCC.out.below hb13)
  replace RD := Lib.hid (RD.out.below hb13)
  replace HCD := Lib.hid (HCD.out.below hb13)
  replace RE := Lib.hid (RE.out.below hb13)
  replace HCE := Lib.hid (HCE.out.below hb13)
  replace RF := Lib.hid (RF.out.below hb13)
  replace HCF := Lib.hid (HCF.out.below hb13)
  clear hb13
  have hq0 := HB.out.cells0
  have hq1 := HB.out.cells1
  have hqHCA := HCA.out.cells0
  have hqHCB := HCB.out.cells0
  have hqHCC := HCC.out.cells0
  have hqHCD := HCD.out.cells0
  have hqHCE := HCE.out.cells0
  have hqHCF := HCF.out.cells0
  go_wp2_with fail
  clear hq0 hq1 hqHCA hqHCB hqHCC hqHCD hqHCE hqHCF
  refine (rsame_any _ _ A A (fun _ => True) _ RA.out RD.out).mono ?_
  rintro e w14 ⟨rfl, hb14⟩
  replace HB := Lib.hid (HB.out.below hb14)
  replace RA := Lib.hid (RA.out.below hb14)
  replace HCA := Lib.hid (HCA.out.below hb14)
  replace RB := Lib.hid (RB.out.below hb14)
  replace HCB := Lib.hid (HCB.out.below hb14)
  replace RC := Lib.hid (RC.out.below hb14)
  replace HCC := Lib.hid (HCC.out.below hb14)
  replace RD := Lib.hid (RD.out.below hb14)
  replace HCD := Lib.hid (HCD.out.below hb14)
  replace RE := Lib.hid (RE.out.below hb14)
  replace HCE := Lib.hid (HCE.out.below hb14)
  replace RF := Lib.hid (RF.out.below hb14)
  replace HCF := Lib.hid (HCF.out.below hb14)
  clear hb14
  rw [decide_eq_true (rfl : A = A)]
  have hq0 := HB.out.cells0
  have hq1 := HB.out.cells1
  have hqHCA := HCA.out.cells0
  have hqHCB := HCB.out.cells0
  have hqHCC := HCC.out.cells0
  have hqHCD := HCD.out.cells0
  have hqHCE := HCE.out.cells0
  have hqHCF := HCF.out.cells0
  go_wp2_with fail
  clear hq0 hq1 hqHCA hqHCB hqHCC hqHCD hqHCE hqHCF
  refine (rsame_any _ _ B B (fun _ => True) _ RB.out RE.out).mono ?_
  rintro e w15 ⟨rfl, hb15⟩
  replace HB := Lib.hid (HB.out.below hb15)
  replace RA := Lib.hid (RA.out.below hb15)
  replace HCA := Lib.hid (HCA.out.below hb15)
  replace RB := Lib.hid (RB.out.below hb15)
  replace HCB := Lib.hid (HCB.out.below hb15)
  replace RC := Lib.hid (RC.out.below hb15)
  replace HCC := Lib.hid (HCC.out.below hb15)
  replace RD := Lib.hid (RD.out.below hb15)
  replace HCD := Lib.hid (HCD.out.below hb15)
  replace RE := Lib.hid (RE.out.below hb15)
  replace HCE := Lib.hid (HCE.out.below hb15)
  replace RF := Lib.hid (RF.out.below hb15)
  replace HCF := Lib.hid (HCF.out.below hb15)
  clear hb15
  rw [decide_eq_true (rfl : B = B)]
  have hq0 := HB.out.cells0
  have hq1 := HB.out.cells1
  have hqHCA := HCA.out.cells0
  have hqHCB := HCB.out.cells0
  have hqHCC := HCC.out.cells0
  have hqHCD := HCD.out.cells0
  have hqHCE := HCE.out.cells0
  have hqHCF := HCF.out.cells0
  go_wp2_with fail
  clear hq0 hq1 hqHCA hqHCB hqHCC hqHCD hqHCE hqHCF
  refine (rsame_any _ _ C C (fun _ => True) _ RC.out RF.out).mono ?_
  rintro e w16 ⟨rfl, hb16⟩
  replace HB := Lib.hid (HB.out.below hb16)
  replace RA := Lib.hid (RA.out.below hb16)
  replace HCA := Lib.hid (HCA.out.below hb16)
  replace RB := Lib.hid (RB.out.below hb16)
  replace HCB := Lib.hid (HCB.out.below hb16)
  replace RC := Lib.hid (RC.out.below hb16)
  replace HCC := Lib.hid (HCC.out.below hb16)
  replace RD := Lib.hid (RD.out.below hb16)
  replace HCD := Lib.hid (HCD.out.below hb16)
  replace RE := Lib.hid (RE.out.below hb16)
  replace HCE := Lib.hid (HCE.out.below hb16)
  replace RF := Lib.hid (RF.out.below hb16)
  replace HCF := Lib.hid (HCF.out.below hb16)
  clear hb16
  rw [decide_eq_true (rfl : C = C)]
  have hq0 := HB.out.cells0
  have hq1 := HB.out.cells1
  have hqHCA := HCA.out.cells0
  have hqHCB := HCB.out.cells0
  have hqHCC := HCC.out.cells0
  have hqHCD := HCD.out.cells0
  have hqHCE := HCE.out.cells0
  have hqHCF := HCF.out.cells0
  go_wp2
  go_ret
  exact ⟨rfl, HB.out.bel⟩
end Go.Proofs.YtioeliocdbckbaaGreatDoor
