/- MeetMeans returns true at every two policies and call. Condition: Laid, with the table of blanks. -/
import Derived.Test.YtioeliocdbckbaaGreatDoorK7
namespace Go.Proofs.YtioeliocdbckbaaGreatDoor
open Go.RowKit

set_option maxRecDepth 100000 in
set_option maxHeartbeats 16000000 in
theorem meetMeans_walk {w : World} (hL : LaidF w) (u0 : Value) (t0 : TPol) (rd0 : RdRules w (fun _ => True) u0 t0.rules) (u1 : Value) (t1 : TPol) (rd1 : RdRules w (fun _ => True) u1 t1.rules) (x : TCall) :
    Calls Tryz.prog 6 #[polV u0 t0.dflt, polV u1 t1.dflt, callV x] w fun e w' => e = .returned (.bool true) ∧ Below w.heap.size w w' := by
  have HL := Lib.hid hL
  have H0 := Lib.hid rd0
  have H1 := Lib.hid rd1
  obtain ⟨a0, c0, rfl, _⟩ := Sl.form rd0
  obtain ⟨a1, c1, rfl, _⟩ := Sl.form rd1
  clear hL rd0 rd1
  go_enter Tryz.func6, Tryz.ntmps6
  go_wp2_with fail
  have HB := Lib.hid (Bx.three (w := w) (o := .cells #[.slice a0 t0.rules.length c0, .int .i64 t0.dflt] 24) (o' := .cells #[.slice a1 t1.rules.length c1, .int .i64 t1.dflt] 24) (o2 := .cells #[.int .i64 x.a0, .int .i64 x.a1, .int .i64 x.a2, .int .i64 x.a3, .int .i64 x.a4] 26))
  refine (right_any x _).mono ?_
  rintro e w1 ⟨rfl, hb1⟩
  replace HB := Lib.hid (HB.out.below hb1)
  have hq0 := HB.out.cells0
  have hq1 := HB.out.cells1
  have hq2 := HB.out.cells2
  have hfr := HB.out.free2
  have HB1 := Lib.hid (HB.out.setCall2 (y := x.right))
  clear hb1
  have hset0 := HB1.out.cells0
  have hset1 := HB1.out.cells1
  have hset2 := HB1.out.cells2
  go_wp2_with fail
  clear hq0 hq1 hq2
  clear hfr hset0 hset1 hset2 HB
  revert HB1
  generalize (((((w1.setCell ⟨w.heap.size + 1 + 1, 0, none⟩ (.int .i64 x.right.a0)).setCell ⟨w.heap.size + 1 + 1, 1, none⟩ (.int .i64 x.right.a1)).setCell ⟨w.heap.size + 1 + 1, 2, none⟩ (.int .i64 x.right.a2)).setCell ⟨w.heap.size + 1 + 1, 3, none⟩ (.int .i64 x.right.a3)).setCell ⟨w.heap.size + 1 + 1, 4, none⟩ (.int .i64 x.right.a4)) = w2
  intro HB
  obtain ⟨⟨A, ea⟩, hA⟩ : ∃ E, pairE minOf t0 t1 = E := ⟨_, rfl⟩
  have HA := Lib.hid hA
  obtain ⟨⟨B, eb⟩, hB⟩ : ∃ E, pairE exceptOf t0 t1 = E := ⟨_, rfl⟩
  have HE := Lib.hid hB
  have heb : eb = ea := by have := pair_err keeps_except keeps_min (p := t0) (q := t1); rw [hA, hB] at this; exact this
  subst heb
  clear hA hB
  refine (meet_any _ _ t0 t1 _ (H0.out.below HB.out.bel) (H1.out.below HB.out.bel)).mono ?_
  rw [HA.out]
  rintro e w3 ⟨rA, rfl, hrA, hb3⟩
  replace HB := Lib.hid (HB.out.below hb3)
  have RA := Lib.hid (rules_true hrA)
  obtain ⟨aA, cA, rfl, _⟩ := Sl.form hrA
  clear hrA hb3
  have HCA := Lib.hid (Bx.one (w := w3) (o := .cells #[.slice aA A.rules.length cA, .int .i64 A.dflt] 24))
  replace RA := Lib.hid (RA.out.below HCA.out.bel)
  replace HB := Lib.hid (HB.out.below HCA.out.bel)
  have hq0 := HB.out.cells0
  have hq1 := HB.out.cells1
  have hq2 := HB.out.cells2
  go_wp2_with fail
  clear hq0 hq1 hq2
  revert HCA RA HB
  generalize (w3.alloc (.cells #[.slice aA A.rules.length cA, .int .i64 A.dflt] 24)) = w4
  intro HCA RA HB
  refine (exceptPol_any _ _ t0 t1 _ (H0.out.below HB.out.bel) (H1.out.below HB.out.bel)).mono ?_
  rw [HE.out]
  rintro e w5 ⟨rB, rfl, hrB, hb5⟩
  replace HB := Lib.hid (HB.out.below hb5)
  replace RA := Lib.hid (RA.out.below hb5)
  replace HCA := Lib.hid (HCA.out.below hb5)
  have RB := Lib.hid (rules_true hrB)
  obtain ⟨aB, cB, rfl, _⟩ := Sl.form hrB
  clear hrB hb5
  have HCB := Lib.hid (Bx.one (w := w5) (o := .cells #[.slice aB B.rules.length cB, .int .i64 B.dflt] 24))
  replace RB := Lib.hid (RB.out.below HCB.out.bel)
  replace HB := Lib.hid (HB.out.below HCB.out.bel)
  replace RA := Lib.hid (RA.out.below HCB.out.bel)
  replace HCA := Lib.hid (HCA.out.below HCB.out.bel)
  have hq0 := HB.out.cells0
  have hq1 := HB.out.cells1
  have hq2 := HB.out.cells2
  have hqHCA := HCA.out.cells0
  go_wp2_with fail
  clear hq0 hq1 hq2 hqHCA
  revert HCB RB HB RA HCA
  generalize (w5.alloc (.cells #[.slice aB B.rules.length cB, .int .i64 B.dflt] 24)) = w6
  intro HCB RB HB RA HCA
  refine (met_walk _ (HL.out.below HB.out.bel)).mono ?_
  rintro e w7 ⟨rfl, hb7⟩
  replace HB := Lib.hid (HB.out.below hb7)
  replace RA := Lib.hid (RA.out.below hb7)
  replace HCA := Lib.hid (HCA.out.below hb7)
  replace RB := Lib.hid (RB.out.below hb7)
  replace HCB := Lib.hid (HCB.out.below hb7)
  clear hb7
  by_cases h0 : eb = 0
  · subst h0
    obtain ⟨hp, hq, hpq, hpe⟩ := pairE_ok (of := minOf) (p := t0) (q := t1) (by rw [HA.out])
    obtain ⟨_, _, hxq, hxe⟩ := pairE_ok (of := exceptOf) (p := t0) (q := t1) (by rw [HE.out])
    have hAe : A = pairPol minOf t0 t1 := by have := HA.out.symm.trans hpe; simpa using this
    have hBe : B = pairPol exceptOf t0 t1 := by have := HE.out.symm.trans hxe; simpa using this
    obtain ⟨v, hv⟩ : ∃ v, says t0 x.right = v := ⟨_, rfl⟩
    obtain ⟨u, hu⟩ : ∃ u, says t1 x.right = u := ⟨_, rfl⟩
    have J0 := Lib.hid (judgeE_says hp x.right_ok)
    have J1 := Lib.hid (judgeE_says hq x.right_ok)
    have JA := Lib.hid (judgeE_says hpq x.right_ok)
    have JB := Lib.hid (judgeE_says hxq x.right_ok)
    rw [hv] at J0
    rw [hu] at J1
    rw [← hAe] at JA
    rw [← hBe] at JB
    have hsA : says A x.right = minOf v u := by rw [hAe, says_pair, hv, hu]
    have hsB : says B x.right = exceptOf v u := by rw [hBe, says_pair, hv, hu]
    rw [hsA] at JA
    rw [hsB] at JB
    clear hp hq hpq hpe hxq hxe hAe hBe hv hu hsA hsB
    have hq0 := HB.out.cells0
    have hq1 := HB.out.cells1
    have hq2 := HB.out.cells2
    have hqHCA := HCA.out.cells0
    have hqHCB := HCB.out.cells0
    go_wp2_with fail
    clear hq0 hq1 hq2 hqHCA hqHCB
    refine (judge_any _ t0 x.right _ _ (H0.out.below HB.out.bel)).mono ?_
    rw [J0.out]
    rintro e w8 ⟨rfl, hb8⟩
    replace HB := Lib.hid (HB.out.below hb8)
    replace RA := Lib.hid (RA.out.below hb8)
    replace HCA := Lib.hid (HCA.out.below hb8)
    replace RB := Lib.hid (RB.out.below hb8)
    replace HCB := Lib.hid (HCB.out.below hb8)
    clear hb8
    have hq0 := HB.out.cells0
    have hq1 := HB.out.cells1
    have hq2 := HB.out.cells2
    have hqHCA := HCA.out.cells0
    have hqHCB := HCB.out.cells0
    go_wp2_with fail
    clear hq0 hq1 hq2 hqHCA hqHCB
    refine (judge_any _ t1 x.right _ _ (H1.out.below HB.out.bel)).mono ?_
    rw [J1.out]
    rintro e w9 ⟨rfl, hb9⟩
    replace HB := Lib.hid (HB.out.below hb9)
    replace RA := Lib.hid (RA.out.below hb9)
    replace HCA := Lib.hid (HCA.out.below hb9)
    replace RB := Lib.hid (RB.out.below hb9)
    replace HCB := Lib.hid (HCB.out.below hb9)
    clear hb9
    have hq0 := HB.out.cells0
    have hq1 := HB.out.cells1
    have hq2 := HB.out.cells2
    have hqHCA := HCA.out.cells0
    have hqHCB := HCB.out.cells0
    go_wp2_with fail
    clear hq0 hq1 hq2 hqHCA hqHCB
    refine (judge_any _ A x.right _ _ RA.out).mono ?_
    rw [JA.out]
    rintro e w10 ⟨rfl, hb10⟩
    replace HB := Lib.hid (HB.out.below hb10)
    replace RA := Lib.hid (RA.out.below hb10)
    replace HCA := Lib.hid (HCA.out.below hb10)
    replace RB := Lib.hid (RB.out.below hb10)
    replace HCB := Lib.hid (HCB.out.below hb10)
    clear hb10
    have hq0 := HB.out.cells0
    have hq1 := HB.out.cells1
    have hq2 := HB.out.cells2
    have hqHCA := HCA.out.cells0
    have hqHCB := HCB.out.cells0
    go_wp2_with fail
    clear hq0 hq1 hq2 hqHCA hqHCB
    refine (judge_any _ B x.right _ _ RB.out).mono ?_
    rw [JB.out]
    rintro e w11 ⟨rfl, hb11⟩
    replace HB := Lib.hid (HB.out.below hb11)
    replace RA := Lib.hid (RA.out.below hb11)
    replace HCA := Lib.hid (HCA.out.below hb11)
    replace RB := Lib.hid (RB.out.below hb11)
    replace HCB := Lib.hid (HCB.out.below hb11)
    clear hb11
    by_cases hvu : v < u
    · have e1 : minOf v u = v := by unfold minOf; rw [if_pos (by omega)]
      have e2 : exceptOf v u = v := by unfold exceptOf; rw [if_pos hvu]
      rw [e1, e2]
      have hq0 := HB.out.cells0
      have hq1 := HB.out.cells1
      have hq2 := HB.out.cells2
      have hqHCA := HCA.out.cells0
      have hqHCB := HCB.out.cells0
      go_wp2
      go_ret
      exact ⟨rfl, HB.out.bel⟩
    · have e1 : minOf v u = u := by unfold minOf; split <;> omega
      have e2 : exceptOf v u = 4 := by unfold exceptOf; rw [if_neg hvu]
      rw [e1, e2]
      by_cases h4 : v = 4
      · subst h4
        have hq0 := HB.out.cells0
        have hq1 := HB.out.cells1
        have hq2 := HB.out.cells2
        have hqHCA := HCA.out.cells0
        have hqHCB := HCB.out.cells0
        go_wp2
        go_ret
        exact ⟨rfl, HB.out.bel⟩
      · have h4' : ((4 : Int) == v) = false := by simpa using Ne.symm h4
        have hq0 := HB.out.cells0
        have hq1 := HB.out.cells1
        have hq2 := HB.out.cells2
        have hqHCA := HCA.out.cells0
        have hqHCB := HCB.out.cells0
        go_wp2
        go_ret
        exact ⟨rfl, HB.out.bel⟩
  · have hne : (eb != 0) = true := bne_iff_ne.2 h0
    clear h0
    have hq0 := HB.out.cells0
    have hq1 := HB.out.cells1
    have hq2 := HB.out.cells2
    have hqHCA := HCA.out.cells0
    have hqHCB := HCB.out.cells0
    go_wp2_with fail
    clear hq0 hq1 hq2 hqHCA hqHCB
    refine (met_walk _ (HL.out.below HB.out.bel)).mono ?_
    rintro e w8 ⟨rfl, hb8⟩
    replace HB := Lib.hid (HB.out.below hb8)
    replace RA := Lib.hid (RA.out.below hb8)
    replace HCA := Lib.hid (HCA.out.below hb8)
    replace RB := Lib.hid (RB.out.below hb8)
    replace HCB := Lib.hid (HCB.out.below hb8)
    clear hb8
    have hq0 := HB.out.cells0
    have hq1 := HB.out.cells1
    have hq2 := HB.out.cells2
    have hqHCA := HCA.out.cells0
    have hqHCB := HCB.out.cells0
    go_wp2
    go_ret
    exact ⟨rfl, HB.out.bel⟩
end Go.Proofs.YtioeliocdbckbaaGreatDoor
