/- MeetTwice returns true at every two policies and call. Condition: Laid, with the table of blanks. -/
import Derived.Test.YtioeliocdbckbaaGreatDoorK7
namespace Go.Proofs.YtioeliocdbckbaaGreatDoor
open Go.RowKit

theorem min_turn (a b : Int) : minOf a b = minOf b a := by simp only [minOf]; split <;> split <;> omega
theorem min_self (a : Int) : minOf a a = a := by simp [minOf]

set_option maxRecDepth 100000 in
set_option maxHeartbeats 16000000 in
theorem meetTwice_walk {w : World} (hL : LaidF w) (u0 : Value) (t0 : TPol) (rd0 : RdRules w (fun _ => True) u0 t0.rules) (u1 : Value) (t1 : TPol) (rd1 : RdRules w (fun _ => True) u1 t1.rules) (x : TCall) :
    Calls Tryz.prog 7 #[polV u0 t0.dflt, polV u1 t1.dflt, callV x] w fun e w' => e = .returned (.bool true) ∧ Below w.heap.size w w' := by
  have HL := Lib.hid hL
  have H0 := Lib.hid rd0
  have H1 := Lib.hid rd1
  obtain ⟨a0, c0, rfl, _⟩ := Sl.form rd0
  obtain ⟨a1, c1, rfl, _⟩ := Sl.form rd1
  clear hL rd0 rd1
  go_enter Tryz.func7, Tryz.ntmps7
  go_wp2_with fail
  have HB := Lib.hid (Bx.three (w := w) (o := .cells #[.slice a0 t0.rules.length c0, .int .i64 t0.dflt] 24) (o' := .cells #[.slice a1 t1.rules.length c1, .int .i64 t1.dflt] 24) (o2 := .cells #[.int .i64 x.a0, .int .i64 x.a1, .int .i64 x.a2, .int .i64 x.a3, .int .i64 x.a4] 26))
  refine (right_any x _).mono ?_
  rintro e w1 ⟨rfl, hb1⟩
  replace HB := Lib.hid (HB.out.below hb1)
  have hq0 := HB.out.cells0
  have hq1 := HB.out.cells1
  have hq2 := HB.out.cells2
  have hfr := HB.out.free2
  have HB1 := Lib.hid (HB.out.setCall2 (y := x.right))
  clear hb1
  have hset0 := HB1.out.cells0
  have hset1 := HB1.out.cells1
  have hset2 := HB1.out.cells2
  go_wp2_with fail
  clear hq0 hq1 hq2
  clear hfr hset0 hset1 hset2 HB
  revert HB1
  generalize (((((w1.setCell ⟨w.heap.size + 1 + 1, 0, none⟩ (.int .i64 x.right.a0)).setCell ⟨w.heap.size + 1 + 1, 1, none⟩ (.int .i64 x.right.a1)).setCell ⟨w.heap.size + 1 + 1, 2, none⟩ (.int .i64 x.right.a2)).setCell ⟨w.heap.size + 1 + 1, 3, none⟩ (.int .i64 x.right.a3)).setCell ⟨w.heap.size + 1 + 1, 4, none⟩ (.int .i64 x.right.a4)) = w2
  intro HB
  obtain ⟨⟨A, ea⟩, hA⟩ : ∃ E, pairE minOf t0 t1 = E := ⟨_, rfl⟩
  have HA := Lib.hid hA
  obtain ⟨⟨B, eb⟩, hB⟩ : ∃ E, pairE minOf t1 t0 = E := ⟨_, rfl⟩
  have HE := Lib.hid hB
  obtain ⟨⟨C, ec⟩, hC⟩ : ∃ E, pairE minOf t0 t0 = E := ⟨_, rfl⟩
  have HF := Lib.hid hC
  have hab : ea = 0 → eb = 0 := fun h => by have := pair_turn (of := minOf) keeps_min (p := t0) (q := t1) (by rw [hA]; exact h); rw [hB] at this; exact this
  have hba : eb = 0 → ea = 0 := fun h => by have := pair_turn (of := minOf) keeps_min (p := t1) (q := t0) (by rw [hB]; exact h); rw [hA] at this; exact this
  clear hA hB hC
  have Hab := Lib.hid hab
  have Hba := Lib.hid hba
  clear hab hba
  refine (meet_any _ _ t0 t1 _ (H0.out.below HB.out.bel) (H1.out.below HB.out.bel)).mono ?_
  rw [HA.out]
  rintro e w3 ⟨rA, rfl, hrA, hb3⟩
  replace HB := Lib.hid (HB.out.below hb3)
  have RA := Lib.hid (rules_true hrA)
  obtain ⟨aA, cA, rfl, _⟩ := Sl.form hrA
  clear hrA hb3
  have HCA := Lib.hid (Bx.one (w := w3) (o := .cells #[.slice aA A.rules.length cA, .int .i64 A.dflt] 24))
  replace RA := Lib.hid (RA.out.below HCA.out.bel)
  replace HB := Lib.hid (HB.out.below HCA.out.bel)
  have hq0 := HB.out.cells0
  have hq1 := HB.out.cells1
  have hq2 := HB.out.cells2
  go_wp2_with fail
  clear hq0 hq1 hq2
  revert HCA RA HB
  generalize (w3.alloc (.cells #[.slice aA A.rules.length cA, .int .i64 A.dflt] 24)) = w4
  intro HCA RA HB
  refine (meet_any _ _ t1 t0 _ (H1.out.below HB.out.bel) (H0.out.below HB.out.bel)).mono ?_
  rw [HE.out]
  rintro e w5 ⟨rB, rfl, hrB, hb5⟩
  replace HB := Lib.hid (HB.out.below hb5)
  replace RA := Lib.hid (RA.out.below hb5)
  replace HCA := Lib.hid (HCA.out.below hb5)
  have RB := Lib.hid (rules_true hrB)
  obtain ⟨aB, cB, rfl, _⟩ := Sl.form hrB
  clear hrB hb5
  have HCB := Lib.hid (Bx.one (w := w5) (o := .cells #[.slice aB B.rules.length cB, .int .i64 B.dflt] 24))
  replace RB := Lib.hid (RB.out.below HCB.out.bel)
  replace HB := Lib.hid (HB.out.below HCB.out.bel)
  replace RA := Lib.hid (RA.out.below HCB.out.bel)
  replace HCA := Lib.hid (HCA.out.below HCB.out.bel)
  have hq0 := HB.out.cells0
  have hq1 := HB.out.cells1
  have hq2 := HB.out.cells2
  have hqHCA := HCA.out.cells0
  go_wp2_with fail
  clear hq0 hq1 hq2 hqHCA
  revert HCB RB HB RA HCA
  generalize (w5.alloc (.cells #[.slice aB B.rules.length cB, .int .i64 B.dflt] 24)) = w6
  intro HCB RB HB RA HCA
  refine (meet_any _ _ t0 t0 _ (H0.out.below HB.out.bel) (H0.out.below HB.out.bel)).mono ?_
  rw [HF.out]
  rintro e w7 ⟨rC, rfl, hrC, hb7⟩
  replace HB := Lib.hid (HB.out.below hb7)
  replace RA := Lib.hid (RA.out.below hb7)
  replace HCA := Lib.hid (HCA.out.below hb7)
  replace RB := Lib.hid (RB.out.below hb7)
  replace HCB := Lib.hid (HCB.out.below hb7)
  have RC := Lib.hid (rules_true hrC)
  obtain ⟨aC, cC, rfl, _⟩ := Sl.form hrC
  clear hrC hb7
  have HCC := Lib.hid (Bx.one (w := w7) (o := .cells #[.slice aC C.rules.length cC, .int .i64 C.dflt] 24))
  replace RC := Lib.hid (RC.out.below HCC.out.bel)
  replace HB := Lib.hid (HB.out.below HCC.out.bel)
  replace RA := Lib.hid (RA.out.below HCC.out.bel)
  replace HCA := Lib.hid (HCA.out.below HCC.out.bel)
  replace RB := Lib.hid (RB.out.below HCC.out.bel)
  replace HCB := Lib.hid (HCB.out.below HCC.out.bel)
  have hq0 := HB.out.cells0
  have hq1 := HB.out.cells1
  have hq2 := HB.out.cells2
  have hqHCA := HCA.out.cells0
  have hqHCB := HCB.out.cells0
  go_wp2_with fail
  clear hq0 hq1 hq2 hqHCA hqHCB
  revert HCC RC HB RA HCA RB HCB
  generalize (w7.alloc (.cells #[.slice aC C.rules.length cC, .int .i64 C.dflt] 24)) = w8
  intro HCC RC HB RA HCA RB HCB
  refine (met_walk _ (HL.out.below HB.out.bel)).mono ?_
  rintro e w9 ⟨rfl, hb9⟩
  replace HB := Lib.hid (HB.out.below hb9)
  replace RA := Lib.hid (RA.out.below hb9)
  replace HCA := Lib.hid (HCA.out.below hb9)
  replace RB := Lib.hid (RB.out.below hb9)
  replace HCB := Lib.hid (HCB.out.below hb9)
  replace RC := Lib.hid (RC.out.below hb9)
  replace HCC := Lib.hid (HCC.out.below hb9)
  clear hb9
  by_cases h0 : ea = 0
  · subst h0
    obtain rfl : eb = 0 := Hab.out rfl
    obtain ⟨hp, hq, hpq, hpe⟩ := pairE_ok (of := minOf) (p := t0) (q := t1) (by rw [HA.out])
    obtain ⟨_, _, hxq, hxe⟩ := pairE_ok (of := minOf) (p := t1) (q := t0) (by rw [HE.out])
    have hAe : A = pairPol minOf t0 t1 := by have := HA.out.symm.trans hpe; simpa using this
    have hBe : B = pairPol minOf t1 t0 := by have := HE.out.symm.trans hxe; simpa using this
    obtain ⟨v, hv⟩ : ∃ v, says t0 x.right = v := ⟨_, rfl⟩
    obtain ⟨u, hu⟩ : ∃ u, says t1 x.right = u := ⟨_, rfl⟩
    have J0 := Lib.hid (judgeE_says hp x.right_ok)
    have JA := Lib.hid (judgeE_says hpq x.right_ok)
    have JB := Lib.hid (judgeE_says hxq x.right_ok)
    rw [hv] at J0
    rw [← hAe] at JA
    rw [← hBe] at JB
    have hsA : says A x.right = minOf v u := by rw [hAe, says_pair, hv, hu]
    have hsB : says B x.right = minOf v u := by rw [hBe, says_pair, hv, hu, min_turn]
    have hlen : B.rules.length = A.rules.length := by rw [hAe, hBe, pairPol_len, pairPol_len, Nat.mul_comm]
    have Hlen := Lib.hid hlen
    clear hlen
    rw [hsA] at JA
    rw [hsB] at JB
    have Hp := Lib.hid hp
    have Hv := Lib.hid hv
    clear hp hq hpq hpe hxq hxe hAe hBe hv hu hsA hsB
    have hq0 := HB.out.cells0
    have hq1 := HB.out.cells1
    have hq2 := HB.out.cells2
    have hqHCA := HCA.out.cells0
    have hqHCB := HCB.out.cells0
    have hqHCC := HCC.out.cells0
    go_wp2_with fail
    clear hq0 hq1 hq2 hqHCA hqHCB hqHCC
    refine (judge_any _ A x.right _ _ RA.out).mono ?_
    rw [JA.out]
    rintro e w10 ⟨rfl, hb10⟩
    replace HB := Lib.hid (HB.out.below hb10)
    replace RA := Lib.hid (RA.out.below hb10)
    replace HCA := Lib.hid (HCA.out.below hb10)
    replace RB := Lib.hid (RB.out.below hb10)
    replace HCB := Lib.hid (HCB.out.below hb10)
    replace RC := Lib.hid (RC.out.below hb10)
    replace HCC := Lib.hid (HCC.out.below hb10)
    clear hb10
    have hq0 := HB.out.cells0
    have hq1 := HB.out.cells1
    have hq2 := HB.out.cells2
    have hqHCA := HCA.out.cells0
    have hqHCB := HCB.out.cells0
    have hqHCC := HCC.out.cells0
    go_wp2_with fail
    clear hq0 hq1 hq2 hqHCA hqHCB hqHCC
    refine (judge_any _ B x.right _ _ RB.out).mono ?_
    rw [JB.out]
    rintro e w11 ⟨rfl, hb11⟩
    replace HB := Lib.hid (HB.out.below hb11)
    replace RA := Lib.hid (RA.out.below hb11)
    replace HCA := Lib.hid (HCA.out.below hb11)
    replace RB := Lib.hid (RB.out.below hb11)
    replace HCB := Lib.hid (HCB.out.below hb11)
    replace RC := Lib.hid (RC.out.below hb11)
    replace HCC := Lib.hid (HCC.out.below hb11)
    clear hb11
    have hlen := Hlen.out
    by_cases h1 : ec = 0
    · subst h1
      obtain ⟨_, _, hcq, hce⟩ := pairE_ok (of := minOf) (p := t0) (q := t0) (by rw [HF.out])
      have hCe : C = pairPol minOf t0 t0 := by have := HF.out.symm.trans hce; simpa using this
      have JC := Lib.hid (judgeE_says hcq x.right_ok)
      rw [← hCe] at JC
      have hsC : says C x.right = v := by rw [hCe, says_pair, Hv.out, min_self]
      rw [hsC] at JC
      clear hcq hce hCe hsC
      have hq0 := HB.out.cells0
      have hq1 := HB.out.cells1
      have hq2 := HB.out.cells2
      have hqHCA := HCA.out.cells0
      have hqHCB := HCB.out.cells0
      have hqHCC := HCC.out.cells0
      go_wp2_with fail
      clear hq0 hq1 hq2 hqHCA hqHCB hqHCC
      refine (judge_any _ t0 x.right _ _ (H0.out.below HB.out.bel)).mono ?_
      rw [J0.out]
      rintro e w12 ⟨rfl, hb12⟩
      replace HB := Lib.hid (HB.out.below hb12)
      replace RA := Lib.hid (RA.out.below hb12)
      replace HCA := Lib.hid (HCA.out.below hb12)
      replace RB := Lib.hid (RB.out.below hb12)
      replace HCB := Lib.hid (HCB.out.below hb12)
      replace RC := Lib.hid (RC.out.below hb12)
      replace HCC := Lib.hid (HCC.out.below hb12)
      clear hb12
      have hq0 := HB.out.cells0
      have hq1 := HB.out.cells1
      have hq2 := HB.out.cells2
      have hqHCA := HCA.out.cells0
      have hqHCB := HCB.out.cells0
      have hqHCC := HCC.out.cells0
      go_wp2_with fail
      clear hq0 hq1 hq2 hqHCA hqHCB hqHCC
      refine (judge_any _ C x.right _ _ RC.out).mono ?_
      rw [JC.out]
      rintro e w13 ⟨rfl, hb13⟩
      replace HB := Lib.hid (HB.out.below hb13)
      replace RA := Lib.hid (RA.out.below hb13)
      replace HCA := Lib.hid (HCA.out.below hb13)
      replace RB := Lib.hid (RB.out.below hb13)
      replace HCB := Lib.hid (HCB.out.below hb13)
      replace RC := Lib.hid (RC.out.below hb13)
      replace HCC := Lib.hid (HCC.out.below hb13)
      clear hb13
      have hq0 := HB.out.cells0
      have hq1 := HB.out.cells1
      have hq2 := HB.out.cells2
      have hqHCA := HCA.out.cells0
      have hqHCB := HCB.out.cells0
      have hqHCC := HCC.out.cells0
      go_wp2
      go_ret
      exact ⟨rfl, HB.out.bel⟩
    · have hne : (ec != 0) = true := bne_iff_ne.2 h1
      clear h1
      have hq0 := HB.out.cells0
      have hq1 := HB.out.cells1
      have hq2 := HB.out.cells2
      have hqHCA := HCA.out.cells0
      have hqHCB := HCB.out.cells0
      have hqHCC := HCC.out.cells0
      go_wp2
      go_ret
      exact ⟨rfl, HB.out.bel⟩
  · have hne : (ea != 0) = true := bne_iff_ne.2 h0
    have hnb : (eb != 0) = true := bne_iff_ne.2 (fun h => h0 (Hba.out h))
    clear h0
    have hq0 := HB.out.cells0
    have hq1 := HB.out.cells1
    have hq2 := HB.out.cells2
    have hqHCA := HCA.out.cells0
    have hqHCB := HCB.out.cells0
    have hqHCC := HCC.out.cells0
    go_wp2_with fail
    clear hq0 hq1 hq2 hqHCA hqHCB hqHCC
    refine (met_walk _ (HL.out.below HB.out.bel)).mono ?_
    rintro e w10 ⟨rfl, hb10⟩
    replace HB := Lib.hid (HB.out.below hb10)
    replace RA := Lib.hid (RA.out.below hb10)
    replace HCA := Lib.hid (HCA.out.below hb10)
    replace RB := Lib.hid (RB.out.below hb10)
    replace HCB := Lib.hid (HCB.out.below hb10)
    replace RC := Lib.hid (RC.out.below hb10)
    replace HCC := Lib.hid (HCC.out.below hb10)
    clear hb10
    have hq0 := HB.out.cells0
    have hq1 := HB.out.cells1
    have hq2 := HB.out.cells2
    have hqHCA := HCA.out.cells0
    have hqHCB := HCB.out.cells0
    have hqHCC := HCC.out.cells0
    go_wp2
    go_ret
    exact ⟨rfl, HB.out.bel⟩
end Go.Proofs.YtioeliocdbckbaaGreatDoor
