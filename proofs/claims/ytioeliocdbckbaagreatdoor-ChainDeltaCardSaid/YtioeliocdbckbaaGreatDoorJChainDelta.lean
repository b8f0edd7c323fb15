/- ChainDelta returns true at every two policies and call. Condition: Laid. -/
import Derived.Test.YtioeliocdbckbaaGreatDoorK9
import Derived.Test.YtioeliocdbckbaaGreatDoorK7
namespace Go.Proofs.YtioeliocdbckbaaGreatDoor
open Go.RowKit

set_option maxRecDepth 100000 in
set_option maxHeartbeats 16000000 in
theorem chainDelta_walk {w : World} (hL : Laid w) (u0 : Value) (t0 : TPol) (rd0 : RdRules w (fun _ => True) u0 t0.rules) (u1 : Value) (t1 : TPol) (rd1 : RdRules w (fun _ => True) u1 t1.rules) (x : TCall) :
    Calls Tryz.prog 5 #[polV u0 t0.dflt, polV u1 t1.dflt, callV x] w fun e w' => e = .returned (.bool true) ∧ Below w.heap.size w w' := by
  have HL := Lib.hid hL
  have H0 := Lib.hid rd0
  have H1 := Lib.hid rd1
  obtain ⟨a0, c0, rfl, _⟩ := Sl.form rd0
  obtain ⟨a1, c1, rfl, _⟩ := Sl.form rd1
  clear hL rd0 rd1
  go_enter Tryz.func5, Tryz.ntmps5
  go_wp2_with fail
  have HB := Lib.hid (Bx.three (w := w) (o := .cells #[.slice a0 t0.rules.length c0, .int .i64 t0.dflt] 24) (o' := .cells #[.slice a1 t1.rules.length c1, .int .i64 t1.dflt] 24) (o2 := .cells #[.int .i64 x.a0, .int .i64 x.a1, .int .i64 x.a2, .int .i64 x.a3, .int .i64 x.a4] 26))
  refine (right_any x _).mono ?_
  rintro e w1 ⟨rfl, hb1⟩
  replace HB := Lib.hid (HB.out.below hb1)
  have hq0 := HB.out.cells0
  have hq1 := HB.out.cells1
  have hq2 := HB.out.cells2
  have hfr := HB.out.free2
  have HB1 := Lib.hid (HB.out.setCall2 (y := x.right))
  clear hb1
  have hset0 := HB1.out.cells0
  have hset1 := HB1.out.cells1
  have hset2 := HB1.out.cells2
  go_wp2_with fail
  clear hq0 hq1 hq2
  clear hfr hset0 hset1 hset2 HB
  revert HB1
  generalize (((((w1.setCell ⟨w.heap.size + 1 + 1, 0, none⟩ (.int .i64 x.right.a0)).setCell ⟨w.heap.size + 1 + 1, 1, none⟩ (.int .i64 x.right.a1)).setCell ⟨w.heap.size + 1 + 1, 2, none⟩ (.int .i64 x.right.a2)).setCell ⟨w.heap.size + 1 + 1, 3, none⟩ (.int .i64 x.right.a3)).setCell ⟨w.heap.size + 1 + 1, 4, none⟩ (.int .i64 x.right.a4)) = w2
  intro HB
  obtain ⟨⟨A, ea⟩, hA⟩ : ∃ E, deltaE t0 t0 = E := ⟨_, rfl⟩
  have HA := Lib.hid hA
  obtain ⟨⟨B, eb⟩, hB⟩ : ∃ E, deltaE t0 t1 = E := ⟨_, rfl⟩
  have HE := Lib.hid hB
  obtain ⟨⟨L1, L2, L3⟩, hL⟩ : ∃ E, looserE t1 t0 = E := ⟨_, rfl⟩
  have KL := Lib.hid hL
  have h7 := delta_self_not t0
  rw [hA] at h7
  have hl7 := deltaE_loose (p := t0) (q := t1)
  rw [hB, hL] at hl7
  have H7 := Lib.hid h7
  have HL7 := Lib.hid hl7
  clear hA hB hL h7 hl7
  refine (delta_any _ _ t0 t0 _ (H0.out.below HB.out.bel) (H0.out.below HB.out.bel)).mono ?_
  rw [HA.out]
  rintro e w3 ⟨rA, rfl, hrA, hb3⟩
  replace HB := Lib.hid (HB.out.below hb3)
  have RA := Lib.hid (rules_true hrA)
  obtain ⟨aA, cA, rfl, _⟩ := Sl.form hrA
  clear hrA hb3
  have HCA := Lib.hid (Bx.one (w := w3) (o := .cells #[.slice aA A.rules.length cA, .int .i64 A.dflt] 24))
  replace RA := Lib.hid (RA.out.below HCA.out.bel)
  replace HB := Lib.hid (HB.out.below HCA.out.bel)
  have hq0 := HB.out.cells0
  have hq1 := HB.out.cells1
  have hq2 := HB.out.cells2
  go_wp2_with fail
  clear hq0 hq1 hq2
  revert HCA RA HB
  generalize (w3.alloc (.cells #[.slice aA A.rules.length cA, .int .i64 A.dflt] 24)) = w4
  intro HCA RA HB
  refine (tightened_walk _ (HL.out.below HB.out.bel)).mono ?_
  rintro e w5 ⟨rfl, hb5⟩
  replace HB := Lib.hid (HB.out.below hb5)
  replace RA := Lib.hid (RA.out.below hb5)
  replace HCA := Lib.hid (HCA.out.below hb5)
  clear hb5
  have hs7 : (ea == 7) = false := by simpa using H7.out
  by_cases h0 : ea = 0
  · subst h0
    have hoa := okPol_delta (p := t0) (q := t0) (by rw [HA.out])
    have hsa := says_delta (p := t0) (q := t0) (by rw [HA.out]) x.right_ok
    have hra := delta_self (p := t0) (by rw [HA.out])
    rw [HA.out] at hoa hsa hra
    dsimp only at hoa hsa hra
    have e1 : ∀ v : Int, exceptOf v v = 4 := fun v => by unfold exceptOf; rw [if_neg (by omega)]
    rw [e1] at hsa
    have JA := Lib.hid (judgeE_says hoa x.right_ok)
    rw [hsa] at JA
    have hral : A.rules.length = 0 := by rw [hra]; rfl
    have Hral := Lib.hid hral
    clear hoa hsa hra e1 hral hs7
    have hq0 := HB.out.cells0
    have hq1 := HB.out.cells1
    have hq2 := HB.out.cells2
    have hqHCA := HCA.out.cells0
    go_wp2_with fail
    clear hq0 hq1 hq2 hqHCA
    refine (judge_any _ A x.right _ _ RA.out).mono ?_
    rw [JA.out]
    rintro e w6 ⟨rfl, hb6⟩
    replace HB := Lib.hid (HB.out.below hb6)
    replace RA := Lib.hid (RA.out.below hb6)
    replace HCA := Lib.hid (HCA.out.below hb6)
    clear hb6
    have hral := Hral.out
    have hq0 := HB.out.cells0
    have hq1 := HB.out.cells1
    have hq2 := HB.out.cells2
    have hqHCA := HCA.out.cells0
    go_wp2_with fail
    clear hq0 hq1 hq2 hqHCA
    clear hral
    refine (delta_any _ _ t0 t1 _ (H0.out.below HB.out.bel) (H1.out.below HB.out.bel)).mono ?_
    rw [HE.out]
    rintro e w7 ⟨rB, rfl, hrB, hb7⟩
    replace HB := Lib.hid (HB.out.below hb7)
    replace RA := Lib.hid (RA.out.below hb7)
    replace HCA := Lib.hid (HCA.out.below hb7)
    have RB := Lib.hid (rules_true hrB)
    obtain ⟨aB, cB, rfl, _⟩ := Sl.form hrB
    clear hrB hb7
    have HCB := Lib.hid (Bx.one (w := w7) (o := .cells #[.slice aB B.rules.length cB, .int .i64 B.dflt] 24))
    replace RB := Lib.hid (RB.out.below HCB.out.bel)
    replace HB := Lib.hid (HB.out.below HCB.out.bel)
    replace RA := Lib.hid (RA.out.below HCB.out.bel)
    replace HCA := Lib.hid (HCA.out.below HCB.out.bel)
    have hq0 := HB.out.cells0
    have hq1 := HB.out.cells1
    have hq2 := HB.out.cells2
    have hqHCA := HCA.out.cells0
    go_wp2_with fail
    clear hq0 hq1 hq2 hqHCA
    revert HCB RB HB RA HCA
    generalize (w7.alloc (.cells #[.slice aB B.rules.length cB, .int .i64 B.dflt] 24)) = w8
    intro HCB RB HB RA HCA
    refine (looser_any _ _ t1 t0 _ (H1.out.below HB.out.bel) (H0.out.below HB.out.bel)).mono ?_
    rw [KL.out]
    rintro e w9 ⟨rfl, hb9⟩
    replace HB := Lib.hid (HB.out.below hb9)
    replace RA := Lib.hid (RA.out.below hb9)
    replace HCA := Lib.hid (HCA.out.below hb9)
    replace RB := Lib.hid (RB.out.below hb9)
    replace HCB := Lib.hid (HCB.out.below hb9)
    clear hb9
    have hD1 := Bx.one (w := w9) (o := .cells #[.int .i64 0, .int .i64 0, .int .i64 0, .int .i64 0, .int .i64 0] 26)
    have HD2 := Lib.hid (Bx.one (w := w9) (o := .cells #[.int .i64 L2.a0, .int .i64 L2.a1, .int .i64 L2.a2, .int .i64 L2.a3, .int .i64 L2.a4] 26))
    have hcn := hD1.cells0
    have hfn := hD1.free0
    clear hD1
    replace HB := Lib.hid (HB.out.below HD2.out.bel)
    replace RA := Lib.hid (RA.out.below HD2.out.bel)
    replace HCA := Lib.hid (HCA.out.below HD2.out.bel)
    replace RB := Lib.hid (RB.out.below HD2.out.bel)
    replace HCB := Lib.hid (HCB.out.below HD2.out.bel)
    by_cases e0 : eb = 0
    · subst e0
      obtain ⟨hp, hq, hl3, hl1, _, _⟩ := deltaE_ok (p := t0) (q := t1) (by rw [HE.out])
      rw [KL.out] at hl3 hl1
      dsimp only at hl3 hl1
      subst hl3 hl1
      obtain ⟨v, hv⟩ : ∃ v, says t0 x.right = v := ⟨_, rfl⟩
      obtain ⟨u, hu⟩ : ∃ u, says t1 x.right = u := ⟨_, rfl⟩
      have J0 := Lib.hid (judgeE_says hp x.right_ok)
      have J1 := Lib.hid (judgeE_says hq x.right_ok)
      have hob := okPol_delta (p := t0) (q := t1) (by rw [HE.out])
      have hsb := says_delta (p := t0) (q := t1) (by rw [HE.out]) x.right_ok
      have hle := delta_le (p := t0) (q := t1) (by rw [HE.out]) x.right_ok
      rw [HE.out] at hob hsb
      dsimp only at hob hsb
      have JB := Lib.hid (judgeE_says hob x.right_ok)
      rw [hsb] at JB
      rw [hv, hu] at hle
      rw [hv] at J0
      rw [hu] at J1
      rw [hv, hu] at JB
      clear hp hq hob hsb hv hu
      have hq0 := HB.out.cells0
      have hq1 := HB.out.cells1
      have hq2 := HB.out.cells2
      have hqHCA := HCA.out.cells0
      have hqHCB := HCB.out.cells0
      go_wp2_with fail
      clear hq0 hq1 hq2 hqHCA hqHCB
      clear hcn hfn HD2
      revert HB RA HCA RB HCB
      generalize (w9.alloc (.cells #[.int .i64 L2.a0, .int .i64 L2.a1, .int .i64 L2.a2, .int .i64 L2.a3, .int .i64 L2.a4] 26)) = w10
      intro HB RA HCA RB HCB
      refine (judge_any _ B x.right _ _ RB.out).mono ?_
      rw [JB.out]
      rintro e w11 ⟨rfl, hb11⟩
      replace HB := Lib.hid (HB.out.below hb11)
      replace RA := Lib.hid (RA.out.below hb11)
      replace HCA := Lib.hid (HCA.out.below hb11)
      replace RB := Lib.hid (RB.out.below hb11)
      replace HCB := Lib.hid (HCB.out.below hb11)
      clear hb11
      have hq0 := HB.out.cells0
      have hq1 := HB.out.cells1
      have hq2 := HB.out.cells2
      have hqHCA := HCA.out.cells0
      have hqHCB := HCB.out.cells0
      go_wp2_with fail
      clear hq0 hq1 hq2 hqHCA hqHCB
      refine (judge_any _ t0 x.right _ _ (H0.out.below HB.out.bel)).mono ?_
      rw [J0.out]
      rintro e w12 ⟨rfl, hb12⟩
      replace HB := Lib.hid (HB.out.below hb12)
      replace RA := Lib.hid (RA.out.below hb12)
      replace HCA := Lib.hid (HCA.out.below hb12)
      replace RB := Lib.hid (RB.out.below hb12)
      replace HCB := Lib.hid (HCB.out.below hb12)
      clear hb12
      have hq0 := HB.out.cells0
      have hq1 := HB.out.cells1
      have hq2 := HB.out.cells2
      have hqHCA := HCA.out.cells0
      have hqHCB := HCB.out.cells0
      go_wp2_with fail
      clear hq0 hq1 hq2 hqHCA hqHCB
      refine (judge_any _ t1 x.right _ _ (H1.out.below HB.out.bel)).mono ?_
      rw [J1.out]
      rintro e w13 ⟨rfl, hb13⟩
      replace HB := Lib.hid (HB.out.below hb13)
      replace RA := Lib.hid (RA.out.below hb13)
      replace HCA := Lib.hid (HCA.out.below hb13)
      replace RB := Lib.hid (RB.out.below hb13)
      replace HCB := Lib.hid (HCB.out.below hb13)
      clear hb13
      by_cases hvu : v = u
      · subst hvu
        have e1 : exceptOf v v = 4 := by unfold exceptOf; rw [if_neg (by omega)]
        rw [e1]
        go_wp2
        go_ret
        exact ⟨rfl, HB.out.bel⟩
      · have e1 : exceptOf u v = u := by unfold exceptOf; rw [if_pos (by omega)]
        have hvn : (v == u) = false := by simpa using hvu
        have hvn2 : (v != u) = true := bne_iff_ne.2 hvu
        rw [e1]
        go_wp2
        go_ret
        exact ⟨rfl, HB.out.bel⟩
    · have hne : (eb != 0) = true := bne_iff_ne.2 e0
      clear e0
      by_cases e7 : eb = 7
      · subst e7
        obtain ⟨hl3, hl1⟩ := HL7.out.1 rfl
        subst hl3 hl1
        go_wp2
        go_ret
        exact ⟨rfl, HB.out.bel⟩
      · have h7' : (eb == 7) = false := by simpa using e7
        by_cases e3 : L3 = 0
        · subst e3
          cases L1 with
          | true => exact absurd (HL7.out.2 ⟨rfl, rfl⟩) e7
          | false =>
            clear e7
            go_wp2
            go_ret
            exact ⟨rfl, HB.out.bel⟩
        · have h3' : (L3 == 0) = false := by simpa using e3
          clear e7 e3
          go_wp2
          go_ret
          exact ⟨rfl, HB.out.bel⟩
  · have hna : (ea == 0) = false := by simpa using h0
    clear h0
    have hq0 := HB.out.cells0
    have hq1 := HB.out.cells1
    have hq2 := HB.out.cells2
    have hqHCA := HCA.out.cells0
    go_wp2_with fail
    clear hq0 hq1 hq2 hqHCA
    refine (delta_any _ _ t0 t1 _ (H0.out.below HB.out.bel) (H1.out.below HB.out.bel)).mono ?_
    rw [HE.out]
    rintro e w6 ⟨rB, rfl, hrB, hb6⟩
    replace HB := Lib.hid (HB.out.below hb6)
    replace RA := Lib.hid (RA.out.below hb6)
    replace HCA := Lib.hid (HCA.out.below hb6)
    have RB := Lib.hid (rules_true hrB)
    obtain ⟨aB, cB, rfl, _⟩ := Sl.form hrB
    clear hrB hb6
    have HCB := Lib.hid (Bx.one (w := w6) (o := .cells #[.slice aB B.rules.length cB, .int .i64 B.dflt] 24))
    replace RB := Lib.hid (RB.out.below HCB.out.bel)
    replace HB := Lib.hid (HB.out.below HCB.out.bel)
    replace RA := Lib.hid (RA.out.below HCB.out.bel)
    replace HCA := Lib.hid (HCA.out.below HCB.out.bel)
    have hq0 := HB.out.cells0
    have hq1 := HB.out.cells1
    have hq2 := HB.out.cells2
    have hqHCA := HCA.out.cells0
    go_wp2_with fail
    clear hq0 hq1 hq2 hqHCA
    revert HCB RB HB RA HCA
    generalize (w6.alloc (.cells #[.slice aB B.rules.length cB, .int .i64 B.dflt] 24)) = w7
    intro HCB RB HB RA HCA
    refine (looser_any _ _ t1 t0 _ (H1.out.below HB.out.bel) (H0.out.below HB.out.bel)).mono ?_
    rw [KL.out]
    rintro e w8 ⟨rfl, hb8⟩
    replace HB := Lib.hid (HB.out.below hb8)
    replace RA := Lib.hid (RA.out.below hb8)
    replace HCA := Lib.hid (HCA.out.below hb8)
    replace RB := Lib.hid (RB.out.below hb8)
    replace HCB := Lib.hid (HCB.out.below hb8)
    clear hb8
    have hD1 := Bx.one (w := w8) (o := .cells #[.int .i64 0, .int .i64 0, .int .i64 0, .int .i64 0, .int .i64 0] 26)
    have HD2 := Lib.hid (Bx.one (w := w8) (o := .cells #[.int .i64 L2.a0, .int .i64 L2.a1, .int .i64 L2.a2, .int .i64 L2.a3, .int .i64 L2.a4] 26))
    have hcn := hD1.cells0
    have hfn := hD1.free0
    clear hD1
    replace HB := Lib.hid (HB.out.below HD2.out.bel)
    replace RA := Lib.hid (RA.out.below HD2.out.bel)
    replace HCA := Lib.hid (HCA.out.below HD2.out.bel)
    replace RB := Lib.hid (RB.out.below HD2.out.bel)
    replace HCB := Lib.hid (HCB.out.below HD2.out.bel)
    by_cases e0 : eb = 0
    · subst e0
      obtain ⟨hp, hq, hl3, hl1, _, _⟩ := deltaE_ok (p := t0) (q := t1) (by rw [HE.out])
      rw [KL.out] at hl3 hl1
      dsimp only at hl3 hl1
      subst hl3 hl1
      obtain ⟨v, hv⟩ : ∃ v, says t0 x.right = v := ⟨_, rfl⟩
      obtain ⟨u, hu⟩ : ∃ u, says t1 x.right = u := ⟨_, rfl⟩
      have J0 := Lib.hid (judgeE_says hp x.right_ok)
      have J1 := Lib.hid (judgeE_says hq x.right_ok)
      have hob := okPol_delta (p := t0) (q := t1) (by rw [HE.out])
      have hsb := says_delta (p := t0) (q := t1) (by rw [HE.out]) x.right_ok
      have hle := delta_le (p := t0) (q := t1) (by rw [HE.out]) x.right_ok
      rw [HE.out] at hob hsb
      dsimp only at hob hsb
      have JB := Lib.hid (judgeE_says hob x.right_ok)
      rw [hsb] at JB
      rw [hv, hu] at hle
      rw [hv] at J0
      rw [hu] at J1
      rw [hv, hu] at JB
      clear hp hq hob hsb hv hu
      have hq0 := HB.out.cells0
      have hq1 := HB.out.cells1
      have hq2 := HB.out.cells2
      have hqHCA := HCA.out.cells0
      have hqHCB := HCB.out.cells0
      go_wp2_with fail
      clear hq0 hq1 hq2 hqHCA hqHCB
      clear hcn hfn HD2
      revert HB RA HCA RB HCB
      generalize (w8.alloc (.cells #[.int .i64 L2.a0, .int .i64 L2.a1, .int .i64 L2.a2, .int .i64 L2.a3, .int .i64 L2.a4] 26)) = w9
      intro HB RA HCA RB HCB
      refine (judge_any _ B x.right _ _ RB.out).mono ?_
      rw [JB.out]
      rintro e w10 ⟨rfl, hb10⟩
      replace HB := Lib.hid (HB.out.below hb10)
      replace RA := Lib.hid (RA.out.below hb10)
      replace HCA := Lib.hid (HCA.out.below hb10)
      replace RB := Lib.hid (RB.out.below hb10)
      replace HCB := Lib.hid (HCB.out.below hb10)
      clear hb10
      have hq0 := HB.out.cells0
      have hq1 := HB.out.cells1
      have hq2 := HB.out.cells2
      have hqHCA := HCA.out.cells0
      have hqHCB := HCB.out.cells0
      go_wp2_with fail
      clear hq0 hq1 hq2 hqHCA hqHCB
      refine (judge_any _ t0 x.right _ _ (H0.out.below HB.out.bel)).mono ?_
      rw [J0.out]
      rintro e w11 ⟨rfl, hb11⟩
      replace HB := Lib.hid (HB.out.below hb11)
      replace RA := Lib.hid (RA.out.below hb11)
      replace HCA := Lib.hid (HCA.out.below hb11)
      replace RB := Lib.hid (RB.out.below hb11)
      replace HCB := Lib.hid (HCB.out.below hb11)
      clear hb11
      have hq0 := HB.out.cells0
      have hq1 := HB.out.cells1
      have hq2 := HB.out.cells2
      have hqHCA := HCA.out.cells0
      have hqHCB := HCB.out.cells0
      go_wp2_with fail
      clear hq0 hq1 hq2 hqHCA hqHCB
      refine (judge_any _ t1 x.right _ _ (H1.out.below HB.out.bel)).mono ?_
      rw [J1.out]
      rintro e w12 ⟨rfl, hb12⟩
      replace HB := Lib.hid (HB.out.below hb12)
      replace RA := Lib.hid (RA.out.below hb12)
      replace HCA := Lib.hid (HCA.out.below hb12)
      replace RB := Lib.hid (RB.out.below hb12)
      replace HCB := Lib.hid (HCB.out.below hb12)
      clear hb12
      by_cases hvu : v = u
      · subst hvu
        have e1 : exceptOf v v = 4 := by unfold exceptOf; rw [if_neg (by omega)]
        rw [e1]
        go_wp2
        go_ret
        exact ⟨rfl, HB.out.bel⟩
      · have e1 : exceptOf u v = u := by unfold exceptOf; rw [if_pos (by omega)]
        have hvn : (v == u) = false := by simpa using hvu
        have hvn2 : (v != u) = true := bne_iff_ne.2 hvu
        rw [e1]
        go_wp2
        go_ret
        exact ⟨rfl, HB.out.bel⟩
    · have hne : (eb != 0) = true := bne_iff_ne.2 e0
      clear e0
      by_cases e7 : eb = 7
      · subst e7
        obtain ⟨hl3, hl1⟩ := HL7.out.1 rfl
        subst hl3 hl1
        go_wp2
        go_ret
        exact ⟨rfl, HB.out.bel⟩
      · have h7' : (eb == 7) = false := by simpa using e7
        by_cases e3 : L3 = 0
        · subst e3
          cases L1 with
          | true => exact absurd (HL7.out.2 ⟨rfl, rfl⟩) e7
          | false =>
            clear e7
            go_wp2
            go_ret
            exact ⟨rfl, HB.out.bel⟩
        · have h3' : (L3 == 0) = false := by simpa using e3
          clear e7 e3
          go_wp2
          go_ret
          exact ⟨rfl, HB.out.bel⟩
end Go.Proofs.YtioeliocdbckbaaGreatDoor
