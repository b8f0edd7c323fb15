/- MeetShort returns true at every policy and call. Condition: Laid, with the table of blanks. -/
import Derived.Test.YtioeliocdbckbaaGreatDoorK7
namespace Go.Proofs.YtioeliocdbckbaaGreatDoor
open Go.RowKit

set_option maxRecDepth 100000 in
set_option maxHeartbeats 16000000 in
theorem meetShort_walk {w : World} (hL : LaidF w) (u0 : Value) (t0 : TPol) (rd0 : RdRules w (fun _ => True) u0 t0.rules) (x : TCall) :
    Calls Tryz.prog 10 #[polV u0 t0.dflt, callV x] w fun e w' => e = .returned (.bool true) ∧ Below w.heap.size w w' := by
  have HL := Lib.hid hL
  have H0 := Lib.hid rd0
  obtain ⟨a0, c0, rfl, _⟩ := Sl.form rd0
  clear hL rd0
  go_enter Tryz.func10, Tryz.ntmps10
  go_wp2_with fail
  have HB := Lib.hid (Bx.two (w := w) (o := .cells #[.slice a0 t0.rules.length c0, .int .i64 t0.dflt] 24) (o' := .cells #[.int .i64 x.a0, .int .i64 x.a1, .int .i64 x.a2, .int .i64 x.a3, .int .i64 x.a4] 26))
  refine (right_any x _).mono ?_
  rintro e w1 ⟨rfl, hb1⟩
  replace HB := Lib.hid (HB.out.below hb1)
  have hq0 := HB.out.cells0
  have hq1 := HB.out.cells1
  have hfr := HB.out.free1
  have HB1 := Lib.hid (HB.out.setCall1 (y := x.right))
  clear hb1
  have hset0 := HB1.out.cells0
  have hset1 := HB1.out.cells1
  go_wp2_with fail
  clear hq0 hq1
  clear hfr hset0 hset1 HB
  revert HB1
  generalize (((((w1.setCell ⟨w.heap.size + 1, 0, none⟩ (.int .i64 x.right.a0)).setCell ⟨w.heap.size + 1, 1, none⟩ (.int .i64 x.right.a1)).setCell ⟨w.heap.size + 1, 2, none⟩ (.int .i64 x.right.a2)).setCell ⟨w.heap.size + 1, 3, none⟩ (.int .i64 x.right.a3)).setCell ⟨w.heap.size + 1, 4, none⟩ (.int .i64 x.right.a4)) = w2
  intro HB
  obtain ⟨⟨A, ea⟩, hA⟩ : ∃ E, shortE t0 = E := ⟨_, rfl⟩
  have HA := Lib.hid hA
  clear hA
  refine (short_any _ t0 _ (H0.out.below HB.out.bel)).mono ?_
  rw [HA.out]
  rintro e w3 ⟨rA, rfl, hrA, hb3⟩
  replace HB := Lib.hid (HB.out.below hb3)
  have RA := Lib.hid (rules_true hrA)
  obtain ⟨aA, cA, rfl, _⟩ := Sl.form hrA
  clear hrA hb3
  have HCA := Lib.hid (Bx.one (w := w3) (o := .cells #[.slice aA A.rules.length cA, .int .i64 A.dflt] 24))
  replace RA := Lib.hid (RA.out.below HCA.out.bel)
  replace HB := Lib.hid (HB.out.below HCA.out.bel)
  have hq0 := HB.out.cells0
  have hq1 := HB.out.cells1
  go_wp2_with fail
  clear hq0 hq1
  revert HCA RA HB
  generalize (w3.alloc (.cells #[.slice aA A.rules.length cA, .int .i64 A.dflt] 24)) = w4
  intro HCA RA HB
  refine (met_walk _ (HL.out.below HB.out.bel)).mono ?_
  rintro e w5 ⟨rfl, hb5⟩
  replace HB := Lib.hid (HB.out.below hb5)
  replace RA := Lib.hid (RA.out.below hb5)
  replace HCA := Lib.hid (HCA.out.below hb5)
  clear hb5
  by_cases h0 : ea = 0
  · subst h0
    obtain ⟨hp, hsz, hpe⟩ := shortE_ok (p := t0) (by rw [HA.out])
    have hAe : A = shortPol t0 := by have := HA.out.symm.trans hpe; simpa using this
    obtain ⟨v, hv⟩ : ∃ v, says t0 x.right = v := ⟨_, rfl⟩
    have J0 := Lib.hid (judgeE_says hp x.right_ok)
    have JA := Lib.hid (judgeE_says (okPol_short hp) x.right_ok)
    rw [says_short hp x.right_ok, ← hAe] at JA
    rw [hv] at J0 JA
    have HS : Hid (shortE A = (A, 0)) := by show shortE A = _; rw [hAe]; exact short_again (by rw [HA.out])
    have hll : A.rules.length ≤ t0.rules.length := by rw [hAe]; exact (short_sub t0).length_le
    clear hp hsz hpe hAe hv
    have hq0 := HB.out.cells0
    have hq1 := HB.out.cells1
    have hqHCA := HCA.out.cells0
    go_wp2_with fail
    clear hq0 hq1 hqHCA
    refine (judge_any _ t0 x.right _ _ (H0.out.below HB.out.bel)).mono ?_
    rw [J0.out]
    rintro e w6 ⟨rfl, hb6⟩
    replace HB := Lib.hid (HB.out.below hb6)
    replace RA := Lib.hid (RA.out.below hb6)
    replace HCA := Lib.hid (HCA.out.below hb6)
    clear hb6
    have hq0 := HB.out.cells0
    have hq1 := HB.out.cells1
    have hqHCA := HCA.out.cells0
    go_wp2_with fail
    clear hq0 hq1 hqHCA
    refine (judge_any _ A x.right _ _ RA.out).mono ?_
    rw [JA.out]
    rintro e w7 ⟨rfl, hb7⟩
    replace HB := Lib.hid (HB.out.below hb7)
    replace RA := Lib.hid (RA.out.below hb7)
    replace HCA := Lib.hid (HCA.out.below hb7)
    clear hb7
    have hq0 := HB.out.cells0
    have hq1 := HB.out.cells1
    have hqHCA := HCA.out.cells0
    go_wp2_with fail
    clear hq0 hq1 hqHCA
    refine (short_any _ A _ RA.out).mono ?_
    rw [HS.out]
    rintro e w8 ⟨rB, rfl, hrB, hb8⟩
    replace HB := Lib.hid (HB.out.below hb8)
    replace RA := Lib.hid (RA.out.below hb8)
    replace HCA := Lib.hid (HCA.out.below hb8)
    have RB := Lib.hid (rules_true hrB)
    obtain ⟨aB, cB, rfl, _⟩ := Sl.form hrB
    clear hrB hb8
    have HCB := Lib.hid (Bx.one (w := w8) (o := .cells #[.slice aB A.rules.length cB, .int .i64 A.dflt] 24))
    replace RB := Lib.hid (RB.out.below HCB.out.bel)
    replace HB := Lib.hid (HB.out.below HCB.out.bel)
    replace RA := Lib.hid (RA.out.below HCB.out.bel)
    replace HCA := Lib.hid (HCA.out.below HCB.out.bel)
    have hq0 := HB.out.cells0
    have hq1 := HB.out.cells1
    have hqHCA := HCA.out.cells0
    go_wp2_with fail
    clear hq0 hq1 hqHCA
    revert HCB RB HB RA HCA
    generalize (w8.alloc (.cells #[.slice aB A.rules.length cB, .int .i64 A.dflt] 24)) = w9
    intro HCB RB HB RA HCA
    refine (same_any _ _ A A _ _ RA.out RB.out).mono ?_
    rintro e w9 ⟨rfl, hb9⟩
    replace HB := Lib.hid (HB.out.below hb9)
    replace RA := Lib.hid (RA.out.below hb9)
    replace HCA := Lib.hid (HCA.out.below hb9)
    replace RB := Lib.hid (RB.out.below hb9)
    replace HCB := Lib.hid (HCB.out.below hb9)
    clear hb9
    have hdd : decide (A = A) = true := decide_eq_true rfl
    go_wp2
    go_ret
    exact ⟨rfl, HB.out.bel⟩
  · have hne : (ea != 0) = true := bne_iff_ne.2 h0
    clear h0
    have hq0 := HB.out.cells0
    have hq1 := HB.out.cells1
    have hqHCA := HCA.out.cells0
    go_wp2_with fail
    clear hq0 hq1 hqHCA
    refine (met_walk _ (HL.out.below HB.out.bel)).mono ?_
    rintro e w6 ⟨rfl, hb6⟩
    replace HB := Lib.hid (HB.out.below hb6)
    replace RA := Lib.hid (RA.out.below hb6)
    replace HCA := Lib.hid (HCA.out.below hb6)
    clear hb6
    have hq0 := HB.out.cells0
    have hq1 := HB.out.cells1
    have hqHCA := HCA.out.cells0
    go_wp2
    go_ret
    exact ⟨rfl, HB.out.bel⟩
end Go.Proofs.YtioeliocdbckbaaGreatDoor
