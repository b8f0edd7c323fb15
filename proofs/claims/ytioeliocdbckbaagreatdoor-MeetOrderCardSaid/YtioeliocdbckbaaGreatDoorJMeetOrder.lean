/- MeetOrder returns true at every three policies. Condition: Laid, with the table of blanks. -/
import Derived.Test.YtioeliocdbckbaaGreatDoorK7
import Derived.Test.YtioeliocdbckbaaGreatDoorK5
namespace Go.Proofs.YtioeliocdbckbaaGreatDoor
open Go.RowKit

theorem min_le (a b : Int) : minOf a b ≤ a ∧ minOf a b ≤ b := by simp only [minOf]; split <;> omega
theorem le_min {a b c : Int} (h1 : c ≤ a) (h2 : c ≤ b) : c ≤ minOf a b := by simp only [minOf]; split <;> omega
theorem meet_looser {p q r : TPol} (h : (looserE (pairPol minOf p q) r).2.2 = 0) (hr : ∀ x : TCall, says (pairPol minOf p q) x ≤ says r x) : (looserE (pairPol minOf p q) r).1 = false := (looser_iff h).2 fun x _ => hr x

set_option maxRecDepth 100000 in
set_option maxHeartbeats 16000000 in
theorem meetOrder_walk {w : World} (hL : LaidF w) (u0 : Value) (t0 : TPol) (rd0 : RdRules w (fun _ => True) u0 t0.rules) (u1 : Value) (t1 : TPol) (rd1 : RdRules w (fun _ => True) u1 t1.rules) (u2 : Value) (t2 : TPol) (rd2 : RdRules w (fun _ => True) u2 t2.rules) :
    Calls Tryz.prog 9 #[polV u0 t0.dflt, polV u1 t1.dflt, polV u2 t2.dflt] w fun e w' => e = .returned (.bool true) ∧ Below w.heap.size w w' := by
  have HL := Lib.hid hL
  have H0 := Lib.hid rd0
  have H1 := Lib.hid rd1
  have H2 := Lib.hid rd2
  obtain ⟨a0, c0, rfl, _⟩ := Sl.form rd0
  obtain ⟨a1, c1, rfl, _⟩ := Sl.form rd1
  obtain ⟨a2, c2, rfl, _⟩ := Sl.form rd2
  clear hL rd0 rd1 rd2
  go_enter Tryz.func9, Tryz.ntmps9
  go_wp2_with fail
  have HB := Lib.hid (Bx.three (w := w) (o := .cells #[.slice a0 t0.rules.length c0, .int .i64 t0.dflt] 24) (o' := .cells #[.slice a1 t1.rules.length c1, .int .i64 t1.dflt] 24) (o2 := .cells #[.slice a2 t2.rules.length c2, .int .i64 t2.dflt] 24))
  obtain ⟨⟨A, ea⟩, hA⟩ : ∃ E, pairE minOf t0 t1 = E := ⟨_, rfl⟩
  have HA := Lib.hid hA
  clear hA
  refine (meet_any _ _ t0 t1 _ (H0.out.below HB.out.bel) (H1.out.below HB.out.bel)).mono ?_
  rw [HA.out]
  rintro e w1 ⟨rA, rfl, hrA, hb1⟩
  replace HB := Lib.hid (HB.out.below hb1)
  have RA := Lib.hid (rules_true hrA)
  obtain ⟨aA, cA, rfl, _⟩ := Sl.form hrA
  clear hrA hb1
  have HCA := Lib.hid (Bx.one (w := w1) (o := .cells #[.slice aA A.rules.length cA, .int .i64 A.dflt] 24))
  replace RA := Lib.hid (RA.out.below HCA.out.bel)
  replace HB := Lib.hid (HB.out.below HCA.out.bel)
  have hq0 := HB.out.cells0
  have hq1 := HB.out.cells1
  have hq2 := HB.out.cells2
  go_wp2_with fail
  clear hq0 hq1 hq2
  revert HCA RA HB
  generalize (w1.alloc (.cells #[.slice aA A.rules.length cA, .int .i64 A.dflt] 24)) = w2
  intro HCA RA HB
  refine (met_walk _ (HL.out.below HB.out.bel)).mono ?_
  rintro e w3 ⟨rfl, hb3⟩
  replace HB := Lib.hid (HB.out.below hb3)
  replace RA := Lib.hid (RA.out.below hb3)
  replace HCA := Lib.hid (HCA.out.below hb3)
  clear hb3
  by_cases h0 : ea = 0
  · subst h0
    obtain ⟨hp, hq, hpq, hpe⟩ := pairE_ok (of := minOf) (p := t0) (q := t1) (by rw [HA.out])
    have hAe : A = pairPol minOf t0 t1 := by have := HA.out.symm.trans hpe; simpa using this
    have HAe := Lib.hid hAe
    clear hp hq hpq hpe hAe
    obtain ⟨⟨L1, L2, L3⟩, hL⟩ : ∃ E, looserE A t0 = E := ⟨_, rfl⟩
    have KL := Lib.hid hL
    clear hL
    obtain ⟨⟨M1, M2, M3⟩, hM⟩ : ∃ E, looserE A t1 = E := ⟨_, rfl⟩
    have KM := Lib.hid hM
    clear hM
    obtain ⟨⟨N1, N2, N3⟩, hN⟩ : ∃ E, looserE t2 t0 = E := ⟨_, rfl⟩
    have KN := Lib.hid hN
    clear hN
    obtain ⟨⟨O1, O2, O3⟩, hO⟩ : ∃ E, looserE t2 t1 = E := ⟨_, rfl⟩
    have KO := Lib.hid hO
    clear hO
    obtain ⟨⟨P1, P2, P3⟩, hP⟩ : ∃ E, looserE t2 A = E := ⟨_, rfl⟩
    have KP := Lib.hid hP
    clear hP
    have KLf : Hid (L3 = 0 → L1 = false) := fun h => by have := (looser_iff (p := A) (q := t0) (by rw [KL.out]; exact h)).2 (fun y _ => by rw [HAe.out, says_pair]; exact (min_le _ _).1); rw [KL.out] at this; exact this
    have KMf : Hid (M3 = 0 → M1 = false) := fun h => by have := (looser_iff (p := A) (q := t1) (by rw [KM.out]; exact h)).2 (fun y _ => by rw [HAe.out, says_pair]; exact (min_le _ _).2); rw [KM.out] at this; exact this
    have KPf : Hid (N3 = 0 → O3 = 0 → P3 = 0 → N1 = false → O1 = false → P1 = false) := fun h1 h2 h3 h4 h5 => by have := (looser_iff (p := t2) (q := A) (by rw [KP.out]; exact h3)).2 (fun y hy => by rw [HAe.out, says_pair]; exact le_min ((looser_iff (by rw [KN.out]; exact h1)).1 (by rw [KN.out]; exact h4) y hy) ((looser_iff (by rw [KO.out]; exact h2)).1 (by rw [KO.out]; exact h5) y hy)); rw [KP.out] at this; exact this
    have hq0 := HB.out.cells0
    have hq1 := HB.out.cells1
    have hq2 := HB.out.cells2
    have hqHCA := HCA.out.cells0
    go_wp2_with fail
    clear hq0 hq1 hq2 hqHCA
    refine (looser_any _ _ A t0 _ RA.out (H0.out.below HB.out.bel)).mono ?_
    rw [KL.out]
    rintro e w4 ⟨rfl, hb4⟩
    replace HB := Lib.hid (HB.out.below hb4)
    replace RA := Lib.hid (RA.out.below hb4)
    replace HCA := Lib.hid (HCA.out.below hb4)
    clear hb4
    have hD1 := Bx.one (w := w4) (o := .cells #[.int .i64 0, .int .i64 0, .int .i64 0, .int .i64 0, .int .i64 0] 26)
    have HD2 := Lib.hid (Bx.one (w := w4) (o := .cells #[.int .i64 L2.a0, .int .i64 L2.a1, .int .i64 L2.a2, .int .i64 L2.a3, .int .i64 L2.a4] 26))
    have hcn := hD1.cells0
    have hfn := hD1.free0
    clear hD1
    replace HB := Lib.hid (HB.out.below HD2.out.bel)
    replace RA := Lib.hid (RA.out.below HD2.out.bel)
    replace HCA := Lib.hid (HCA.out.below HD2.out.bel)
    have hq0 := HB.out.cells0
    have hq1 := HB.out.cells1
    have hq2 := HB.out.cells2
    have hqHCA := HCA.out.cells0
    go_wp2_with fail
    clear hq0 hq1 hq2 hqHCA
    clear hcn hfn HD2
    revert HB RA HCA
    generalize (w4.alloc (.cells #[.int .i64 L2.a0, .int .i64 L2.a1, .int .i64 L2.a2, .int .i64 L2.a3, .int .i64 L2.a4] 26)) = w5
    intro HB RA HCA
    refine (looser_any _ _ A t1 _ RA.out (H1.out.below HB.out.bel)).mono ?_
    rw [KM.out]
    rintro e w6 ⟨rfl, hb6⟩
    replace HB := Lib.hid (HB.out.below hb6)
    replace RA := Lib.hid (RA.out.below hb6)
    replace HCA := Lib.hid (HCA.out.below hb6)
    clear hb6
    have hD1 := Bx.one (w := w6) (o := .cells #[.int .i64 0, .int .i64 0, .int .i64 0, .int .i64 0, .int .i64 0] 26)
    have HD2 := Lib.hid (Bx.one (w := w6) (o := .cells #[.int .i64 M2.a0, .int .i64 M2.a1, .int .i64 M2.a2, .int .i64 M2.a3, .int .i64 M2.a4] 26))
    have hcn := hD1.cells0
    have hfn := hD1.free0
    clear hD1
    replace HB := Lib.hid (HB.out.below HD2.out.bel)
    replace RA := Lib.hid (RA.out.below HD2.out.bel)
    replace HCA := Lib.hid (HCA.out.below HD2.out.bel)
    by_cases eL : L3 = 0
    · subst eL
      obtain rfl : L1 = false := KLf.out rfl
      by_cases eM : M3 = 0
      · subst eM
        obtain rfl : M1 = false := KMf.out rfl
        have hq0 := HB.out.cells0
        have hq1 := HB.out.cells1
        have hq2 := HB.out.cells2
        have hqHCA := HCA.out.cells0
        go_wp2_with fail
        clear hq0 hq1 hq2 hqHCA
        clear hcn hfn HD2
        revert HB RA HCA
        generalize (w6.alloc (.cells #[.int .i64 M2.a0, .int .i64 M2.a1, .int .i64 M2.a2, .int .i64 M2.a3, .int .i64 M2.a4] 26)) = w7
        intro HB RA HCA
        refine (looser_any _ _ t2 t0 _ (H2.out.below HB.out.bel) (H0.out.below HB.out.bel)).mono ?_
        rw [KN.out]
        rintro e w8 ⟨rfl, hb8⟩
        replace HB := Lib.hid (HB.out.below hb8)
        replace RA := Lib.hid (RA.out.below hb8)
        replace HCA := Lib.hid (HCA.out.below hb8)
        clear hb8
        have hD1 := Bx.one (w := w8) (o := .cells #[.int .i64 0, .int .i64 0, .int .i64 0, .int .i64 0, .int .i64 0] 26)
        have HD2 := Lib.hid (Bx.one (w := w8) (o := .cells #[.int .i64 N2.a0, .int .i64 N2.a1, .int .i64 N2.a2, .int .i64 N2.a3, .int .i64 N2.a4] 26))
        have hcn := hD1.cells0
        have hfn := hD1.free0
        clear hD1
        replace HB := Lib.hid (HB.out.below HD2.out.bel)
        replace RA := Lib.hid (RA.out.below HD2.out.bel)
        replace HCA := Lib.hid (HCA.out.below HD2.out.bel)
        have hq0 := HB.out.cells0
        have hq1 := HB.out.cells1
        have hq2 := HB.out.cells2
        have hqHCA := HCA.out.cells0
        go_wp2_with fail
        clear hq0 hq1 hq2 hqHCA
        clear hcn hfn HD2
        revert HB RA HCA
        generalize (w8.alloc (.cells #[.int .i64 N2.a0, .int .i64 N2.a1, .int .i64 N2.a2, .int .i64 N2.a3, .int .i64 N2.a4] 26)) = w9
        intro HB RA HCA
        refine (looser_any _ _ t2 t1 _ (H2.out.below HB.out.bel) (H1.out.below HB.out.bel)).mono ?_
        rw [KO.out]
        rintro e w10 ⟨rfl, hb10⟩
        replace HB := Lib.hid (HB.out.below hb10)
        replace RA := Lib.hid (RA.out.below hb10)
        replace HCA := Lib.hid (HCA.out.below hb10)
        clear hb10
        have hD1 := Bx.one (w := w10) (o := .cells #[.int .i64 0, .int .i64 0, .int .i64 0, .int .i64 0, .int .i64 0] 26)
        have HD2 := Lib.hid (Bx.one (w := w10) (o := .cells #[.int .i64 O2.a0, .int .i64 O2.a1, .int .i64 O2.a2, .int .i64 O2.a3, .int .i64 O2.a4] 26))
        have hcn := hD1.cells0
        have hfn := hD1.free0
        clear hD1
        replace HB := Lib.hid (HB.out.below HD2.out.bel)
        replace RA := Lib.hid (RA.out.below HD2.out.bel)
        replace HCA := Lib.hid (HCA.out.below HD2.out.bel)
        have hq0 := HB.out.cells0
        have hq1 := HB.out.cells1
        have hq2 := HB.out.cells2
        have hqHCA := HCA.out.cells0
        go_wp2_with fail
        clear hq0 hq1 hq2 hqHCA
        clear hcn hfn HD2
        revert HB RA HCA
        generalize (w10.alloc (.cells #[.int .i64 O2.a0, .int .i64 O2.a1, .int .i64 O2.a2, .int .i64 O2.a3, .int .i64 O2.a4] 26)) = w11
        intro HB RA HCA
        refine (looser_any _ _ t2 A _ (H2.out.below HB.out.bel) RA.out).mono ?_
        rw [KP.out]
        rintro e w12 ⟨rfl, hb12⟩
        replace HB := Lib.hid (HB.out.below hb12)
        replace RA := Lib.hid (RA.out.below hb12)
        replace HCA := Lib.hid (HCA.out.below hb12)
        clear hb12
        have hD1 := Bx.one (w := w12) (o := .cells #[.int .i64 0, .int .i64 0, .int .i64 0, .int .i64 0, .int .i64 0] 26)
        have HD2 := Lib.hid (Bx.one (w := w12) (o := .cells #[.int .i64 P2.a0, .int .i64 P2.a1, .int .i64 P2.a2, .int .i64 P2.a3, .int .i64 P2.a4] 26))
        have hcn := hD1.cells0
        have hfn := hD1.free0
        clear hD1
        replace HB := Lib.hid (HB.out.below HD2.out.bel)
        replace RA := Lib.hid (RA.out.below HD2.out.bel)
        replace HCA := Lib.hid (HCA.out.below HD2.out.bel)
        by_cases eN3 : N3 = 0
        · subst eN3
          by_cases eO3 : O3 = 0
          · subst eO3
            by_cases eP3 : P3 = 0
            · subst eP3
              cases N1 with
              | true =>
                go_wp2
                go_ret
                exact ⟨rfl, HB.out.bel⟩
              | false =>
                cases O1 with
                | true =>
                  go_wp2
                  go_ret
                  exact ⟨rfl, HB.out.bel⟩
                | false =>
                  obtain rfl : P1 = false := KPf.out rfl rfl rfl rfl rfl
                  go_wp2
                  go_ret
                  exact ⟨rfl, HB.out.bel⟩
            · have hne : (P3 != 0) = true := bne_iff_ne.2 eP3
              clear eP3
              go_wp2
              go_ret
              exact ⟨rfl, HB.out.bel⟩
          · have hne : (O3 != 0) = true := bne_iff_ne.2 eO3
            clear eO3
            go_wp2
            go_ret
            exact ⟨rfl, HB.out.bel⟩
        · have hne : (N3 != 0) = true := bne_iff_ne.2 eN3
          clear eN3
          go_wp2
          go_ret
          exact ⟨rfl, HB.out.bel⟩
      · have hnm : (M3 == 0) = false := by simpa using eM
        clear eM
        have hq0 := HB.out.cells0
        have hq1 := HB.out.cells1
        have hq2 := HB.out.cells2
        have hqHCA := HCA.out.cells0
        go_wp2_with fail
        clear hq0 hq1 hq2 hqHCA
        clear hcn hfn HD2
        revert HB RA HCA
        generalize (w6.alloc (.cells #[.int .i64 M2.a0, .int .i64 M2.a1, .int .i64 M2.a2, .int .i64 M2.a3, .int .i64 M2.a4] 26)) = w7
        intro HB RA HCA
        refine (looser_any _ _ t2 t0 _ (H2.out.below HB.out.bel) (H0.out.below HB.out.bel)).mono ?_
        rw [KN.out]
        rintro e w8 ⟨rfl, hb8⟩
        replace HB := Lib.hid (HB.out.below hb8)
        replace RA := Lib.hid (RA.out.below hb8)
        replace HCA := Lib.hid (HCA.out.below hb8)
        clear hb8
        have hD1 := Bx.one (w := w8) (o := .cells #[.int .i64 0, .int .i64 0, .int .i64 0, .int .i64 0, .int .i64 0] 26)
        have HD2 := Lib.hid (Bx.one (w := w8) (o := .cells #[.int .i64 N2.a0, .int .i64 N2.a1, .int .i64 N2.a2, .int .i64 N2.a3, .int .i64 N2.a4] 26))
        have hcn := hD1.cells0
        have hfn := hD1.free0
        clear hD1
        replace HB := Lib.hid (HB.out.below HD2.out.bel)
        replace RA := Lib.hid (RA.out.below HD2.out.bel)
        replace HCA := Lib.hid (HCA.out.below HD2.out.bel)
        have hq0 := HB.out.cells0
        have hq1 := HB.out.cells1
        have hq2 := HB.out.cells2
        have hqHCA := HCA.out.cells0
        go_wp2_with fail
        clear hq0 hq1 hq2 hqHCA
        clear hcn hfn HD2
        revert HB RA HCA
        generalize (w8.alloc (.cells #[.int .i64 N2.a0, .int .i64 N2.a1, .int .i64 N2.a2, .int .i64 N2.a3, .int .i64 N2.a4] 26)) = w9
        intro HB RA HCA
        refine (looser_any _ _ t2 t1 _ (H2.out.below HB.out.bel) (H1.out.below HB.out.bel)).mono ?_
        rw [KO.out]
        rintro e w10 ⟨rfl, hb10⟩
        replace HB := Lib.hid (HB.out.below hb10)
        replace RA := Lib.hid (RA.out.below hb10)
        replace HCA := Lib.hid (HCA.out.below hb10)
        clear hb10
        have hD1 := Bx.one (w := w10) (o := .cells #[.int .i64 0, .int .i64 0, .int .i64 0, .int .i64 0, .int .i64 0] 26)
        have HD2 := Lib.hid (Bx.one (w := w10) (o := .cells #[.int .i64 O2.a0, .int .i64 O2.a1, .int .i64 O2.a2, .int .i64 O2.a3, .int .i64 O2.a4] 26))
        have hcn := hD1.cells0
        have hfn := hD1.free0
        clear hD1
        replace HB := Lib.hid (HB.out.below HD2.out.bel)
        replace RA := Lib.hid (RA.out.below HD2.out.bel)
        replace HCA := Lib.hid (HCA.out.below HD2.out.bel)
        have hq0 := HB.out.cells0
        have hq1 := HB.out.cells1
        have hq2 := HB.out.cells2
        have hqHCA := HCA.out.cells0
        go_wp2_with fail
        clear hq0 hq1 hq2 hqHCA
        clear hcn hfn HD2
        revert HB RA HCA
        generalize (w10.alloc (.cells #[.int .i64 O2.a0, .int .i64 O2.a1, .int .i64 O2.a2, .int .i64 O2.a3, .int .i64 O2.a4] 26)) = w11
        intro HB RA HCA
        refine (looser_any _ _ t2 A _ (H2.out.below HB.out.bel) RA.out).mono ?_
        rw [KP.out]
        rintro e w12 ⟨rfl, hb12⟩
        replace HB := Lib.hid (HB.out.below hb12)
        replace RA := Lib.hid (RA.out.below hb12)
        replace HCA := Lib.hid (HCA.out.below hb12)
        clear hb12
        have hD1 := Bx.one (w := w12) (o := .cells #[.int .i64 0, .int .i64 0, .int .i64 0, .int .i64 0, .int .i64 0] 26)
        have HD2 := Lib.hid (Bx.one (w := w12) (o := .cells #[.int .i64 P2.a0, .int .i64 P2.a1, .int .i64 P2.a2, .int .i64 P2.a3, .int .i64 P2.a4] 26))
        have hcn := hD1.cells0
        have hfn := hD1.free0
        clear hD1
        replace HB := Lib.hid (HB.out.below HD2.out.bel)
        replace RA := Lib.hid (RA.out.below HD2.out.bel)
        replace HCA := Lib.hid (HCA.out.below HD2.out.bel)
        by_cases eN3 : N3 = 0
        · subst eN3
          by_cases eO3 : O3 = 0
          · subst eO3
            by_cases eP3 : P3 = 0
            · subst eP3
              cases N1 with
              | true =>
                go_wp2
                go_ret
                exact ⟨rfl, HB.out.bel⟩
              | false =>
                cases O1 with
                | true =>
                  go_wp2
                  go_ret
                  exact ⟨rfl, HB.out.bel⟩
                | false =>
                  obtain rfl : P1 = false := KPf.out rfl rfl rfl rfl rfl
                  go_wp2
                  go_ret
                  exact ⟨rfl, HB.out.bel⟩
            · have hne : (P3 != 0) = true := bne_iff_ne.2 eP3
              clear eP3
              go_wp2
              go_ret
              exact ⟨rfl, HB.out.bel⟩
          · have hne : (O3 != 0) = true := bne_iff_ne.2 eO3
            clear eO3
            go_wp2
            go_ret
            exact ⟨rfl, HB.out.bel⟩
        · have hne : (N3 != 0) = true := bne_iff_ne.2 eN3
          clear eN3
          go_wp2
          go_ret
          exact ⟨rfl, HB.out.bel⟩
    · have hnl : (L3 == 0) = false := by simpa using eL
      clear eL
      by_cases eM : M3 = 0
      · subst eM
        obtain rfl : M1 = false := KMf.out rfl
        have hq0 := HB.out.cells0
        have hq1 := HB.out.cells1
        have hq2 := HB.out.cells2
        have hqHCA := HCA.out.cells0
        go_wp2_with fail
        clear hq0 hq1 hq2 hqHCA
        clear hcn hfn HD2
        revert HB RA HCA
        generalize (w6.alloc (.cells #[.int .i64 M2.a0, .int .i64 M2.a1, .int .i64 M2.a2, .int .i64 M2.a3, .int .i64 M2.a4] 26)) = w7
        intro HB RA HCA
        refine (looser_any _ _ t2 t0 _ (H2.out.below HB.out.bel) (H0.out.below HB.out.bel)).mono ?_
        rw [KN.out]
        rintro e w8 ⟨rfl, hb8⟩
        replace HB := Lib.hid (HB.out.below hb8)
        replace RA := Lib.hid (RA.out.below hb8)
        replace HCA := Lib.hid (HCA.out.below hb8)
        clear hb8
        have hD1 := Bx.one (w := w8) (o := .cells #[.int .i64 0, .int .i64 0, .int .i64 0, .int .i64 0, .int .i64 0] 26)
        have HD2 := Lib.hid (Bx.one (w := w8) (o := .cells #[.int .i64 N2.a0, .int .i64 N2.a1, .int .i64 N2.a2, .int .i64 N2.a3, .int .i64 N2.a4] 26))
        have hcn := hD1.cells0
        have hfn := hD1.free0
        clear hD1
        replace HB := Lib.hid (HB.out.below HD2.out.bel)
        replace RA := Lib.hid (RA.out.below HD2.out.bel)
        replace HCA := Lib.hid (HCA.out.below HD2.out.bel)
        have hq0 := HB.out.cells0
        have hq1 := HB.out.cells1
        have hq2 := HB.out.cells2
        have hqHCA := HCA.out.cells0
        go_wp2_with fail
        clear hq0 hq1 hq2 hqHCA
        clear hcn hfn HD2
        revert HB RA HCA
        generalize (w8.alloc (.cells #[.int .i64 N2.a0, .int .i64 N2.a1, .int .i64 N2.a2, .int .i64 N2.a3, .int .i64 N2.a4] 26)) = w9
        intro HB RA HCA
        refine (looser_any _ _ t2 t1 _ (H2.out.below HB.out.bel) (H1.out.below HB.out.bel)).mono ?_
        rw [KO.out]
        rintro e w10 ⟨rfl, hb10⟩
        replace HB := Lib.hid (HB.out.below hb10)
        replace RA := Lib.hid (RA.out.below hb10)
        replace HCA := Lib.hid (HCA.out.below hb10)
        clear hb10
        have hD1 := Bx.one (w := w10) (o := .cells #[.int .i64 0, .int .i64 0, .int .i64 0, .int .i64 0, .int .i64 0] 26)
        have HD2 := Lib.hid (Bx.one (w := w10) (o := .cells #[.int .i64 O2.a0, .int .i64 O2.a1, .int .i64 O2.a2, .int .i64 O2.a3, .int .i64 O2.a4] 26))
        have hcn := hD1.cells0
        have hfn := hD1.free0
        clear hD1
        replace HB := Lib.hid (HB.out.below HD2.out.bel)
        replace RA := Lib.hid (RA.out.below HD2.out.bel)
        replace HCA := Lib.hid (HCA.out.below HD2.out.bel)
        have hq0 := HB.out.cells0
        have hq1 := HB.out.cells1
        have hq2 := HB.out.cells2
        have hqHCA := HCA.out.cells0
        go_wp2_with fail
        clear hq0 hq1 hq2 hqHCA
        clear hcn hfn HD2
        revert HB RA HCA
        generalize (w10.alloc (.cells #[.int .i64 O2.a0, .int .i64 O2.a1, .int .i64 O2.a2, .int .i64 O2.a3, .int .i64 O2.a4] 26)) = w11
        intro HB RA HCA
        refine (looser_any _ _ t2 A _ (H2.out.below HB.out.bel) RA.out).mono ?_
        rw [KP.out]
        rintro e w12 ⟨rfl, hb12⟩
        replace HB := Lib.hid (HB.out.below hb12)
        replace RA := Lib.hid (RA.out.below hb12)
        replace HCA := Lib.hid (HCA.out.below hb12)
        clear hb12
        have hD1 := Bx.one (w := w12) (o := .cells #[.int .i64 0, .int .i64 0, .int .i64 0, .int .i64 0, .int .i64 0] 26)
        have HD2 := Lib.hid (Bx.one (w := w12) (o := .cells #[.int .i64 P2.a0, .int .i64 P2.a1, .int .i64 P2.a2, .int .i64 P2.a3, .int .i64 P2.a4] 26))
        have hcn := hD1.cells0
        have hfn := hD1.free0
        clear hD1
        replace HB := Lib.hid (HB.out.below HD2.out.bel)
        replace RA := Lib.hid (RA.out.below HD2.out.bel)
        replace HCA := Lib.hid (HCA.out.below HD2.out.bel)
        by_cases eN3 : N3 = 0
        · subst eN3
          by_cases eO3 : O3 = 0
          · subst eO3
            by_cases eP3 : P3 = 0
            · subst eP3
              cases N1 with
              | true =>
                go_wp2
                go_ret
                exact ⟨rfl, HB.out.bel⟩
              | false =>
                cases O1 with
                | true =>
                  go_wp2
                  go_ret
                  exact ⟨rfl, HB.out.bel⟩
                | false =>
                  obtain rfl : P1 = false := KPf.out rfl rfl rfl rfl rfl
                  go_wp2
                  go_ret
                  exact ⟨rfl, HB.out.bel⟩
            · have hne : (P3 != 0) = true := bne_iff_ne.2 eP3
              clear eP3
              go_wp2
              go_ret
              exact ⟨rfl, HB.out.bel⟩
          · have hne : (O3 != 0) = true := bne_iff_ne.2 eO3
            clear eO3
            go_wp2
            go_ret
            exact ⟨rfl, HB.out.bel⟩
        · have hne : (N3 != 0) = true := bne_iff_ne.2 eN3
          clear eN3
          go_wp2
          go_ret
          exact ⟨rfl, HB.out.bel⟩
      · have hnm : (M3 == 0) = false := by simpa using eM
        clear eM
        have hq0 := HB.out.cells0
        have hq1 := HB.out.cells1
        have hq2 := HB.out.cells2
        have hqHCA := HCA.out.cells0
        go_wp2_with fail
        clear hq0 hq1 hq2 hqHCA
        clear hcn hfn HD2
        revert HB RA HCA
        generalize (w6.alloc (.cells #[.int .i64 M2.a0, .int .i64 M2.a1, .int .i64 M2.a2, .int .i64 M2.a3, .int .i64 M2.a4] 26)) = w7
        intro HB RA HCA
        refine (looser_any _ _ t2 t0 _ (H2.out.below HB.out.bel) (H0.out.below HB.out.bel)).mono ?_
        rw [KN.out]
        rintro e w8 ⟨rfl, hb8⟩
        replace HB := Lib.hid (HB.out.below hb8)
        replace RA := Lib.hid (RA.out.below hb8)
        replace HCA := Lib.hid (HCA.out.below hb8)
        clear hb8
        have hD1 := Bx.one (w := w8) (o := .cells #[.int .i64 0, .int .i64 0, .int .i64 0, .int .i64 0, .int .i64 0] 26)
        have HD2 := Lib.hid (Bx.one (w := w8) (o := .cells #[.int .i64 N2.a0, .int .i64 N2.a1, .int .i64 N2.a2, .int .i64 N2.a3, .int .i64 N2.a4] 26))
        have hcn := hD1.cells0
        have hfn := hD1.free0
        clear hD1
        replace HB := Lib.hid (HB.out.below HD2.out.bel)
        replace RA := Lib.hid (RA.out.below HD2.out.bel)
        replace HCA := Lib.hid (HCA.out.below HD2.out.bel)
        have hq0 := HB.out.cells0
        have hq1 := HB.out.cells1
        have hq2 := HB.out.cells2
        have hqHCA := HCA.out.cells0
        go_wp2_with fail
        clear hq0 hq1 hq2 hqHCA
        clear hcn hfn HD2
        revert HB RA HCA
        generalize (w8.alloc (.cells #[.int .i64 N2.a0, .int .i64 N2.a1, .int .i64 N2.a2, .int .i64 N2.a3, .int .i64 N2.a4] 26)) = w9
        intro HB RA HCA
        refine (looser_any _ _ t2 t1 _ (H2.out.below HB.out.bel) (H1.out.below HB.out.bel)).mono ?_
        rw [KO.out]
        rintro e w10 ⟨rfl, hb10⟩
        replace HB := Lib.hid (HB.out.below hb10)
        replace RA := Lib.hid (RA.out.below hb10)
        replace HCA := Lib.hid (HCA.out.below hb10)
        clear hb10
        have hD1 := Bx.one (w := w10) (o := .cells #[.int .i64 0, .int .i64 0, .int .i64 0, .int .i64 0, .int .i64 0] 26)
        have HD2 := Lib.hid (Bx.one (w := w10) (o := .cells #[.int .i64 O2.a0, .int .i64 O2.a1, .int .i64 O2.a2, .int .i64 O2.a3, .int .i64 O2.a4] 26))
        have hcn := hD1.cells0
        have hfn := hD1.free0
        clear hD1
        replace HB := Lib.hid (HB.out.below HD2.out.bel)
        replace RA := Lib.hid (RA.out.below HD2.out.bel)
        replace HCA := Lib.hid (HCA.out.below HD2.out.bel)
        have hq0 := HB.out.cells0
        have hq1 := HB.out.cells1
        have hq2 := HB.out.cells2
        have hqHCA := HCA.out.cells0
        go_wp2_with fail
        clear hq0 hq1 hq2 hqHCA
        clear hcn hfn HD2
        revert HB RA HCA
        generalize (w10.alloc (.cells #[.int .i64 O2.a0, .int .i64 O2.a1, .int .i64 O2.a2, .int .i64 O2.a3, .int .i64 O2.a4] 26)) = w11
        intro HB RA HCA
        refine (looser_any _ _ t2 A _ (H2.out.below HB.out.bel) RA.out).mono ?_
        rw [KP.out]
        rintro e w12 ⟨rfl, hb12⟩
        replace HB := Lib.hid (HB.out.below hb12)
        replace RA := Lib.hid (RA.out.below hb12)
        replace HCA := Lib.hid (HCA.out.below hb12)
        clear hb12
        have hD1 := Bx.one (w := w12) (o := .cells #[.int .i64 0, .int .i64 0, .int .i64 0, .int .i64 0, .int .i64 0] 26)
        have HD2 := Lib.hid (Bx.one (w := w12) (o := .cells #[.int .i64 P2.a0, .int .i64 P2.a1, .int .i64 P2.a2, .int .i64 P2.a3, .int .i64 P2.a4] 26))
        have hcn := hD1.cells0
        have hfn := hD1.free0
        clear hD1
        replace HB := Lib.hid (HB.out.below HD2.out.bel)
        replace RA := Lib.hid (RA.out.below HD2.out.bel)
        replace HCA := Lib.hid (HCA.out.below HD2.out.bel)
        by_cases eN3 : N3 = 0
        · subst eN3
          by_cases eO3 : O3 = 0
          · subst eO3
            by_cases eP3 : P3 = 0
            · subst eP3
              cases N1 with
              | true =>
                go_wp2
                go_ret
                exact ⟨rfl, HB.out.bel⟩
              | false =>
                cases O1 with
                | true =>
                  go_wp2
                  go_ret
                  exact ⟨rfl, HB.out.bel⟩
                | false =>
                  obtain rfl : P1 = false := KPf.out rfl rfl rfl rfl rfl
                  go_wp2
                  go_ret
                  exact ⟨rfl, HB.out.bel⟩
            · have hne : (P3 != 0) = true := bne_iff_ne.2 eP3
              clear eP3
              go_wp2
              go_ret
              exact ⟨rfl, HB.out.bel⟩
          · have hne : (O3 != 0) = true := bne_iff_ne.2 eO3
            clear eO3
            go_wp2
            go_ret
            exact ⟨rfl, HB.out.bel⟩
        · have hne : (N3 != 0) = true := bne_iff_ne.2 eN3
          clear eN3
          go_wp2
          go_ret
          exact ⟨rfl, HB.out.bel⟩
  · have hne : (ea != 0) = true := bne_iff_ne.2 h0
    clear h0
    have hq0 := HB.out.cells0
    have hq1 := HB.out.cells1
    have hq2 := HB.out.cells2
    have hqHCA := HCA.out.cells0
    go_wp2_with fail
    clear hq0 hq1 hq2 hqHCA
    refine (met_walk _ (HL.out.below HB.out.bel)).mono ?_
    rintro e w4 ⟨rfl, hb4⟩
    replace HB := Lib.hid (HB.out.below hb4)
    replace RA := Lib.hid (RA.out.below hb4)
    replace HCA := Lib.hid (HCA.out.below hb4)
    clear hb4
    have hq0 := HB.out.cells0
    have hq1 := HB.out.cells1
    have hq2 := HB.out.cells2
    have hqHCA := HCA.out.cells0
    go_wp2
    go_ret
    exact ⟨rfl, HB.out.bel⟩
end Go.Proofs.YtioeliocdbckbaaGreatDoor
