/- OrderChain returns true at every three policies. Condition: Laid. -/
import Derived.Test.YtmokmmpomgjemaaDoorOrdered
namespace Go.Proofs.YtmokmmpomgjemaaDoor
open Go.RowKit

theorem looser_trans {p q r : TPol} (h1 : (looserE p q).2.2 = 0) (h2 : (looserE q r).2.2 = 0) (h3 : (looserE p r).2.2 = 0) (b1 : (looserE p q).1 = false) (b2 : (looserE q r).1 = false) : (looserE p r).1 = false :=
  (looser_iff h3).2 fun _ hx => Int.le_trans ((looser_iff h1).1 b1 _ hx) ((looser_iff h2).1 b2 _ hx)

set_option maxHeartbeats 8000000 in
theorem orderChain_walk {w : World} (hL : Laid w) (u0 : Value) (t0 : TPol) (rd0 : RdRules w (fun _ => True) u0 t0.rules) (u1 : Value) (t1 : TPol) (rd1 : RdRules w (fun _ => True) u1 t1.rules) (u2 : Value) (t2 : TPol) (rd2 : RdRules w (fun _ => True) u2 t2.rules) :
    Calls Tryd.prog 4 #[polV u0 t0.dflt, polV u1 t1.dflt, polV u2 t2.dflt] w fun e w' => e = .returned (.bool true) ∧ Below w.heap.size w w' := by
  have HL := Lib.hid hL
  have H0 := Lib.hid rd0
  have H1 := Lib.hid rd1
  have H2 := Lib.hid rd2
  obtain ⟨a0, c0, rfl, _⟩ := Sl.form rd0
  obtain ⟨a1, c1, rfl, _⟩ := Sl.form rd1
  obtain ⟨a2, c2, rfl, _⟩ := Sl.form rd2
  clear hL rd0 rd1 rd2
  go_enter Tryd.func4, Tryd.ntmps4
  go_wp2_with fail
  obtain ⟨⟨A1, A2, A3⟩, hA⟩ : ∃ A, looserE t0 t0 = A := ⟨_, rfl⟩
  have HA := Lib.hid hA
  clear hA
  refine (looser_any _ _ t0 t0 _ (H0.out.below Bx.three.bel) (H0.out.below Bx.three.bel)).mono ?_
  rw [HA.out]
  rintro e w1 ⟨rfl, hb1⟩
  have HB1 := Lib.hid (Bx.three.below hb1)
  have HC1 := Lib.hid ((Bx.one (w := w1) (o := .cells #[.int .i64 0, .int .i64 0, .int .i64 0, .int .i64 0, .int .i64 0] 26)))
  have HC2 := Lib.hid ((Bx.one (w := w1) (o := .cells #[.int .i64 A2.a0, .int .i64 A2.a1, .int .i64 A2.a2, .int .i64 A2.a3, .int .i64 A2.a4] 26)))
  have hcn := HC1.out.cells0
  have hfn := HC1.out.free0
  clear hb1
  go_wp2_with fail
  clear hcn hfn
  revert HC2
  generalize (w1.alloc (.cells #[.int .i64 A2.a0, .int .i64 A2.a1, .int .i64 A2.a2, .int .i64 A2.a3, .int .i64 A2.a4] 26)) = w2
  intro HC2
  have HB2 := Lib.hid (HB1.out.below HC2.out.bel)
  clear HC1 HC2
  refine (ordered_walk _ (HL.out.below HB2.out.bel)).mono ?_
  rintro e w3 ⟨rfl, hb3⟩
  have HB3 := Lib.hid (HB2.out.below hb3)
  clear hb3
  by_cases h0 : A3 = 0
  · subst h0
    have hA1 : A1 = false := by have := looser_self (p := t0) (by rw [HA.out]); rw [HA.out] at this; exact this
    subst hA1
    have hc0 := HB3.out.cells0
    have hc1 := HB3.out.cells1
    go_wp2_with fail
    obtain ⟨⟨B1, B2, B3⟩, hB⟩ : ∃ A, looserE t0 t1 = A := ⟨_, rfl⟩
    have HB := Lib.hid hB
    clear hB hc0 hc1
    refine (looser_any _ _ t0 t1 _ (H0.out.below HB3.out.bel) (H1.out.below HB3.out.bel)).mono ?_
    rw [HB.out]
    rintro e w4 ⟨rfl, hb4⟩
    have HB4 := Lib.hid (HB3.out.below hb4)
    have HD1 := Lib.hid ((Bx.one (w := w4) (o := .cells #[.int .i64 0, .int .i64 0, .int .i64 0, .int .i64 0, .int .i64 0] 26)))
    have HD2 := Lib.hid ((Bx.one (w := w4) (o := .cells #[.int .i64 B2.a0, .int .i64 B2.a1, .int .i64 B2.a2, .int .i64 B2.a3, .int .i64 B2.a4] 26)))
    have hcn := HD1.out.cells0
    have hfn := HD1.out.free0
    have HB5 := Lib.hid (HB4.out.below HD2.out.bel)
    have hc1 := HB5.out.cells1
    have hc2 := HB5.out.cells2
    clear hb4
    go_wp2_with fail
    clear hcn hfn hc1 hc2 HD1 HD2
    revert HB5
    generalize (w4.alloc (.cells #[.int .i64 B2.a0, .int .i64 B2.a1, .int .i64 B2.a2, .int .i64 B2.a3, .int .i64 B2.a4] 26)) = w5
    intro HB5
    obtain ⟨⟨C1, C2, C3⟩, hC⟩ : ∃ A, looserE t1 t2 = A := ⟨_, rfl⟩
    have HC := Lib.hid hC
    clear hC
    refine (looser_any _ _ t1 t2 _ (H1.out.below HB5.out.bel) (H2.out.below HB5.out.bel)).mono ?_
    rw [HC.out]
    rintro e w6 ⟨rfl, hb6⟩
    have HB6 := Lib.hid (HB5.out.below hb6)
    have HD1 := Lib.hid ((Bx.one (w := w6) (o := .cells #[.int .i64 0, .int .i64 0, .int .i64 0, .int .i64 0, .int .i64 0] 26)))
    have HD2 := Lib.hid ((Bx.one (w := w6) (o := .cells #[.int .i64 C2.a0, .int .i64 C2.a1, .int .i64 C2.a2, .int .i64 C2.a3, .int .i64 C2.a4] 26)))
    have hcn := HD1.out.cells0
    have hfn := HD1.out.free0
    have HB7 := Lib.hid (HB6.out.below HD2.out.bel)
    have hc0 := HB7.out.cells0
    have hc2 := HB7.out.cells2
    clear hb6
    go_wp2_with fail
    clear hcn hfn hc0 hc2 HD1 HD2
    revert HB7
    generalize (w6.alloc (.cells #[.int .i64 C2.a0, .int .i64 C2.a1, .int .i64 C2.a2, .int .i64 C2.a3, .int .i64 C2.a4] 26)) = w7
    intro HB7
    obtain ⟨⟨D1, D2, D3⟩, hD⟩ : ∃ A, looserE t0 t2 = A := ⟨_, rfl⟩
    have HD := Lib.hid hD
    clear hD
    refine (looser_any _ _ t0 t2 _ (H0.out.below HB7.out.bel) (H2.out.below HB7.out.bel)).mono ?_
    rw [HD.out]
    rintro e w8 ⟨rfl, hb8⟩
    have HB8 := Lib.hid (HB7.out.below hb8)
    have HE1 := Lib.hid ((Bx.one (w := w8) (o := .cells #[.int .i64 0, .int .i64 0, .int .i64 0, .int .i64 0, .int .i64 0] 26)))
    have HE2 := Lib.hid ((Bx.one (w := w8) (o := .cells #[.int .i64 D2.a0, .int .i64 D2.a1, .int .i64 D2.a2, .int .i64 D2.a3, .int .i64 D2.a4] 26)))
    have hcn := HE1.out.cells0
    have hfn := HE1.out.free0
    have HB9 := Lib.hid (HB8.out.below HE2.out.bel)
    clear hb8
    by_cases e1 : B3 = 0
    · subst e1
      by_cases e2 : C3 = 0
      · subst e2
        by_cases e3 : D3 = 0
        · subst e3
          cases B1 with
          | true => go_wp2; go_ret; exact ⟨rfl, HB9.out.bel⟩
          | false =>
            cases C1 with
            | true => go_wp2; go_ret; exact ⟨rfl, HB9.out.bel⟩
            | false =>
              have hD1 : D1 = false := by
                have := looser_trans (p := t0) (q := t1) (r := t2) (by rw [HB.out]) (by rw [HC.out]) (by rw [HD.out]) (by rw [HB.out]) (by rw [HC.out])
                rw [HD.out] at this; exact this
              subst hD1
              go_wp2; go_ret; exact ⟨rfl, HB9.out.bel⟩
        · have b0 : (D3 != 0) = true := bne_iff_ne.2 e3
          clear e3
          go_wp2; go_ret; exact ⟨rfl, HB9.out.bel⟩
      · have b0 : (C3 != 0) = true := bne_iff_ne.2 e2
        clear e2
        go_wp2; go_ret; exact ⟨rfl, HB9.out.bel⟩
    · have b0 : (B3 != 0) = true := bne_iff_ne.2 e1
      clear e1
      go_wp2; go_ret; exact ⟨rfl, HB9.out.bel⟩
  · have b0 : (A3 != 0) = true := bne_iff_ne.2 h0
    clear h0
    go_wp2_with fail
    refine (ordered_walk _ (HL.out.below HB3.out.bel)).mono ?_
    rintro e w4 ⟨rfl, hb4⟩
    have HB5 := Lib.hid (HB3.out.below hb4)
    clear hb4
    go_wp2
    go_ret
    exact ⟨rfl, HB5.out.bel⟩
end Go.Proofs.YtmokmmpomgjemaaDoor
