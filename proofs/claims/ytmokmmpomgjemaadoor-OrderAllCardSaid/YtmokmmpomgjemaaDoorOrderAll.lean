/- OrderAll returns true at every two policies and call. Condition: Laid. -/
import Derived.Test.YtmokmmpomgjemaaDoorOrdered
import Derived.Test.YtmokmmpomgjemaaDoorRight
namespace Go.Proofs.YtmokmmpomgjemaaDoor
open Go.RowKit

set_option maxHeartbeats 8000000 in
theorem orderAll_walk {w : World} (hL : Laid w) (u0 : Value) (t0 : TPol) (rd0 : RdRules w (fun _ => True) u0 t0.rules) (u1 : Value) (t1 : TPol) (rd1 : RdRules w (fun _ => True) u1 t1.rules) (x : TCall) :
    Calls Tryd.prog 3 #[polV u0 t0.dflt, polV u1 t1.dflt, callV x] w fun e w' => e = .returned (.bool true) ∧ Below w.heap.size w w' := by
  have HL := Lib.hid hL
  have H0 := Lib.hid rd0
  have H1 := Lib.hid rd1
  obtain ⟨a0, c0, rfl, _⟩ := Sl.form rd0
  obtain ⟨a1, c1, rfl, _⟩ := Sl.form rd1
  clear hL rd0 rd1
  go_enter Tryd.func3, Tryd.ntmps3
  go_wp2_with fail
  refine (right_any x _).mono ?_
  rintro e w0 ⟨rfl, hb0⟩
  have HB0 := Lib.hid (Bx.three.below hb0)
  have hcell := HB0.out.cells2
  have hfr := HB0.out.free2
  have hcell0 := HB0.out.cells0
  have hcell1 := HB0.out.cells1
  have HB1 := Lib.hid (HB0.out.setCall2 (y := x.right))
  have hset0 := HB1.out.cells0
  have hset1 := HB1.out.cells1
  clear hb0
  go_wp2_with fail
  clear hcell hfr hcell0 hcell1 hset0 hset1
  revert HB1
  generalize (((((w0.setCell ⟨w.heap.size + 1 + 1, 0, none⟩ (.int .i64 x.right.a0)).setCell ⟨w.heap.size + 1 + 1, 1, none⟩ (.int .i64 x.right.a1)).setCell ⟨w.heap.size + 1 + 1, 2, none⟩ (.int .i64 x.right.a2)).setCell ⟨w.heap.size + 1 + 1, 3, none⟩ (.int .i64 x.right.a3)).setCell ⟨w.heap.size + 1 + 1, 4, none⟩ (.int .i64 x.right.a4)) = wz
  intro HB1
  obtain ⟨⟨A1, A2, A3⟩, hA⟩ : ∃ A, looserE t0 t1 = A := ⟨_, rfl⟩
  have HA := Lib.hid hA
  clear hA
  refine (looser_any _ _ t0 t1 _ (H0.out.below HB1.out.bel) (H1.out.below HB1.out.bel)).mono ?_
  rw [HA.out]
  rintro e w1 ⟨rfl, hb1⟩
  have HB2 := Lib.hid (HB1.out.below hb1)
  have HC1 := Lib.hid ((Bx.one (w := w1) (o := .cells #[.int .i64 0, .int .i64 0, .int .i64 0, .int .i64 0, .int .i64 0] 26)))
  have HC2 := Lib.hid ((Bx.one (w := w1) (o := .cells #[.int .i64 A2.a0, .int .i64 A2.a1, .int .i64 A2.a2, .int .i64 A2.a3, .int .i64 A2.a4] 26)))
  have hcn := HC1.out.cells0
  have hfn := HC1.out.free0
  clear hb1
  go_wp2_with fail
  clear hcn hfn
  revert HC2
  generalize (w1.alloc (.cells #[.int .i64 A2.a0, .int .i64 A2.a1, .int .i64 A2.a2, .int .i64 A2.a3, .int .i64 A2.a4] 26)) = w2
  intro HC2
  have HB3 := Lib.hid (HB2.out.below HC2.out.bel)
  refine (ordered_walk _ (HL.out.below HB3.out.bel)).mono ?_
  rintro e w3 ⟨rfl, hb3⟩
  have HB4 := Lib.hid (HB3.out.below hb3)
  have HC4 := Lib.hid (HC2.out.below hb3)
  clear hb3
  by_cases h0 : A3 = 0
  · subst h0
    obtain ⟨hok0, hok1, _⟩ := looserE_ok (p := t0) (q := t1) (by rw [HA.out])
    have Hok0 := Lib.hid hok0
    have Hok1 := Lib.hid hok1
    clear hok0 hok1
    cases A1 with
    | true =>
      obtain ⟨hy, _, hlt⟩ := looser_at (p := t0) (q := t1) (by rw [HA.out]) (by rw [HA.out])
      rw [HA.out] at hy hlt
      have Hy := Lib.hid hy
      have Hlt := Lib.hid hlt
      clear hy hlt
      have hc0 := HB4.out.cells0
      have hc1 := HB4.out.cells1
      have hc2 := HB4.out.cells2
      have hf2 := HB4.out.free2
      have hcy := HC4.out.cells0
      have HB5 := Lib.hid (HB4.out.setCall2 (y := A2))
      have hd0 := HB5.out.cells0
      have hd2 := HB5.out.cells2
      go_wp2_with fail
      clear hc0 hc1 hc2 hf2 hcy hd0 hd2
      revert HB5
      generalize (((((w3.setCell ⟨w.heap.size + 1 + 1, 0, none⟩ (.int .i64 A2.a0)).setCell ⟨w.heap.size + 1 + 1, 1, none⟩ (.int .i64 A2.a1)).setCell ⟨w.heap.size + 1 + 1, 2, none⟩ (.int .i64 A2.a2)).setCell ⟨w.heap.size + 1 + 1, 3, none⟩ (.int .i64 A2.a3)).setCell ⟨w.heap.size + 1 + 1, 4, none⟩ (.int .i64 A2.a4)) = w4
      intro HB5
      refine (judge_any _ t0 A2 _ _ (H0.out.below HB5.out.bel)).mono ?_
      rw [judgeE_says Hok0.out Hy.out]
      rintro e w5 ⟨rfl, hb5⟩
      have HB6 := Lib.hid (HB5.out.below hb5)
      clear hb5
      have hc1 := HB6.out.cells1
      have hc2 := HB6.out.cells2
      go_wp2_with fail
      refine (judge_any _ t1 A2 _ _ (H1.out.below HB6.out.bel)).mono ?_
      rw [judgeE_says Hok1.out Hy.out]
      rintro e w6 ⟨rfl, hb6⟩
      have HB7 := Lib.hid (HB6.out.below hb6)
      clear hb6 hc1 hc2
      have hgt : decide (says t1 A2 < says t0 A2) = true := decide_eq_true Hlt.out
      have hle : decide (says t0 A2 ≤ says t1 A2) = false := decide_eq_false (by have := Hlt.out; omega)
      go_wp2
      go_ret
      exact ⟨rfl, HB7.out.bel⟩
    | false =>
      have Hle := Lib.hid (looser_not (p := t0) (q := t1) (by rw [HA.out]) (by rw [HA.out]) x.right_ok)
      have hc0 := HB4.out.cells0
      have hc2 := HB4.out.cells2
      go_wp2_with fail
      refine (judge_any _ t0 x.right _ _ (H0.out.below HB4.out.bel)).mono ?_
      rw [judgeE_says Hok0.out x.right_ok]
      rintro e w5 ⟨rfl, hb5⟩
      have HB6 := Lib.hid (HB4.out.below hb5)
      clear hb5 hc0 hc2
      have hc1 := HB6.out.cells1
      have hc2 := HB6.out.cells2
      go_wp2_with fail
      refine (judge_any _ t1 x.right _ _ (H1.out.below HB6.out.bel)).mono ?_
      rw [judgeE_says Hok1.out x.right_ok]
      rintro e w6 ⟨rfl, hb6⟩
      have HB7 := Lib.hid (HB6.out.below hb6)
      clear hb6 hc1 hc2
      have hgt : decide (says t1 x.right < says t0 x.right) = false := decide_eq_false (by have := Hle.out; omega)
      have hle : decide (says t0 x.right ≤ says t1 x.right) = true := decide_eq_true Hle.out
      go_wp2
      go_ret
      exact ⟨rfl, HB7.out.bel⟩
  · have b0 : (A3 != 0) = true := bne_iff_ne.2 h0
    clear h0
    go_wp2_with fail
    refine (ordered_walk _ (HL.out.below HB4.out.bel)).mono ?_
    rintro e w4 ⟨rfl, hb4⟩
    have HB5 := Lib.hid (HB4.out.below hb4)
    clear hb4
    go_wp2
    go_ret
    exact ⟨rfl, HB5.out.bel⟩
end Go.Proofs.YtmokmmpomgjemaaDoor
