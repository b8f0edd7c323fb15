/- OrderSays returns true at every two policies. Condition: Laid. -/
import Derived.Test.YtioeliocdbckbaaGreatDoorK10
namespace Go.Proofs.YtioeliocdbckbaaGreatDoor
open Go.RowKit

/-- whether there are too many points is told alike the other way round. -/
theorem looser_turn {p q : TPol} (h : (looserE p q).2.2 = 0) : (looserE q p).2.2 = 0 := by
  obtain ⟨h1, h2, h3, _⟩ := looserE_ok h
  have hm : ∀ f n, n ∈ cutVals [q, p] f → n ∈ cutVals [p, q] f := fun f n hn => by
    rw [mem_vals] at hn ⊢
    rcases hn with hn | ⟨r, hr, hx⟩
    · exact .inl hn
    · exact .inr ⟨r, by simp at hr ⊢; exact hr.symm, hx⟩
  have hs := sizes_sub hm 5
  have hp : pointsE [q, p] = (stage [q, p] 5, 0) := pointsE_of (fun r hr => by simp at hr; rcases hr with rfl | rfl; exact h2; exact h1) (by omega)
  unfold looserE
  rw [hp]
  simp only [ne_eq, not_true_eq_false, if_false]
  split <;> rfl
set_option maxRecDepth 100000 in
set_option maxHeartbeats 16000000 in
theorem orderSays_walk {w : World} (hL : Laid w) (u0 : Value) (t0 : TPol) (rd0 : RdRules w (fun _ => True) u0 t0.rules) (u1 : Value) (t1 : TPol) (rd1 : RdRules w (fun _ => True) u1 t1.rules) :
    Calls Tryz.prog 3 #[polV u0 t0.dflt, polV u1 t1.dflt] w fun e w' => e = .returned (.bool true) ∧ Below w.heap.size w w' := by
  have HL := Lib.hid hL
  have H0 := Lib.hid rd0
  have H1 := Lib.hid rd1
  obtain ⟨a0, c0, rfl, _⟩ := Sl.form rd0
  obtain ⟨a1, c1, rfl, _⟩ := Sl.form rd1
  clear hL rd0 rd1
  go_enter Tryz.func3, Tryz.ntmps3
  go_wp2_with fail
  have HB := Lib.hid (Bx.two (w := w) (o := .cells #[.slice a0 t0.rules.length c0, .int .i64 t0.dflt] 24) (o' := .cells #[.slice a1 t1.rules.length c1, .int .i64 t1.dflt] 24))
  obtain ⟨⟨A1, A2, A3⟩, hA⟩ : ∃ A, looserE t0 t1 = A := ⟨_, rfl⟩
  obtain ⟨⟨B1, B2, B3⟩, hB⟩ : ∃ A, looserE t1 t0 = A := ⟨_, rfl⟩
  have hBB : A3 = 0 → B3 = 0 := fun h => by
    have := looser_turn (p := t0) (q := t1) (by rw [hA]; exact h)
    rw [hB] at this
    exact this
  have HL2 : Hid (alikeE t0 t1 = if A3 ≠ 0 then (false, A3) else (!A1 && !B1, B3)) := by show alikeE t0 t1 = _; unfold alikeE; rw [hA, hB]
  have heqc := calleq_self A2
  have HA := Lib.hid hA
  have HB2 := Lib.hid hB
  have HBB := Lib.hid hBB
  clear hA hB hBB
  have hq0 := HB.out.cells0
  have hq1 := HB.out.cells1
  clear hq0 hq1
  refine (looser_any _ _ t0 t1 _ (H0.out.below HB.out.bel) (H1.out.below HB.out.bel)).mono ?_
  rw [HA.out]
  rintro e w1 ⟨rfl, hb1⟩
  replace HB := Lib.hid (HB.out.below hb1)
  clear hb1
  have hD1 := Bx.one (w := w1) (o := .cells #[.int .i64 0, .int .i64 0, .int .i64 0, .int .i64 0, .int .i64 0] 26)
  have HD1 := Lib.hid (Bx.one (w := w1) (o := .cells #[.int .i64 A2.a0, .int .i64 A2.a1, .int .i64 A2.a2, .int .i64 A2.a3, .int .i64 A2.a4] 26))
  have hcn := hD1.cells0
  have hfn := hD1.free0
  clear hD1
  replace HB := Lib.hid (HB.out.below HD1.out.bel)
  have hq0 := HB.out.cells0
  have hq1 := HB.out.cells1
  go_wp2_with fail
  clear hq0 hq1
  clear hcn hfn
  revert HD1 HB
  generalize (w1.alloc (.cells #[.int .i64 A2.a0, .int .i64 A2.a1, .int .i64 A2.a2, .int .i64 A2.a3, .int .i64 A2.a4] 26)) = w2
  intro HD1 HB
  refine (rlooser_any _ _ t0 t1 _ (H0.out.below HB.out.bel) (H1.out.below HB.out.bel)).mono ?_
  rw [HA.out]
  rintro e w3 ⟨rfl, hb3⟩
  replace HB := Lib.hid (HB.out.below hb3)
  replace HD1 := Lib.hid (HD1.out.below hb3)
  clear hb3
  have hD1 := Bx.one (w := w3) (o := .cells #[.int .i64 0, .int .i64 0, .int .i64 0, .int .i64 0, .int .i64 0] 26)
  have HD3 := Lib.hid (Bx.one (w := w3) (o := .cells #[.int .i64 A2.a0, .int .i64 A2.a1, .int .i64 A2.a2, .int .i64 A2.a3, .int .i64 A2.a4] 26))
  have hcn := hD1.cells0
  have hfn := hD1.free0
  clear hD1
  replace HB := Lib.hid (HB.out.below HD3.out.bel)
  replace HD1 := Lib.hid (HD1.out.below HD3.out.bel)
  have hq0 := HB.out.cells0
  have hq1 := HB.out.cells1
  have hqHD1 := HD1.out.cells0
  go_wp2_with fail
  clear hq0 hq1 hqHD1
  clear hcn hfn
  revert HD3 HB HD1
  generalize (w3.alloc (.cells #[.int .i64 A2.a0, .int .i64 A2.a1, .int .i64 A2.a2, .int .i64 A2.a3, .int .i64 A2.a4] 26)) = w4
  intro HD3 HB HD1
  by_cases h0 : A3 = 0
  · subst h0
    have hB3 := HBB.out rfl
    subst hB3
    have HL3 : Hid (alikeE t0 t1 = (!A1 && !B1, 0)) := by show alikeE t0 t1 = _; rw [HL2.out, if_neg (by simp)]
    refine (alike_any _ _ t0 t1 _ (H0.out.below HB.out.bel) (H1.out.below HB.out.bel)).mono ?_
    rw [HL3.out]
    rintro e w5 ⟨rfl, hb5⟩
    replace HB := Lib.hid (HB.out.below hb5)
    replace HD1 := Lib.hid (HD1.out.below hb5)
    replace HD3 := Lib.hid (HD3.out.below hb5)
    clear hb5
    have hq0 := HB.out.cells0
    have hq1 := HB.out.cells1
    have hqHD1 := HD1.out.cells0
    have hqHD3 := HD3.out.cells0
    go_wp2_with fail
    clear hq0 hq1 hqHD1 hqHD3
    refine (rlooser_any _ _ t1 t0 _ (H1.out.below HB.out.bel) (H0.out.below HB.out.bel)).mono ?_
    rw [HB2.out]
    rintro e w6 ⟨rfl, hb6⟩
    replace HB := Lib.hid (HB.out.below hb6)
    replace HD1 := Lib.hid (HD1.out.below hb6)
    replace HD3 := Lib.hid (HD3.out.below hb6)
    clear hb6
    have hD1 := Bx.one (w := w6) (o := .cells #[.int .i64 0, .int .i64 0, .int .i64 0, .int .i64 0, .int .i64 0] 26)
    have HD6 := Lib.hid (Bx.one (w := w6) (o := .cells #[.int .i64 B2.a0, .int .i64 B2.a1, .int .i64 B2.a2, .int .i64 B2.a3, .int .i64 B2.a4] 26))
    have hcn := hD1.cells0
    have hfn := hD1.free0
    clear hD1
    replace HB := Lib.hid (HB.out.below HD6.out.bel)
    replace HD1 := Lib.hid (HD1.out.below HD6.out.bel)
    replace HD3 := Lib.hid (HD3.out.below HD6.out.bel)
    have hq0 := HB.out.cells0
    have hq1 := HB.out.cells1
    have hqHD1 := HD1.out.cells0
    have hqHD3 := HD3.out.cells0
    go_wp2_with fail
    clear hq0 hq1 hqHD1 hqHD3
    clear hcn hfn
    clear HD6
    revert HB HD1 HD3
    generalize (w6.alloc (.cells #[.int .i64 B2.a0, .int .i64 B2.a1, .int .i64 B2.a2, .int .i64 B2.a3, .int .i64 B2.a4] 26)) = w7
    intro HB HD1 HD3
    refine (ordered_walk _ (HL.out.below HB.out.bel)).mono ?_
    rintro e w8 ⟨rfl, hb8⟩
    replace HB := Lib.hid (HB.out.below hb8)
    replace HD1 := Lib.hid (HD1.out.below hb8)
    replace HD3 := Lib.hid (HD3.out.below hb8)
    clear hb8
    have hq0 := HB.out.cells0
    have hq1 := HB.out.cells1
    have hqHD1 := HD1.out.cells0
    have hqHD3 := HD3.out.cells0
    cases A1 <;> cases B1 <;> (go_wp2; go_ret; exact ⟨rfl, HB.out.bel⟩)
  · have hne : (A3 != 0) = true := bne_iff_ne.2 h0
    have HL3 : Hid (alikeE t0 t1 = (false, A3)) := by show alikeE t0 t1 = _; rw [HL2.out, if_pos h0]
    clear h0
    refine (alike_any _ _ t0 t1 _ (H0.out.below HB.out.bel) (H1.out.below HB.out.bel)).mono ?_
    rw [HL3.out]
    rintro e w5 ⟨rfl, hb5⟩
    replace HB := Lib.hid (HB.out.below hb5)
    replace HD1 := Lib.hid (HD1.out.below hb5)
    replace HD3 := Lib.hid (HD3.out.below hb5)
    clear hb5
    have hq0 := HB.out.cells0
    have hq1 := HB.out.cells1
    have hqHD1 := HD1.out.cells0
    have hqHD3 := HD3.out.cells0
    go_wp2_with fail
    clear hq0 hq1 hqHD1 hqHD3
    refine (rlooser_any _ _ t1 t0 _ (H1.out.below HB.out.bel) (H0.out.below HB.out.bel)).mono ?_
    rw [HB2.out]
    rintro e w6 ⟨rfl, hb6⟩
    replace HB := Lib.hid (HB.out.below hb6)
    replace HD1 := Lib.hid (HD1.out.below hb6)
    replace HD3 := Lib.hid (HD3.out.below hb6)
    clear hb6
    have hD1 := Bx.one (w := w6) (o := .cells #[.int .i64 0, .int .i64 0, .int .i64 0, .int .i64 0, .int .i64 0] 26)
    have HD6 := Lib.hid (Bx.one (w := w6) (o := .cells #[.int .i64 B2.a0, .int .i64 B2.a1, .int .i64 B2.a2, .int .i64 B2.a3, .int .i64 B2.a4] 26))
    have hcn := hD1.cells0
    have hfn := hD1.free0
    clear hD1
    replace HB := Lib.hid (HB.out.below HD6.out.bel)
    replace HD1 := Lib.hid (HD1.out.below HD6.out.bel)
    replace HD3 := Lib.hid (HD3.out.below HD6.out.bel)
    have hq0 := HB.out.cells0
    have hq1 := HB.out.cells1
    have hqHD1 := HD1.out.cells0
    have hqHD3 := HD3.out.cells0
    go_wp2_with fail
    clear hq0 hq1 hqHD1 hqHD3
    clear hcn hfn
    clear HD6
    revert HB HD1 HD3
    generalize (w6.alloc (.cells #[.int .i64 B2.a0, .int .i64 B2.a1, .int .i64 B2.a2, .int .i64 B2.a3, .int .i64 B2.a4] 26)) = w7
    intro HB HD1 HD3
    refine (ordered_walk _ (HL.out.below HB.out.bel)).mono ?_
    rintro e w8 ⟨rfl, hb8⟩
    replace HB := Lib.hid (HB.out.below hb8)
    replace HD1 := Lib.hid (HD1.out.below hb8)
    replace HD3 := Lib.hid (HD3.out.below hb8)
    clear hb8
    have hq0 := HB.out.cells0
    have hq1 := HB.out.cells1
    have hqHD1 := HD1.out.cells0
    have hqHD3 := HD3.out.cells0
    go_wp2
    go_ret
    exact ⟨rfl, HB.out.bel⟩
end Go.Proofs.YtioeliocdbckbaaGreatDoor
