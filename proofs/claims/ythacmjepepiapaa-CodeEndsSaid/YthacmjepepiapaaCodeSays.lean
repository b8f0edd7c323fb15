/- CodeSays returns true at every filter and call. No condition. -/
import Derived.Test.YthacmjepepiapaaRefCode
namespace Go.Proofs.Ythacmjepepiapaa
open Go.RowKit

def ranL : List TIns := [⟨1, 2, 0, 0⟩, ⟨3, 5, 1, 0⟩, ⟨4, 1, 0, 0⟩, ⟨4, 4, 0, 0⟩]
theorem ranL1 : runE ranL ⟨0, 0, 4, 0, 0⟩ = (4, 3, 0) := by decide
theorem ranL2 : runE ranL ⟨0, 0, 5, 0, 0⟩ = (1, 3, 0) := by decide
theorem ranL3 : codeE (ranL.take 2) = 5 := by decide
theorem ranL4 : codeE (ranL.take 1) = 4 := by decide

set_option maxHeartbeats 2000000 in
theorem ran_any (w : World) : Calls Try.prog 14 #[] w fun e w' => e = .returned (.bool true) ∧ Below w.heap.size w w' := by
  have h0 : ∀ cells, cells = #[Value.int .i64 1, .int .i64 2, .int .i64 0, .int .i64 0, .int .i64 3, .int .i64 5, .int .i64 1, .int .i64 0, .int .i64 4, .int .i64 1, .int .i64 0, .int .i64 0, .int .i64 4, .int .i64 4, .int .i64 0, .int .i64 0] →
      RdCode (w.alloc (.cells cells 42)) (fun _ => True) (.slice (some ⟨w.heap.size, 0, none⟩) 4 4) ranL := fun cells e => by
    subst e
    exact rd_code (l := ranL) (heap_last _ _) trivial rfl (by simp [ranL, maxLen])
  have H0 := Lib.hid (h0 _ rfl)
  clear h0
  go_enter Try.func14, Try.ntmps14
  go_wp2_with fail
  have H1 := Lib.hid (RdCode.below H0.out (Below.refl _ _))
  refine (run_any _ ranL ⟨0, 0, 4, 0, 0⟩ (fun _ => True) _ H0.out).mono ?_
  rw [ranL1]
  rintro e w1 ⟨rfl, hb1⟩
  have H1 := Lib.hid (RdCode.below H0.out hb1)
  have hz := hb1.size
  go_wp2_with fail
  refine (run_any _ ranL ⟨0, 0, 5, 0, 0⟩ (fun _ => True) _ H1.out).mono ?_
  rw [ranL2]
  rintro e w2 ⟨rfl, hb2⟩
  have H2 := Lib.hid (RdCode.below H1.out hb2)
  have hz2 := hb2.size
  go_wp2_with fail
  refine (codecheck_any _ (ranL.take 2) (fun _ => True) _ (Sl.take H2.out (by omega))).mono ?_
  rw [ranL3]
  rintro e w3 ⟨rfl, hb3⟩
  have H3 := Lib.hid (RdCode.below H2.out hb3)
  have hz3 := hb3.size
  go_wp2_with fail
  refine (codecheck_any _ (ranL.take 1) (fun _ => True) _ (Sl.take H3.out (by omega))).mono ?_
  rw [ranL4]
  rintro e w4 ⟨rfl, hb4⟩
  go_wp2
  go_ret
  have ha := bel_alloc_call (Below.refl w.heap.size w) hb1
  exact ⟨rfl, bel_call (bel_call (bel_call ha hb2) hb3) hb4⟩

set_option maxHeartbeats 4000000 in
theorem codeSays_walk {w : World} (v : Value) (l : List TIns) (h : RdCode w (fun _ => True) v l) (x : TCall) : Calls Try.prog 5 #[v, callV x] w fun e w' => e = .returned (.bool true) ∧ Below w.heap.size w w' := by
  have H := Lib.hid h
  obtain ⟨a, c, rfl, -, -, -⟩ := Sl.form h
  clear h
  by_cases hc : codeE l = 0
  · have Hc := Lib.hid hc
    have d1 : (codeE l == 0) = true := beq_iff_eq.2 hc
    have d2 : (codeE l != 0) = false := bne_eq_false_iff_eq.2 hc
    have d3 : (codeE l != codeE l) = false := by simp
    by_cases hx : x.ok
    · have e : Hid (runE l x = ((run l x).1, ((run l x).2 : Int), 0)) := by show runE l x = _; unfold runE; rw [if_neg (by omega), if_pos hx]
      have hxe : Hid (callE x = 0) := if_pos hx
      clear hc hx
      go_enter Try.func5, Try.ntmps5
      go_wp2_with fail
      refine (run_any _ l x (fun _ => True) _ (RdCode.below H.out (bel_alloc (Below.refl _ _) _))).mono ?_
      rw [e.out]
      rintro e1 w1 ⟨rfl, hb1⟩
      have hx1 : Below (w.heap.size + 1) _ w1 := hb1.mono (by simp)
      have hcell := box_cells hx1
      have B1 := Lib.hid (bel_box hx1)
      clear hb1
      go_wp2_with fail
      refine (rcheckcode_any _ l (fun _ => True) _ (RdCode.below H.out B1.out)).mono ?_
      rintro e2 w2 ⟨rfl, hb2⟩
      have hx2 := hx1.trans (hb2.mono (size_box hx1))
      have B2 := Lib.hid (bel_box hx2)
      clear hb2 hx1 hcell
      go_wp2_with fail
      refine (ran_any _).mono ?_
      rintro e3 w3 ⟨rfl, hb3⟩
      have hx3 := hx2.trans (hb3.mono (size_box hx2))
      have B3 := Lib.hid (bel_box hx3)
      clear hb3 hx2
      go_wp2_with fail
      refine (codecheck_any _ l (fun _ => True) _ (RdCode.below H.out B3.out)).mono ?_
      rintro e4 w4 ⟨rfl, hb4⟩
      have hx4 := hx3.trans (hb4.mono (size_box hx3))
      have hcell := box_cells hx4
      have B4 := Lib.hid (bel_box hx4)
      clear hb4 hx3
      go_wp2_with fail
      refine (rcheckcall_any x _).mono ?_
      rw [hxe.out]
      rintro e5 w5 ⟨rfl, hb5⟩
      have hx5 := hx4.trans (hb5.mono (size_box hx4))
      have hcell := box_cells hx5
      have B5 := Lib.hid (bel_box hx5)
      clear hb5 hx4
      go_wp2_with fail
      refine (ran_ok _ l x (fun _ => True) _ (RdCode.below H.out B5.out) Hc.out).mono ?_
      rintro e6 w6 ⟨rfl, hb6⟩
      go_wp2
      go_ret
      exact ⟨ret_bool (by simp), bel_call B5.out hb6⟩
    · have e : Hid (runE l x = (0, 0, 3)) := by show runE l x = _; unfold runE; rw [if_neg (by omega), if_neg hx]
      have hxe : Hid (callE x = 3) := if_neg hx
      clear hc hx Hc
      go_enter Try.func5, Try.ntmps5
      go_wp2_with fail
      refine (run_any _ l x (fun _ => True) _ (RdCode.below H.out (bel_alloc (Below.refl _ _) _))).mono ?_
      rw [e.out]
      rintro e1 w1 ⟨rfl, hb1⟩
      have hx1 : Below (w.heap.size + 1) _ w1 := hb1.mono (by simp)
      have hcell := box_cells hx1
      have B1 := Lib.hid (bel_box hx1)
      clear hb1
      go_wp2_with fail
      refine (rcheckcode_any _ l (fun _ => True) _ (RdCode.below H.out B1.out)).mono ?_
      rintro e2 w2 ⟨rfl, hb2⟩
      have hx2 := hx1.trans (hb2.mono (size_box hx1))
      have B2 := Lib.hid (bel_box hx2)
      clear hb2 hx1 hcell
      go_wp2_with fail
      refine (ran_any _).mono ?_
      rintro e3 w3 ⟨rfl, hb3⟩
      have hx3 := hx2.trans (hb3.mono (size_box hx2))
      have B3 := Lib.hid (bel_box hx3)
      clear hb3 hx2
      go_wp2_with fail
      refine (codecheck_any _ l (fun _ => True) _ (RdCode.below H.out B3.out)).mono ?_
      rintro e4 w4 ⟨rfl, hb4⟩
      have hx4 := hx3.trans (hb4.mono (size_box hx3))
      have hcell := box_cells hx4
      have B4 := Lib.hid (bel_box hx4)
      clear hb4 hx3
      go_wp2_with fail
      refine (rcheckcall_any x _).mono ?_
      rw [hxe.out]
      rintro e5 w5 ⟨rfl, hb5⟩
      have hx5 := hx4.trans (hb5.mono (size_box hx4))
      have hcell := box_cells hx5
      have B5 := Lib.hid (bel_box hx5)
      clear hb5 hx4
      go_wp2
      go_ret
      exact ⟨ret_bool (by simp), B5.out⟩
  · have d1 : (codeE l == 0) = false := beq_eq_false_iff_ne.2 hc
    have d2 : (codeE l != 0) = true := bne_iff_ne.2 hc
    have d3 : (codeE l != codeE l) = false := by simp
    have e : Hid (runE l x = (0, 0, codeE l)) := by show runE l x = _; unfold runE; rw [if_pos hc]
    clear hc
    go_enter Try.func5, Try.ntmps5
    go_wp2_with fail
    refine (run_any _ l x (fun _ => True) _ (RdCode.below H.out (bel_alloc (Below.refl _ _) _))).mono ?_
    rw [e.out]
    rintro e1 w1 ⟨rfl, hb1⟩
    have hx1 : Below (w.heap.size + 1) _ w1 := hb1.mono (by simp)
    have hcell := box_cells hx1
    have B1 := Lib.hid (bel_box hx1)
    clear hb1
    go_wp2_with fail
    refine (rcheckcode_any _ l (fun _ => True) _ (RdCode.below H.out B1.out)).mono ?_
    rintro e2 w2 ⟨rfl, hb2⟩
    have hx2 := hx1.trans (hb2.mono (size_box hx1))
    have B2 := Lib.hid (bel_box hx2)
    clear hb2 hx1 hcell
    go_wp2_with fail
    refine (ran_any _).mono ?_
    rintro e3 w3 ⟨rfl, hb3⟩
    have hx3 := hx2.trans (hb3.mono (size_box hx2))
    have B3 := Lib.hid (bel_box hx3)
    clear hb3 hx2
    go_wp2_with fail
    refine (codecheck_any _ l (fun _ => True) _ (RdCode.below H.out B3.out)).mono ?_
    rintro e4 w4 ⟨rfl, hb4⟩
    have hx4 := hx3.trans (hb4.mono (size_box hx3))
    have hcell := box_cells hx4
    have B4 := Lib.hid (bel_box hx4)
    clear hb4 hx3
    go_wp2
    go_ret
    exact ⟨ret_bool (by simp), B4.out⟩
end Go.Proofs.Ythacmjepepiapaa
