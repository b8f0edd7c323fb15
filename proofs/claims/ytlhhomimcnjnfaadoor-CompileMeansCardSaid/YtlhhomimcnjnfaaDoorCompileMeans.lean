/- CompileMeans returns true at every policy and call. Condition: Laid. -/
import Derived.Test.YtlhhomimcnjnfaaDoorCompiled
import Derived.Test.YtlhhomimcnjnfaaDoorRun
import Derived.Test.YtlhhomimcnjnfaaDoorRight
import Derived.Test.YtlhhomimcnjnfaaDoorFirstSpec
import Derived.Test.YtlhhomimcnjnfaaDoorBx
namespace Go.Proofs.YtlhhomimcnjnfaaDoor
open Go.RowKit

set_option maxHeartbeats 4000000 in
theorem compileMeans_walk {w : World} (hL : Laid w) (u0 : Value) (t0 : TPol) (rd0 : RdRules w (fun _ => True) u0 t0.rules) (x : TCall) :
    Calls Tryd.prog 6 #[polV u0 t0.dflt, callV x] w fun e w' => e = .returned (.bool true) ∧ Below w.heap.size w w' := by
  have HL := Lib.hid hL
  have H0 := Lib.hid rd0
  obtain ⟨a0, c0, rfl, _⟩ := Sl.form rd0
  clear hL rd0
  go_enter Tryd.func6, Tryd.ntmps6
  go_wp2_with fail
  refine (right_any x _).mono ?_
  rintro e w0 ⟨rfl, hb0⟩
  have HB0 := Lib.hid (Bx.two.below hb0)
  have hcell := HB0.out.cells1
  have hfr := HB0.out.free1
  have hcell0 := HB0.out.cells0
  have HB1 := Lib.hid (HB0.out.setCall1 (y := x.right))
  have hset0 := HB1.out.cells0
  clear hb0
  go_wp2_with fail
  clear hcell hfr hcell0 hset0
  revert HB1
  generalize hwz : (((((w0.setCell ⟨w.heap.size + 1, 0, none⟩ (.int .i64 x.right.a0)).setCell ⟨w.heap.size + 1, 1, none⟩ (.int .i64 x.right.a1)).setCell ⟨w.heap.size + 1, 2, none⟩ (.int .i64 x.right.a2)).setCell ⟨w.heap.size + 1, 3, none⟩ (.int .i64 x.right.a3)).setCell ⟨w.heap.size + 1, 4, none⟩ (.int .i64 x.right.a4)) = wz
  clear hwz
  intro HB1
  obtain ⟨⟨FL, FE⟩, hF⟩ : ∃ F, filterE t0 = F := ⟨_, rfl⟩
  have HF := Lib.hid hF
  clear hF
  refine (compile_any _ t0 _ _ (RdRules.below H0.out HB1.out.bel)).mono ?_
  rw [HF.out]
  rintro e w1 ⟨l1, rfl, hr1, hb1⟩
  have HB2 := Lib.hid (HB1.out.below hb1)
  have Hr1 := Lib.hid hr1
  obtain ⟨al, cl, rfl, _⟩ := Sl.form hr1
  clear hr1 hb1
  go_wp2_with fail
  refine (compiled_walk _ (HL.out.below HB2.out.bel)).mono ?_
  rintro e w2 ⟨rfl, hb2⟩
  have HB3 := Lib.hid (HB2.out.below hb2)
  have Hr2 := Lib.hid (Hr1.out.below hb2)
  clear hb2
  by_cases h0 : FE = 0
  · subst h0
    obtain ⟨hok, hfe, hce, _⟩ := filterE_ok (p := t0) (by rw [HF.out])
    have hFL : FL = filterL t0 := by have := HF.out.symm.trans hfe; simpa using this
    subst hFL
    have HJ : Hid (judgeE t0 x.right = ((run (filterL t0) x.right).1, ((judged t0 x.right).2 : Int), 0)) := by
      show judgeE t0 x.right = _
      rw [judgeE_of hok x.right_ok, filter_means hok]
    have HR : Hid (runE (filterL t0) x.right = ((run (filterL t0) x.right).1, ((run (filterL t0) x.right).2 : Int), 0)) := by
      show runE _ _ = _
      unfold runE
      rw [if_neg (by rw [hce]; simp), if_pos x.right_ok]
    have HC := Lib.hid hce
    clear hok hfe hce
    have hc0 := HB3.out.cells0
    have hc1 := HB3.out.cells1
    go_wp2_with fail
    refine (judge_any _ t0 x.right _ _ (RdRules.below H0.out HB3.out.bel)).mono ?_
    rw [HJ.out]
    rintro e w3 ⟨rfl, hb3⟩
    have HB4 := Lib.hid (HB3.out.below hb3)
    have Hr3 := Lib.hid (Hr2.out.below hb3)
    clear hb3 hc0 hc1
    have hc1 := HB4.out.cells1
    go_wp2_with fail
    refine (run_any _ (filterL t0) x.right _ _ Hr3.out).mono ?_
    rw [HR.out]
    rintro e w4 ⟨rfl, hb4⟩
    have HB5 := Lib.hid (HB4.out.below hb4)
    have Hr4 := Lib.hid (Hr3.out.below hb4)
    clear hb4 hc1
    go_wp2_with fail
    refine (codecheck_any _ (filterL t0) _ _ Hr4.out).mono ?_
    rw [HC.out]
    rintro e w5 ⟨rfl, hb5⟩
    have HB6 := Lib.hid (HB5.out.below hb5)
    clear hb5
    go_wp2
    go_ret
    exact ⟨rfl, HB6.out.bel⟩
  · have b0 : (FE != 0) = true := bne_iff_ne.2 h0
    clear h0
    go_wp2_with fail
    refine (compiled_walk _ (HL.out.below HB3.out.bel)).mono ?_
    rintro e w3 ⟨rfl, hb3⟩
    have HB4 := Lib.hid (HB3.out.below hb3)
    clear hb3
    go_wp2
    go_ret
    exact ⟨rfl, HB4.out.bel⟩
end Go.Proofs.YtlhhomimcnjnfaaDoor
