/- CompileSays returns true at every policy. Condition: Laid. -/
import Derived.Test.YtlhhomimcnjnfaaDoorCompiled
import Derived.Test.YtlhhomimcnjnfaaDoorFilter
import Derived.Test.YtlhhomimcnjnfaaDoorBx
namespace Go.Proofs.YtlhhomimcnjnfaaDoor
open Go.RowKit

set_option maxHeartbeats 2000000 in
theorem compileSays_walk {w : World} (hL : Laid w) (u0 : Value) (t0 : TPol) (rd0 : RdRules w (fun _ => True) u0 t0.rules) :
    Calls Tryd.prog 5 #[polV u0 t0.dflt] w fun e w' => e = .returned (.bool true) ∧ Below w.heap.size w w' := by
  have HL := Lib.hid hL
  have H0 := Lib.hid rd0
  obtain ⟨a0, c0, rfl, _⟩ := Sl.form rd0
  clear hL rd0
  obtain ⟨⟨FL, FE⟩, hF⟩ : ∃ F, filterE t0 = F := ⟨_, rfl⟩
  have HF := Lib.hid hF
  clear hF
  go_enter Tryd.func5, Tryd.ntmps5
  go_wp2_with fail
  refine (compile_any _ t0 _ _ (RdRules.below H0.out (bel_alloc (Below.refl _ _) _))).mono ?_
  rw [HF.out]
  rintro e w1 ⟨l1, rfl, hr1, hb1⟩
  have HB1 := Lib.hid (Bx.one.below hb1)
  have Hr1 := Lib.hid hr1
  have hc1 := HB1.out.cells0
  clear hr1 hb1
  go_wp2_with fail
  refine (rfilter_any _ t0 _ _ (RdRules.below H0.out HB1.out.bel)).mono ?_
  rw [HF.out]
  rintro e w2 ⟨l2, rfl, hr2, hb2⟩
  have HB2 := Lib.hid (HB1.out.below hb2)
  have Hr2 := Lib.hid hr2
  have Hr1' := Lib.hid (Hr1.out.below hb2)
  clear hr2 hb2 hc1
  go_wp2_with fail
  refine (compiled_walk _ (HL.out.below HB2.out.bel)).mono ?_
  rintro e w3 ⟨rfl, hb3⟩
  have HB3 := Lib.hid (HB2.out.below hb3)
  have Hr3 := Lib.hid (Hr2.out.below hb3)
  have Hr4 := Lib.hid (Hr1'.out.below hb3)
  clear hb3
  go_wp2_with fail
  refine (eqins_any l1 l2 FL FL (fun _ => True) _ (Sl.monoD Hr4.out fun _ _ => trivial) (Sl.monoD Hr3.out fun _ _ => trivial)).mono ?_
  rintro e w4 ⟨rfl, hb4⟩
  have HB4 := Lib.hid (HB3.out.below hb4)
  clear hb4
  go_wp2
  go_ret
  exact ⟨ret_bool (by simp), HB4.out.bel⟩
end Go.Proofs.YtlhhomimcnjnfaaDoor
