/- Walk: the closed fact on Compile (compiled). Condition: Laid. -/
import Derived.Test.YtlhhomimcnjnfaaDoorMade
import Derived.Test.YtlhhomimcnjnfaaDoorCompile
import Derived.Test.YtlhhomimcnjnfaaDoorEqIns
namespace Go.Proofs.YtlhhomimcnjnfaaDoor
open Go.RowKit

def madeL : List TIns := [⟨1, 0, 0, 0⟩, ⟨2, 3, 0, 3⟩, ⟨1, 2, 0, 0⟩, ⟨3, 5, 0, 1⟩, ⟨4, 0, 0, 0⟩, ⟨1, 1, 0, 0⟩, ⟨2, 0, 1, 0⟩, ⟨4, 3, 0, 0⟩, ⟨4, 4, 0, 0⟩]
theorem made_filter : filterE madeP = (madeL, 0) := by decide +kernel
set_option maxHeartbeats 1000000 in
theorem compiled_walk (w : World) (hL : Laid w) : Calls Tryd.prog 24 #[] w fun e w' => e = .returned (.bool true) ∧ Below w.heap.size w w' := by
  have HL := Lib.hid hL
  clear hL
  go_enter Tryd.func24, Tryd.ntmps24
  go_wp2_with fail
  refine (made_any _ HL.out).mono ?_
  rintro e w1 ⟨v1, rfl, hr1, hb1⟩
  have Hr1 := Lib.hid hr1
  have Hb1 := Lib.hid hb1
  clear hr1 hb1
  go_wp2_with fail
  refine (compile_any v1 madeP _ _ Hr1.out).mono ?_
  rw [made_filter]
  rintro e w2 ⟨l, rfl, hr2, hb2⟩
  have Hb2 := Lib.hid (bel_call Hb1.out hb2)
  obtain ⟨a, c, rfl, hlc, hcm, hat⟩ := Sl.form hr2
  obtain ⟨b, o, rfl, _, hblt⟩ := hat (by decide)
  have h0 := RdCode.cells hr2 (i := 0) (by decide)
  have h1 := RdCode.cells hr2 (i := 1) (by decide)
  have h3 := RdCode.cells hr2 (i := 3) (by decide)
  have h8 := RdCode.cells hr2 (i := 8) (by decide)
  have hl : madeL.length = 9 := rfl
  simp only [madeL, List.getElem_cons_zero, List.getElem_cons_succ, Nat.zero_mul, Nat.add_zero, Nat.one_mul, Nat.reduceMul] at h0 h1 h3 h8
  have k1 := h1
  have k3 := h3
  have k8 := h8
  simp only [Nat.add_assoc, Nat.reduceAdd] at k1 k3 k8
  rw [show (madeL, (0 : Int)).1.length = 9 from rfl] at hlc ⊢
  clear hr2 hb2 hat hl
  go_wp2
  go_ret
  exact ⟨rfl, Hb2.out⟩
end Go.Proofs.YtlhhomimcnjnfaaDoor
