/- CallSays returns true at every call and field. No condition. -/
import Derived.Test.YthacmjepepiapaaRun
namespace Go.Proofs.Ythacmjepepiapaa
open Go.RowKit
attribute [local go_sem] gives givesUpon

set_option maxHeartbeats 2000000 in
theorem callSays_walk {w : World} (x : TCall) (k : Int) : Calls Try.prog 4 #[callV x, .int .i64 k] w fun e w' => e = .returned (.bool true) ∧ Below w.heap.size w w' := by
  have hc : ∀ W, Cls (w.heap.size + 1) (w.alloc (.cells #[.int .i64 x.a0, .int .i64 x.a1, .int .i64 x.a2, .int .i64 x.a3, .int .i64 x.a4] 28)) W → ∀ j : Nat, W.cell? ⟨w.heap.size, j, none⟩ = (#[Value.int .i64 x.a0, .int .i64 x.a1, .int .i64 x.a2, .int .i64 x.a3, .int .i64 x.a4] : Array Value)[j]? := fun W hW j => box_cells hW.2 j
  have Hc := Lib.hid hc
  clear hc
  have m0 : mostOf 0 = 63 := rfl
  have m1 : mostOf 1 = 3 := rfl
  have m2 : callE ⟨64, 0, 0, 0, 0⟩ = 3 := by decide
  go_enter Try.func4, Try.ntmps4
  go_wp2_with fail
  refine wp_region_exact (w.heap.size + 1) (by simp) (by kernel_rfl) (by kernel_rfl) ?_
  repeat (refine monoE_step (fun K hK => ?_); apply Exists.intro; refine ⟨fun W hC R hR => ?_, ?_⟩; (first
    | (have hcell := Hc.out W hC; go_simp; exact hR _ _ (Below.refl _ _) rfl)
    | (go_simp; go_at_call 8; (with_reducible refine (callcheck_any x _).mono ?_); rintro e w1 ⟨rfl, hb1⟩; exact ⟨_, rfl, hR _ _ hb1 rfl⟩)
    | (go_simp; go_at_call 9; refine (rcheckcall_any x _).mono ?_; rintro e w1 ⟨rfl, hb1⟩; exact ⟨_, rfl, hR _ _ hb1 rfl⟩)
    | (go_simp; go_at_call 10; refine (most_any _ _).mono ?_; rintro e w1 ⟨rfl, rfl⟩; exact ⟨_, rfl, hR _ _ (Below.refl _ _) rfl⟩)
    | (go_simp; go_at_call 11; refine (mostof_any _ _).mono ?_; rintro e w1 ⟨rfl, hb1⟩; exact ⟨_, rfl, hR _ _ hb1 rfl⟩)
    | (go_simp; go_at_call 8; (with_reducible refine (callcheck_any ⟨64, 0, 0, 0, 0⟩ _).mono ?_); rintro e w1 ⟨rfl, hb1⟩; exact ⟨_, rfl, hR _ _ hb1 rfl⟩)); (go_simp; refine hK _ ?_; clear hK K))
  intro w2 hC2
  go_wp2
  go_ret
  exact ⟨rfl, bel_box hC2.2⟩
end Go.Proofs.Ythacmjepepiapaa
