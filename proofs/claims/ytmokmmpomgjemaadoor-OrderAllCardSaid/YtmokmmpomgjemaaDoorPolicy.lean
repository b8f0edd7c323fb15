/- Walks: policy.cond, policy.Check. No condition. -/
import Derived.Test.YtmokmmpomgjemaaDoorCall
import Derived.Test.YtmokmmpomgjemaaDoorPolRd
namespace Go.Proofs.YtmokmmpomgjemaaDoor
open Go.RowKit
attribute [local go_sem] gives givesUpon

set_option maxHeartbeats 2000000 in
theorem cond_any (c : TCond) (w : World) : Calls Tryd.prog 20 #[.agg #[.int .i64 c.f, .int .i64 c.op, .int .i64 c.v]] w fun e w' => e = .returned (.int .i64 (condE c)) ∧ Below w.heap.size w w' := by
  obtain ⟨f, op, v⟩ := c
  dsimp only
  by_cases h1 : f < 0 ∨ 5 ≤ f
  · have he : condE ⟨f, op, v⟩ = 5 := by unfold condE; rw [if_pos h1]
    rw [he]; clear he
    rcases h1 with h1 | h1
    · go_enter Tryd.func20, Tryd.ntmps20
      go_wp2
      go_ret
      exact ⟨rfl, bel_alloc (Below.refl _ _) _⟩
    · have h0 : ¬ f < 0 := by omega
      go_enter Tryd.func20, Tryd.ntmps20
      go_wp2
      go_ret
      exact ⟨rfl, bel_alloc (Below.refl _ _) _⟩
  · by_cases h2 : op < 1 ∨ 4 < op
    · have he : condE ⟨f, op, v⟩ = 4 := by unfold condE; rw [if_neg h1, if_pos h2]
      rw [he]; clear he
      have g0 : ¬ f < 0 := by omega
      have g1 : ¬ 5 ≤ f := by omega
      clear h1
      rcases h2 with h2 | h2
      · go_enter Tryd.func20, Tryd.ntmps20
        go_wp2
        go_ret
        exact ⟨rfl, bel_alloc (Below.refl _ _) _⟩
      · have h0 : ¬ op < 1 := by omega
        go_enter Tryd.func20, Tryd.ntmps20
        go_wp2
        go_ret
        exact ⟨rfl, bel_alloc (Below.refl _ _) _⟩
    · have g0 : ¬ f < 0 := by omega
      have g1 : ¬ 5 ≤ f := by omega
      have g2 : ¬ op < 1 := by omega
      have g3 : ¬ 4 < op := by omega
      have hc : ∀ W, Cls (w.heap.size + 1) (w.alloc (.cells #[.int .i64 f, .int .i64 op, .int .i64 v] 60)) W → ∀ j : Nat, W.cell? ⟨w.heap.size, j, none⟩ = (#[Value.int .i64 f, .int .i64 op, .int .i64 v] : Array Value)[j]? := fun W hW j => box_cells hW.2 j
      have Hc := Lib.hid hc
      have He : Hid (condE ⟨f, op, v⟩ = if v < 0 ∨ mostOf f < v then 3 else 0) := by show condE _ = _; unfold condE; rw [if_neg h1, if_neg h2]
      clear hc h1 h2
      by_cases h3 : v < 0
      · have hv : decide (v < 0) = true := decide_eq_true h3
        rw [He.out, if_pos (.inl h3)]
        go_enter Tryd.func20, Tryd.ntmps20
        go_wp2_with fail
        refine wp_region_exact (w.heap.size + 1) (by simp) (by kernel_rfl) (by kernel_rfl) ?_
        repeat (refine monoE_step (fun K hK => ?_); apply Exists.intro; refine ⟨fun W hC R hR => ?_, ?_⟩; (have hcell := Hc.out W hC; go_simp; exact hR _ _ (Below.refl _ _) rfl); (go_simp; refine hK _ ?_; clear hK K))
        intro w2 hC2
        go_wp2
        go_ret
        exact ⟨rfl, bel_box hC2.2⟩
      · have hv : decide (v < 0) = false := decide_eq_false h3
        by_cases h4 : mostOf f < v
        · have hv4 : decide (mostOf f < v) = true := decide_eq_true h4
          rw [He.out, if_pos (.inr h4)]
          go_enter Tryd.func20, Tryd.ntmps20
          go_wp2_with fail
          refine wp_region_exact (w.heap.size + 1) (by simp) (by kernel_rfl) (by kernel_rfl) ?_
          repeat (refine monoE_step (fun K hK => ?_); apply Exists.intro; refine ⟨fun W hC R hR => ?_, ?_⟩; (first
            | (have hcell := Hc.out W hC; go_simp; refine hR _ _ (Below.refl _ _) rfl)
            | (go_simp; go_at_call 21; refine (most_any _ _).mono ?_; rintro e w1 ⟨rfl, rfl⟩; exact ⟨_, rfl, hR _ _ (Below.refl _ _) rfl⟩)); (go_simp; refine hK _ ?_; clear hK K))
          intro w2 hC2
          go_wp2
          go_ret
          exact ⟨rfl, bel_box hC2.2⟩
        · have hv4 : decide (mostOf f < v) = false := decide_eq_false h4
          rw [He.out, if_neg (by omega)]
          go_enter Tryd.func20, Tryd.ntmps20
          go_wp2_with fail
          refine wp_region_exact (w.heap.size + 1) (by simp) (by kernel_rfl) (by kernel_rfl) ?_
          repeat (refine monoE_step (fun K hK => ?_); apply Exists.intro; refine ⟨fun W hC R hR => ?_, ?_⟩; (first
            | (have hcell := Hc.out W hC; go_simp; refine hR _ _ (Below.refl _ _) rfl)
            | (go_simp; go_at_call 21; refine (most_any _ _).mono ?_; rintro e w1 ⟨rfl, rfl⟩; exact ⟨_, rfl, hR _ _ (Below.refl _ _) rfl⟩)); (go_simp; refine hK _ ?_; clear hK K))
          intro w2 hC2
          go_wp2
          go_ret
          exact ⟨rfl, bel_box hC2.2⟩
end Go.Proofs.YtmokmmpomgjemaaDoor
