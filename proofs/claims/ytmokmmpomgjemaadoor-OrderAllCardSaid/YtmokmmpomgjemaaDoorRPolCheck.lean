/- Walk: the reference's CheckPolicy. No condition. -/
import Derived.Test.YtmokmmpomgjemaaDoorPolicy
namespace Go.Proofs.YtmokmmpomgjemaaDoor
open Go.RowKit
attribute [local go_sem] gives givesUpon

set_option maxHeartbeats 8000000 in
theorem rpolcheck_any (v : Value) (p : TPol) (D : Nat → Prop) (w : World) (h : RdRules w D v p.rules) : Calls Tryd.prog 30 #[polV v p.dflt] w fun e w' => e = .returned (.int .i64 (polE p)) ∧ Below w.heap.size w w' := by
  obtain ⟨rs, d⟩ := p
  dsimp only at h ⊢
  obtain ⟨a, c, rfl, hlc, hcm, hat⟩ := Sl.form h
  have H := Lib.hid h
  clear h
  by_cases h1 : 120 < rs.length
  · have he : polE ⟨rs, d⟩ = 2 := by unfold polE; rw [if_pos h1]
    have hz : 120 < (rs.length : Int) := by omega
    rw [he]; clear he h1 hat H
    go_enter Tryd.func30, Tryd.ntmps30
    go_wp2
    go_ret
    exact ⟨rfl, bel_alloc (Below.refl _ _) _⟩
  · have hz : ¬ 120 < (rs.length : Int) := by omega
    by_cases h2 : 0 ≤ d ∧ d ≤ 4
    · have hd := inB_yes h2.1 h2.2
      have He := Lib.hid (show polE ⟨rs, d⟩ = rulesGo rs by unfold polE; rw [if_neg h1, if_neg (by simp only; omega)])
      clear h1 h2
      go_enter Tryd.func30, Tryd.ntmps30
      go_wp2_with (go_at_call 40; refine (in_any _ _ _ _).mono ?_; rintro e w1 ⟨rfl, rfl⟩)
      go_loopw [18] (fun i wr => ∃ k : Nat, k ≤ rs.length ∧ i = .int .i64 k ∧ rulesGo rs = rulesGo (rs.drop k) ∧ Below w.heap.size w wr) (fun i _ => rs.length - (intOf i).toNat)
      case atStart => exact ⟨0, by omega, rfl, rfl, bel_alloc (Below.refl _ _) _⟩
      case round =>
        obtain ⟨k, hk, rfl, hgo, hbw⟩ := hrel
        have Hgo := Lib.hid hgo
        have hsz := hbw.size
        clear hgo hd
        by_cases hlt : k < rs.length
        · obtain ⟨b, o, rfl, hDb, hb⟩ := hat (by omega)
          obtain ⟨a', c', k0, k1, hr, hlc', hcm', hat'⟩ := RdRules.cells (RdRules.below H.out hbw) hlt
          have Hr := Lib.hid hr
          have bad : ∀ e : Int, ruleE rs[k] = e → e ≠ 0 → ∀ wz, Below w.heap.size w wz → Ending.returned (.int .i64 e) = .returned (.int .i64 (polE ⟨rs, d⟩)) ∧ Below w.heap.size w wz := fun e he h0 wz hz => by
            refine ⟨ret_int ?_, hz⟩
            rw [He.out, Hgo.out, rulesGo_drop rs k hlt, he, if_neg h0]
          have good : ruleE rs[k] = 0 → rulesGo rs = rulesGo (rs.drop (k + 1)) := fun he => by rw [Hgo.out, rulesGo_drop rs k hlt, if_pos he]
          have Hbad := Lib.hid bad
          have Hgood := Lib.hid good
          clear bad good hr
          generalize hX : rs[k] = X at *
          clear hX
          obtain ⟨cs, vd⟩ := X
          dsimp only at k0 k1 hlc' hat'
          have Hr' : Hid (RdConds wr D (.slice a' cs.length c') cs) := Hr
          clear Hr
          by_cases h3 : 10 < cs.length
          · have Hb := Lib.hid (Hbad.out 2 (by unfold ruleE; rw [if_pos h3]) (by decide))
            have hz3 : 10 < (cs.length : Int) := by omega
            clear Hbad Hgood hat' h3
            go_wp2
            go_ret
            exact Hb.out _ (bel_alloc hbw _)
          · have hz3 : ¬ 10 < (cs.length : Int) := by omega
            by_cases h4 : 0 ≤ vd ∧ vd ≤ 4
            · have hvd := inB_yes h4.1 h4.2
              have Hre := Lib.hid (show ruleE ⟨cs, vd⟩ = condsGo cs by unfold ruleE; rw [if_neg h3, if_neg (by simp only; omega)])
              clear h3 h4
              go_wp2_with (go_at_call 40; refine (in_any _ _ _ _).mono ?_; rintro e w1 ⟨rfl, rfl⟩)
              obtain ⟨wo, rfl⟩ : ∃ wo : World, wo = wr := ⟨_, rfl⟩
              go_loopw [35] (fun i wi => ∃ j : Nat, j ≤ cs.length ∧ i = .int .i64 j ∧ condsGo cs = condsGo (cs.drop j) ∧ Below w.heap.size w wi ∧ Below wo.heap.size wo wi) (fun i _ => cs.length - (intOf i).toNat)
              case atStart => exact ⟨0, by omega, rfl, rfl, bel_alloc hbw _, bel_alloc (Below.refl _ _) _⟩
              case round =>
                obtain ⟨j, hj, rfl, hgo, hbi, hbi'⟩ := hrel
                have Hgi := Lib.hid hgo
                have hszi := hbi.size
                clear hgo hvd
                by_cases hlj : j < cs.length
                · obtain ⟨b', o', rfl, hDb', hb'⟩ := hat' (by omega)
                  obtain ⟨c0, c1, c2⟩ := RdConds.cells (RdConds.below Hr'.out hbi') hlj
                  have badc : ∀ e : Int, condE cs[j] = e → e ≠ 0 → ruleE ⟨cs, vd⟩ = e := fun e he h0 => by rw [Hre.out, Hgi.out, condsGo_drop cs j hlj, he, if_neg h0]
                  have goodc : condE cs[j] = 0 → condsGo cs = condsGo (cs.drop (j + 1)) := fun he => by rw [Hgi.out, condsGo_drop cs j hlj, if_pos he]
                  have Hbadc := Lib.hid badc
                  have Hgoodc := Lib.hid goodc
                  clear badc goodc
                  generalize hY : cs[j] = Y at *
                  clear hY
                  obtain ⟨cf, co, cv⟩ := Y
                  dsimp only at c0 c1 c2
                  by_cases q1 : 0 ≤ cf ∧ cf ≤ 4
                  · have d1 := inB_yes q1.1 q1.2
                    by_cases q2 : 1 ≤ co ∧ co ≤ 4
                    · have d2 := inB_yes q2.1 q2.2
                      have hcl : ∀ W, Cls (wr.heap.size + 1) (wr.alloc (.cells #[.int .i64 cf, .int .i64 co, .int .i64 cv] 60)) W → ∀ j : Nat, W.cell? ⟨wr.heap.size, j, none⟩ = (#[Value.int .i64 cf, .int .i64 co, .int .i64 cv] : Array Value)[j]? := fun W hW j => box_cells hW.2 j
                      have Hcl := Lib.hid hcl
                      clear hcl
                      by_cases q3 : 0 ≤ cv ∧ cv ≤ mostOf cf
                      · have d3 := inB_yes q3.1 q3.2
                        have Hg := Lib.hid (Hgoodc.out (by unfold condE; rw [if_neg (by simp only; omega), if_neg (by simp only; omega), if_neg (by simp only; omega)]))
                        clear q1 q2 q3
                        go_wp2_with (go_at_call 40; refine (in_any _ _ _ _).mono ?_; rintro e w1 ⟨rfl, rfl⟩)
                        refine wp_region_exact (wr.heap.size + 1) (by simp) (by kernel_rfl) (by kernel_rfl) ?_
                        repeat (refine monoE_step (fun K hK => ?_); apply Exists.intro; refine ⟨fun W hC R hR => ?_, ?_⟩; (first
                          | (have hcell := Hcl.out W hC; go_simp; refine hR _ _ (Below.refl _ _) rfl)
                          | (go_simp; go_at_call 10; refine (mostof_any _ _).mono ?_; rintro e w1 ⟨rfl, hb1⟩; exact ⟨_, rfl, hR _ _ hb1 rfl⟩)
                          | (go_simp; go_at_call 40; refine (in_any _ _ _ _).mono ?_; rintro e w1 ⟨rfl, rfl⟩; exact ⟨_, rfl, hR _ _ (Below.refl _ _) rfl⟩)); (go_simp; refine hK _ ?_; clear hK K))
                        intro w2 hC2
                        go_wp2
                        go_roundw
                        case rel => exact ⟨j + 1, by omega, by go_num, Hg.out, hbi.trans ((bel_box hC2.2).mono hszi), hbi'.trans ((bel_box hC2.2).mono hbi'.size)⟩
                        case measure => simp [intOf]; omega
                      · have d3 := inB_no q3
                        have Hb := Lib.hid (Hbad.out 3 (Hbadc.out 3 (by unfold condE; rw [if_neg (by simp only; omega), if_neg (by simp only; omega), if_pos (by simp only; omega)]) (by decide)) (by decide))
                        clear q1 q2 q3
                        go_wp2_with (go_at_call 40; refine (in_any _ _ _ _).mono ?_; rintro e w1 ⟨rfl, rfl⟩)
                        refine wp_region_exact (wr.heap.size + 1) (by simp) (by kernel_rfl) (by kernel_rfl) ?_
                        repeat (refine monoE_step (fun K hK => ?_); apply Exists.intro; refine ⟨fun W hC R hR => ?_, ?_⟩; (first
                          | (have hcell := Hcl.out W hC; go_simp; refine hR _ _ (Below.refl _ _) rfl)
                          | (go_simp; go_at_call 10; refine (mostof_any _ _).mono ?_; rintro e w1 ⟨rfl, hb1⟩; exact ⟨_, rfl, hR _ _ hb1 rfl⟩)
                          | (go_simp; go_at_call 40; refine (in_any _ _ _ _).mono ?_; rintro e w1 ⟨rfl, rfl⟩; exact ⟨_, rfl, hR _ _ (Below.refl _ _) rfl⟩)); (go_simp; refine hK _ ?_; clear hK K))
                        intro w2 hC2
                        go_wp2
                        go_ret
                        exact Hb.out _ (hbi.trans ((bel_box hC2.2).mono hszi))
                    · have d2 := inB_no q2
                      have Hb := Lib.hid (Hbad.out 4 (Hbadc.out 4 (by unfold condE; rw [if_neg (by simp only; omega), if_pos (by simp only; omega)]) (by decide)) (by decide))
                      clear q1 q2
                      go_wp2_with (go_at_call 40; refine (in_any _ _ _ _).mono ?_; rintro e w1 ⟨rfl, rfl⟩)
                      go_ret
                      exact Hb.out _ (bel_alloc hbi _)
                  · have d1 := inB_no q1
                    have Hb := Lib.hid (Hbad.out 5 (Hbadc.out 5 (by unfold condE; rw [if_pos (by simp only; omega)]) (by decide)) (by decide))
                    clear q1
                    go_wp2_with (go_at_call 40; refine (in_any _ _ _ _).mono ?_; rintro e w1 ⟨rfl, rfl⟩)
                    go_ret
                    exact Hb.out _ (bel_alloc hbi _)
                · obtain rfl : j = cs.length := by omega
                  have Hg := Lib.hid (Hgood.out (by rw [Hre.out, Hgi.out, List.drop_length]; rfl))
                  go_wp2
                  go_roundw
                  case rel => exact ⟨k + 1, by omega, by go_num, Hg.out, hbi⟩
                  case measure => simp [intOf]; omega
            · have hvd := inB_no h4
              have Hb := Lib.hid (Hbad.out 3 (by unfold ruleE; rw [if_neg h3, if_pos (by simp only; omega)]) (by decide))
              clear Hbad Hgood hat' h3 h4
              go_wp2_with (go_at_call 40; refine (in_any _ _ _ _).mono ?_; rintro e w1 ⟨rfl, rfl⟩)
              go_ret
              exact Hb.out _ (bel_alloc hbw _)
        · obtain rfl : k = rs.length := by omega
          go_wp2
          go_ret
          exact ⟨ret_int (by rw [He.out, Hgo.out, List.drop_length]; rfl), hbw⟩
    · have hd := inB_no h2
      have he : polE ⟨rs, d⟩ = 3 := by unfold polE; rw [if_neg h1, if_pos (by simp only; omega)]
      rw [he]; clear he hat H h1 h2
      go_enter Tryd.func30, Tryd.ntmps30
      go_wp2_with (go_at_call 40; refine (in_any _ _ _ _).mono ?_; rintro e w1 ⟨rfl, rfl⟩)
      go_ret
      exact ⟨rfl, bel_alloc (Below.refl _ _) _⟩
end Go.Proofs.YtmokmmpomgjemaaDoor
