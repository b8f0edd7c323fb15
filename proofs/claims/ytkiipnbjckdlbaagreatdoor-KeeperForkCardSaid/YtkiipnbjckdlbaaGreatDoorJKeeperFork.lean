/- KeeperFork returns true at every records, two numbers and call. Condition: Laid. -/
import Derived.Test.YtkiipnbjckdlbaaGreatDoorK11
import Derived.Test.YtkiipnbjckdlbaaGreatDoorK7
import Derived.Test.YtkiipnbjckdlbaaGreatDoorJKeeperMeans
import Derived.Test.YtkiipnbjckdlbaaGreatDoorK12
namespace Go.Proofs.YtkiipnbjckdlbaaGreatDoor
open Go.RowKit
attribute [local go_sem] gives givesUpon

set_option maxRecDepth 100000 in
set_option maxHeartbeats 16000000 in
theorem keeperFork_walk {w : World} (hL : Laid w) (v3 : Value) (l : List TRec) (rd3 : RdRecs w (fun _ => True) v3 l) (fr0 to0 : Int) (x : TCall) :
    Calls Tryz.prog 10 #[v3, .int .i64 fr0, .int .i64 to0, callV x] w fun e w' => e = .returned (.bool true) ∧ Below w.heap.size w w' := by
  have HL := Lib.hid hL
  have H3 := Lib.hid rd3
  obtain ⟨a3, c3, rfl, _⟩ := Sl.form rd3
  clear rd3
  clear hL 
  go_enter Tryz.func10, Tryz.ntmps10
  go_wp2_with fail
  have HB := Lib.hid (Bx.one (w := w) (o := .cells #[.int .i64 x.a0, .int .i64 x.a1, .int .i64 x.a2, .int .i64 x.a3, .int .i64 x.a4] 24))
  refine (right_any x _).mono ?_
  rintro e w1 ⟨rfl, hb1⟩
  replace HB := Lib.hid (HB.out.below hb1)
  have hq0 := HB.out.cells0
  have hfr := HB.out.free0
  have HB1 := Lib.hid (HB.out.setCall0 (y := x.right))
  clear hb1
  have hset0 := HB1.out.cells0
  go_wp2_with fail
  clear hq0
  clear hfr hset0 HB
  revert HB1
  generalize (((((w1.setCell ⟨w.heap.size, 0, none⟩ (.int .i64 x.right.a0)).setCell ⟨w.heap.size, 1, none⟩ (.int .i64 x.right.a1)).setCell ⟨w.heap.size, 2, none⟩ (.int .i64 x.right.a2)).setCell ⟨w.heap.size, 3, none⟩ (.int .i64 x.right.a3)).setCell ⟨w.heap.size, 4, none⟩ (.int .i64 x.right.a4)) = w2
  intro HB
  refine (at_any fr0 4 _ (by decide) (by decide)).mono ?_
  rintro e w3 ⟨rfl, rfl⟩
  have hj0 := Int.emod_nonneg fr0 (by decide : (4 : Int) ≠ 0)
  have hj4 := Int.emod_lt_of_pos fr0 (by decide : (0 : Int) < 4)
  obtain ⟨j, hj⟩ : ∃ j : Nat, fr0 % 4 = j := ⟨(fr0 % 4).toNat, by omega⟩
  rw [hj] at hj0 hj4 ⊢
  have Hj : Hid (j < 4) := (by omega : j < 4)
  clear hj hj0 hj4
  have hq0 := HB.out.cells0
  go_wp2_with fail
  clear hq0
  refine (at_any to0 4 _ (by decide) (by decide)).mono ?_
  rintro e w3 ⟨rfl, rfl⟩
  have hk0 := Int.emod_nonneg to0 (by decide : (4 : Int) ≠ 0)
  have hk4 := Int.emod_lt_of_pos to0 (by decide : (0 : Int) < 4)
  obtain ⟨k, hk⟩ : ∃ k : Nat, to0 % 4 = k := ⟨(to0 % 4).toNat, by omega⟩
  rw [hk] at hk0 hk4 ⊢
  have Hk : Hid (k < 4) := (by omega : k < 4)
  clear hk hk0 hk4
  have hq0 := HB.out.cells0
  go_wp2_with fail
  clear hq0
  obtain ⟨⟨C, ce⟩, hC⟩ : ∃ E, replayE l = E := ⟨_, rfl⟩
  have HC := Lib.hid hC
  clear hC
  refine (replay_any _ l _ _ (H3.out.below HB.out.bel)).mono ?_
  rw [HC.out]
  rintro e w3 ⟨aC, cC, rfl, hrC, hb3⟩
  replace HB := Lib.hid (HB.out.below hb3)
  have RC := Lib.hid (cells_true hrC)
  clear hrC hb3
  have hq0 := HB.out.cells0
  go_wp2_with fail
  clear hq0
  refine (opened_walk _ (HL.out.below HB.out.bel)).mono ?_
  rintro e w4 ⟨rfl, hb4⟩
  replace HB := Lib.hid (HB.out.below hb4)
  replace RC := Lib.hid (RC.out.below hb4)
  clear hb4
  by_cases h0 : ce = 0
  · subst h0
    obtain ⟨_, _, hmeans, hcE⟩ := replayE_ok (l := l) (by rw [HC.out])
    rw [HC.out] at hmeans hcE
    dsimp only at hmeans hcE
    have hl4 := ((cellsE_iff C).1 hcE).1
    obtain ⟨cK, hx⟩ : ∃ z, C[k]? = some z := ⟨_, List.getElem?_eq_getElem (by have := Hk.out; omega)⟩
    obtain ⟨cJ, hy⟩ : ∃ z, C[j]? = some z := ⟨_, List.getElem?_eq_getElem (by have := Hj.out; omega)⟩
    have Hcases := Lib.hid (fork_cases hmeans hcE Hk.out Hj.out hx hy)
    have Hx := Lib.hid hx
    have Hy := Lib.hid hy
    have Hl4 := Lib.hid hl4
    have hkl : (k : Int) < (C.length : Int) := by have := Hk.out; omega
    have hjl : (j : Int) < (C.length : Int) := by have := Hj.out; omega
    have hk0 : (0 : Int) ≤ (k : Int) := by omega
    have hj0 : (0 : Int) ≤ (j : Int) := by omega
    clear hmeans hcE hx hy hl4
    have hq0 := HB.out.cells0
    go_wp2_with fail
    clear hq0
    rcases Hcases.out with ⟨hxo, HN⟩ | ⟨hxo, hyo, HN⟩ | ⟨hxo, hyo, HN⟩ | ⟨hxo, hyo, hjk, hf, hcd, hok, hch, hsay, HN, HN2⟩
    · refine (next_any _ _ C ⟨3, k, j, zeroPol⟩ _ (fun _ => True) _ RC.out (nil_rules _ _)).mono ?_
      rw [HN]
      rintro e w5 ⟨aD, cD, rfl, _, hb5⟩
      replace HB := Lib.hid (HB.out.below hb5)
      replace RC := Lib.hid (RC.out.below hb5)
      clear hb5
      obtain ⟨bC, oC, rfl, _⟩ := Sl.at_ RC.out (by have := Hl4.out; omega)
      obtain ⟨_, _, _, _, k0, _⟩ := cells_at RC.out Hx.out
      obtain ⟨_, _, _, _, j0, _⟩ := cells_at RC.out Hy.out
      rw [hxo] at k0
      clear hxo HN Hcases
      go_wp2
      go_ret
      exact ⟨rfl, HB.out.bel⟩
    · refine (next_any _ _ C ⟨3, k, j, zeroPol⟩ _ (fun _ => True) _ RC.out (nil_rules _ _)).mono ?_
      rw [HN]
      rintro e w5 ⟨aD, cD, rfl, _, hb5⟩
      replace HB := Lib.hid (HB.out.below hb5)
      replace RC := Lib.hid (RC.out.below hb5)
      clear hb5
      obtain ⟨bC, oC, rfl, _⟩ := Sl.at_ RC.out (by have := Hl4.out; omega)
      obtain ⟨_, _, _, _, k0, _⟩ := cells_at RC.out Hx.out
      obtain ⟨_, _, _, _, j0, _⟩ := cells_at RC.out Hy.out
      rw [hxo] at k0
      rw [hyo] at j0
      clear hxo hyo HN Hcases
      go_wp2
      go_ret
      exact ⟨rfl, HB.out.bel⟩
    · refine (next_any _ _ C ⟨3, k, j, zeroPol⟩ _ (fun _ => True) _ RC.out (nil_rules _ _)).mono ?_
      rw [HN]
      rintro e w5 ⟨aD, cD, rfl, _, hb5⟩
      replace HB := Lib.hid (HB.out.below hb5)
      replace RC := Lib.hid (RC.out.below hb5)
      clear hb5
      obtain ⟨bC, oC, rfl, _⟩ := Sl.at_ RC.out (by have := Hl4.out; omega)
      obtain ⟨_, _, _, _, k0, _⟩ := cells_at RC.out Hx.out
      obtain ⟨_, _, _, _, j0, _⟩ := cells_at RC.out Hy.out
      rw [hxo] at k0
      rw [hyo] at j0
      clear hxo hyo HN Hcases
      go_wp2
      go_ret
      exact ⟨rfl, HB.out.bel⟩
    · obtain ⟨F, hF⟩ : ∃ F, filterL cJ.p = F := ⟨_, rfl⟩
      rw [hF] at hf hcd HN HN2
      have hone : ∀ z : TCall, asked [F] z = says cJ.p z := fun z => by rw [← hF]; exact asked_one hok z
      have hcF : chainE [F] = 0 := (chainE_iff _).2 ⟨by simp, fun f h => by rw [List.mem_singleton.1 h]; exact hcd⟩
      obtain ⟨sv, hsv⟩ : ∃ v, says cJ.p x.right = v := ⟨_, rfl⟩
      have JA : Hid (askE cJ.chain x.right = (sv, 0)) := by show _ = _; rw [askE_of2 hch x.right_ok, hsay _ x.right_ok, hsv]
      have JF : Hid (askE [F] x.right = (sv, 0)) := by show _ = _; rw [askE_of2 hcF x.right_ok, hone, hsv]
      have Hf := Lib.hid hf
      obtain ⟨N, hNd⟩ : ∃ N, C.set k ⟨true, [F], cJ.p⟩ = N := ⟨_, rfl⟩
      rw [hNd] at HN HN2
      have hNl : N.length = 4 := by rw [← hNd, List.length_set]; exact Hl4.out
      have HNk : Hid (N[k]? = some ⟨true, [F], cJ.p⟩) := by show _ = _; rw [← hNd, List.getElem?_set_self (by have := Hl4.out; have := Hk.out; omega)]
      have HNj : Hid (N[j]? = some cJ) := by show _ = _; rw [← hNd, List.getElem?_set_ne (Ne.symm hjk)]; exact Hy.out
      have HSk : Hid ((N.set j zeroCell)[k]? = some ⟨true, [F], cJ.p⟩) := by show _ = _; rw [List.getElem?_set_ne hjk]; exact HNk.out
      have HSl : Hid ((N.set j zeroCell).length = 4) := by show _ = _; rw [List.length_set]; exact hNl
      have HNl := Lib.hid hNl
      have HN2' := Lib.hid HN2
      clear hF hone hcF hsv hf hcd hok hch hsay hNd hjk HN2 Hcases hNl
      refine (next_any _ _ C ⟨3, k, j, zeroPol⟩ _ (fun _ => True) _ RC.out (nil_rules _ _)).mono ?_
      rw [HN]
      rintro e w5 ⟨aD, cD, rfl, hrD, hb5⟩
      replace HB := Lib.hid (HB.out.below hb5)
      replace RC := Lib.hid (RC.out.below hb5)
      have RD := Lib.hid (cells_true hrD)
      clear hrD hb5 HN
      dsimp only at RD
      rw [HNl.out] at RD
      dsimp only
      rw [HNl.out]
      obtain ⟨bC, oC, rfl, _⟩ := Sl.at_ RC.out (by have := Hl4.out; omega)
      obtain ⟨bD, oD, rfl, _⟩ := Sl.at_ RD.out (by have := HNl.out; omega)
      obtain ⟨_, _, _, _, k0, _⟩ := cells_at RC.out Hx.out
      obtain ⟨_, _, _, _, j0, _⟩ := cells_at RC.out Hy.out
      rw [hxo] at k0
      rw [hyo] at j0
      clear hxo hyo
      have hk4 : (k : Int) < 4 := by have := Hk.out; omega
      have hj4 : (j : Int) < 4 := by have := Hj.out; omega
      have hkw : IntKind.i64.wrap (k : Int) = (k : Int) := IntWalk.i64_in _ (by omega)
      have hjw : IntKind.i64.wrap (j : Int) = (j : Int) := IntWalk.i64_in _ (by omega)
      have hk1 : IntKind.i64.wrap ((k : Int) + 1) = (k : Int) + 1 := IntWalk.i64_in _ (by omega)
      have hq0 := HB.out.cells0
      go_wp2_with fail
      clear hq0
      clear k0 j0
      obtain ⟨ua1, _, uc1, _, _, u1, _, _, uc, _⟩ := cells_at RD.out HNj.out
      have HU := Lib.hid uc
      have Hcc : Hid (∀ W, Cls w5.heap.size w5 W → (∀ i, W.cell? ⟨w.heap.size, i, none⟩ = (#[Value.int .i64 x.right.a0, .int .i64 x.right.a1, .int .i64 x.right.a2, .int .i64 x.right.a3, .int .i64 x.right.a4] : Array Value)[i]?) ∧ W.cell? ⟨bD, oD + j * 4 + 1, none⟩ = some (.slice ua1 cJ.chain.length uc1)) := fun W hC => ⟨(HB.out.below hC.2).cells0, cell_kept' u1 hC.2⟩
      clear uc u1
      refine wp_region_exact3 w5.heap.size (Nat.le_refl _) (by kernel_rfl) (by kernel_rfl) ?_
      repeat (refine monoE_step (fun K hK => ?_); apply Exists.intro; refine ⟨fun W hC R hR => ?_, ?_⟩; (first | (go_simp; exact hR _ _ (Below.refl _ _) rfl) | (have hcc := Hcc.out W hC; go_simp; exact hR _ _ (Below.refl _ _) rfl) | (go_simp; go_at_call 12; refine (ask_any _ cJ.chain x.right _ _ (HU.out.below hC.2)).mono ?_; rw [JA.out]; rintro e w99 ⟨rfl, hb99⟩; exact ⟨_, rfl, hR _ _ hb99 rfl⟩)); (go_simp; refine hK _ ?_; clear hK K))
      intro w6 hC
      have hb6 := hC.2
      clear hC Hcc HU
      replace HB := Lib.hid (HB.out.below hb6)
      replace RC := Lib.hid (RC.out.below hb6)
      replace RD := Lib.hid (RD.out.below hb6)
      clear hb6
      have hq0 := HB.out.cells0
      go_wp2_with fail
      clear hq0
      obtain ⟨ua1, _, uc1, _, _, u1, _, _, uc, _⟩ := cells_at RD.out HNk.out
      have HU := Lib.hid uc
      have Hcc : Hid (∀ W, Cls w6.heap.size w6 W → (∀ i, W.cell? ⟨w.heap.size, i, none⟩ = (#[Value.int .i64 x.right.a0, .int .i64 x.right.a1, .int .i64 x.right.a2, .int .i64 x.right.a3, .int .i64 x.right.a4] : Array Value)[i]?) ∧ W.cell? ⟨bD, oD + k * 4 + 1, none⟩ = some (.slice ua1 [F].length uc1)) := fun W hC => ⟨(HB.out.below hC.2).cells0, cell_kept' u1 hC.2⟩
      clear uc u1
      refine wp_region_exact3 w6.heap.size (Nat.le_refl _) (by kernel_rfl) (by kernel_rfl) ?_
      repeat (refine monoE_step (fun K hK => ?_); apply Exists.intro; refine ⟨fun W hC R hR => ?_, ?_⟩; (first | (go_simp; exact hR _ _ (Below.refl _ _) rfl) | (have hcc := Hcc.out W hC; go_simp; exact hR _ _ (Below.refl _ _) rfl) | (go_simp; go_at_call 12; refine (ask_any _ [F] x.right _ _ (HU.out.below hC.2)).mono ?_; rw [JF.out]; rintro e w99 ⟨rfl, hb99⟩; exact ⟨_, rfl, hR _ _ hb99 rfl⟩)); (go_simp; refine hK _ ?_; clear hK K))
      intro w7 hC
      have hb7 := hC.2
      clear hC Hcc HU
      replace HB := Lib.hid (HB.out.below hb7)
      replace RC := Lib.hid (RC.out.below hb7)
      replace RD := Lib.hid (RD.out.below hb7)
      clear hb7
      obtain ⟨_, pa, _, pc, _, _, p2, p3, _, pr⟩ := cells_at RD.out HNk.out
      have HPr := Lib.hid pr
      clear pr
      dsimp only at p2 p3 HPr
      have hq0 := HB.out.cells0
      go_wp2_with fail
      clear hq0
      refine (compile_any _ cJ.p _ _ HPr.out).mono ?_
      rw [Hf.out]
      rintro e w8 ⟨vG, rfl, hrG, hb8⟩
      replace HB := Lib.hid (HB.out.below hb8)
      replace RC := Lib.hid (RC.out.below hb8)
      replace RD := Lib.hid (RD.out.below hb8)
      have RG := Lib.hid (code_true hrG)
      obtain ⟨aG, cG, rfl, _⟩ := Sl.form hrG
      clear hrG hb8 p2 p3 HPr
      obtain ⟨ua1, _, uc1, _, _, u1, _, _, uc, _⟩ := cells_at RD.out HNk.out
      dsimp only at u1 uc
      obtain ⟨bU, oU, rfl, _⟩ := Sl.at_ uc (by simp)
      obtain ⟨aQ, cQ, q0, hQ⟩ := RdChain.cells uc (i := 0) (by simp)
      have HQ := Lib.hid hQ
      simp only [List.getElem_cons_zero, Nat.add_zero] at q0 HQ
      simp only [List.length_cons, List.length_nil, Nat.zero_add] at u1
      clear hQ uc
      have hq0 := HB.out.cells0
      go_wp2_with fail
      clear hq0
      refine (eqins_any _ _ F F (fun _ => True) _ HQ.out RG.out).mono ?_
      rintro e w9 ⟨rfl, hb9⟩
      replace HB := Lib.hid (HB.out.below hb9)
      replace RC := Lib.hid (RC.out.below hb9)
      replace RD := Lib.hid (RD.out.below hb9)
      replace RG := Lib.hid (RG.out.below hb9)
      clear hb9
      rw [decide_eq_true (rfl : F = F)]
      clear u1 q0 HQ
      have hq0 := HB.out.cells0
      go_wp2_with fail
      clear hq0
      refine (next_any _ _ N ⟨4, j, 0, zeroPol⟩ _ (fun _ => True) _ RD.out (nil_rules _ _)).mono ?_
      rw [HN2'.out]
      rintro e w10 ⟨aS, cS, rfl, hrS, hb10⟩
      replace HB := Lib.hid (HB.out.below hb10)
      replace RC := Lib.hid (RC.out.below hb10)
      replace RD := Lib.hid (RD.out.below hb10)
      replace RG := Lib.hid (RG.out.below hb10)
      have RS := Lib.hid (cells_true hrS)
      clear hrS hb10
      dsimp only at RS
      rw [HSl.out] at RS
      dsimp only
      rw [HSl.out]
      obtain ⟨bS, oS, rfl, _⟩ := Sl.at_ RS.out (by have := HSl.out; omega)
      have HSs := Lib.hid (cells_sub RS.out HSk.out)
      have HDs := Lib.hid (cells_sub RD.out HNk.out)
      obtain ⟨hcS, hcS'⟩ := cells_cap RS.out
      obtain ⟨hcD, hcD'⟩ := cells_cap RD.out
      rw [HSl.out] at hcS
      rw [HNl.out] at hcD
      have hkS : (k : Int) + 1 ≤ (cS : Int) := by omega
      have hkD : (k : Int) + 1 ≤ (cD : Int) := by omega
      have hkS' : ¬ (cS = k) := by omega
      have hkD' : ¬ (cD = k) := by omega
      go_wp2_with fail
      refine wp_region_exact3 w10.heap.size (Nat.le_refl _) (by kernel_rfl) (by kernel_rfl) ?_
      repeat (refine monoE_step (fun K hK => ?_); apply Exists.intro; refine ⟨fun W hC R hR => ?_, ?_⟩; (first | (go_simp; exact hR _ _ (Below.refl _ _) rfl) | (go_simp; go_at_call 35; refine (keepsame_any _ _ _ _ _ (HSs.out.below hC.2) (HDs.out.below hC.2)).mono ?_; rintro e w99 ⟨rfl, hb99⟩; exact ⟨_, rfl, hR _ _ hb99 rfl⟩)); (go_simp; refine hK _ ?_; clear hK K))
      intro w11 hC
      have HBf := Lib.hid (HB.out.below hC.2)
      clear hC
      go_wp2
      go_ret
      exact ⟨rfl, HBf.out.bel⟩
  · have hne : (ce != 0) = true := bne_iff_ne.2 h0
    clear h0
    have hq0 := HB.out.cells0
    go_wp2_with fail
    clear hq0
    refine (opened_walk _ (HL.out.below HB.out.bel)).mono ?_
    rintro e w5 ⟨rfl, hb5⟩
    replace HB := Lib.hid (HB.out.below hb5)
    replace RC := Lib.hid (RC.out.below hb5)
    clear hb5
    have hq0 := HB.out.cells0
    go_wp2
    go_ret
    exact ⟨rfl, HB.out.bel⟩
end Go.Proofs.YtkiipnbjckdlbaaGreatDoor
