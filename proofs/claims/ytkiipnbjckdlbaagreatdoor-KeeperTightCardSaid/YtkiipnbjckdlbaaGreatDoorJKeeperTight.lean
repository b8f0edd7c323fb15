/- KeeperTight returns true at every records and call. Condition: Laid. -/
import Derived.Test.YtkiipnbjckdlbaaGreatDoorK11
import Derived.Test.YtkiipnbjckdlbaaGreatDoorK7
import Derived.Test.YtkiipnbjckdlbaaGreatDoorK5
import Derived.Test.YtkiipnbjckdlbaaGreatDoorK13
import Derived.Test.YtkiipnbjckdlbaaGreatDoorK12
namespace Go.Proofs.YtkiipnbjckdlbaaGreatDoor
open Go.RowKit
attribute [local go_sem] gives givesUpon

set_option maxRecDepth 100000 in
set_option maxHeartbeats 16000000 in
theorem keeperTight_walk {w : World} (hL : Laid w) (v3 : Value) (l : List TRec) (rd3 : RdRecs w (fun _ => True) v3 l) (x : TCall) :
    Calls Tryz.prog 9 #[v3, callV x] w fun e w' => e = .returned (.bool true) ∧ Below w.heap.size w w' := by
  have HL := Lib.hid hL
  have H3 := Lib.hid rd3
  obtain ⟨a3, c3, rfl, hlc3, hcm3, hat3⟩ := Sl.form rd3
  have Hat := Lib.hid hat3
  clear rd3 hat3
  clear hL 
  go_enter Tryz.func9, Tryz.ntmps9
  go_wp2_with fail
  have HB := Lib.hid (Bx.one (w := w) (o := .cells #[.int .i64 x.a0, .int .i64 x.a1, .int .i64 x.a2, .int .i64 x.a3, .int .i64 x.a4] 24))
  refine (right_any x _).mono ?_
  rintro e w1 ⟨rfl, hb1⟩
  replace HB := Lib.hid (HB.out.below hb1)
  have hq0 := HB.out.cells0
  have hfr := HB.out.free0
  have HB1 := Lib.hid (HB.out.setCall0 (y := x.right))
  clear hb1
  have hset0 := HB1.out.cells0
  go_wp2_with fail
  clear hq0
  clear hfr hset0 HB
  revert HB1
  generalize (((((w1.setCell ⟨w.heap.size, 0, none⟩ (.int .i64 x.right.a0)).setCell ⟨w.heap.size, 1, none⟩ (.int .i64 x.right.a1)).setCell ⟨w.heap.size, 2, none⟩ (.int .i64 x.right.a2)).setCell ⟨w.heap.size, 3, none⟩ (.int .i64 x.right.a3)).setCell ⟨w.heap.size, 4, none⟩ (.int .i64 x.right.a4)) = w2
  intro HB
  have hq0 := HB.out.cells0
  go_wp2_with fail
  clear hq0
  refine (opened_walk _ (HL.out.below HB.out.bel)).mono ?_
  rintro e w3 ⟨rfl, hb3⟩
  replace HB := Lib.hid (HB.out.below hb3)
  clear hb3
  have hq0 := HB.out.cells0
  go_wp2_with fail
  clear hq0
  refine (keepnew_any _).mono ?_
  rintro e w4 ⟨v4, rfl, hr4, hb4⟩
  replace HB := Lib.hid (HB.out.below hb4)
  have RC := Lib.hid (cells_true hr4)
  obtain ⟨aC, cC, rfl, _⟩ := Sl.form hr4
  clear hr4 hb4
  obtain ⟨m, hm⟩ : ∃ m, min l.length 20 = m := ⟨_, rfl⟩
  have hmi : min (l.length : Int) 20 = (m : Int) := by omega
  have hml : m ≤ l.length := by omega
  have Hml := Lib.hid hml
  clear hm
  have hq0 := HB.out.cells0
  go_wp2_with fail
  clear hq0
  go_loopw [5, 31] (fun ov kv wr => ∃ (k : Nat) (ls : List TCell) (a2 : Option Addr) (c2 : Nat), kv = .int .i64 k ∧ ov = .slice a2 ls.length c2 ∧ k ≤ m ∧ (∀ s ∈ ls, Means s) ∧ ls.length = 4 ∧ RdCells wr (fun _ => True) (.slice a2 ls.length c2) ls ∧ Bx w [.cells #[.int .i64 x.right.a0, .int .i64 x.right.a1, .int .i64 x.right.a2, .int .i64 x.right.a3, .int .i64 x.right.a4] 24] wr) (fun _ kv _ => m - (intOf kv).toNat)
  case atStart => exact ⟨0, newCells, _, _, rfl, rfl, by omega, means_new.1, rfl, RC.out, HB.out⟩
  case round =>
    obtain ⟨k, ls, a2, c2, rfl, rfl, hk, hmn, hl4, hrd, hbx⟩ := hrel
    clear RC HB
    have RC := Lib.hid hrd
    have HB := Lib.hid hbx
    have HM := Lib.hid hmn
    have Hl4 := Lib.hid hl4
    clear hrd hbx hmn hl4
    by_cases hlt : k < m
    · have hlt' : k < l.length := by have := Hml.out; omega
      obtain ⟨b, o, rfl, _, _⟩ := Hat.out (by omega)
      obtain ⟨a5, c5, x0, x1, x2, x3, x4, hp⟩ := RdRecs.cells (H3.out.below HB.out.bel) hlt'
      have Hp := Lib.hid hp
      have HR := Lib.hid (Bx.one (w := wr) (o := .cells #[.int .i64 l[k].kind, .int .i64 l[k].cell, .int .i64 l[k].from_, .slice a5 l[k].p.rules.length c5, .int .i64 l[k].p.dflt] 55))
      have hqr := HR.out.cells0
      clear hp
      go_wp2_with fail
      refine (next_any _ _ ls l[k] _ _ _ (RC.out.below HR.out.bel) (RdRules.below Hp.out HR.out.bel)).mono ?_
      obtain ⟨⟨N, ne⟩, hN⟩ : ∃ E, nextE ls l[k] = E := ⟨_, rfl⟩
      have HN := Lib.hid hN
      clear hN
      rw [HN.out]
      rintro e w5 ⟨a6, c6, rfl, hr5, hb5⟩
      replace HB := Lib.hid ((HB.out.below HR.out.bel).below hb5)
      replace RC := Lib.hid ((RC.out.below HR.out.bel).below hb5)
      replace HR := Lib.hid (HR.out.below hb5)
      have RN := Lib.hid (cells_true hr5)
      clear hr5 hb5 x0 x1 x2 x3 x4 hqr Hp
      by_cases h0 : ne = 0
      · subst h0
        obtain ⟨hNm, hNc, hNl⟩ := tight_cells HM.out HN.out
        have HNm := Lib.hid hNm
        have HNc := Lib.hid hNc
        have HNl := Lib.hid hNl
        clear hNm hNc hNl
        go_wp2_with fail
        refine (kcheck_any _ N _ _ RN.out).mono ?_
        rw [HNc.out]
        rintro e w6 ⟨rfl, hb6⟩
        replace HB := Lib.hid (HB.out.below hb6)
        replace RC := Lib.hid (RC.out.below hb6)
        replace HR := Lib.hid (HR.out.below hb6)
        replace RN := Lib.hid (RN.out.below hb6)
        clear hb6
        go_wp2_with fail
        go_loopw [48] (fun qv wi => ∃ q : Nat, qv = .int .i64 q ∧ q ≤ ls.length ∧ RdCells wi (fun _ => True) (.slice a2 ls.length c2) ls ∧ RdCells wi (fun _ => True) (.slice a6 N.length c6) N ∧ Bx w [.cells #[.int .i64 x.right.a0, .int .i64 x.right.a1, .int .i64 x.right.a2, .int .i64 x.right.a3, .int .i64 x.right.a4] 24] wi ∧ Bx wr [.cells #[.int .i64 l[k].kind, .int .i64 l[k].cell, .int .i64 l[k].from_, .slice a5 l[k].p.rules.length c5, .int .i64 l[k].p.dflt] 55] wi) (fun qv _ => ls.length - (intOf qv).toNat)
        case atStart => exact ⟨0, rfl, by omega, RC.out, RN.out, HB.out, HR.out⟩
        case round =>
          obtain ⟨q, rfl, hq, hrd, hrn, hbx, hbr⟩ := hrel
          obtain ⟨wi, rfl⟩ : ∃ wi : World, wi = wr := ⟨_, rfl⟩
          clear RC HB RN HR
          have RC := Lib.hid hrd
          have RN := Lib.hid hrn
          have HB := Lib.hid hbx
          have HR := Lib.hid hbr
          clear hrd hrn hbx hbr

          by_cases hql : q < ls.length
          · have HqL := Lib.hid hql
            obtain ⟨A, hA⟩ : ∃ z, ls[q]? = some z := ⟨_, List.getElem?_eq_getElem hql⟩
            obtain ⟨E, hE⟩ : ∃ z, N[q]? = some z := ⟨_, List.getElem?_eq_getElem (by rw [HNl.out]; exact hql)⟩
            have HA := Lib.hid hA
            have HE := Lib.hid hE
            clear hA hE
            obtain ⟨bC, oC, rfl, _⟩ := Sl.at_ RC.out (by omega)
            obtain ⟨bN, oN, rfl, _⟩ := Sl.at_ RN.out (by rw [HNl.out]; omega)
            obtain ⟨pA1, pA2, cA1, cA2, k0, k1, k2, k3, hch, hrl⟩ := cells_at RC.out HA.out
            have HAc := Lib.hid hch
            have HAr := Lib.hid hrl
            have HcA : Hid (∀ W, Cls wi.heap.size wi W → W.cell? ⟨bC, oC + q * 4, none⟩ = some (.bool A.open_) ∧ W.cell? ⟨bC, oC + q * 4 + 1, none⟩ = some (.slice pA1 A.chain.length cA1) ∧ W.cell? ⟨bC, oC + q * 4 + 2, none⟩ = some (.slice pA2 A.p.rules.length cA2) ∧ W.cell? ⟨bC, oC + q * 4 + 3, none⟩ = some (.int .i64 A.p.dflt)) := fun W hC => ⟨cell_kept' k0 hC.2, cell_kept' k1 hC.2, cell_kept' k2 hC.2, cell_kept' k3 hC.2⟩
            clear k0 k1 k2 k3 hch hrl
            obtain ⟨pE1, pE2, cE1, cE2, k0, k1, k2, k3, hch, hrl⟩ := cells_at RN.out HE.out
            have HEc := Lib.hid hch
            have HEr := Lib.hid hrl
            have HcE : Hid (∀ W, Cls wi.heap.size wi W → W.cell? ⟨bN, oN + q * 4, none⟩ = some (.bool E.open_) ∧ W.cell? ⟨bN, oN + q * 4 + 1, none⟩ = some (.slice pE1 E.chain.length cE1) ∧ W.cell? ⟨bN, oN + q * 4 + 2, none⟩ = some (.slice pE2 E.p.rules.length cE2) ∧ W.cell? ⟨bN, oN + q * 4 + 3, none⟩ = some (.int .i64 E.p.dflt)) := fun W hC => ⟨cell_kept' k0 hC.2, cell_kept' k1 hC.2, cell_kept' k2 hC.2, cell_kept' k3 hC.2⟩
            clear k0 k1 k2 k3 hch hrl
            have hq4 : (q : Int) < 4 := by have := Hl4.out; omega
            have hqz : (0 : Int) ≤ (q : Int) := by omega
            have hqn : (q : Int) < (ls.length : Int) := by omega
            have hqN : (q : Int) < (N.length : Int) := by rw [HNl.out]; omega
            have hqw : IntKind.i64.wrap (q : Int) = (q : Int) := IntWalk.i64_in _ (by omega)
            have hqw1 : IntKind.i64.wrap ((q : Int) + 1) = (q : Int) + 1 := IntWalk.i64_in _ (by omega)
            go_wp2_with fail
            refine RV.wp_region_rel (TwoI wi.heap.size wi 66 4 8 9 10 11 #[.bool A.open_, .slice pA1 A.chain.length cA1, .slice pA2 A.p.rules.length cA2, .int .i64 A.p.dflt] #[.bool E.open_, .slice pE1 E.chain.length cE1, .slice pE2 E.p.rules.length cE2, .int .i64 E.p.dflt]) (fun _ _ _ _ => True) (fun _ _ _ _ => True) (by kernel_rfl) (by kernel_rfl) _ rfl (fun _ _ _ _ _ _ _ _ _ _ _ _ => trivial) (fun _ _ _ _ _ _ _ _ => trivial) TwoI.start ?_
            iterate 4 (refine RV.rel_ex (fun K hK => ?_); apply Exists.intro; refine ⟨fun done vf W hI hd0 hd hn hf R hR => ?_, ?_, ?_⟩; (have hcell := HcA.out W hI.cls; clear hd0 hd hn hf; go_simp; exact hR _ _ (hI.keep (Below.refl _ _) (by decide) (by decide) (by decide) (by decide)) trivial rfl trivial); exact (fun _ _ _ => rfl); (go_simp; refine hK _ ?_; clear hK K))
            iterate 4 (refine RV.rel_ex (fun K hK => ?_); apply Exists.intro; refine ⟨fun done vf W hI hd0 hd hn hf R hR => ?_, ?_, ?_⟩; (have hcell := HcE.out W hI.cls; clear hd0 hd hn hf; go_simp; exact hR _ _ (hI.keep (Below.refl _ _) (by decide) (by decide) (by decide) (by decide)) trivial rfl trivial); exact (fun _ _ _ => rfl); (go_simp; refine hK _ ?_; clear hK K))
            (refine RV.rel_pr (fun K hK => ?_); refine ⟨fun done vf W hI hd0 hd hn hf R hR => ?_, ?_⟩; (have n1 : done 10 = false := hn 10 (by decide); have n2 : done 11 = false := hn 11 (by decide); clear hd0 hd hn hf; go_simp; exact hR _ _ (hI.alloc n1 n2 (by decide) (by decide) (by decide) rfl) trivial trivial trivial); (go_simp; refine hK _ ?_; clear hK K))
            (refine RV.rel_pr (fun K hK => ?_); refine ⟨fun done vf W hI hd0 hd hn hf R hR => ?_, ?_⟩; (have n1 : done 10 = false := hn 10 (by decide); have n2 : done 11 = false := hn 11 (by decide); clear hd0 hd hn hf; go_simp; exact hR _ _ (hI.swap.alloc n2 n1 (by decide) (by decide) (by decide) rfl).swap trivial trivial trivial); (go_simp; refine hK _ ?_; clear hK K))
            (refine RV.rel_pr (fun K hK => ?_); refine ⟨fun done vf W hI hd0 hd hn hf R hR => ?_, ?_⟩; (have d8 : done 8 = true := hd 8 (by decide); have d9 : done 9 = true := hd 9 (by decide); obtain ⟨bx, hbx, hB, cs, hcs, hcx⟩ := hI.va d8; obtain ⟨z0, z1, z2, z3, rfl⟩ := four_cells hcs; have hce := cells_of hcx; have hfe := not_frozen hcx; have Hcx := Lib.hid hcx; clear hd0 hd hn hf hcx hcs; go_simp; exact hR _ _ (hI.store d8 d9 (by decide) (by decide) (by decide) hbx (grow_set4 _ _ _ _ _ _) (heap_set4 _ _ _ _ Hcx.out) rfl) trivial trivial trivial); (go_simp; refine hK _ ?_; clear hK K))
            (refine RV.rel_pr (fun K hK => ?_); refine ⟨fun done vf W hI hd0 hd hn hf R hR => ?_, ?_⟩; (have d8 : done 8 = true := hd 8 (by decide); have d9 : done 9 = true := hd 9 (by decide); obtain ⟨bx, hbx, hB, cs, hcs, hcx⟩ := hI.vb d9; obtain ⟨z0, z1, z2, z3, rfl⟩ := four_cells hcs; have hce := cells_of hcx; have hfe := not_frozen hcx; have Hcx := Lib.hid hcx; clear hd0 hd hn hf hcx hcs; go_simp; exact hR _ _ (hI.swap.store d9 d8 (by decide) (by decide) (by decide) hbx (grow_set4 _ _ _ _ _ _) (heap_set4 _ _ _ _ Hcx.out) rfl).swap trivial trivial trivial); (go_simp; refine hK _ ?_; clear hK K))
            intro done vf wj hd hI _
            obtain ⟨pa, hpa, hca⟩ := hI.wa (hd 10 (by decide))
            obtain ⟨pb, hpb, hcb⟩ := hI.wb (hd 11 (by decide))
            dsimp only
            rw [hpa, hpb]
            have HPA := Lib.hid hca
            have HPB := Lib.hid hcb
            have hbj := hI.cls.2
            clear hd hI hpa hpb hca hcb HcA HcE
            replace HB := Lib.hid (HB.out.below hbj)
            replace HR := Lib.hid (HR.out.below hbj)
            replace RC := Lib.hid (RC.out.below hbj)
            replace RN := Lib.hid (RN.out.below hbj)
            replace HAc := Lib.hid (HAc.out.below hbj)
            replace HEc := Lib.hid (HEc.out.below hbj)
            replace HAr := Lib.hid (RdRules.below HAr.out hbj)
            replace HEr := Lib.hid (RdRules.below HEr.out hbj)
            clear hbj
            have hqr := HR.out.cells0
            by_cases hqc : (q : Int) = l[k].cell
            · have hqb : ((q : Int) != l[k].cell) = false := by rw [hqc]; simp
              have Hqc := Lib.hid hqc
              have hca := cells_of HPA.out
              have hcb := cells_of HPB.out
              obtain ⟨oA, hoA⟩ : ∃ o, A.open_ = o := ⟨_, rfl⟩
              obtain ⟨oE, hoE⟩ : ∃ o, E.open_ = o := ⟨_, rfl⟩
              rw [hoA] at hca HPA
              rw [hoE] at hcb HPB
              have HoA := Lib.hid hoA
              have HoE := Lib.hid hoE
              clear hqc hoA hoE
              cases oA with
              | false =>
                go_wp2
                go_roundw
                case rel => exact ⟨q + 1, by go_num, by have := HqL.out; omega, RC.out, RN.out, HB.out, HR.out⟩
                case measure => simp [intOf]; have := HqL.out; omega
              | true =>
                cases oE with
                | false =>
                  go_wp2
                  go_roundw
                  case rel => exact ⟨q + 1, by go_num, by have := HqL.out; omega, RC.out, RN.out, HB.out, HR.out⟩
                  case measure => simp [intOf]; have := HqL.out; omega
                | true =>
                  obtain ⟨av, au, ac, hAa, hEa, hle, hlen, hlo⟩ := tight_own HM.out HN.out Hqc.out HA.out HE.out HoA.out HoE.out x.right_ok
                  have JA := Lib.hid hAa
                  have JE := Lib.hid hEa
                  have JL := Lib.hid hlo
                  have hgt : decide (av < au) = false := decide_eq_false (by omega)
                  have hA6 : A.chain.length ≤ 6 := ((chainE_iff _).1 (HM.out A (List.mem_of_getElem? HA.out) HoA.out).2.1).1
                  have hwl : IntKind.i64.wrap ((A.chain.length : Int) + 1) = (A.chain.length : Int) + 1 := IntWalk.i64_in _ (by omega)
                  have hnl : ((E.chain.length : Int) != (A.chain.length : Int) + 1) = false := by rw [hlen]; simp
                  have hq0 := HB.out.cells0
                  clear hAa hEa hlo hle hlen hA6
                  go_wp2_with fail
                  refine (ask_any _ A.chain x.right _ _ HAc.out).mono ?_
                  rw [JA.out]
                  rintro e w7 ⟨rfl, hb7⟩
                  replace HB := Lib.hid (HB.out.below hb7)
                  replace HR := Lib.hid (HR.out.below hb7)
                  replace RC := Lib.hid (RC.out.below hb7)
                  replace RN := Lib.hid (RN.out.below hb7)
                  replace HAc := Lib.hid (HAc.out.below hb7)
                  replace HEc := Lib.hid (HEc.out.below hb7)
                  replace HAr := Lib.hid (RdRules.below HAr.out hb7)
                  replace HEr := Lib.hid (RdRules.below HEr.out hb7)
                  replace HPA := Lib.hid (blk_below HPA.out hb7)
                  replace HPB := Lib.hid (blk_below HPB.out hb7)
                  clear hca hcb hqr hq0 hb7
                  have hcb := cells_of HPB.out
                  have hq0 := HB.out.cells0
                  go_wp2_with fail
                  refine (ask_any _ E.chain x.right _ _ HEc.out).mono ?_
                  rw [JE.out]
                  rintro e w8 ⟨rfl, hb8⟩
                  replace HB := Lib.hid (HB.out.below hb8)
                  replace HR := Lib.hid (HR.out.below hb8)
                  replace RC := Lib.hid (RC.out.below hb8)
                  replace RN := Lib.hid (RN.out.below hb8)
                  replace HAc := Lib.hid (HAc.out.below hb8)
                  replace HEc := Lib.hid (HEc.out.below hb8)
                  replace HAr := Lib.hid (RdRules.below HAr.out hb8)
                  replace HEr := Lib.hid (RdRules.below HEr.out hb8)
                  replace HPA := Lib.hid (blk_below HPA.out hb8)
                  replace HPB := Lib.hid (blk_below HPB.out hb8)
                  clear hcb hq0 hb8
                  have hca := cells_of HPA.out
                  have hcb := cells_of HPB.out
                  go_wp2_with fail
                  refine (looser_any _ _ E.p A.p _ HEr.out HAr.out).mono ?_
                  rw [JL.out]
                  rintro e w9 ⟨rfl, hb9⟩
                  replace HB := Lib.hid (HB.out.below hb9)
                  replace HR := Lib.hid (HR.out.below hb9)
                  replace RC := Lib.hid (RC.out.below hb9)
                  replace RN := Lib.hid (RN.out.below hb9)
                  clear hca hcb hb9
                  have hD1 := Bx.one (w := w9) (o := .cells #[.int .i64 0, .int .i64 0, .int .i64 0, .int .i64 0, .int .i64 0] 24)
                  have HD2 := Lib.hid (Bx.one (w := w9) (o := .cells #[.int .i64 ac.a0, .int .i64 ac.a1, .int .i64 ac.a2, .int .i64 ac.a3, .int .i64 ac.a4] 24))
                  have hcn := hD1.cells0
                  have hfn := hD1.free0
                  clear hD1
                  replace HB := Lib.hid (HB.out.below HD2.out.bel)
                  replace HR := Lib.hid (HR.out.below HD2.out.bel)
                  replace RC := Lib.hid (RC.out.below HD2.out.bel)
                  replace RN := Lib.hid (RN.out.below HD2.out.bel)
                  go_wp2
                  go_roundw
                  case rel => exact ⟨q + 1, by go_num, by have := HqL.out; omega, RC.out, RN.out, HB.out, HR.out⟩
                  case measure => simp [intOf]; have := HqL.out; omega
            · have hqb : ((q : Int) != l[k].cell) = true := bne_iff_ne.2 hqc
              obtain rfl : E = A := by
                have := tight_other HN.out hqc
                rw [HA.out, HE.out] at this
                exact Option.some.inj this
              have HSs := Lib.hid (cells_sub RC.out HA.out)
              have HDs := Lib.hid (cells_sub RN.out HE.out)
              clear hqc
              obtain ⟨hcC, hcC'⟩ := cells_cap RC.out
              obtain ⟨hcN, hcN'⟩ := cells_cap RN.out
              rw [Hl4.out] at hcC
              rw [HNl.out, Hl4.out] at hcN
              have hqC : (q : Int) + 1 ≤ (c2 : Int) := by omega
              have hqD : (q : Int) + 1 ≤ (c6 : Int) := by omega
              have hqC' : ¬ (c2 = q) := by omega
              have hqD' : ¬ (c6 = q) := by omega
              go_wp2_with fail
              refine wp_region_exact3 wj.heap.size (Nat.le_refl _) (by kernel_rfl) (by kernel_rfl) ?_
              repeat (refine monoE_step (fun K hK => ?_); apply Exists.intro; refine ⟨fun W hC R hR => ?_, ?_⟩; (first | (go_simp; exact hR _ _ (Below.refl _ _) rfl) | (go_simp; go_at_call 35; refine (keepsame_any _ _ _ _ _ (HSs.out.below hC.2) (HDs.out.below hC.2)).mono ?_; rintro e w99 ⟨rfl, hb99⟩; exact ⟨_, rfl, hR _ _ hb99 rfl⟩)); (go_simp; refine hK _ ?_; clear hK K))
              intro w10 hC
              have hb10 := hC.2
              clear hC
              replace HB := Lib.hid (HB.out.below hb10)
              replace HR := Lib.hid (HR.out.below hb10)
              replace RC := Lib.hid (RC.out.below hb10)
              replace RN := Lib.hid (RN.out.below hb10)
              replace HAc := Lib.hid (HAc.out.below hb10)
              replace HEc := Lib.hid (HEc.out.below hb10)
              clear hb10
              go_wp2
              go_roundw
              case rel => exact ⟨q + 1, by go_num, by have := HqL.out; omega, RC.out, RN.out, HB.out, HR.out⟩
              case measure => simp [intOf]; have := HqL.out; omega
          · obtain rfl : q = ls.length := by omega
            go_wp2
            go_roundw
            case rel => exact ⟨k + 1, N, a6, c6, by go_num, rfl, by omega, HNm.out, by rw [HNl.out]; exact Hl4.out, RN.out, HB.out⟩
            case measure => simp [intOf]; omega
      · have hne : (ne != 0) = true := bne_iff_ne.2 h0
        clear h0
        go_wp2
        go_roundw
        case rel => exact ⟨k + 1, ls, a2, c2, by go_num, rfl, by omega, HM.out, Hl4.out, RC.out, HB.out⟩
        case measure => simp [intOf]; omega
    · obtain rfl : k = m := by omega
      go_wp2
      go_ret
      exact ⟨rfl, HB.out.bel⟩
end Go.Proofs.YtkiipnbjckdlbaaGreatDoor
