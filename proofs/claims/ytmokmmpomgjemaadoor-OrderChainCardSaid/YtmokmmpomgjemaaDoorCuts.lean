/- Walk: point.cuts. Condition: right policies; the values' bytes. -/
import Derived.Test.YtmokmmpomgjemaaDoorDelF
import Derived.Test.YtmokmmpomgjemaaDoorSortI
namespace Go.Proofs.YtmokmmpomgjemaaDoor
open Go.RowKit

set_option maxRecDepth 100000 in
set_option maxHeartbeats 8000000 in
theorem cuts_any (v : Value) (l : List TPol) (f : Int) (D : Nat → Prop) (w : World) (h : RdPols w D v l) (hok : ∀ p ∈ l, OkPol p) (hn : (cutVals l f).length * 8 ≤ 140737488355328) :
    Calls Tryd.prog 25 #[v, .int .i64 f] w fun e w' => ∃ v', e = .returned v' ∧ OwnSl w' w.heap.size 3 1 intR v' (cutsOf l f) ∧ Below w.heap.size w w' := by
  have H := Lib.hid h
  obtain ⟨a, c, rfl, hlc, hcm, hat⟩ := Sl.form h
  obtain ⟨i0, hi, hz0, hz1, hz2⟩ := info_parts infoInt
  have Hi := Lib.hid hi
  have Hok := Lib.hid hok
  have Hn := Lib.hid hn
  clear h hi hok hn
  go_enter Tryd.func25, Tryd.ntmps25
  go_wp2_with fail
  go_loopw [5, 15] (fun ov kv wr => ∃ (k : Nat) (vs : Value), kv = .int .i64 k ∧ vs = ov ∧ k ≤ l.length ∧ OwnSl wr (w.heap.size + 1) 3 1 intR vs (0 :: (l.take k).flatMap (polCuts f)) ∧ Below (w.heap.size + 1) (w.alloc (.cells #[.int .i64 f] 3)) wr) (fun _ kv _ => l.length - (intOf kv).toNat)
  case atStart =>
    refine ⟨0, _, rfl, rfl, by omega, ?_, (Below.refl _ _).alloc (by simp) _⟩
    exact ⟨[[.int .i64 0]], RowsOf.cons RowsOf.nil rfl rfl, by simp, .inr ⟨w.heap.size + 1, 1, _, rfl, Nat.le_refl _, blk_at (by simp), by simp, by simp [maxLen], by simp, by simp⟩⟩
  case round =>
    obtain ⟨k, vs, rfl, rfl, hk, hown, hb⟩ := hrel
    have hbc := box_cells hb
    have hbw := bel_box hb
    have hsz := size_box hb
    have Hown := Lib.hid hown
    have Hb := Lib.hid hb
    have Hbw := Lib.hid hbw
    clear hown hb hbw
    by_cases hlt : k < l.length
    · obtain ⟨b, o, rfl, hDb, hblt⟩ := hat (by omega)
      obtain ⟨ca, cc, hc0w, hc1w, hrd, hcl, hcmx, hcat⟩ := RdPols.cells H.out hlt
      have Hs := Lib.hid (flatMap_take (polCuts f) l k hlt)
      have Hle := Lib.hid (flatMap_take_le (polCuts f) l (k + 1))
      obtain ⟨p, hp⟩ : ∃ p, l[k] = p := ⟨_, rfl⟩
      have Hkp := Lib.hid (Hok.out l[k] (List.getElem_mem hlt))
      rw [hp] at hc0w hc1w hrd hcl hcat Hkp Hs
      have Hrd := Lib.hid hrd
      have hc0 := (Hbw.out.cell (p := ⟨b, o + k * 2, none⟩) hblt).trans hc0w
      have hc1 := (Hbw.out.cell (p := ⟨b, o + k * 2 + 1, none⟩) hblt).trans hc1w
      have Hll : Hid ((0 :: (l.take k).flatMap (polCuts f)).length + (p.rules.flatMap (ruleCuts f)).length ≤ (cutVals l f).length) := by
        show _ ≤ _
        have h1 := Hle.out
        rw [Hs.out, List.length_append] at h1
        unfold cutVals
        simp only [List.length_cons]
        unfold polCuts at h1 ⊢
        omega
      obtain ⟨wo, rfl⟩ : ∃ wo : World, wo = wr := ⟨_, rfl⟩
      obtain ⟨L, hL⟩ : ∃ L, L = 0 :: (l.take k).flatMap (polCuts f) := ⟨_, rfl⟩
      rw [← hL] at Hown Hll
      have HL := Lib.hid hL
      clear hrd hp hc0w hc1w hL
      go_wp2_with fail
      clear hc0 hc1 hbc
      go_loopw [5, 22] (fun ov kv wr => ∃ (j : Nat) (vs : Value), kv = .int .i64 j ∧ vs = ov ∧ j ≤ p.rules.length ∧ OwnSl wr (w.heap.size + 1) 3 1 intR vs (L ++ (p.rules.take j).flatMap (ruleCuts f)) ∧ Below (w.heap.size + 1) (w.alloc (.cells #[.int .i64 f] 3)) wr) (fun _ kv _ => p.rules.length - (intOf kv).toNat)
      case atStart => exact ⟨0, vs, rfl, rfl, by omega, by simpa using Hown.out.below (bel_alloc (Below.refl _ _) _), Hb.out.trans ((bel_alloc (Below.refl _ wo) _).mono hsz)⟩
      case round =>
        obtain ⟨j, vj, rfl, rfl, hj, hown, hb⟩ := hrel
        have hbw := bel_box hb
        have hszj := size_box hb
        have Hownj := Lib.hid hown
        have Hbj := Lib.hid hb
        have Hbwj := Lib.hid hbw
        clear hown hb hbw Hown Hb Hbw
        by_cases hjl : j < p.rules.length
        · obtain ⟨b2, o2, rfl, hDb2, hblt2⟩ := hcat (by omega)
          obtain ⟨da, dc, hd0w, hd1w, hrd2, hdl, hdmx, hdat⟩ := RdRules.cells Hrd.out hjl
          have Hs2 := Lib.hid (flatMap_take (ruleCuts f) p.rules j hjl)
          have Hle2 := Lib.hid (flatMap_take_le (ruleCuts f) p.rules (j + 1))
          obtain ⟨r, hr⟩ : ∃ r, p.rules[j] = r := ⟨_, rfl⟩
          have Hkr := Lib.hid (Hkp.out.rules p.rules[j] (List.getElem_mem hjl))
          rw [hr] at hd0w hd1w hrd2 hdl hdat Hkr Hs2
          have Hrd2 := Lib.hid hrd2
          have hd0 := (Hbwj.out.cell (p := ⟨b2, o2 + j * 2, none⟩) hblt2).trans hd0w
          have hd1 := (Hbwj.out.cell (p := ⟨b2, o2 + j * 2 + 1, none⟩) hblt2).trans hd1w
          have Hll2 : Hid ((L ++ (p.rules.take j).flatMap (ruleCuts f)).length + (r.conds.flatMap (condCuts f)).length ≤ (cutVals l f).length) := by
            show _ ≤ _
            have h1 := Hle2.out
            have h2 := Hll.out
            rw [Hs2.out, List.length_append] at h1
            rw [List.length_append]
            have e : (ruleCuts f r).length = (r.conds.flatMap (condCuts f)).length := rfl
            omega
          obtain ⟨wp, rfl⟩ : ∃ wp : World, wp = wr := ⟨_, rfl⟩
          obtain ⟨M, hM⟩ : ∃ M, M = L ++ (p.rules.take j).flatMap (ruleCuts f) := ⟨_, rfl⟩
          rw [← hM] at Hownj Hll2
          have HM := Lib.hid hM
          clear hrd2 hr hd0w hd1w hM
          go_wp2_with fail
          clear hd0 hd1
          go_loopw [5, 29] (fun ov kv wr => ∃ (i : Nat) (vs : Value), kv = .int .i64 i ∧ vs = ov ∧ i ≤ r.conds.length ∧ OwnSl wr (w.heap.size + 1) 3 1 intR vs (M ++ (r.conds.take i).flatMap (condCuts f)) ∧ Below (w.heap.size + 1) (w.alloc (.cells #[.int .i64 f] 3)) wr) (fun _ kv _ => r.conds.length - (intOf kv).toNat)
          case atStart => exact ⟨0, vj, rfl, rfl, by omega, by simpa using Hownj.out.below (bel_alloc (Below.refl _ _) _), Hbj.out.trans ((bel_alloc (Below.refl _ wp) _).mono hszj)⟩
          case round =>
            obtain ⟨i, vi, rfl, rfl, hi, hown, hb⟩ := hrel
            have hbci := box_cells hb
            have hbw := bel_box hb
            have hszi := size_box hb
            have Howni := Lib.hid hown
            have Hbi := Lib.hid hb
            have Hbwi := Lib.hid hbw
            clear hown hb hbw Hownj Hbj Hbwj
            by_cases hil : i < r.conds.length
            · obtain ⟨b3, o3, rfl, hDb3, hblt3⟩ := hdat (by omega)
              obtain ⟨he0, he1, he2⟩ := RdConds.cells (Hrd2.out.below Hbwi.out) hil
              have Hs3 := Lib.hid (flatMap_take (condCuts f) r.conds i hil)
              have Hle3 := Lib.hid (flatMap_take_le (condCuts f) r.conds (i + 1))
              have Hoc := Lib.hid (Hkr.out.conds r.conds[i] (List.getElem_mem hil))
              obtain ⟨⟨cf, cop, cv⟩, hcj⟩ : ∃ y : TCond, r.conds[i] = y := ⟨_, rfl⟩
              rw [hcj] at he0 he1 he2 Hs3 Hoc
              have hv0 : 0 ≤ cv := Hoc.out.v0
              have hv1 : cv ≤ 65535 := Int.le_trans Hoc.out.v1 (by show mostOf cf ≤ 65535; unfold mostOf; split <;> (try split) <;> omega)
              have ho0 : 1 ≤ cop := Hoc.out.o0
              have ho1 : cop ≤ 4 := Hoc.out.o1
              dsimp only at he0 he1 he2
              clear hcj
              have Hll3 : Hid ((M ++ (r.conds.take i).flatMap (condCuts f)).length + (condCuts f ⟨cf, cop, cv⟩).length ≤ (cutVals l f).length) := by
                show _ ≤ _
                have h1 := Hle3.out
                have h2 := Hll2.out
                rw [Hs3.out, List.length_append] at h1
                rw [List.length_append]
                omega
              obtain ⟨wi, rfl⟩ : ∃ wi : World, wi = wr := ⟨_, rfl⟩
              have Hobn : Hid (∀ g, vi.ownBlock = some g → g < wi.heap.size) := fun g hg => by obtain ⟨rows, _, hrw⟩ := Howni.out; exact (hrw.lt _ hg).2
              by_cases hcf : cf = f
              · subst hcf
                have hb2 := Hbi.out.trans ((bel_alloc (Below.refl _ wi) (.cells #[.int .i64 cf, .int .i64 cop, .int .i64 cv] 60)).mono hszi)
                have hbc2 := box_cells hb2
                clear hbci hb2
                have hlen3 : (M ++ (r.conds.take i).flatMap (condCuts cf)).length + 2 ≤ 17592186044416 + 1 := by
                  have h1 := Hll3.out
                  have h2 := Hn.out
                  have h3 : 1 ≤ (condCuts cf ⟨cf, cop, cv⟩).length := by unfold condCuts; rw [if_pos rfl]; split <;> simp
                  omega
                have Hown3 := Lib.hid (Howni.out.below (bel_alloc (bel_alloc (Below.refl _ wi) (.cells #[.int .i64 cf, .int .i64 cop, .int .i64 cv] 60)) (.cells #[.int .i64 cv] 3)))
                have Hbox3 := Lib.hid (blk_old (o := (.cells #[.int .i64 cv] 3)) (heap_last wi (.cells #[.int .i64 cf, .int .i64 cop, .int .i64 cv] 60)))
                have Hbi3 := Lib.hid (Hbi.out.trans ((bel_alloc (bel_alloc (Below.refl _ wi) (.cells #[.int .i64 cf, .int .i64 cop, .int .i64 cv] 60)) (.cells #[.int .i64 cv] 3)).mono hszi))
                rcases (by omega : (cop = 1 ∨ cop = 2) ∨ (cop = 3 ∨ cop = 4)) with ho | ho
                · have Hcc : Hid (condCuts cf ⟨cf, cop, cv⟩ = [cv] ++ [cv + 1]) := by show _ = _; unfold condCuts; rw [if_pos rfl, if_pos ho]; rfl
                  have hlen4 : (M ++ (r.conds.take i).flatMap (condCuts cf)).length + 2 ≤ 17592186044416 := by
                    have h1 := Hll3.out
                    have h2 := Hn.out
                    rw [Hcc.out] at h1
                    simp only [List.length_append, List.length_singleton] at h1 ⊢
                    omega
                  have hw1 : IntKind.i64.wrap (cv + 1) = cv + 1 := by rw [IntKind.wrap_i64]; omega
                  rcases ho with rfl | rfl
                  all_goals
                    go_wp2_with (at_builtin; first | (refine wpList_app2 rfl _ _ 54 rfl (w.heap.size + 1) 3 i0 _ 1 8 Tryd.underlying54 Hi.out hz0 hz1 hz2 rfl (by decide) _ _ rfl Hown3.out _ _ rfl (one_int (by simp)) (fun y _ cs h => intR_one y cs h) (by show _ + 1 ≤ maxLen; unfold maxLen; omega) (by show (_ + 1) * 8 ≤ _; omega) (by simp; omega) ?_; intro v' w3 hown' hg hat'; have Hown' := Lib.hid hown'; have Hb3 := Lib.hid (Hown3.out.grown Hbi3.out hg (by simp; omega) (Nat.le_refl _)); have Hx3 := Lib.hid ((hg.block wi.heap.size (by simp; omega) (fun e => by have := Hobn.out _ e.symm; omega)).trans Hbox3.out); have hx3 := cells_of Hx3.out; have hs3 : wi.heap.size < w3.heap.size := (by have := hg.size; simp at this; omega); have hs4 : w.heap.size + 1 ≤ w3.heap.size := (by omega); have Hown4 := Lib.hid (Hown'.out.below (bel_alloc (Below.refl _ w3) (.cells #[.int .i64 (cv + 1)] 3))); have Hbi4 := Lib.hid (Hb3.out.trans ((bel_alloc (Below.refl _ w3) (.cells #[.int .i64 (cv + 1)] 3)).mono hs4)); clear hown' hg hat' hbc2) | (refine wpList_app2 rfl _ _ 54 rfl (w.heap.size + 1) 3 i0 _ 1 8 Tryd.underlying54 Hi.out hz0 hz1 hz2 rfl (by decide) _ _ rfl Hown4.out _ _ rfl (one_int (by simp)) (fun y _ cs h => intR_one y cs h) (by show _ + 1 ≤ maxLen; unfold maxLen; rw [List.length_append]; show _ + 1 + 1 ≤ _; omega) (by rw [List.length_append]; show (_ + 1 + 1) * 8 ≤ _; omega) (by simp; omega) ?_; intro v'' w4 hown'' hg' hat''; have Hown5 := Lib.hid hown''; have Hb5 := Lib.hid (Hown4.out.grown Hbi4.out hg' (by simp; omega) (Nat.le_refl _)); clear hown'' hg' hat'' hx3))
                    go_roundw
                    case rel => exact ⟨i + 1, v'', by go_num, rfl, by omega, by rw [Hs3.out, Hcc.out, ← List.append_assoc, ← List.append_assoc]; exact Hown5.out, Hb5.out⟩
                    case measure => simp [intOf]; omega
                · have Hcc : Hid (condCuts cf ⟨cf, cop, cv⟩ = [cv]) := by show _ = _; unfold condCuts; rw [if_pos rfl, if_neg (by show ¬ (cop = 1 ∨ cop = 2); omega)]
                  rcases ho with rfl | rfl
                  all_goals
                    go_wp2_with (at_builtin; refine wpList_app2 rfl _ _ 54 rfl (w.heap.size + 1) 3 i0 _ 1 8 Tryd.underlying54 Hi.out hz0 hz1 hz2 rfl (by decide) _ _ rfl Hown3.out _ _ rfl (one_int (by simp)) (fun y _ cs h => intR_one y cs h) (by show _ + 1 ≤ maxLen; unfold maxLen; omega) (by show (_ + 1) * 8 ≤ _; omega) (by simp; omega) ?_; intro v' w3 hown' hg hat'; have Hown' := Lib.hid hown'; have Hb3 := Lib.hid (Hown3.out.grown Hbi3.out hg (by simp; omega) (Nat.le_refl _)); have Hx3 := Lib.hid ((hg.block wi.heap.size (by simp; omega) (fun e => by have := Hobn.out _ e.symm; omega)).trans Hbox3.out); have hx3 := cells_of Hx3.out; have hs3 : wi.heap.size < w3.heap.size := (by have := hg.size; simp at this; omega); have hs4 : w.heap.size + 1 ≤ w3.heap.size := (by omega); have hbc3 := box_cells Hb3.out; clear hown' hg hat' hbc2)
                    go_roundw
                    case rel => exact ⟨i + 1, v', by go_num, rfl, by omega, by rw [Hs3.out, Hcc.out, ← List.append_assoc]; exact Hown'.out, Hb3.out⟩
                    case measure => simp [intOf]; omega
              · have hb0 : (cf != f) = true := bne_iff_ne.2 hcf
                have Hcc : Hid (condCuts f ⟨cf, cop, cv⟩ = []) := if_neg hcf
                have hb2 := Hbi.out.trans ((bel_alloc (Below.refl _ wi) (.cells #[.int .i64 cf, .int .i64 cop, .int .i64 cv] 60)).mono hszi)
                have hbc2 := box_cells hb2
                have Hb2 := Lib.hid hb2
                clear hbci hcf hb2
                go_wp2_with fail
                go_roundw
                case rel => exact ⟨i + 1, vi, by go_num, rfl, by omega, by rw [Hs3.out, Hcc.out, List.append_nil]; exact Howni.out.below (bel_alloc (Below.refl _ _) _), Hb2.out⟩
                case measure => simp [intOf]; omega
            · obtain rfl : i = r.conds.length := by omega
              go_wp2
              go_roundw
              case rel => exact ⟨j + 1, vi, by go_num, rfl, by omega, by have := Howni.out; rw [List.take_length, HM.out, List.append_assoc] at this; rw [Hs2.out]; exact this, Hbi.out⟩
              case measure => simp [intOf]; omega
        · obtain rfl : j = p.rules.length := by omega
          go_wp2
          go_roundw
          case rel => exact ⟨k + 1, vj, by go_num, rfl, by omega, by have := Hownj.out; rw [List.take_length, HL.out] at this; rw [Hs.out]; exact this, Hbj.out⟩
          case measure => simp [intOf]; omega
    · obtain rfl : k = l.length := by omega
      have HV : Hid (OwnSl wr (w.heap.size + 1) 3 1 intR vs (cutVals l f)) := by have := Hown.out; rw [List.take_length] at this; exact this
      have hbn : (cutVals l f).length ≤ 17592186044416 := by have := Hn.out; omega
      have hlen : 0 < (cutVals l f).length := by simp [cutVals]
      clear hbc
      go_wp2_with fail
      refine (sortI_any vs (cutVals l f) (w.heap.size + 1) wr HV.out (by simp [cutVals]) (by omega)).mono ?_
      rintro e w1 ⟨rfl, ho1, hg1⟩
      have Ho1 := Lib.hid ho1
      have Hb1 := Lib.hid (Hown.out.grown Hb.out hg1 hsz (Nat.le_refl _))
      have hz1 : w.heap.size + 1 ≤ w1.heap.size := Nat.le_trans hsz hg1.size
      clear ho1 hg1
      go_wp2_with fail
      refine (compactI_any vs _ (w.heap.size + 1) w1 Ho1.out (fun e => by have := congrArg List.length e; rw [List.length_mergeSort] at this; simp [cutVals] at this) (by rw [List.length_mergeSort]; omega)).mono ?_
      rw [sort_compact]
      rintro e w2 ⟨v2, rfl, ho2, hg2, hk2⟩
      have Ho2 := Lib.hid ho2
      have Hb2 := Lib.hid (Ho1.out.grown Hb1.out hg2 hz1 (Nat.le_refl _))
      have hz2 : w.heap.size + 1 ≤ w2.heap.size := Nat.le_trans hz1 hg2.size
      have hbc2 := box_cells Hb2.out 0
      have Hne : Hid (v2.ownBlock ≠ some w.heap.size) := fun e => by have := Ho2.out.block _ e; omega
      clear ho2 hg2 hk2
      go_wp2_with fail
      refine (deleteFuncI_any v2 _ f w.heap.size (w.heap.size + 1) w2 Ho2.out (rising_setOf _) hbc2 Hne.out).mono ?_
      rintro e w3 ⟨v3, rfl, ho3, hg3, hk3⟩
      have Ho3 := Lib.hid ho3
      have Hb3 := Lib.hid (Ho2.out.grown Hb2.out hg3 hz2 (Nat.le_refl _))
      clear ho3 hg3 hk3
      go_wp2
      go_ret
      exact ⟨_, rfl, Ho3.out.base (by omega), bel_box Hb3.out⟩
end Go.Proofs.YtmokmmpomgjemaaDoor
