/- ChainSays returns true at every two chains, call and two policies. Condition: Laid. -/
import Derived.Test.YtkiipnbjckdlbaaGreatDoorK7
import Derived.Test.YtkiipnbjckdlbaaGreatDoorK16
namespace Go.Proofs.YtkiipnbjckdlbaaGreatDoor
open Go.RowKit

set_option maxRecDepth 100000 in
set_option maxHeartbeats 16000000 in
theorem chainSays_walk {w : World} (hL : Laid w) (v0 : Value) (l : List (List TIns)) (rdl : RdChain w (fun _ => True) v0 l) (x : TCall) (u0 : Value) (t0 : TPol) (rd0 : RdRules w (fun _ => True) u0 t0.rules) (u1 : Value) (t1 : TPol) (rd1 : RdRules w (fun _ => True) u1 t1.rules) (v4 : Value) (m : List (List TIns)) (rdm : RdChain w (fun _ => True) v4 m) :
    Calls Tryz.prog 4 #[v0, callV x, polV u0 t0.dflt, polV u1 t1.dflt, v4] w fun e w' => e = .returned (.bool true) ∧ Below w.heap.size w w' := by
  have HL := Lib.hid hL
  have H0 := Lib.hid rd0
  have H1 := Lib.hid rd1
  have Hl := Lib.hid rdl
  have Hm := Lib.hid rdm
  obtain ⟨al, cl, rfl, _⟩ := Sl.form rdl
  obtain ⟨am, cm, rfl, _⟩ := Sl.form rdm
  obtain ⟨a0, c0, rfl, _⟩ := Sl.form rd0
  obtain ⟨a1, c1, rfl, _⟩ := Sl.form rd1
  clear hL rd0 rd1 rdl rdm
  obtain ⟨⟨A, Ae⟩, hA⟩ : ∃ E, deltaE t0 t1 = E := ⟨_, rfl⟩
  obtain ⟨⟨T, Te⟩, hT⟩ : ∃ E, tightE l t0 t1 = E := ⟨_, rfl⟩
  obtain ⟨⟨kv, ke⟩, hK⟩ : ∃ E, askE l x = E := ⟨_, rfl⟩
  have HA := Lib.hid hA
  have HT := Lib.hid hT
  have HK := Lib.hid hK
  clear hA hT hK
  go_enter Tryz.func4, Tryz.ntmps4
  go_wp2_with fail
  have HB := Lib.hid (Bx.three (w := w) (o := .cells #[.int .i64 x.a0, .int .i64 x.a1, .int .i64 x.a2, .int .i64 x.a3, .int .i64 x.a4] 24) (o' := .cells #[.slice a0 t0.rules.length c0, .int .i64 t0.dflt] 37) (o2 := .cells #[.slice a1 t1.rules.length c1, .int .i64 t1.dflt] 37))
  refine (ask_any _ l x _ _ (Hl.out.below HB.out.bel)).mono ?_
  rw [HK.out]
  rintro e w1 ⟨rfl, hb1⟩
  replace HB := Lib.hid (HB.out.below hb1)
  clear hb1
  have hq0 := HB.out.cells0
  have hq1 := HB.out.cells1
  have hq2 := HB.out.cells2
  go_wp2_with fail
  clear hq0 hq1 hq2
  refine (delta_any _ _ t0 t1 _ (H0.out.below HB.out.bel) (H1.out.below HB.out.bel)).mono ?_
  rw [HA.out]
  rintro e w2 ⟨rA, rfl, hrA, hb2⟩
  replace HB := Lib.hid (HB.out.below hb2)
  have RA := Lib.hid (rules_true hrA)
  obtain ⟨aA, cA, rfl, _⟩ := Sl.form hrA
  clear hrA hb2
  have HCA := Lib.hid (Bx.one (w := w2) (o := .cells #[.slice aA A.rules.length cA, .int .i64 A.dflt] 37))
  replace RA := Lib.hid (RA.out.below HCA.out.bel)
  replace HB := Lib.hid (HB.out.below HCA.out.bel)
  have hq0 := HB.out.cells0
  have hq1 := HB.out.cells1
  have hq2 := HB.out.cells2
  go_wp2_with fail
  clear hq0 hq1 hq2
  revert HCA RA HB
  generalize (w2.alloc (.cells #[.slice aA A.rules.length cA, .int .i64 A.dflt] 37)) = w3
  intro HCA RA HB
  refine (tighten_any _ _ _ l t0 t1 _ _ (Hl.out.below HB.out.bel) (H0.out.below HB.out.bel) (H1.out.below HB.out.bel)).mono ?_
  rw [HT.out]
  rintro e w4 ⟨vT, rfl, hrT, hb4⟩
  replace HB := Lib.hid (HB.out.below hb4)
  replace RA := Lib.hid (RA.out.below hb4)
  replace HCA := Lib.hid (HCA.out.below hb4)
  have RT := Lib.hid (chain_true hrT)
  obtain ⟨aT, cT, rfl, _⟩ := Sl.form hrT
  clear hrT hb4
  have hq0 := HB.out.cells0
  have hq1 := HB.out.cells1
  have hq2 := HB.out.cells2
  have hqHCA := HCA.out.cells0
  go_wp2_with fail
  clear hq0 hq1 hq2 hqHCA
  refine (rchcheck_any _ l _ _ (Hl.out.below HB.out.bel)).mono ?_
  rintro e w5 ⟨rfl, hb5⟩
  replace HB := Lib.hid (HB.out.below hb5)
  replace RA := Lib.hid (RA.out.below hb5)
  replace HCA := Lib.hid (HCA.out.below hb5)
  replace RT := Lib.hid (RT.out.below hb5)
  clear hb5
  have hq0 := HB.out.cells0
  have hq1 := HB.out.cells1
  have hq2 := HB.out.cells2
  have hqHCA := HCA.out.cells0
  go_wp2_with fail
  clear hq0 hq1 hq2 hqHCA
  refine (rdelta_any _ _ t0 t1 _ (H0.out.below HB.out.bel) (H1.out.below HB.out.bel)).mono ?_
  rw [HA.out]
  rintro e w6 ⟨rD, rfl, hrD, hb6⟩
  replace HB := Lib.hid (HB.out.below hb6)
  replace RA := Lib.hid (RA.out.below hb6)
  replace HCA := Lib.hid (HCA.out.below hb6)
  replace RT := Lib.hid (RT.out.below hb6)
  have RD := Lib.hid (rules_true hrD)
  obtain ⟨aD, cD, rfl, _⟩ := Sl.form hrD
  clear hrD hb6
  have HCD := Lib.hid (Bx.one (w := w6) (o := .cells #[.slice aD A.rules.length cD, .int .i64 A.dflt] 37))
  replace RD := Lib.hid (RD.out.below HCD.out.bel)
  replace HB := Lib.hid (HB.out.below HCD.out.bel)
  replace RA := Lib.hid (RA.out.below HCD.out.bel)
  replace HCA := Lib.hid (HCA.out.below HCD.out.bel)
  replace RT := Lib.hid (RT.out.below HCD.out.bel)
  have hq0 := HB.out.cells0
  have hq1 := HB.out.cells1
  have hq2 := HB.out.cells2
  have hqHCA := HCA.out.cells0
  go_wp2_with fail
  clear hq0 hq1 hq2 hqHCA
  revert HCD RD HB RA HCA RT
  generalize (w6.alloc (.cells #[.slice aD A.rules.length cD, .int .i64 A.dflt] 37)) = w7
  intro HCD RD HB RA HCA RT
  refine (rtighten_any _ _ _ l t0 t1 _ _ (Hl.out.below HB.out.bel) (H0.out.below HB.out.bel) (H1.out.below HB.out.bel)).mono ?_
  rw [HT.out]
  rintro e w8 ⟨vU, rfl, hrU, hb8⟩
  replace HB := Lib.hid (HB.out.below hb8)
  replace RA := Lib.hid (RA.out.below hb8)
  replace HCA := Lib.hid (HCA.out.below hb8)
  replace RT := Lib.hid (RT.out.below hb8)
  replace RD := Lib.hid (RD.out.below hb8)
  replace HCD := Lib.hid (HCD.out.below hb8)
  have RU := Lib.hid (chain_true hrU)
  obtain ⟨aU, cU, rfl, _⟩ := Sl.form hrU
  clear hrU hb8
  have hq0 := HB.out.cells0
  have hq1 := HB.out.cells1
  have hq2 := HB.out.cells2
  have hqHCA := HCA.out.cells0
  have hqHCD := HCD.out.cells0
  go_wp2_with fail
  clear hq0 hq1 hq2 hqHCA hqHCD
  refine (tightened_walk _ (HL.out.below HB.out.bel)).mono ?_
  rintro e w9 ⟨rfl, hb9⟩
  replace HB := Lib.hid (HB.out.below hb9)
  replace RA := Lib.hid (RA.out.below hb9)
  replace HCA := Lib.hid (HCA.out.below hb9)
  replace RT := Lib.hid (RT.out.below hb9)
  replace RD := Lib.hid (RD.out.below hb9)
  replace HCD := Lib.hid (HCD.out.below hb9)
  replace RU := Lib.hid (RU.out.below hb9)
  clear hb9
  have hq0 := HB.out.cells0
  have hq1 := HB.out.cells1
  have hq2 := HB.out.cells2
  have hqHCA := HCA.out.cells0
  have hqHCD := HCD.out.cells0
  go_wp2_with fail
  clear hq0 hq1 hq2 hqHCA hqHCD
  refine (chcheck_any _ l _ _ (Hl.out.below HB.out.bel)).mono ?_
  rintro e w10 ⟨rfl, hb10⟩
  replace HB := Lib.hid (HB.out.below hb10)
  replace RA := Lib.hid (RA.out.below hb10)
  replace HCA := Lib.hid (HCA.out.below hb10)
  replace RT := Lib.hid (RT.out.below hb10)
  replace RD := Lib.hid (RD.out.below hb10)
  replace HCD := Lib.hid (HCD.out.below hb10)
  replace RU := Lib.hid (RU.out.below hb10)
  clear hb10
  have hq0 := HB.out.cells0
  have hq1 := HB.out.cells1
  have hq2 := HB.out.cells2
  have hqHCA := HCA.out.cells0
  have hqHCD := HCD.out.cells0
  go_wp2_with fail
  clear hq0 hq1 hq2 hqHCA hqHCD
  refine (chsame_any _ _ l m _ (Hl.out.below HB.out.bel) (Hm.out.below HB.out.bel)).mono ?_
  rintro e w11 ⟨rfl, hb11⟩
  replace HB := Lib.hid (HB.out.below hb11)
  replace RA := Lib.hid (RA.out.below hb11)
  replace HCA := Lib.hid (HCA.out.below hb11)
  replace RT := Lib.hid (RT.out.below hb11)
  replace RD := Lib.hid (RD.out.below hb11)
  replace HCD := Lib.hid (HCD.out.below hb11)
  replace RU := Lib.hid (RU.out.below hb11)
  clear hb11
  have hq0 := HB.out.cells0
  have hq1 := HB.out.cells1
  have hq2 := HB.out.cells2
  have hqHCA := HCA.out.cells0
  have hqHCD := HCD.out.cells0
  go_wp2_with fail
  clear hq0 hq1 hq2 hqHCA hqHCD
  refine (rchsame_any _ _ l m _ (Hl.out.below HB.out.bel) (Hm.out.below HB.out.bel)).mono ?_
  rintro e w12 ⟨rfl, hb12⟩
  replace HB := Lib.hid (HB.out.below hb12)
  replace RA := Lib.hid (RA.out.below hb12)
  replace HCA := Lib.hid (HCA.out.below hb12)
  replace RT := Lib.hid (RT.out.below hb12)
  replace RD := Lib.hid (RD.out.below hb12)
  replace HCD := Lib.hid (HCD.out.below hb12)
  replace RU := Lib.hid (RU.out.below hb12)
  clear hb12
  obtain ⟨sm, hsm⟩ : ∃ b, decide (l = m) = b := ⟨_, rfl⟩
  rw [hsm]
  clear hsm
  have hq0 := HB.out.cells0
  have hq1 := HB.out.cells1
  have hq2 := HB.out.cells2
  have hqHCA := HCA.out.cells0
  have hqHCD := HCD.out.cells0
  go_wp2_with fail
  clear hq0 hq1 hq2 hqHCA hqHCD
  refine (rsame_any _ _ A A (fun _ => True) _ RA.out RD.out).mono ?_
  rintro e w13 ⟨rfl, hb13⟩
  replace HB := Lib.hid (HB.out.below hb13)
  replace RA := Lib.hid (RA.out.below hb13)
  replace HCA := Lib.hid (HCA.out.below hb13)
  replace RT := Lib.hid (RT.out.below hb13)
  replace RD := Lib.hid (RD.out.below hb13)
  replace HCD := Lib.hid (HCD.out.below hb13)
  replace RU := Lib.hid (RU.out.below hb13)
  clear hb13
  rw [decide_eq_true (rfl : A = A)]
  have hq0 := HB.out.cells0
  have hq1 := HB.out.cells1
  have hq2 := HB.out.cells2
  have hqHCA := HCA.out.cells0
  have hqHCD := HCD.out.cells0
  go_wp2_with fail
  clear hq0 hq1 hq2 hqHCA hqHCD
  refine (rchsame_any _ _ T T _ RT.out RU.out).mono ?_
  rintro e w14 ⟨rfl, hb14⟩
  replace HB := Lib.hid (HB.out.below hb14)
  replace RA := Lib.hid (RA.out.below hb14)
  replace HCA := Lib.hid (HCA.out.below hb14)
  replace RT := Lib.hid (RT.out.below hb14)
  replace RD := Lib.hid (RD.out.below hb14)
  replace HCD := Lib.hid (HCD.out.below hb14)
  replace RU := Lib.hid (RU.out.below hb14)
  clear hb14
  rw [decide_eq_true (rfl : T = T)]
  by_cases h0 : chainE l = 0
  · have H0c := Lib.hid h0
    have Hcd := Lib.hid ((chainE_iff l).1 h0).2
    rw [h0]
    clear h0
    have hq0 := HB.out.cells0
    have hq1 := HB.out.cells1
    have hq2 := HB.out.cells2
    have hqHCA := HCA.out.cells0
    have hqHCD := HCD.out.cells0
    go_wp2_with fail
    clear hq0 hq1 hq2 hqHCA hqHCD
    refine (rcheckcall_any x _).mono ?_
    rintro e w15 ⟨rfl, hb15⟩
    replace HB := Lib.hid (HB.out.below hb15)
    replace RA := Lib.hid (RA.out.below hb15)
    replace HCA := Lib.hid (HCA.out.below hb15)
    replace RT := Lib.hid (RT.out.below hb15)
    replace RD := Lib.hid (RD.out.below hb15)
    replace HCD := Lib.hid (HCD.out.below hb15)
    replace RU := Lib.hid (RU.out.below hb15)
    clear hb15
    by_cases hx : x.ok
    · have he : callE x = 0 := if_pos hx
      have HKe : Hid ((kv, ke) = (asked l x, 0)) := by show _ = _; rw [← HK.out]; unfold askE; rw [if_neg (by rw [H0c.out]; simp), if_pos hx]
      obtain ⟨rfl, rfl⟩ : kv = asked l x ∧ ke = 0 := by have := HKe.out; simpa using this
      have Hx := Lib.hid hx
      rw [he]
      clear he hx
      have hq0 := HB.out.cells0
      have hq1 := HB.out.cells1
      have hq2 := HB.out.cells2
      have hqHCA := HCA.out.cells0
      have hqHCD := HCD.out.cells0
      go_wp2_with fail
      clear hq0 hq1 hq2 hqHCA hqHCD
      refine (rasked_any _ l x _ _ (Hl.out.below HB.out.bel) Hcd.out Hx.out).mono ?_
      rintro e w16 ⟨rfl, hb16⟩
      replace HB := Lib.hid (HB.out.below hb16)
      replace RA := Lib.hid (RA.out.below hb16)
      replace HCA := Lib.hid (HCA.out.below hb16)
      replace RT := Lib.hid (RT.out.below hb16)
      replace RD := Lib.hid (RD.out.below hb16)
      replace HCD := Lib.hid (HCD.out.below hb16)
      replace RU := Lib.hid (RU.out.below hb16)
      clear hb16
      have hq0 := HB.out.cells0
      have hq1 := HB.out.cells1
      have hq2 := HB.out.cells2
      have hqHCA := HCA.out.cells0
      have hqHCD := HCD.out.cells0
      go_wp2
      go_ret
      exact ⟨rfl, HB.out.bel⟩
    · have he : callE x = 3 := if_neg hx
      have HKe : Hid ((kv, ke) = (0, 3)) := by show _ = _; rw [← HK.out]; unfold askE; rw [if_neg (by rw [H0c.out]; simp), if_neg hx]
      obtain ⟨rfl, rfl⟩ : kv = 0 ∧ ke = 3 := by have := HKe.out; simpa using this
      rw [he]
      clear he hx
      have hq0 := HB.out.cells0
      have hq1 := HB.out.cells1
      have hq2 := HB.out.cells2
      have hqHCA := HCA.out.cells0
      have hqHCD := HCD.out.cells0
      go_wp2
      go_ret
      exact ⟨rfl, HB.out.bel⟩
  · have HKe : Hid ((kv, ke) = (0, chainE l)) := by show _ = _; rw [← HK.out]; unfold askE; rw [if_pos h0]
    obtain ⟨rfl, rfl⟩ : kv = 0 ∧ ke = chainE l := by have := HKe.out; simpa using this
    have hne : (chainE l != 0) = true := bne_iff_ne.2 h0
    have hne' : (chainE l == 0) = false := beq_eq_false_iff_ne.2 h0
    clear h0
    clear HKe HK
    generalize chainE l = E at *
    have hq0 := HB.out.cells0
    have hq1 := HB.out.cells1
    have hq2 := HB.out.cells2
    have hqHCA := HCA.out.cells0
    have hqHCD := HCD.out.cells0
    go_wp2
    go_ret
    exact ⟨rfl, HB.out.bel⟩
end Go.Proofs.YtkiipnbjckdlbaaGreatDoor
