/- ChainTight returns true at every two policies, call and chain. Condition: Laid. -/
import Derived.Test.YtkiipnbjckdlbaaGreatDoorK7
namespace Go.Proofs.YtkiipnbjckdlbaaGreatDoor
open Go.RowKit

theorem askE_of {l : List (List TIns)} (h : chainE l = 0) {x : TCall} (hx : x.ok) : askE l x = (asked l x, 0) := by unfold askE; rw [if_neg (by rw [h]; simp), if_pos hx]

set_option maxRecDepth 100000 in
set_option maxHeartbeats 16000000 in
theorem chainTight_walk {w : World} (hL : Laid w) (u0 : Value) (t0 : TPol) (rd0 : RdRules w (fun _ => True) u0 t0.rules) (u1 : Value) (t1 : TPol) (rd1 : RdRules w (fun _ => True) u1 t1.rules) (x : TCall) (v3 : Value) (l : List (List TIns)) (rd3 : RdChain w (fun _ => True) v3 l) :
    Calls Tryz.prog 5 #[polV u0 t0.dflt, polV u1 t1.dflt, callV x, v3] w fun e w' => e = .returned (.bool true) ∧ Below w.heap.size w w' := by
  have HL := Lib.hid hL
  have H3 := Lib.hid rd3
  obtain ⟨a3, c3, rfl, _⟩ := Sl.form rd3
  clear rd3
  have H0 := Lib.hid rd0
  have H1 := Lib.hid rd1
  obtain ⟨a0, c0, rfl, _⟩ := Sl.form rd0
  obtain ⟨a1, c1, rfl, _⟩ := Sl.form rd1
  clear hL rd0 rd1
  go_enter Tryz.func5, Tryz.ntmps5
  go_wp2_with fail
  have HB := Lib.hid (Bx.three (w := w) (o := .cells #[.slice a0 t0.rules.length c0, .int .i64 t0.dflt] 37) (o' := .cells #[.slice a1 t1.rules.length c1, .int .i64 t1.dflt] 37) (o2 := .cells #[.int .i64 x.a0, .int .i64 x.a1, .int .i64 x.a2, .int .i64 x.a3, .int .i64 x.a4] 24))
  refine (right_any x _).mono ?_
  rintro e w1 ⟨rfl, hb1⟩
  replace HB := Lib.hid (HB.out.below hb1)
  have hq0 := HB.out.cells0
  have hq1 := HB.out.cells1
  have hq2 := HB.out.cells2
  have hfr := HB.out.free2
  have HB1 := Lib.hid (HB.out.setCall2 (y := x.right))
  clear hb1
  have hset0 := HB1.out.cells0
  have hset1 := HB1.out.cells1
  have hset2 := HB1.out.cells2
  go_wp2_with fail
  clear hq0 hq1 hq2
  clear hfr hset0 hset1 hset2 HB
  revert HB1
  generalize (((((w1.setCell ⟨w.heap.size + 1 + 1, 0, none⟩ (.int .i64 x.right.a0)).setCell ⟨w.heap.size + 1 + 1, 1, none⟩ (.int .i64 x.right.a1)).setCell ⟨w.heap.size + 1 + 1, 2, none⟩ (.int .i64 x.right.a2)).setCell ⟨w.heap.size + 1 + 1, 3, none⟩ (.int .i64 x.right.a3)).setCell ⟨w.heap.size + 1 + 1, 4, none⟩ (.int .i64 x.right.a4)) = w2
  intro HB
  obtain ⟨⟨F, fe⟩, hF⟩ : ∃ E, filterE t0 = E := ⟨_, rfl⟩
  have HF := Lib.hid hF
  obtain ⟨⟨T, te⟩, hT⟩ : ∃ E, tightE [F] t0 t1 = E := ⟨_, rfl⟩
  have HT := Lib.hid hT
  obtain ⟨⟨U, ue⟩, hU⟩ : ∃ E, tightE l t0 t1 = E := ⟨_, rfl⟩
  have HU := Lib.hid hU
  clear hF hT hU
  refine (compile_any _ t0 _ _ (H0.out.below HB.out.bel)).mono ?_
  rw [HF.out]
  rintro e w3 ⟨vF, rfl, hrF, hb3⟩
  replace HB := Lib.hid (HB.out.below hb3)
  have RF := Lib.hid (code_true hrF)
  obtain ⟨aF, cF, rfl, _⟩ := Sl.form hrF
  clear hrF hb3
  have hq0 := HB.out.cells0
  have hq1 := HB.out.cells1
  have hq2 := HB.out.cells2
  go_wp2_with fail
  clear hq0 hq1 hq2
  refine (tightened_walk _ (HL.out.below HB.out.bel)).mono ?_
  rintro e w4 ⟨rfl, hb4⟩
  replace HB := Lib.hid (HB.out.below hb4)
  replace RF := Lib.hid (RF.out.below hb4)
  clear hb4
  by_cases h0 : fe = 0
  · subst h0
    obtain ⟨hpok, hfe2, _, _⟩ := filterE_ok (p := t0) (by rw [HF.out])
    have hFe : F = filterL t0 := (Prod.mk.inj (HF.out.symm.trans hfe2)).1
    have HFe := Lib.hid hFe
    have HPok := Lib.hid hpok
    clear hfe2 hFe hpok
    have HCF := Lib.hid (Bx.one (w := w4) (o := .cells #[.slice aF F.length cF] 31))
    replace HB := Lib.hid (HB.out.below HCF.out.bel)
    replace RF := Lib.hid (RF.out.below HCF.out.bel)
    have hq0 := HB.out.cells0
    have hq1 := HB.out.cells1
    have hq2 := HB.out.cells2
    go_wp2_with fail
    clear hq0 hq1 hq2
    have Hone : Hid (RdChain _ (fun _ => True) (.slice (some ⟨w4.heap.size, 0, none⟩) 1 1) [F]) := Sl.mono (one_code (T := 31) (D := fun _ => True) (HCF.out.at_ 0 _ rfl) RF.out) (fun _ _ _ => trivial) (fun _ _ _ => rfl) (Nat.le_refl _) (fun _ _ _ h => h)
    refine (tighten_any _ _ _ [F] t0 t1 (fun _ => True) _ Hone.out (H0.out.below HB.out.bel) (H1.out.below HB.out.bel)).mono ?_
    rw [HT.out]
    rintro e w6 ⟨vT, rfl, hrT, hb6⟩
    replace HB := Lib.hid (HB.out.below hb6)
    replace RF := Lib.hid (RF.out.below hb6)
    have RT := Lib.hid (chain_true hrT)
    obtain ⟨aT, cT, rfl, _⟩ := Sl.form hrT
    clear hrT hb6
    clear Hone HCF
    by_cases h1 : te = 0
    · subst h1
      have hone1 : ∀ y : TCall, asked [F] y = says t0 y := fun y => by rw [HFe.out]; exact asked_one HPok.out y
      have hsay := tight_says (l := [F]) (p := t0) (q := t1) (by rw [HT.out]) x.right_ok (hone1 _)
      have hct := chain_tight (l := [F]) (p := t0) (q := t1) (by rw [HT.out])
      obtain ⟨_, hd2, _, _, htl⟩ := tightE_ok (l := [F]) (p := t0) (q := t1) (by rw [HT.out])
      obtain ⟨_, hq, _⟩ := deltaE_ok hd2
      have hTl : T.length = 2 := by have := (Prod.mk.inj (HT.out.symm.trans htl)).1; rw [this]; simp
      rw [HT.out] at hsay hct
      dsimp only at hsay hct
      have JT := Lib.hid (askE_of hct x.right_ok)
      have J1 := Lib.hid (judgeE_says hq x.right_ok)
      rw [hsay] at JT
      obtain ⟨sv, hsv⟩ : ∃ v, says t1 x.right = v := ⟨_, rfl⟩
      rw [hsv] at JT J1
      have HTl := Lib.hid hTl
      clear hone1 hsay hct hd2 htl hq hTl hsv
      have hq0 := HB.out.cells0
      have hq1 := HB.out.cells1
      have hq2 := HB.out.cells2
      go_wp2_with fail
      clear hq0 hq1 hq2
      refine (ask_any _ T x.right _ _ RT.out).mono ?_
      rw [JT.out]
      rintro e w7 ⟨rfl, hb7⟩
      replace HB := Lib.hid (HB.out.below hb7)
      replace RF := Lib.hid (RF.out.below hb7)
      replace RT := Lib.hid (RT.out.below hb7)
      clear hb7
      have hq0 := HB.out.cells0
      have hq1 := HB.out.cells1
      have hq2 := HB.out.cells2
      go_wp2_with fail
      clear hq0 hq1 hq2
      refine (judge_any _ t1 x.right _ _ (H1.out.below HB.out.bel)).mono ?_
      rw [J1.out]
      rintro e w8 ⟨rfl, hb8⟩
      replace HB := Lib.hid (HB.out.below hb8)
      replace RF := Lib.hid (RF.out.below hb8)
      replace RT := Lib.hid (RT.out.below hb8)
      clear hb8
      have hTl := HTl.out
      have hq0 := HB.out.cells0
      have hq1 := HB.out.cells1
      have hq2 := HB.out.cells2
      go_wp2_with fail
      clear hq0 hq1 hq2
      clear hTl
      refine (tighten_any _ _ _ l t0 t1 (fun _ => True) _ (H3.out.below HB.out.bel) (H0.out.below HB.out.bel) (H1.out.below HB.out.bel)).mono ?_
      rw [HU.out]
      rintro e w9 ⟨vU, rfl, hrU, hb9⟩
      replace HB := Lib.hid (HB.out.below hb9)
      replace RF := Lib.hid (RF.out.below hb9)
      replace RT := Lib.hid (RT.out.below hb9)
      have RU := Lib.hid (chain_true hrU)
      obtain ⟨aU, cU, rfl, _⟩ := Sl.form hrU
      clear hrU hb9
      by_cases eu : ue = 0
      · subst eu
        obtain ⟨hcl, _, hl6, _, htl⟩ := tightE_ok (l := l) (p := t0) (q := t1) (by rw [HU.out])
        have hcu := chain_tight (l := l) (p := t0) (q := t1) (by rw [HU.out])
        have hle := tight_le (l := l) (p := t0) (q := t1) (by rw [HU.out]) x.right_ok
        have hUe := HU.out.symm.trans htl
        rw [HU.out] at hcu hle
        dsimp only at hcu hle
        have hUl : U = l ++ [filterL (deltaE t0 t1).1] := (Prod.mk.inj hUe).1
        have JA := Lib.hid (askE_of hcl x.right_ok)
        have JU := Lib.hid (askE_of hcu x.right_ok)
        obtain ⟨va, hva⟩ : ∃ v, asked l x.right = v := ⟨_, rfl⟩
        obtain ⟨vu, hvu⟩ : ∃ v, asked U x.right = v := ⟨_, rfl⟩
        rw [hva] at JA
        rw [hvu] at JU
        rw [hva, hvu] at hle
        have hlU0 : U.length = l.length + 1 := by rw [hUl]; simp
        have HlU := Lib.hid hlU0
        have HUt : Hid (U.take l.length = l) := by show _ = _; rw [hUl, List.take_left' rfl]
        clear hcl htl hcu hUe hUl hva hvu hlU0
        have hq0 := HB.out.cells0
        have hq1 := HB.out.cells1
        have hq2 := HB.out.cells2
        go_wp2_with fail
        clear hq0 hq1 hq2
        refine (ask_any _ l x.right _ _ (H3.out.below HB.out.bel)).mono ?_
        rw [JA.out]
        rintro e w10 ⟨rfl, hb10⟩
        replace HB := Lib.hid (HB.out.below hb10)
        replace RF := Lib.hid (RF.out.below hb10)
        replace RT := Lib.hid (RT.out.below hb10)
        replace RU := Lib.hid (RU.out.below hb10)
        clear hb10
        have hq0 := HB.out.cells0
        have hq1 := HB.out.cells1
        have hq2 := HB.out.cells2
        go_wp2_with fail
        clear hq0 hq1 hq2
        refine (ask_any _ U x.right _ _ RU.out).mono ?_
        rw [JU.out]
        rintro e w11 ⟨rfl, hb11⟩
        replace HB := Lib.hid (HB.out.below hb11)
        replace RF := Lib.hid (RF.out.below hb11)
        replace RT := Lib.hid (RT.out.below hb11)
        replace RU := Lib.hid (RU.out.below hb11)
        clear hb11
        have hlU := HlU.out
        have hcU : l.length ≤ cU := by
          obtain ⟨_, c', hv, hl, _⟩ := RU.out
          injection hv with _ _ hv
          subst hv
          omega
        have hTk : Hid (RdChain w11 (fun _ => True) (.slice aU l.length cU) l) := by
          have h1 : RdChain w11 (fun _ => True) (.slice aU l.length cU) (U.take l.length) := Sl.take RU.out (by omega)
          rw [HUt.out] at h1
          exact h1
        have hq0 := HB.out.cells0
        have hq1 := HB.out.cells1
        have hq2 := HB.out.cells2
        go_wp2_with fail
        clear hq0 hq1 hq2
        refine (chsame_any _ _ l l _ hTk.out (H3.out.below HB.out.bel)).mono ?_
        rintro e w99 ⟨rfl, hb99⟩
        replace HB := Lib.hid (HB.out.below hb99)
        replace RF := Lib.hid (RF.out.below hb99)
        replace RT := Lib.hid (RT.out.below hb99)
        replace RU := Lib.hid (RU.out.below hb99)
        clear hb99
        have hdd : decide (l = l) = true := decide_eq_true rfl
        go_wp2
        go_ret
        exact ⟨rfl, HB.out.bel⟩
      · have hne : (ue != 0) = true := bne_iff_ne.2 eu
        clear eu
        go_wp2
        go_ret
        exact ⟨rfl, HB.out.bel⟩
    · have hnt : (te == 0) = false := by simpa using h1
      clear h1
      have hq0 := HB.out.cells0
      have hq1 := HB.out.cells1
      have hq2 := HB.out.cells2
      go_wp2_with fail
      clear hq0 hq1 hq2
      refine (tighten_any _ _ _ l t0 t1 (fun _ => True) _ (H3.out.below HB.out.bel) (H0.out.below HB.out.bel) (H1.out.below HB.out.bel)).mono ?_
      rw [HU.out]
      rintro e w7 ⟨vU, rfl, hrU, hb7⟩
      replace HB := Lib.hid (HB.out.below hb7)
      replace RF := Lib.hid (RF.out.below hb7)
      replace RT := Lib.hid (RT.out.below hb7)
      have RU := Lib.hid (chain_true hrU)
      obtain ⟨aU, cU, rfl, _⟩ := Sl.form hrU
      clear hrU hb7
      by_cases eu : ue = 0
      · subst eu
        obtain ⟨hcl, _, hl6, _, htl⟩ := tightE_ok (l := l) (p := t0) (q := t1) (by rw [HU.out])
        have hcu := chain_tight (l := l) (p := t0) (q := t1) (by rw [HU.out])
        have hle := tight_le (l := l) (p := t0) (q := t1) (by rw [HU.out]) x.right_ok
        have hUe := HU.out.symm.trans htl
        rw [HU.out] at hcu hle
        dsimp only at hcu hle
        have hUl : U = l ++ [filterL (deltaE t0 t1).1] := (Prod.mk.inj hUe).1
        have JA := Lib.hid (askE_of hcl x.right_ok)
        have JU := Lib.hid (askE_of hcu x.right_ok)
        obtain ⟨va, hva⟩ : ∃ v, asked l x.right = v := ⟨_, rfl⟩
        obtain ⟨vu, hvu⟩ : ∃ v, asked U x.right = v := ⟨_, rfl⟩
        rw [hva] at JA
        rw [hvu] at JU
        rw [hva, hvu] at hle
        have hlU0 : U.length = l.length + 1 := by rw [hUl]; simp
        have HlU := Lib.hid hlU0
        have HUt : Hid (U.take l.length = l) := by show _ = _; rw [hUl, List.take_left' rfl]
        clear hcl htl hcu hUe hUl hva hvu hlU0
        have hq0 := HB.out.cells0
        have hq1 := HB.out.cells1
        have hq2 := HB.out.cells2
        go_wp2_with fail
        clear hq0 hq1 hq2
        refine (ask_any _ l x.right _ _ (H3.out.below HB.out.bel)).mono ?_
        rw [JA.out]
        rintro e w8 ⟨rfl, hb8⟩
        replace HB := Lib.hid (HB.out.below hb8)
        replace RF := Lib.hid (RF.out.below hb8)
        replace RT := Lib.hid (RT.out.below hb8)
        replace RU := Lib.hid (RU.out.below hb8)
        clear hb8
        have hq0 := HB.out.cells0
        have hq1 := HB.out.cells1
        have hq2 := HB.out.cells2
        go_wp2_with fail
        clear hq0 hq1 hq2
        refine (ask_any _ U x.right _ _ RU.out).mono ?_
        rw [JU.out]
        rintro e w9 ⟨rfl, hb9⟩
        replace HB := Lib.hid (HB.out.below hb9)
        replace RF := Lib.hid (RF.out.below hb9)
        replace RT := Lib.hid (RT.out.below hb9)
        replace RU := Lib.hid (RU.out.below hb9)
        clear hb9
        have hlU := HlU.out
        have hcU : l.length ≤ cU := by
          obtain ⟨_, c', hv, hl, _⟩ := RU.out
          injection hv with _ _ hv
          subst hv
          omega
        have hTk : Hid (RdChain w9 (fun _ => True) (.slice aU l.length cU) l) := by
          have h1 : RdChain w9 (fun _ => True) (.slice aU l.length cU) (U.take l.length) := Sl.take RU.out (by omega)
          rw [HUt.out] at h1
          exact h1
        have hq0 := HB.out.cells0
        have hq1 := HB.out.cells1
        have hq2 := HB.out.cells2
        go_wp2_with fail
        clear hq0 hq1 hq2
        refine (chsame_any _ _ l l _ hTk.out (H3.out.below HB.out.bel)).mono ?_
        rintro e w99 ⟨rfl, hb99⟩
        replace HB := Lib.hid (HB.out.below hb99)
        replace RF := Lib.hid (RF.out.below hb99)
        replace RT := Lib.hid (RT.out.below hb99)
        replace RU := Lib.hid (RU.out.below hb99)
        clear hb99
        have hdd : decide (l = l) = true := decide_eq_true rfl
        go_wp2
        go_ret
        exact ⟨rfl, HB.out.bel⟩
      · have hne : (ue != 0) = true := bne_iff_ne.2 eu
        clear eu
        go_wp2
        go_ret
        exact ⟨rfl, HB.out.bel⟩
  · have hne : (fe != 0) = true := bne_iff_ne.2 h0
    clear h0
    have hq0 := HB.out.cells0
    have hq1 := HB.out.cells1
    have hq2 := HB.out.cells2
    go_wp2_with fail
    clear hq0 hq1 hq2
    refine (tightened_walk _ (HL.out.below HB.out.bel)).mono ?_
    rintro e w5 ⟨rfl, hb5⟩
    replace HB := Lib.hid (HB.out.below hb5)
    replace RF := Lib.hid (RF.out.below hb5)
    clear hb5
    have hq0 := HB.out.cells0
    have hq1 := HB.out.cells1
    have hq2 := HB.out.cells2
    go_wp2
    go_ret
    exact ⟨rfl, HB.out.bel⟩
end Go.Proofs.YtkiipnbjckdlbaaGreatDoor
