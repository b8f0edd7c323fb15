/- PointHome returns true at every list of policies of at most 1048576 values and call. Condition: Laid. -/
import Derived.Test.YtioeliocdbckbaaGreatDoorK12
import Derived.Test.YtioeliocdbckbaaGreatDoorK7
import Derived.Test.YtioeliocdbckbaaGreatDoorK5
namespace Go.Proofs.YtioeliocdbckbaaGreatDoor
open Go.RowKit

set_option maxRecDepth 100000 in
set_option maxHeartbeats 16000000 in
theorem pointHome_walk {w : World} (hL : Laid w) (v0 : Value) (l : List TPol) (rd0 : RdPols w (fun _ => True) v0 l) (hbk : (l.flatMap polConds).length + l.length ≤ 1048576) (x : TCall) :
    Calls Tryz.prog 4 #[v0, callV x] w fun e w' => e = .returned (.bool true) ∧ Below w.heap.size w w' := by
  have HL := Lib.hid hL
  have H0 := Lib.hid rd0
  have Hbk := Lib.hid hbk
  have Hn : Hid (∀ f, (cutVals l f).length * 8 ≤ 140737488355328) := fun f => by have := vals_conds l f; omega
  obtain ⟨a0, c0, rfl, hlc, hcm, hat⟩ := Sl.form rd0
  have Hat := Lib.hid hat
  have Hlm : Hid (l.length ≤ 9223372036854775807) := Nat.le_trans hlc hcm
  clear hL rd0 hbk hlc hcm hat
  go_enter Tryz.func4, Tryz.ntmps4
  go_wp2_with fail
  have HB := Lib.hid (Bx.one (w := w) (o := .cells #[.int .i64 x.a0, .int .i64 x.a1, .int .i64 x.a2, .int .i64 x.a3, .int .i64 x.a4] 26))
  refine (right_any x _).mono ?_
  rintro e w1 ⟨rfl, hb1⟩
  replace HB := Lib.hid (HB.out.below hb1)
  obtain ⟨y, hy⟩ : ∃ y, x.right = y := ⟨_, rfl⟩
  rw [hy]
  have hq0 := HB.out.cells0
  have hfr := HB.out.free0
  have HB1 := Lib.hid (HB.out.setCall0 (y := y))
  have hset := HB1.out.cells0
  clear hb1 hy
  go_wp2_with fail
  clear hq0 hfr hset HB
  revert HB1
  generalize (((((w1.setCell ⟨w.heap.size, 0, none⟩ (.int .i64 y.a0)).setCell ⟨w.heap.size, 1, none⟩ (.int .i64 y.a1)).setCell ⟨w.heap.size, 2, none⟩ (.int .i64 y.a2)).setCell ⟨w.heap.size, 3, none⟩ (.int .i64 y.a3)).setCell ⟨w.heap.size, 4, none⟩ (.int .i64 y.a4)) = w2
  intro HB
  obtain ⟨⟨h, he⟩, hH⟩ : ∃ E, homeE l y = E := ⟨_, rfl⟩
  have HH := Lib.hid hH
  clear hH
  refine (home_any _ l y _ _ (H0.out.below HB.out.bel) (fun _ f _ _ => Hn.out f)).mono ?_
  rw [HH.out]
  rintro e w3 ⟨rfl, hb3⟩
  replace HB := Lib.hid (HB.out.below hb3)
  clear hb3
  dsimp only
  have HZ1 := Lib.hid (Bx.one (w := w3) (o := .cells #[.int .i64 0, .int .i64 0, .int .i64 0, .int .i64 0, .int .i64 0] 26))
  have HX := Lib.hid (Bx.one (w := w3) (o := .cells #[.int .i64 h.a0, .int .i64 h.a1, .int .i64 h.a2, .int .i64 h.a3, .int .i64 h.a4] 26))
  have hcn := HZ1.out.cells0
  have hfn := HZ1.out.free0
  have hqx := HB.out.cells0
  go_wp2_with fail
  clear hqx hcn hfn HZ1
  replace HB := Lib.hid (HB.out.below HX.out.bel)
  revert HX HB
  generalize (w3.alloc (.cells #[.int .i64 h.a0, .int .i64 h.a1, .int .i64 h.a2, .int .i64 h.a3, .int .i64 h.a4] 26)) = w4
  intro HX HB
  refine (cut_walk _ (HL.out.below HB.out.bel)).mono ?_
  rintro e w5 ⟨rfl, hb5⟩
  replace HB := Lib.hid (HB.out.below hb5)
  replace HX := Lib.hid (HX.out.below hb5)
  clear hb5
  by_cases h0 : he = 0
  · subst h0
    have hcy : callE y = 0 := by
      apply Classical.byContradiction
      intro hc
      have h1 := HH.out
      unfold homeE at h1
      rw [if_pos hc] at h1
      injection h1 with _ h2
      exact hc h2
    have hpe : polsE l = 0 := by
      apply Classical.byContradiction
      intro hc
      have h1 := HH.out
      unfold homeE at h1
      rw [if_neg (by rw [hcy]; simp), if_pos hc] at h1
      injection h1 with _ h2
      exact hc h2
    have hho : homeOf l y = h := by
      have h1 := HH.out
      unfold homeE at h1
      rw [if_neg (by rw [hcy]; simp), if_neg (by rw [hpe]; simp)] at h1
      injection h1
    have hyo : y.ok := by
      apply Classical.byContradiction
      intro hc
      unfold callE at hcy
      rw [if_neg hc] at hcy
      cases hcy
    have hok := (polsE_iff l).1 hpe
    have Hok := Lib.hid hok
    have Hpe := Lib.hid hpe
    have Hho := Lib.hid hho
    have Hyo := Lib.hid hyo
    have Hhk : Hid (h.ok) := by show h.ok; rw [← hho]; exact ok_home hok hyo
    have Hju : Hid (∀ p ∈ l, judgeE p y = ((judged p y).1, ((judged p y).2 : Int), 0) ∧ judgeE p h = ((judged p y).1, ((judged p y).2 : Int), 0)) := fun p hp => by
      have h1 : polE p = 0 := (okPol_iff p).2 (hok p hp)
      constructor
      · unfold judgeE; rw [if_neg (by rw [h1]; simp), if_pos hyo]
      · unfold judgeE; rw [if_neg (by rw [h1]; simp), if_pos Hhk.out, ← hho, judged_home hok hyo hp]
    have Hhh : Hid (homeE l h = (h, 0)) := by
      show _ = _
      unfold homeE
      rw [if_neg (by unfold callE; rw [if_pos Hhk.out]; simp), if_neg (by rw [hpe]; simp), ← hho, home_home hok hyo]
    have Hhm : Hid (h ∈ stage l 5) := by show h ∈ _; rw [← hho]; exact home_point hok hyo
    clear hcy hpe hho hyo hok HH
    go_wp2_with fail
    go_loopw [34] (fun iv wr => ∃ k : Nat, iv = .int .i64 k ∧ k ≤ l.length ∧ Below w5.heap.size w5 wr) (fun iv _ => l.length - (intOf iv).toNat)
    case atStart => exact ⟨0, rfl, Nat.zero_le _, Below.refl _ _⟩
    case round =>
      obtain ⟨k, rfl, hk, hbw⟩ := hrel
      have Hbw := Lib.hid hbw
      have HBw := Lib.hid (HB.out.below Hbw.out)
      have HXw := Lib.hid (HX.out.below Hbw.out)
      clear hbw
      by_cases hlt : k < l.length
      · obtain ⟨b, o, rfl, _, _⟩ := Hat.out (by omega)
        obtain ⟨ca, cc, hc0, hc1, hrd, _⟩ := RdPols.cells (H0.out.below HBw.out.bel) hlt
        obtain ⟨p, hp⟩ : ∃ p, l[k] = p := ⟨_, rfl⟩
        have hpm : p ∈ l := by rw [← hp]; exact List.getElem_mem hlt
        rw [hp] at hc0 hc1 hrd
        obtain ⟨j1, j2⟩ := Hju.out p hpm
        have J1 := Lib.hid j1
        have J2 := Lib.hid j2
        have Hrd := Lib.hid hrd
        clear hp hpm j1 j2 hrd
        have HP := Lib.hid (Bx.one (w := wr) (o := .cells #[.slice ca p.rules.length cc, .int .i64 p.dflt] 24))
        have HBp := Lib.hid (HBw.out.below HP.out.bel)
        have HXp := Lib.hid (HXw.out.below HP.out.bel)
        have hlb := Hlm.out
        have hqx := HBp.out.cells0
        have hqh := HXp.out.cells0
        go_wp2_with fail
        clear hqx hqh
        refine (judge_any _ p y _ _ (Hrd.out.below HP.out.bel)).mono ?_
        rw [J1.out]
        rintro e w6 ⟨rfl, hb6⟩
        have HB6 := Lib.hid (HBp.out.below hb6)
        have HX6 := Lib.hid (HXp.out.below hb6)
        have HP6 := Lib.hid (HP.out.below hb6)
        have hqx := HB6.out.cells0
        have hqh := HX6.out.cells0
        have hqp := HP6.out.cells0
        clear hb6
        dsimp only
        go_wp2_with fail
        clear hqx hqh hqp
        refine (judge_any _ p h _ _ (RdRules.below Hrd.out HP6.out.bel)).mono ?_
        rw [J2.out]
        rintro e w7 ⟨rfl, hb7⟩
        have Hb7 := Lib.hid (bel_call Hbw.out (HP6.out.below hb7).bel)
        clear hb7 hc0 hc1 HB6 HX6 HP6 HP HBp HXp
        dsimp only
        go_wp2
        go_roundw
        case rel => first | exact ⟨k + 1, by go_num, by omega, Hb7.out⟩ | ((repeat apply Exists.intro); refine ⟨?_, rfl⟩; exact ⟨k + 1, by go_num, by omega, Hb7.out⟩)
        case measure => simp [intOf]; omega
      · obtain rfl : k = l.length := by omega
        have hqx := HBw.out.cells0
        have hqh := HXw.out.cells0
        go_wp2_with fail
        clear hqx hqh
        refine (home_any _ l h _ _ (H0.out.below HBw.out.bel) (fun _ f _ _ => Hn.out f)).mono ?_
        rw [Hhh.out]
        rintro e w6 ⟨rfl, hb6⟩
        have HB6 := Lib.hid (HBw.out.below hb6)
        have HX6 := Lib.hid (HXw.out.below hb6)
        clear hb6 HBw HXw
        dsimp only
        have HZ1 := Lib.hid (Bx.one (w := w6) (o := .cells #[.int .i64 0, .int .i64 0, .int .i64 0, .int .i64 0, .int .i64 0] 26))
        have HY := Lib.hid (Bx.one (w := w6) (o := .cells #[.int .i64 h.a0, .int .i64 h.a1, .int .i64 h.a2, .int .i64 h.a3, .int .i64 h.a4] 26))
        have hcn := HZ1.out.cells0
        have hfn := HZ1.out.free0
        have heq := calleq_self h
        have hqx := HB6.out.cells0
        have hqh := HX6.out.cells0
        have HBy := Lib.hid (HB6.out.below HY.out.bel)
        have HXy := Lib.hid (HX6.out.below HY.out.bel)
        have hqx2 := HBy.out.cells0
        have hqh2 := HXy.out.cells0
        have hqy := HY.out.cells0
        go_wp2_with fail
        clear hqx hqh hcn hfn HZ1 hqx2 hqh2 hqy
        revert HY HBy HXy
        generalize (w6.alloc (.cells #[.int .i64 h.a0, .int .i64 h.a1, .int .i64 h.a2, .int .i64 h.a3, .int .i64 h.a4] 26)) = w8
        intro HY HBy HXy
        obtain ⟨⟨T, te⟩, hT⟩ : ∃ E, pointsE l = E := ⟨_, rfl⟩
        have HT := Lib.hid hT
        clear hT
        refine (points_any _ l _ _ (H0.out.below HBy.out.bel) (fun _ f _ _ => Hn.out f)).mono ?_
        rw [HT.out]
        rintro e w9 ⟨v9, rfl, ho9, hb9⟩
        have R9 : Hid (RdCalls w9 (fun _ => True) v9 T) := OwnSl.sl ho9 (D := fun _ => True) (fun _ _ => trivial)
        have HB9 := Lib.hid (HBy.out.below hb9)
        have HX9 := Lib.hid (HXy.out.below hb9)
        obtain ⟨a9, c9, rfl⟩ := ho9.slice
        clear ho9 hb9 heq
        have hqx := HB9.out.cells0
        have hqh := HX9.out.cells0
        by_cases h1 : te = 0
        · subst h1
          obtain ⟨_, _, hpe⟩ := pointsE_ok (l := l) (by rw [HT.out])
          have Hm : Hid (h ∈ T) := by
            have hTs : T = stage l 5 := by have := HT.out.symm.trans hpe; injection this
            show h ∈ T
            rw [hTs]
            exact Hhm.out
          clear hpe
          go_wp2_with fail
          refine (contcalls_any _ T h _ R9.out).mono ?_
          rw [decide_eq_true Hm.out]
          rintro e w10 ⟨rfl, hb10⟩
          have Hf := Lib.hid (HB9.out.below hb10).bel
          clear hqx hqh hb10
          go_wp2
          go_ret
          exact ⟨rfl, Hf.out⟩
        · have hne : (te != 0) = true := bne_iff_ne.2 h1
          clear h1
          have Hf := Lib.hid HB9.out.bel
          go_wp2
          go_ret
          exact ⟨rfl, Hf.out⟩
  · have hne : (he != 0) = true := bne_iff_ne.2 h0
    clear h0
    go_wp2_with fail
    refine (cut_walk _ (HL.out.below HB.out.bel)).mono ?_
    rintro e w6 ⟨rfl, hb6⟩
    have Hf := Lib.hid (HB.out.below hb6).bel
    clear hb6
    go_wp2
    go_ret
    exact ⟨rfl, Hf.out⟩
end Go.Proofs.YtioeliocdbckbaaGreatDoor
