/- PointSays returns true at every list of policies of at most 1048576 values, field and call. Condition: Laid. -/
import Derived.Test.YtioeliocdbckbaaDoorK5
import Derived.Test.YtioeliocdbckbaaDoorK6
import Derived.Test.YtioeliocdbckbaaDoorK7
namespace Go.Proofs.YtioeliocdbckbaaDoor
open Go.RowKit
attribute [local go_sem] gives givesUpon

set_option maxRecDepth 100000 in
set_option maxHeartbeats 16000000 in
theorem pointSays_walk {w : World} (hL : Laid w) (v0 : Value) (l : List TPol) (rd0 : RdPols w (fun _ => True) v0 l) (hbk : (l.flatMap polConds).length + l.length ≤ 1048576) (f : Int) (x : TCall) :
    Calls Tryd.prog 3 #[v0, .int .i64 f, callV x] w fun e w' => e = .returned (.bool true) ∧ Below w.heap.size w w' := by
  have HL := Lib.hid hL
  have H0 := Lib.hid rd0
  have Hbk := Lib.hid hbk
  have Hn : Hid (∀ f, (cutVals l f).length * 8 ≤ 140737488355328) := fun f => by have := vals_conds l f; omega
  have Hm : Hid ((1 + 2 * (l.flatMap polConds).length) * 8 ≤ 140737488355328) := by show _ ≤ _; omega
  obtain ⟨a0, c0, rfl, _⟩ := Sl.form rd0
  clear hL rd0 hbk
  obtain ⟨⟨C, ce⟩, hC⟩ : ∃ E, cutsE l f = E := ⟨_, rfl⟩
  obtain ⟨⟨T, te⟩, hT⟩ : ∃ E, pointsE l = E := ⟨_, rfl⟩
  obtain ⟨⟨h, he⟩, hH⟩ : ∃ E, homeE l x = E := ⟨_, rfl⟩
  have HC := Lib.hid hC
  have HT := Lib.hid hT
  have HH := Lib.hid hH
  clear hC hT hH
  go_enter Tryd.func3, Tryd.ntmps3
  go_wp2_with fail
  have HB := Lib.hid (Bx.one (w := w) (o := .cells #[.int .i64 x.a0, .int .i64 x.a1, .int .i64 x.a2, .int .i64 x.a3, .int .i64 x.a4] 24))
  refine (cutsE_any _ l f _ _ (H0.out.below HB.out.bel) (fun _ _ _ => Hn.out f)).mono ?_
  rw [HC.out]
  rintro e w1 ⟨v1, rfl, ho1, hb1⟩
  replace HB := Lib.hid (HB.out.below hb1)
  have R1 : Hid (RdInts w1 (fun _ => True) v1 C) := OwnSl.sl ho1 (D := fun _ => True) (fun _ _ => trivial)
  obtain ⟨a1, c1, rfl⟩ := ho1.slice
  clear ho1
  clear hb1
  have hqx := HB.out.cells0
  go_wp2_with fail
  clear hqx
  refine (points_any _ l _ _ (H0.out.below HB.out.bel) (fun _ f _ _ => Hn.out f)).mono ?_
  rw [HT.out]
  rintro e w2 ⟨v2, rfl, ho2, hb2⟩
  replace HB := Lib.hid (HB.out.below hb2)
  replace R1 := Lib.hid (R1.out.below hb2)
  have R2 : Hid (RdCalls w2 (fun _ => True) v2 T) := OwnSl.sl ho2 (D := fun _ => True) (fun _ _ => trivial)
  obtain ⟨a2, c2, rfl⟩ := ho2.slice
  clear ho2
  clear hb2
  have hqx := HB.out.cells0
  go_wp2_with fail
  clear hqx
  refine (home_any _ l x _ _ (H0.out.below HB.out.bel) (fun _ f _ _ => Hn.out f)).mono ?_
  rw [HH.out]
  rintro e w3 ⟨rfl, hb3⟩
  replace HB := Lib.hid (HB.out.below hb3)
  replace R1 := Lib.hid (R1.out.below hb3)
  replace R2 := Lib.hid (R2.out.below hb3)
  clear hb3
  dsimp only
  have HZ1 := Lib.hid (Bx.one (w := w3) (o := .cells #[.int .i64 0, .int .i64 0, .int .i64 0, .int .i64 0, .int .i64 0] 24))
  have HX := Lib.hid (Bx.one (w := w3) (o := .cells #[.int .i64 h.a0, .int .i64 h.a1, .int .i64 h.a2, .int .i64 h.a3, .int .i64 h.a4] 24))
  have hcn := HZ1.out.cells0
  have hfn := HZ1.out.free0
  have hqx := HB.out.cells0
  go_wp2_with fail
  clear hqx
  replace HB := Lib.hid (HB.out.below HX.out.bel)
  replace R1 := Lib.hid (R1.out.below HX.out.bel)
  replace R2 := Lib.hid (R2.out.below HX.out.bel)
  clear hcn hfn HZ1
  revert HX HB R1 R2
  generalize (w3.alloc (.cells #[.int .i64 h.a0, .int .i64 h.a1, .int .i64 h.a2, .int .i64 h.a3, .int .i64 h.a4] 24)) = wh
  intro HX HB R1 R2
  refine (rpoints_any _ l _ _ (H0.out.below HB.out.bel) (fun _ => Hm.out)).mono ?_
  rw [HT.out]
  rintro e w4 ⟨v5, rfl, ho5, hb4⟩
  replace HB := Lib.hid (HB.out.below hb4)
  replace R1 := Lib.hid (R1.out.below hb4)
  replace R2 := Lib.hid (R2.out.below hb4)
  replace HX := Lib.hid (HX.out.below hb4)
  have R5 : Hid (RdCalls w4 (fun _ => True) v5 T) := OwnSl.sl ho5 (D := fun _ => True) (fun _ _ => trivial)
  obtain ⟨a5, c5, rfl⟩ := ho5.slice
  clear ho5
  clear hb4
  have hqx := HB.out.cells0
  go_wp2_with fail
  clear hqx
  refine (rall_any _ l _ _ (H0.out.below HB.out.bel)).mono ?_
  rintro e w5 ⟨rfl, hb5⟩
  replace HB := Lib.hid (HB.out.below hb5)
  replace R1 := Lib.hid (R1.out.below hb5)
  replace R2 := Lib.hid (R2.out.below hb5)
  replace HX := Lib.hid (HX.out.below hb5)
  replace R5 := Lib.hid (R5.out.below hb5)
  clear hb5
  obtain ⟨pe, hpe⟩ : ∃ e, polsE l = e := ⟨_, rfl⟩
  have Hpe := Lib.hid hpe
  rw [hpe]
  clear hpe
  have hqx := HB.out.cells0
  go_wp2_with fail
  clear hqx
  refine (cut_walk _ (HL.out.below HB.out.bel)).mono ?_
  rintro e w6 ⟨rfl, hb6⟩
  replace HB := Lib.hid (HB.out.below hb6)
  replace R1 := Lib.hid (R1.out.below hb6)
  replace R2 := Lib.hid (R2.out.below hb6)
  replace HX := Lib.hid (HX.out.below hb6)
  replace R5 := Lib.hid (R5.out.below hb6)
  clear hb6
  have hqx := HB.out.cells0
  go_wp2_with fail
  clear hqx
  refine (eqcalls_any _ _ T T _ R2.out R5.out).mono ?_
  rw [decide_eq_true (rfl : T = T)]
  rintro e w7 ⟨rfl, hb7⟩
  replace HB := Lib.hid (HB.out.below hb7)
  replace R1 := Lib.hid (R1.out.below hb7)
  replace R2 := Lib.hid (R2.out.below hb7)
  replace HX := Lib.hid (HX.out.below hb7)
  replace R5 := Lib.hid (R5.out.below hb7)
  clear hb7
  clear R2 R5
  have hqx := HB.out.cells0
  go_wp2_with fail
  clear hqx
  refine (rccall_any x _).mono ?_
  rintro e w8 ⟨rfl, hb8⟩
  replace HB := Lib.hid (HB.out.below hb8)
  replace R1 := Lib.hid (R1.out.below hb8)
  replace HX := Lib.hid (HX.out.below hb8)
  clear hb8
  obtain ⟨ke, hke⟩ : ∃ e, callE x = e := ⟨_, rfl⟩
  have Hke := Lib.hid hke
  rw [hke]
  clear hke
  by_cases hp : pe = 0
  · subst hp
    have Hok : Hid (∀ p ∈ l, OkPol p) := (polsE_iff l).1 Hpe.out
    by_cases hr : f < 0 ∨ 4 < f
    · obtain ⟨rfl, rfl⟩ : C = [] ∧ ce = 5 := by
        have h1 := HC.out
        unfold cutsE at h1
        rw [if_neg (by rw [Hpe.out]; simp), if_pos (by omega)] at h1
        injection h1 with h1 h2
        exact ⟨h1.symm, h2.symm⟩
      have HR : Hid (f < 0 ∨ 4 < f) := hr
      have hl0 : ([] : List Int).length = 0 := rfl
      by_cases hk : ke = 0
      · subst hk
        have Hho : Hid (homeOf l x = h) := by have := HH.out; unfold homeE at this; rw [if_neg (by rw [Hke.out]; simp), if_neg (by rw [Hpe.out]; simp)] at this; injection this
        obtain rfl : he = 0 := by have := HH.out; unfold homeE at this; rw [if_neg (by rw [Hke.out]; simp), if_neg (by rw [Hpe.out]; simp)] at this; injection this with _ h2; exact h2.symm
        rcases hr with hr | hr
        · have hr1 : decide (f < 0) = true := decide_eq_true hr
          have hqx := HB.out.cells0
          have hqh := HX.out.cells0
          have heq := calleq_self h
          go_wp2_with fail
          refine wp_region_B [ex (.int .i64 0), ex (.bool true), ex (.bool true), ex (callV h), ex (.slice a0 l.length c0), ex (callV x), ex (callV h), ex (.bool true), ex (.bool true), ex (.bool true)] _ (Nat.le_refl _) (by kernel_rfl) (by kernel_rfl) ⟨.inl ⟨_, rfl⟩, .inl ⟨_, rfl⟩, .inl ⟨_, rfl⟩, .inl ⟨_, rfl⟩, .inl ⟨_, rfl⟩, .inl ⟨_, rfl⟩, .inl ⟨_, rfl⟩, .inl ⟨_, rfl⟩, .inl ⟨_, rfl⟩, .inl ⟨_, rfl⟩, trivial⟩ ?_
          (refine walkB_ex (fun K hK => ?_); refine ⟨fun W hC hd R hR => ?_, ?_⟩; (have hqx := (HB.out.below hC.2).cells0; have hqh := (HX.out.below hC.2).cells0; clear hd; go_simp; exact hR _ _ (Below.refl _ _) rfl); (go_simp; refine hK _ ?_; clear hK K))
          (refine walkB_ex (fun K hK => ?_); refine ⟨fun W hC hd R hR => ?_, ?_⟩; (have hqx := (HB.out.below hC.2).cells0; have hqh := (HX.out.below hC.2).cells0; clear hd; go_simp; exact hR _ _ (Below.refl _ _) rfl); (go_simp; refine hK _ ?_; clear hK K))
          (refine walkB_ex (fun K hK => ?_); refine ⟨fun W hC hd R hR => ?_, ?_⟩; (have hqx := (HB.out.below hC.2).cells0; have hqh := (HX.out.below hC.2).cells0; clear hd; go_simp; exact hR _ _ (Below.refl _ _) rfl); (go_simp; refine hK _ ?_; clear hK K))
          (refine walkB_ex (fun K hK => ?_); refine ⟨fun W hC hd R hR => ?_, ?_⟩; (have hqx := (HB.out.below hC.2).cells0; have hqh := (HX.out.below hC.2).cells0; clear hd; go_simp; exact hR _ _ (Below.refl _ _) rfl); (go_simp; refine hK _ ?_; clear hK K))
          (refine walkB_ex (fun K hK => ?_); refine ⟨fun W hC hd R hR => ?_, ?_⟩; (have hqx := (HB.out.below hC.2).cells0; have hqh := (HX.out.below hC.2).cells0; clear hd; go_simp; exact hR _ _ (Below.refl _ _) rfl); (go_simp; refine hK _ ?_; clear hK K))
          (refine walkB_ex (fun K hK => ?_); refine ⟨fun W hC hd R hR => ?_, ?_⟩; (have hqx := (HB.out.below hC.2).cells0; have hqh := (HX.out.below hC.2).cells0; clear hd; go_simp; exact hR _ _ (Below.refl _ _) rfl); (go_simp; refine hK _ ?_; clear hK K))
          (refine walkB_ex (fun K hK => ?_); refine ⟨fun W hC hd R hR => ?_, ?_⟩; (have HpW := Lib.hid (H0.out.below (bel_call HB.out.bel hC.2)); clear hd; go_simp; go_at_call 17; refine (rhome_any _ l x _ _ HpW.out Hok.out Hm.out).mono ?_; rw [Hho.out]; rintro e w9 ⟨rfl, hb9⟩; exact ⟨_, rfl, hR _ _ hb9 rfl⟩); (go_simp; refine hK _ ?_; clear hK K))
          (refine walkB_ex (fun K hK => ?_); refine ⟨fun W hC hd R hR => ?_, ?_⟩; (have hqx := (HB.out.below hC.2).cells0; have hqh := (HX.out.below hC.2).cells0; clear hd; go_simp; exact hR _ _ (Below.refl _ _) rfl); (go_simp; refine hK _ ?_; clear hK K))
          (refine walkB_ex (fun K hK => ?_); refine ⟨fun W hC hd R hR => ?_, ?_⟩; (have hqx := (HB.out.below hC.2).cells0; have hqh := (HX.out.below hC.2).cells0; clear hd; go_simp; exact hR _ _ (Below.refl _ _) rfl); (go_simp; refine hK _ ?_; clear hK K))
          (refine walkB_ex (fun K hK => ?_); refine ⟨fun W hC hd R hR => ?_, ?_⟩; (have hqx := (HB.out.below hC.2).cells0; have hqh := (HX.out.below hC.2).cells0; clear hd; go_simp; exact hR _ _ (Below.refl _ _) rfl); (go_simp; refine hK _ ?_; clear hK K))
          intro wl hC _
          have Hf := Lib.hid (bel_call HB.out.bel hC.2)
          clear hC heq
          go_wp2
          go_ret
          exact ⟨rfl, Hf.out⟩
        · have hr0 : decide (f < 0) = false := decide_eq_false (by omega)
          have hr1 : decide (4 < f) = true := decide_eq_true hr
          have hqx := HB.out.cells0
          have hqh := HX.out.cells0
          have heq := calleq_self h
          go_wp2_with fail
          refine wp_region_B [ex (.int .i64 0), ex (.bool true), ex (.bool true), ex (callV h), ex (.slice a0 l.length c0), ex (callV x), ex (callV h), ex (.bool true), ex (.bool true), ex (.bool true)] _ (Nat.le_refl _) (by kernel_rfl) (by kernel_rfl) ⟨.inl ⟨_, rfl⟩, .inl ⟨_, rfl⟩, .inl ⟨_, rfl⟩, .inl ⟨_, rfl⟩, .inl ⟨_, rfl⟩, .inl ⟨_, rfl⟩, .inl ⟨_, rfl⟩, .inl ⟨_, rfl⟩, .inl ⟨_, rfl⟩, .inl ⟨_, rfl⟩, trivial⟩ ?_
          (refine walkB_ex (fun K hK => ?_); refine ⟨fun W hC hd R hR => ?_, ?_⟩; (have hqx := (HB.out.below hC.2).cells0; have hqh := (HX.out.below hC.2).cells0; clear hd; go_simp; exact hR _ _ (Below.refl _ _) rfl); (go_simp; refine hK _ ?_; clear hK K))
          (refine walkB_ex (fun K hK => ?_); refine ⟨fun W hC hd R hR => ?_, ?_⟩; (have hqx := (HB.out.below hC.2).cells0; have hqh := (HX.out.below hC.2).cells0; clear hd; go_simp; exact hR _ _ (Below.refl _ _) rfl); (go_simp; refine hK _ ?_; clear hK K))
          (refine walkB_ex (fun K hK => ?_); refine ⟨fun W hC hd R hR => ?_, ?_⟩; (have hqx := (HB.out.below hC.2).cells0; have hqh := (HX.out.below hC.2).cells0; clear hd; go_simp; exact hR _ _ (Below.refl _ _) rfl); (go_simp; refine hK _ ?_; clear hK K))
          (refine walkB_ex (fun K hK => ?_); refine ⟨fun W hC hd R hR => ?_, ?_⟩; (have hqx := (HB.out.below hC.2).cells0; have hqh := (HX.out.below hC.2).cells0; clear hd; go_simp; exact hR _ _ (Below.refl _ _) rfl); (go_simp; refine hK _ ?_; clear hK K))
          (refine walkB_ex (fun K hK => ?_); refine ⟨fun W hC hd R hR => ?_, ?_⟩; (have hqx := (HB.out.below hC.2).cells0; have hqh := (HX.out.below hC.2).cells0; clear hd; go_simp; exact hR _ _ (Below.refl _ _) rfl); (go_simp; refine hK _ ?_; clear hK K))
          (refine walkB_ex (fun K hK => ?_); refine ⟨fun W hC hd R hR => ?_, ?_⟩; (have hqx := (HB.out.below hC.2).cells0; have hqh := (HX.out.below hC.2).cells0; clear hd; go_simp; exact hR _ _ (Below.refl _ _) rfl); (go_simp; refine hK _ ?_; clear hK K))
          (refine walkB_ex (fun K hK => ?_); refine ⟨fun W hC hd R hR => ?_, ?_⟩; (have HpW := Lib.hid (H0.out.below (bel_call HB.out.bel hC.2)); clear hd; go_simp; go_at_call 17; refine (rhome_any _ l x _ _ HpW.out Hok.out Hm.out).mono ?_; rw [Hho.out]; rintro e w9 ⟨rfl, hb9⟩; exact ⟨_, rfl, hR _ _ hb9 rfl⟩); (go_simp; refine hK _ ?_; clear hK K))
          (refine walkB_ex (fun K hK => ?_); refine ⟨fun W hC hd R hR => ?_, ?_⟩; (have hqx := (HB.out.below hC.2).cells0; have hqh := (HX.out.below hC.2).cells0; clear hd; go_simp; exact hR _ _ (Below.refl _ _) rfl); (go_simp; refine hK _ ?_; clear hK K))
          (refine walkB_ex (fun K hK => ?_); refine ⟨fun W hC hd R hR => ?_, ?_⟩; (have hqx := (HB.out.below hC.2).cells0; have hqh := (HX.out.below hC.2).cells0; clear hd; go_simp; exact hR _ _ (Below.refl _ _) rfl); (go_simp; refine hK _ ?_; clear hK K))
          (refine walkB_ex (fun K hK => ?_); refine ⟨fun W hC hd R hR => ?_, ?_⟩; (have hqx := (HB.out.below hC.2).cells0; have hqh := (HX.out.below hC.2).cells0; clear hd; go_simp; exact hR _ _ (Below.refl _ _) rfl); (go_simp; refine hK _ ?_; clear hK K))
          intro wl hC _
          have Hf := Lib.hid (bel_call HB.out.bel hC.2)
          clear hC heq
          go_wp2
          go_ret
          exact ⟨rfl, Hf.out⟩
      · have HHe : Hid (homeE l x = (⟨0, 0, 0, 0, 0⟩, ke)) := by show _ = _; unfold homeE; rw [Hke.out, if_pos hk]
        obtain ⟨rfl, rfl⟩ : h = ⟨0, 0, 0, 0, 0⟩ ∧ he = ke := by have := HH.out; rw [HHe.out] at this; injection this with h1 h2; exact ⟨h1.symm, h2.symm⟩
        have k1 : (he == 0) = false := beq_eq_false_iff_ne.2 hk
        have k2 : (he != 0) = true := bne_iff_ne.2 hk
        clear hk
        rcases hr with hr | hr
        · have hr1 : decide (f < 0) = true := decide_eq_true hr
          have heq := calleq_self ⟨0, 0, 0, 0, 0⟩
          dsimp only at heq
          have hqx := HB.out.cells0
          have hqh := HX.out.cells0
          have Hf := Lib.hid HB.out.bel
          go_wp2
          go_ret
          exact ⟨rfl, Hf.out⟩
        · have hr0 : decide (f < 0) = false := decide_eq_false (by omega)
          have hr1 : decide (4 < f) = true := decide_eq_true hr
          have heq := calleq_self ⟨0, 0, 0, 0, 0⟩
          dsimp only at heq
          have hqx := HB.out.cells0
          have hqh := HX.out.cells0
          have Hf := Lib.hid HB.out.bel
          go_wp2
          go_ret
          exact ⟨rfl, Hf.out⟩
    · have r0 : decide (f < 0) = false := decide_eq_false (by omega)
      have r1 : decide (4 < f) = false := decide_eq_false (by omega)
      obtain ⟨hcc, rfl⟩ : cutsOf l f = C ∧ ce = 0 := by
        have h1 := HC.out
        unfold cutsE at h1
        rw [if_neg (by rw [Hpe.out]; simp), if_neg (by omega)] at h1
        injection h1 with h1 h2
        exact ⟨h1, h2.symm⟩
      have Hcc := Lib.hid hcc
      clear hcc hr
      by_cases hk : ke = 0
      · subst hk
        have Hho : Hid (homeOf l x = h) := by have := HH.out; unfold homeE at this; rw [if_neg (by rw [Hke.out]; simp), if_neg (by rw [Hpe.out]; simp)] at this; injection this
        obtain rfl : he = 0 := by have := HH.out; unfold homeE at this; rw [if_neg (by rw [Hke.out]; simp), if_neg (by rw [Hpe.out]; simp)] at this; injection this with _ h2; exact h2.symm
        have hqx := HB.out.cells0
        have hqh := HX.out.cells0
        go_wp2_with fail
        clear hqx hqh
        refine (rcuts_any _ l f _ _ (H0.out.below HB.out.bel) Hok.out Hm.out).mono ?_
        rw [Hcc.out]
        rintro e wu ⟨vu, rfl, hou, hbu⟩
        have RU : Hid (RdInts wu (fun _ => True) vu C) := OwnSl.sl hou (D := fun _ => True) (fun _ _ => trivial)
        obtain ⟨au, cu, rfl⟩ := hou.slice
        replace HB := Lib.hid (HB.out.below hbu)
        replace HX := Lib.hid (HX.out.below hbu)
        replace R1 := Lib.hid (R1.out.below hbu)
        clear hou hbu
        go_wp2_with fail
        refine (eqints_any _ _ C C _ _ R1.out RU.out).mono ?_
        rw [decide_eq_true (rfl : C = C)]
        rintro e wv ⟨rfl, hbv⟩
        replace HB := Lib.hid (HB.out.below hbv)
        replace HX := Lib.hid (HX.out.below hbv)
        clear hbv RU R1
        have hqx := HB.out.cells0
        have hqh := HX.out.cells0
        have heq := calleq_self h
        go_wp2_with fail
        refine wp_region_B [ex (.int .i64 0), ex (.bool true), ex (.bool true), ex (callV h), ex (.slice a0 l.length c0), ex (callV x), ex (callV h), ex (.bool true), ex (.bool true), ex (.bool true)] _ (Nat.le_refl _) (by kernel_rfl) (by kernel_rfl) ⟨.inl ⟨_, rfl⟩, .inl ⟨_, rfl⟩, .inl ⟨_, rfl⟩, .inl ⟨_, rfl⟩, .inl ⟨_, rfl⟩, .inl ⟨_, rfl⟩, .inl ⟨_, rfl⟩, .inl ⟨_, rfl⟩, .inl ⟨_, rfl⟩, .inl ⟨_, rfl⟩, trivial⟩ ?_
        (refine walkB_ex (fun K hK => ?_); refine ⟨fun W hC hd R hR => ?_, ?_⟩; (have hqx := (HB.out.below hC.2).cells0; have hqh := (HX.out.below hC.2).cells0; clear hd; go_simp; exact hR _ _ (Below.refl _ _) rfl); (go_simp; refine hK _ ?_; clear hK K))
        (refine walkB_ex (fun K hK => ?_); refine ⟨fun W hC hd R hR => ?_, ?_⟩; (have hqx := (HB.out.below hC.2).cells0; have hqh := (HX.out.below hC.2).cells0; clear hd; go_simp; exact hR _ _ (Below.refl _ _) rfl); (go_simp; refine hK _ ?_; clear hK K))
        (refine walkB_ex (fun K hK => ?_); refine ⟨fun W hC hd R hR => ?_, ?_⟩; (have hqx := (HB.out.below hC.2).cells0; have hqh := (HX.out.below hC.2).cells0; clear hd; go_simp; exact hR _ _ (Below.refl _ _) rfl); (go_simp; refine hK _ ?_; clear hK K))
        (refine walkB_ex (fun K hK => ?_); refine ⟨fun W hC hd R hR => ?_, ?_⟩; (have hqx := (HB.out.below hC.2).cells0; have hqh := (HX.out.below hC.2).cells0; clear hd; go_simp; exact hR _ _ (Below.refl _ _) rfl); (go_simp; refine hK _ ?_; clear hK K))
        (refine walkB_ex (fun K hK => ?_); refine ⟨fun W hC hd R hR => ?_, ?_⟩; (have hqx := (HB.out.below hC.2).cells0; have hqh := (HX.out.below hC.2).cells0; clear hd; go_simp; exact hR _ _ (Below.refl _ _) rfl); (go_simp; refine hK _ ?_; clear hK K))
        (refine walkB_ex (fun K hK => ?_); refine ⟨fun W hC hd R hR => ?_, ?_⟩; (have hqx := (HB.out.below hC.2).cells0; have hqh := (HX.out.below hC.2).cells0; clear hd; go_simp; exact hR _ _ (Below.refl _ _) rfl); (go_simp; refine hK _ ?_; clear hK K))
        (refine walkB_ex (fun K hK => ?_); refine ⟨fun W hC hd R hR => ?_, ?_⟩; (have HpW := Lib.hid (H0.out.below (bel_call HB.out.bel hC.2)); clear hd; go_simp; go_at_call 17; refine (rhome_any _ l x _ _ HpW.out Hok.out Hm.out).mono ?_; rw [Hho.out]; rintro e w9 ⟨rfl, hb9⟩; exact ⟨_, rfl, hR _ _ hb9 rfl⟩); (go_simp; refine hK _ ?_; clear hK K))
        (refine walkB_ex (fun K hK => ?_); refine ⟨fun W hC hd R hR => ?_, ?_⟩; (have hqx := (HB.out.below hC.2).cells0; have hqh := (HX.out.below hC.2).cells0; clear hd; go_simp; exact hR _ _ (Below.refl _ _) rfl); (go_simp; refine hK _ ?_; clear hK K))
        (refine walkB_ex (fun K hK => ?_); refine ⟨fun W hC hd R hR => ?_, ?_⟩; (have hqx := (HB.out.below hC.2).cells0; have hqh := (HX.out.below hC.2).cells0; clear hd; go_simp; exact hR _ _ (Below.refl _ _) rfl); (go_simp; refine hK _ ?_; clear hK K))
        (refine walkB_ex (fun K hK => ?_); refine ⟨fun W hC hd R hR => ?_, ?_⟩; (have hqx := (HB.out.below hC.2).cells0; have hqh := (HX.out.below hC.2).cells0; clear hd; go_simp; exact hR _ _ (Below.refl _ _) rfl); (go_simp; refine hK _ ?_; clear hK K))
        intro wl hC _
        have Hf := Lib.hid (bel_call HB.out.bel hC.2)
        clear hC heq
        go_wp2
        go_ret
        exact ⟨rfl, Hf.out⟩
      · have HHe : Hid (homeE l x = (⟨0, 0, 0, 0, 0⟩, ke)) := by show _ = _; unfold homeE; rw [Hke.out, if_pos hk]
        obtain ⟨rfl, rfl⟩ : h = ⟨0, 0, 0, 0, 0⟩ ∧ he = ke := by have := HH.out; rw [HHe.out] at this; injection this with h1 h2; exact ⟨h1.symm, h2.symm⟩
        have k1 : (he == 0) = false := beq_eq_false_iff_ne.2 hk
        have k2 : (he != 0) = true := bne_iff_ne.2 hk
        clear hk
        have hqx := HB.out.cells0
        have hqh := HX.out.cells0
        go_wp2_with fail
        clear hqx hqh
        refine (rcuts_any _ l f _ _ (H0.out.below HB.out.bel) Hok.out Hm.out).mono ?_
        rw [Hcc.out]
        rintro e wu ⟨vu, rfl, hou, hbu⟩
        have RU : Hid (RdInts wu (fun _ => True) vu C) := OwnSl.sl hou (D := fun _ => True) (fun _ _ => trivial)
        obtain ⟨au, cu, rfl⟩ := hou.slice
        replace HB := Lib.hid (HB.out.below hbu)
        replace HX := Lib.hid (HX.out.below hbu)
        replace R1 := Lib.hid (R1.out.below hbu)
        clear hou hbu
        go_wp2_with fail
        refine (eqints_any _ _ C C _ _ R1.out RU.out).mono ?_
        rw [decide_eq_true (rfl : C = C)]
        rintro e wv ⟨rfl, hbv⟩
        replace HB := Lib.hid (HB.out.below hbv)
        replace HX := Lib.hid (HX.out.below hbv)
        clear hbv RU R1
        have heq := calleq_self ⟨0, 0, 0, 0, 0⟩
        dsimp only at heq
        have hqx := HB.out.cells0
        have hqh := HX.out.cells0
        have Hf := Lib.hid HB.out.bel
        go_wp2
        go_ret
        exact ⟨rfl, Hf.out⟩
  · obtain ⟨rfl, rfl⟩ : C = [] ∧ ce = pe := by
      have h1 := HC.out
      unfold cutsE at h1
      rw [Hpe.out, if_pos hp] at h1
      injection h1 with h1 h2
      exact ⟨h1.symm, h2.symm⟩
    have hl0 : ([] : List Int).length = 0 := rfl
    have p1 : (ce == 0) = false := beq_eq_false_iff_ne.2 hp
    have p2 : (ce != 0) = true := bne_iff_ne.2 hp
    by_cases hk : ke = 0
    · subst hk
      have HHe : Hid (homeE l x = (⟨0, 0, 0, 0, 0⟩, ce)) := by show _ = _; unfold homeE; rw [if_neg (by rw [Hke.out]; simp), Hpe.out, if_pos hp]
      obtain ⟨rfl, rfl⟩ : h = ⟨0, 0, 0, 0, 0⟩ ∧ he = ce := by have := HH.out; rw [HHe.out] at this; injection this with h1 h2; exact ⟨h1.symm, h2.symm⟩
      clear hp
      have heq := calleq_self ⟨0, 0, 0, 0, 0⟩
      dsimp only at heq
      have hqx := HB.out.cells0
      have hqh := HX.out.cells0
      have Hf := Lib.hid HB.out.bel
      go_wp2
      go_ret
      exact ⟨rfl, Hf.out⟩
    · have HHe : Hid (homeE l x = (⟨0, 0, 0, 0, 0⟩, ke)) := by show _ = _; unfold homeE; rw [Hke.out, if_pos hk]
      obtain ⟨rfl, rfl⟩ : h = ⟨0, 0, 0, 0, 0⟩ ∧ he = ke := by have := HH.out; rw [HHe.out] at this; injection this with h1 h2; exact ⟨h1.symm, h2.symm⟩
      have k1 : (he == 0) = false := beq_eq_false_iff_ne.2 hk
      have k2 : (he != 0) = true := bne_iff_ne.2 hk
      clear hk hp
      have heq := calleq_self ⟨0, 0, 0, 0, 0⟩
      dsimp only at heq
      have hqx := HB.out.cells0
      have hqh := HX.out.cells0
      have Hf := Lib.hid HB.out.bel
      go_wp2
      go_ret
      exact ⟨rfl, Hf.out⟩
end Go.Proofs.YtioeliocdbckbaaDoor
