/- PolicyFirst returns true at every policy, call and rules more. Condition: Laid; the rules' bytes are within reach. -/
import Derived.Test.YtlhhomimcnjnfaaDoorDeleteRule
import Derived.Test.YtlhhomimcnjnfaaDoorInit
import Derived.Test.YtlhhomimcnjnfaaDoorMade
import Derived.Test.YtlhhomimcnjnfaaDoorRight
import Derived.Test.YtlhhomimcnjnfaaDoorFirstSpec
import Derived.Test.YtlhhomimcnjnfaaDoorBx
import Derived.Test.YtlhhomimcnjnfaaDoorJudge3
namespace Go.Proofs.YtlhhomimcnjnfaaDoor
open Go.RowKit
attribute [local go_sem] gives givesUpon

theorem ruleR_one {w : World} {D : Nat → Prop} (y : TRule) (cs : List Value) (h : ruleR w D y cs) : ∀ c ∈ cs, c.oneCell' = true := by
  obtain ⟨v, rfl, h⟩ := h
  obtain ⟨a, c, rfl, _⟩ := Sl.form h
  intro u hu
  simp at hu
  rcases hu with rfl | rfl <;> rfl
/-- rows of rules whose conditions lie in a world behind. -/
theorem rules_of {w W : World} {D : Nat → Prop} {v : Value} {l : List TRule} (h : Sl W D 2 (ruleR w (fun _ => True)) v l) (hb : Below w.heap.size w W) : RdRules W (fun _ => True) v l :=
  Sl.mono h (fun _ _ _ => trivial) (fun _ _ _ => rfl) (Nat.le_refl _) (fun _ _ _ ⟨u, h1, h2⟩ => ⟨u, h1, h2.below hb⟩)

theorem lenTo_2 {α : Type} (a b : List α) : lenTo [a, b] [a, b].length = a.length + b.length := by simp [lenTo]
/-- the facts beside the new policy's variable: the copy, and what is left of it. -/
def eraseG (B : Nat) (R : TRule → List Value → Prop) (L : List TRule) (i k : Nat) (done : Nat → Bool) (vf : Nat → Value) (W : World) : Prop :=
  if k = 2 then (done 6 = false → OwnSl W B 41 2 R (vf 2) L) else if k = 6 then OwnSl W B 41 2 R (vf 6) (L.take i ++ L.drop (i + 1)) else True
theorem eraseG_keep {B : Nat} {R : TRule → List Value → Prop} {L : List TRule} {j i k : Nat} {done : Nat → Bool} {vf : Nat → Value} {w w' : World} (hki : k ≠ i) (hi : InitT (if i = 11 then [24] else (fun i => if i = 6 then [41] else []) i) w w') (h : eraseG B R L j k done vf w) : eraseG B R L j k (updDone done i) vf w' := by
  have key : i ≠ 6 → 41 ∉ (if i = 11 then [24] else (fun i => if i = 6 then [41] else []) i) := fun h => by
    dsimp only
    rw [if_neg h]
    split <;> simp
  unfold eraseG at h ⊢
  split
  · rename_i e
    rw [if_pos e] at h
    intro hd
    unfold updDone at hd
    split at hd
    · cases hd
    · rename_i h6
      exact (h hd).init hi (key (fun e => h6 e.symm))
  · rename_i e
    rw [if_neg e] at h
    split
    · rename_i e2
      rw [if_pos e2] at h
      exact h.init hi (key (fun e3 => hki (e2.trans e3.symm)))
    · trivial
theorem first_arg {W : World} {R : TRule → List Value → Prop} {b : Nat} {s1 s2 : Value} {L1 L2 : List TRule} {T : TypeId} (hb : W.heap[b]? = some (.cells #[s1, s2] T)) (h1 : Sl W (fun _ => True) 2 R s1 L1) (h2 : Sl W (fun _ => True) 2 R s2 L2) : Sl W (fun _ => True) 1 (rowsRRule R W (fun _ => True)) (.slice (some ⟨b, 0, none⟩) 2 2) [L1, L2] :=
  sl_block (xs := [L1, L2]) (rows := [[s1], [s2]]) (RowsOf.cons (RowsOf.cons RowsOf.nil ⟨_, rfl, h2⟩ rfl) ⟨_, rfl, h1⟩ rfl) hb rfl trivial (by simp [maxLen])
/-- the facts beside the new policy's variable: the two lists, and what they are together. -/
def firstG (B : Nat) (R : TRule → List Value → Prop) (s1 s2 : Value) (L : List TRule) (k : Nat) (_ : Nat → Bool) (vf : Nat → Value) (W : World) : Prop :=
  if k = 6 then ∃ b, vf 6 = .slice (some ⟨b, 0, none⟩) 2 2 ∧ B ≤ b ∧ W.heap[b]? = some (.cells #[s1, s2] 22) else if k = 7 then OwnSl W B 41 2 R (vf 7) L else True
theorem firstG_keep {B : Nat} {R : TRule → List Value → Prop} {s1 s2 : Value} {L : List TRule} {k : Nat} {done done' : Nat → Bool} {vf : Nat → Value} {w w' : World} {ts : List TypeId} (hi : InitT ts w w') (h1 : 22 ∉ ts) (h2 : 41 ∉ ts) (h : firstG B R s1 s2 L k done vf w) : firstG B R s1 s2 L k done' vf w' := by
  unfold firstG at h ⊢
  split
  · rename_i e
    rw [if_pos e] at h
    obtain ⟨b, hv, hb, hc⟩ := h
    exact ⟨b, hv, hb, blk_init hc hi h1⟩
  · rename_i e
    rw [if_neg e] at h
    split
    · rename_i e2
      rw [if_pos e2] at h
      exact h.init hi h2
    · trivial

set_option maxRecDepth 100000 in
set_option maxHeartbeats 4000000 in
theorem policyFirst_walk {w : World} (hL : Laid w) (u0 : Value) (t0 : TPol) (rd0 : RdRules w (fun _ => True) u0 t0.rules) (x : TCall) (v2 : Value) (l2 : List TRule) (rd2 : RdRules w (fun _ => True) v2 l2) (rc2 : l2.length * 32 ≤ 140737488351232) :
    Calls Tryd.prog 4 #[polV u0 t0.dflt, callV x, v2] w fun e w' => e = .returned (.bool true) ∧ Below w.heap.size w w' := by
  have HL := Lib.hid hL
  have H0 := Lib.hid rd0
  have H2 := Lib.hid rd2
  obtain ⟨a0, c0, rfl, hlc0, _, hat0⟩ := Sl.form rd0
  obtain ⟨a2, c2, rfl, _, _, hat2⟩ := Sl.form rd2
  clear hL rd0 rd2
  go_enter Tryd.func4, Tryd.ntmps4
  go_wp2_with fail
  refine (right_any x _).mono ?_
  rintro e w0 ⟨rfl, hb0⟩
  have HB0 := Lib.hid (Bx.two.below hb0)
  have hcell := HB0.out.cells1
  have hfr := HB0.out.free1
  have hcell0 := HB0.out.cells0
  have HB1 := Lib.hid (HB0.out.setCall1 (y := x.right))
  have hset0 := HB1.out.cells0
  clear hb0
  go_wp2_with fail
  clear hcell hfr hcell0 hset0
  revert HB1
  generalize hwz : (((((w0.setCell ⟨w.heap.size + 1, 0, none⟩ (.int .i64 x.right.a0)).setCell ⟨w.heap.size + 1, 1, none⟩ (.int .i64 x.right.a1)).setCell ⟨w.heap.size + 1, 2, none⟩ (.int .i64 x.right.a2)).setCell ⟨w.heap.size + 1, 3, none⟩ (.int .i64 x.right.a3)).setCell ⟨w.heap.size + 1, 4, none⟩ (.int .i64 x.right.a4)) = wz
  clear hwz
  intro HB1
  obtain ⟨⟨V, K, E⟩, hJ⟩ : ∃ J, judgeE t0 x.right = J := ⟨_, rfl⟩
  have HJ := Lib.hid hJ
  clear hJ
  refine (judge_any _ t0 x.right _ _ (RdRules.below H0.out HB1.out.bel)).mono ?_
  rw [HJ.out]
  rintro e w1 ⟨rfl, hb1⟩
  have HB2 := Lib.hid (HB1.out.below hb1)
  clear hb1
  go_wp2_with fail
  refine (judged_walk _ (HL.out.below HB2.out.bel)).mono ?_
  rintro e w2 ⟨rfl, hb2⟩
  have HB3 := Lib.hid (HB2.out.below hb2)
  clear hb2
  by_cases h0 : E = 0
  · subst h0
    obtain ⟨hok, _, hje⟩ := judgeE_ok (p := t0) (x := x.right) (by rw [HJ.out])
    obtain ⟨k, hk⟩ : ∃ k : Nat, which x.right t0.rules = k := ⟨_, rfl⟩
    have hVK : (V, K, (0 : Int)) = (verdictAt t0 k, (k : Int), 0) := by rw [← HJ.out, hje]; unfold judged; rw [hk]
    simp only [Prod.mk.injEq] at hVK
    obtain ⟨rfl, rfl, _⟩ := hVK
    have Hok := Lib.hid hok
    have Hk := Lib.hid hk
    have hkl : k ≤ t0.rules.length := by rw [← hk]; exact which_le _ _
    have hn := hok.len
    obtain ⟨V, hV⟩ : ∃ V, verdictAt t0 k = V := ⟨_, rfl⟩
    have HV := Lib.hid hV
    rw [hV]
    clear hok hje hk hV
    have hc0 := HB3.out.cells0
    have hc1 := HB3.out.cells1
    obtain ⟨m, hm⟩ : ∃ m : Nat, m = min k 12 := ⟨_, rfl⟩
    have hm1 : m ≤ k := by omega
    have hm2 : min (k : Int) 12 = (m : Int) := by omega
    clear hm
    rcases Nat.lt_or_ge k t0.rules.length with hlt | hlt
    case' inl =>
      have hk2 : ((k : Int) + 1).toNat = k + 1 := by omega
      have hk3 : IntKind.i64.wrap ((k : Int) + 1) = (k : Int) + 1 := by rw [IntKind.wrap_i64]; omega
      have hk4 : (0 : Int) ≤ (k : Int) + 1 := by omega
      have hk5 : (k : Int) + 1 ≤ (c0 : Int) := by omega
      go_wp2_with fail
      have HS : Hid (∀ W, Cls (w.heap.size + 2) w2 W → Below w.heap.size w W ∧ ∀ j, W.cell? ⟨w.heap.size, j, none⟩ = (#[Value.slice a0 t0.rules.length c0, .int .i64 t0.dflt] : Array Value)[j]?) := fun W hW => by
        have hb : Bx w _ W := ⟨HB3.out.bel.trans (hW.2.mono (by omega)), fun i o ho => (hW.2.block _ (by have := (List.getElem?_eq_some_iff.1 ho).1; simp at this; omega)).trans (HB3.out.at_ i o ho)⟩
        exact ⟨hb.bel, hb.cells0⟩
      have hz : w.heap.size + 2 ≤ w2.heap.size := HB3.out.size (i := 1) (by simp)
      have hal := hat0 (by omega)
      obtain ⟨b00, o00, rfl, _, _⟩ := hal
      refine wp_region_init (w.heap.size + 2) hz 24 2 (fun _ => []) 11 12 (fun vf => #[vf 7, .int .i64 t0.dflt]) (firstG (w.heap.size + 2) (ruleR w (fun _ => True)) (.slice (some ⟨b00, o00, none⟩) (k + 1) c0) (.slice a2 l2.length c2) (t0.rules.take (k + 1) ++ l2))
        (by kernel_rfl) (by kernel_rfl) _ rfl (by decide) (fun _ => by simp) (fun _ => rfl) (fun i k _ _ _ _ _ _ _ hi h => firstG_keep hi (by split <;> simp) (by split <;> simp) h) (fun k _ f g _ hfg hk h => ?_) (fun f g h => ?_) ?_
      · unfold firstG at h ⊢
        split
        · rename_i e; subst e; rw [if_pos rfl] at h; rw [← hk]; exact h
        · rename_i e
          rw [if_neg e] at h
          split
          · rename_i e; subst e; rw [if_pos rfl] at h; rw [← hk]; exact h
          · trivial
      · show #[f 7, _] = #[g 7, _]
        rw [h 7 (by decide)]
      have H1L : Hid (Sl w (fun _ => True) 2 (ruleR w (fun _ => True)) (.slice (some ⟨b00, o00, none⟩) (k + 1) c0) (t0.rules.take (k + 1))) := Sl.take H0.out (by omega)
      have HLn : Hid (lenTo [t0.rules.take (k + 1), l2] [t0.rules.take (k + 1), l2].length * 32 ≤ 140737488355328) := by show _ ≤ _; rw [lenTo_2, List.length_take]; omega
      iterate 6 (refine rel_ex (fun K hK => ?_); apply Exists.intro; refine ⟨fun done vf W hI h0 hd hn hf R hR => ?_, ?_, ?_⟩; (have hcell := (HS.out W hI).2; clear h0 hd hn hf; go_simp; exact hR _ _ (Cls.step hI (Below.refl _ _)) (initT.plain (Below.refl _ _) (by decide)) rfl trivial); exact (fun _ _ _ => rfl); (go_simp; refine hK _ ?_; clear hK K))
      (refine rel_pr (fun K hK => ?_); refine ⟨fun done vf W hI h0 hd hn hf R hR => ?_, ?_⟩; (clear h0 hd hn hf; go_simp; exact hR _ _ (Cls.step hI (bel_alloc (Below.refl _ _) _)) (initT.plain (bel_alloc (Below.refl _ _) _) (by decide)) trivial ⟨_, rfl, hI.1, heap_last _ _⟩); (go_simp; refine hK _ ?_; clear hK K))
      (refine rel_pr (fun K hK => ?_); refine ⟨fun done vf W hI h0 hd hn hf R hR => ?_, ?_⟩; (have h6 : firstG (w.heap.size + 2) (ruleR w (fun _ => True)) (.slice (some ⟨b00, o00, none⟩) (k + 1) c0) (.slice a2 l2.length c2) (t0.rules.take (k + 1) ++ l2) 6 done vf W := hf 6 (hd 6 (by decide)); obtain ⟨b6, h6, hb6, hc6⟩ := h6; have Hc6 := Lib.hid hc6; have HW := Lib.hid (HS.out W hI).1; clear h0 hd hn hf hc6; go_simp; go_at_call 19; refine (concatRule_any (ruleR w (fun _ => True)) (fun y cs h => ruleR_one y cs h) (.slice (some ⟨b6, 0, none⟩) 2 2) [t0.rules.take (k + 1), l2] (fun _ => True) W (first_arg Hc6.out (H1L.out.belowR HW.out (fun _ _ _ h => h)) (H2.out.belowR HW.out (fun _ _ _ h => h))) HLn.out).mono ?_; (rintro e w3 ⟨v3, rfl, ho3, hb3⟩; exact ⟨_, rfl, hR _ _ (Cls.step hI hb3) (initT.plain hb3 (by decide)) trivial (show OwnSl w3 (w.heap.size + 2) 41 2 (ruleR w (fun _ => True)) v3 (t0.rules.take (k + 1) ++ l2) by have := ho3.base hI.1; simpa using this)⟩)); (go_simp; refine hK _ ?_; clear hK K))
      iterate 2 (refine rel_ex (fun K hK => ?_); apply Exists.intro; refine ⟨fun done vf W hI h0 hd hn hf R hR => ?_, ?_, ?_⟩; (have hcell := (HS.out W hI).2; clear h0 hd hn hf; go_simp; exact hR _ _ (Cls.step hI (Below.refl _ _)) (initT.plain (Below.refl _ _) (by decide)) rfl trivial); exact (fun _ _ _ => rfl); (go_simp; refine hK _ ?_; clear hK K))
      (refine rel_ex (fun K hK => ?_); refine ⟨fun vf => .agg #[vf 7, .int .i64 t0.dflt], fun done vf W hI h0 hd hn hf R hR => ?_, ?_, ?_⟩; (have h7 : OwnSl W (w.heap.size + 2) 41 2 (ruleR w (fun _ => True)) (vf 7) (t0.rules.take (k + 1) ++ l2) := hf 7 (hd 7 (by decide)); obtain ⟨a7, c7, h7⟩ := h7.slice; generalize (t0.rules.take (k + 1) ++ l2).length = n7 at h7; clear h0 hd hn hf; go_simp; exact hR _ _ (Cls.step hI (Below.refl _ _)) (initT.plain (Below.refl _ _) (by decide)) (by show _ = Value.agg #[vf 7, .int .i64 t0.dflt]; rw [h7]) trivial); exact (fun f g h => by show Value.agg #[f 7, _] = Value.agg #[g 7, _]; rw [h 7 (by decide)]); (go_simp; refine hK _ ?_; clear hK K))
      (refine rel_pr (fun K hK => ?_); refine ⟨fun done vf W hI h0 hd hn hf R hR => ?_, ?_⟩; (clear h0 hd hn hf; go_simp; exact hR _ _ (Cls.step hI (bel_alloc (Below.refl _ _) _)) (initT.plain (bel_alloc (Below.refl _ _) _) (by decide)) trivial ⟨_, rfl, hI.1, _, rfl, heap_last _ _⟩); (go_simp; refine hK _ ?_; clear hK K))
      (refine rel_pr (fun K hK => ?_); refine ⟨fun done vf W hI h0 hd hn hf R hR => ?_, ?_⟩; (have h11 : VarAt (w.heap.size + 2) 24 2 (vf 11) W := hf 11 (hd 11 (by decide)); obtain ⟨b11, h11, hb11, cs, hcs, hc11⟩ := h11; obtain ⟨c11, d11, rfl⟩ := two_cells hcs; have hce := cells_of hc11; have hfe := not_frozen hc11; have Hc11 := Lib.hid hc11; have h7 : OwnSl W (w.heap.size + 2) 41 2 (ruleR w (fun _ => True)) (vf 7) (t0.rules.take (k + 1) ++ l2) := hf 7 (hd 7 (by decide)); obtain ⟨a7, c7, h7⟩ := h7.slice; generalize (t0.rules.take (k + 1) ++ l2).length = n7 at h7; have Hst : Hid (((W.setCell ⟨b11, 0, none⟩ (.slice a7 n7 c7)).setCell ⟨b11, 1, none⟩ (.int .i64 t0.dflt)).heap[b11]? = some (.cells #[.slice a7 n7 c7, .int .i64 t0.dflt] 24)) := set_at (set_at hc11); have H7 := Lib.hid h7; clear h0 hd hn hf hc11 hcs; go_simp; exact hR _ _ ⟨by simp only [set_size]; exact hI.1, set_below (set_below hI.2 hb11) hb11⟩ ⟨InitT.trans (.of_set (by simp) Hc11.out) (.of_set (by simp) (set_at Hc11.out)), fun _ => ⟨b11, h11, by show _ = some (Obj.cells #[vf 7, .int .i64 t0.dflt] _); rw [H7.out]; exact Hst.out⟩⟩ trivial ⟨b11, h11, by show _ = some (Obj.cells #[vf 7, .int .i64 t0.dflt] _); rw [H7.out]; exact Hst.out⟩); (go_simp; refine hK _ ?_; clear hK K))
      intro done vf w3 hd hI hF
      have h12 : VarIs 24 (vf 11) #[vf 7, .int .i64 t0.dflt] w3 := hF 12 (by decide)
      have h7 : OwnSl w3 (w.heap.size + 2) 41 2 (ruleR w (fun _ => True)) (vf 7) (t0.rules.take (k + 1) ++ l2) := hF 7 (by decide)
      obtain ⟨b11, h11, hc11⟩ := h12
      have HB4 := Lib.hid (HB3.out.lift hI.2 (by simp))
      obtain ⟨a7, c7, h7f⟩ := h7.slice
      have HR7 : Hid (RdRules w3 (fun _ => True) (vf 7) (t0.rules.take (k + 1) ++ l2)) := rules_of (h7.sl fun _ _ => trivial) HB4.out.bel
      generalize (t0.rules.take (k + 1) ++ l2).length = n7 at h7f
      have HR8 : Hid (RdRules w3 (fun _ => True) (.slice a7 n7 c7) (t0.rules.take (k + 1) ++ l2)) := by show RdRules _ _ _ _; rw [← h7f]; exact HR7.out
      have hcb := cells_of hc11
      have hc1' := HB4.out.cells1
      clear hd hI hF h7 hc11 HS hc0 hc1 H1L HLn HR7 hk2 hk3 hk4 hk5
      go_wp2_with fail
      obtain ⟨⟨V2, K2, E2⟩, hJ2⟩ : ∃ J, judgeE ⟨t0.rules.take (k + 1) ++ l2, t0.dflt⟩ x.right = J := ⟨_, rfl⟩
      have HJ2 := Lib.hid hJ2
      clear hJ2
      refine (judge_any (.slice a7 n7 c7) ⟨t0.rules.take (k + 1) ++ l2, t0.dflt⟩ x.right _ _ HR8.out).mono ?_
      rw [HJ2.out]
      rintro e w4 ⟨rfl, hb4⟩
      have HB5 := Lib.hid (HB4.out.below hb4)
      clear hb4 hcb hc1'
      rcases Int.decEq E2 0 with he2 | he2
      case' isTrue =>
        subst he2
        have hJ2 : judgeE ⟨t0.rules.take (k + 1) ++ l2, t0.dflt⟩ x.right = judgeE t0 x.right := by
          obtain ⟨hok2, _, hje2⟩ := judgeE_ok (p := ⟨t0.rules.take (k + 1) ++ l2, t0.dflt⟩) (x := x.right) (by rw [HJ2.out])
          rw [hje2, judgeE_of Hok.out x.right_ok]
          have hw : which x.right (t0.rules.take (k + 1) ++ l2) = which x.right t0.rules := by
            have := which_first x.right t0.rules l2 (by rw [Hk.out]; exact hlt)
            rw [Hk.out] at this ⊢
            exact this
          have hv : verdictAt ⟨t0.rules.take (k + 1) ++ l2, t0.dflt⟩ (which x.right t0.rules) = verdictAt t0 (which x.right t0.rules) := by
            rw [Hk.out]; exact verdict_first t0 k l2 hlt
          unfold judged
          rw [hw, hv]
        rw [HJ2.out, HJ.out, HV.out] at hJ2
        replace hJ2 := hJ2.symm
        simp only [Prod.mk.injEq] at hJ2
        obtain ⟨rfl, rfl, _⟩ := hJ2
        go_wp2_with fail
        have HZ := HB5
        clear HB5
        generalize (some (⟨b00, o00, none⟩ : Addr)) = a0 at H0 HZ ⊢
      case' isFalse =>
        have b1 : (E2 == 0) = false := beq_eq_false_iff_ne.2 he2
        clear he2
        go_wp2_with fail
        have HZ := HB5
        clear HB5
        generalize (some (⟨b00, o00, none⟩ : Addr)) = a0 at H0 HZ ⊢
    case' inr =>
      have hb0 : decide (k < t0.rules.length) = false := decide_eq_false (by omega)
      go_wp2_with fail
      clear hc0 hc1
      have HZ := HB3
    all_goals
      go_loopw [72] (fun iv wr => ∃ j : Nat, iv = .int .i64 j ∧ j ≤ m ∧ Bx w [.cells #[.slice a0 t0.rules.length c0, .int .i64 t0.dflt] 24, .cells #[.int .i64 x.right.a0, .int .i64 x.right.a1, .int .i64 x.right.a2, .int .i64 x.right.a3, .int .i64 x.right.a4] 26] wr) (fun iv _ => m - (intOf iv).toNat)
      case atStart => exact ⟨0, rfl, Nat.zero_le _, HZ.out⟩
      case round =>
        obtain ⟨j, rfl, hj, hb⟩ := hrel
        have HBr := Lib.hid hb
        clear hb HZ
        by_cases hjm : j < m
        · have hk2 : ((j : Int) + 1).toNat = j + 1 := by omega
          have hk3 : IntKind.i64.wrap ((j : Int) + 1) = (j : Int) + 1 := by rw [IntKind.wrap_i64]; omega
          have hk4 : (0 : Int) ≤ (j : Int) + 1 := by omega
          have hz : w.heap.size + 2 ≤ wr.heap.size := HBr.out.size (i := 1) (by simp)
          go_wp2_with fail
          have HS : Hid (∀ W, Cls (w.heap.size + 2) wr W → Below w.heap.size w W ∧ ∀ j, W.cell? ⟨w.heap.size, j, none⟩ = (#[Value.slice a0 t0.rules.length c0, .int .i64 t0.dflt] : Array Value)[j]?) := fun W hW => by
            have hb := HBr.out.lift hW.2 (by simp)
            exact ⟨hb.bel, hb.cells0⟩
          refine wp_region_init (w.heap.size + 2) hz 24 2 (fun i => if i = 6 then [41] else []) 10 11 (fun vf => #[vf 6, .int .i64 t0.dflt]) (eraseG (w.heap.size + 2) (ruleR w (fun _ => True)) t0.rules j)
            (by kernel_rfl) (by kernel_rfl) _ rfl (by decide) (fun _ => by (try dsimp only); split <;> simp) (fun _ => rfl) (fun i k _ _ _ _ hki _ _ hi h => eraseG_keep hki hi h) (fun k _ f g _ hfg hk h => ?_) (fun f g h => ?_) ?_
          · unfold eraseG at h ⊢
            split
            · rename_i e; subst e; rw [if_pos rfl] at h; rw [← hk]; exact h
            · rename_i e
              rw [if_neg e] at h
              split
              · rename_i e; subst e; rw [if_pos rfl] at h; rw [← hk]; exact h
              · trivial
          · show #[f 6, _] = #[g 6, _]
            rw [h 6 (by decide)]
          iterate 2 (refine rel_ex (fun K hK => ?_); apply Exists.intro; refine ⟨fun done vf W hI h0 hd hn hf R hR => ?_, ?_, ?_⟩; (have hcell := (HS.out W hI).2; clear h0 hd hn hf; go_simp; exact hR _ _ (Cls.step hI (Below.refl _ _)) (initT.plain (Below.refl _ _) (by decide)) rfl trivial); exact (fun _ _ _ => rfl); (go_simp; refine hK _ ?_; clear hK K))
          (refine rel_pr (fun K hK => ?_); refine ⟨fun done vf W hI h0 hd hn hf R hR => ?_, ?_⟩; (have HW := Lib.hid (HS.out W hI).1; clear h0 hd hn hf; go_simp; go_at_call 21; refine (cloneRule_any (ruleR w (fun _ => True)) (fun y cs h => ruleR_one y cs h) _ t0.rules (fun _ => True) W (H0.out.belowR HW.out (fun _ _ _ h => h)) (by omega)).mono ?_; (rintro e w3 ⟨v3, rfl, ho3, hb3⟩; exact ⟨_, rfl, hR _ _ (Cls.step hI hb3) (initT.plain hb3 (by decide)) trivial (fun _ => (show OwnSl w3 (w.heap.size + 2) 41 2 (ruleR w (fun _ => True)) v3 t0.rules from ho3.base hI.1))⟩)); (go_simp; refine hK _ ?_; clear hK K))
          iterate 3 (refine rel_ex (fun K hK => ?_); apply Exists.intro; refine ⟨fun done vf W hI h0 hd hn hf R hR => ?_, ?_, ?_⟩; (have hcell := (HS.out W hI).2; clear h0 hd hn hf; go_simp; exact hR _ _ (Cls.step hI (Below.refl _ _)) (initT.plain (Below.refl _ _) (by decide)) rfl trivial); exact (fun _ _ _ => rfl); (go_simp; refine hK _ ?_; clear hK K))
          (refine rel_pr (fun K hK => ?_); refine ⟨fun done vf W hI h0 hd hn hf R hR => ?_, ?_⟩; (have h2 : done 6 = false → OwnSl W (w.heap.size + 2) 41 2 (ruleR w (fun _ => True)) (vf 2) t0.rules := hf 2 (hd 2 (by decide)); have H2' := Lib.hid (h2 h0); clear h2 h0 hd hn hf; go_simp; go_at_call 20; refine (deleteRule_any (fun y cs h => ruleR_one y cs h) _ t0.rules (w.heap.size + 2) j W H2'.out (by omega)).mono ?_; (rintro e w3 ⟨v3, rfl, ho3, hg3⟩; exact ⟨_, rfl, hR _ _ ⟨Nat.le_trans hI.1 hg3.size, H2'.out.grown hI.2 hg3 hI.1 (Nat.le_refl _)⟩ (initT.other (InitT.of_grown (T0 := 41) (by simp) hg3 H2'.out.typed) (by decide)) trivial (show OwnSl w3 (w.heap.size + 2) 41 2 (ruleR w (fun _ => True)) v3 _ from ho3)⟩)); (go_simp; refine hK _ ?_; clear hK K))
          iterate 2 (refine rel_ex (fun K hK => ?_); apply Exists.intro; refine ⟨fun done vf W hI h0 hd hn hf R hR => ?_, ?_, ?_⟩; (have hcell := (HS.out W hI).2; clear h0 hd hn hf; go_simp; exact hR _ _ (Cls.step hI (Below.refl _ _)) (initT.plain (Below.refl _ _) (by decide)) rfl trivial); exact (fun _ _ _ => rfl); (go_simp; refine hK _ ?_; clear hK K))
          (refine rel_ex (fun K hK => ?_); refine ⟨fun vf => .agg #[vf 6, .int .i64 t0.dflt], fun done vf W hI h0 hd hn hf R hR => ?_, ?_, ?_⟩; (have h7 : OwnSl W (w.heap.size + 2) 41 2 (ruleR w (fun _ => True)) (vf 6) (t0.rules.take j ++ t0.rules.drop (j + 1)) := hf 6 (hd 6 (by decide)); obtain ⟨a7, c7, h7⟩ := h7.slice; generalize (t0.rules.take j ++ t0.rules.drop (j + 1)).length = n7 at h7; clear h0 hd hn hf; go_simp; exact hR _ _ (Cls.step hI (Below.refl _ _)) (initT.plain (Below.refl _ _) (by decide)) (by show _ = Value.agg #[vf 6, .int .i64 t0.dflt]; rw [h7]) trivial); exact (fun f g h => by show Value.agg #[f 6, _] = Value.agg #[g 6, _]; rw [h 6 (by decide)]); (go_simp; refine hK _ ?_; clear hK K))
          (refine rel_pr (fun K hK => ?_); refine ⟨fun done vf W hI h0 hd hn hf R hR => ?_, ?_⟩; (clear h0 hd hn hf; go_simp; exact hR _ _ (Cls.step hI (bel_alloc (Below.refl _ _) _)) (initT.plain (bel_alloc (Below.refl _ _) _) (by decide)) trivial ⟨_, rfl, hI.1, _, rfl, heap_last _ _⟩); (go_simp; refine hK _ ?_; clear hK K))
          (refine rel_pr (fun K hK => ?_); refine ⟨fun done vf W hI h0 hd hn hf R hR => ?_, ?_⟩; (have h11 : VarAt (w.heap.size + 2) 24 2 (vf 10) W := hf 10 (hd 10 (by decide)); obtain ⟨b11, h11, hb11, cs, hcs, hc11⟩ := h11; obtain ⟨c11, d11, rfl⟩ := two_cells hcs; have hce := cells_of hc11; have hfe := not_frozen hc11; have Hc11 := Lib.hid hc11; have h7 : OwnSl W (w.heap.size + 2) 41 2 (ruleR w (fun _ => True)) (vf 6) (t0.rules.take j ++ t0.rules.drop (j + 1)) := hf 6 (hd 6 (by decide)); obtain ⟨a7, c7, h7⟩ := h7.slice; generalize (t0.rules.take j ++ t0.rules.drop (j + 1)).length = n7 at h7; have Hst : Hid (((W.setCell ⟨b11, 0, none⟩ (.slice a7 n7 c7)).setCell ⟨b11, 1, none⟩ (.int .i64 t0.dflt)).heap[b11]? = some (.cells #[.slice a7 n7 c7, .int .i64 t0.dflt] 24)) := set_at (set_at hc11); have H7 := Lib.hid h7; clear h0 hd hn hf hc11 hcs; go_simp; exact hR _ _ ⟨by simp only [set_size]; exact hI.1, set_below (set_below hI.2 hb11) hb11⟩ ⟨InitT.trans (.of_set (by simp) Hc11.out) (.of_set (by simp) (set_at Hc11.out)), fun _ => ⟨b11, h11, by show _ = some (Obj.cells #[vf 6, .int .i64 t0.dflt] _); rw [H7.out]; exact Hst.out⟩⟩ trivial ⟨b11, h11, by show _ = some (Obj.cells #[vf 6, .int .i64 t0.dflt] _); rw [H7.out]; exact Hst.out⟩); (go_simp; refine hK _ ?_; clear hK K))
          intro done vf w3 hd hI hF
          have h12 : VarIs 24 (vf 10) #[vf 6, .int .i64 t0.dflt] w3 := hF 11 (by decide)
          have h7 : OwnSl w3 (w.heap.size + 2) 41 2 (ruleR w (fun _ => True)) (vf 6) (t0.rules.take j ++ t0.rules.drop (j + 1)) := hF 6 (by decide)
          obtain ⟨b11, h11, hc11⟩ := h12
          have HB4 := Lib.hid (HBr.out.lift hI.2 (by simp))
          obtain ⟨a7, c7, h7f⟩ := h7.slice
          have HR7 : Hid (RdRules w3 (fun _ => True) (vf 6) (t0.rules.take j ++ t0.rules.drop (j + 1))) := rules_of (h7.sl fun _ _ => trivial) HB4.out.bel
          generalize (t0.rules.take j ++ t0.rules.drop (j + 1)).length = n7 at h7f
          have HR8 : Hid (RdRules w3 (fun _ => True) (.slice a7 n7 c7) (t0.rules.take j ++ t0.rules.drop (j + 1))) := by show RdRules _ _ _ _; rw [← h7f]; exact HR7.out
          have HJ2 : Hid (judgeE ⟨t0.rules.take j ++ t0.rules.drop (j + 1), t0.dflt⟩ x.right = (V, (k : Int) - 1, 0)) := by
            show judgeE _ _ = _
            rw [judgeE_of (okPol_erase Hok.out j) x.right_ok]
            have hw : which x.right (t0.rules.take j ++ t0.rules.drop (j + 1)) = k - 1 := by
              rw [which_erase x.right t0.rules j (by rw [Hk.out]; omega), Hk.out]
            have hv : verdictAt ⟨t0.rules.take j ++ t0.rules.drop (j + 1), t0.dflt⟩ (k - 1) = V := by
              rw [verdict_erase t0 k j (by omega) hkl]; exact HV.out
            unfold judged
            rw [hw, hv]
            have : ((k - 1 : Nat) : Int) = (k : Int) - 1 := by omega
            rw [this]
          have hcb := cells_of hc11
          have hc1' := HB4.out.cells1
          have hk5 : IntKind.i64.wrap ((k : Int) - 1) = (k : Int) - 1 := by rw [IntKind.wrap_i64]; omega
          clear hd hI hF h7 hc11 HS HR7 hk2 hk3 hk4
          go_wp2_with fail
          refine (judge_any (.slice a7 n7 c7) ⟨t0.rules.take j ++ t0.rules.drop (j + 1), t0.dflt⟩ x.right _ _ HR8.out).mono ?_
          rw [HJ2.out]
          rintro e w4 ⟨rfl, hb4⟩
          have HB5 := Lib.hid (HB4.out.below hb4)
          clear hb4 hcb hc1'
          go_wp2
          go_roundw
          case rel => first | exact ⟨j + 1, by go_num, by omega, HB5.out⟩ | ((repeat apply Exists.intro); exact ⟨⟨j + 1, by go_num, by omega, HB5.out⟩, rfl⟩)
          case measure => simp [intOf]; omega
        · go_wp2
          go_ret
          exact ⟨rfl, HBr.out.bel⟩
  · have b0 : (E != 0) = true := bne_iff_ne.2 h0
    clear h0
    go_wp2_with fail
    refine (judged_walk _ (HL.out.below HB3.out.bel)).mono ?_
    rintro e w3 ⟨rfl, hb3⟩
    have HB4 := Lib.hid (HB3.out.below hb3)
    clear hb3
    go_wp2
    go_ret
    exact ⟨rfl, HB4.out.bel⟩
end Go.Proofs.YtlhhomimcnjnfaaDoor
