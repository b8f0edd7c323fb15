/- ChainOrder returns true at every two chains and call. Bound: the second chain's bytes. Condition: Laid. -/
import Derived.Test.YtkiipnbjckdlbaaGreatDoorK7
import Derived.Test.YtkiipnbjckdlbaaGreatDoorK9
namespace Go.Proofs.YtkiipnbjckdlbaaGreatDoor
open Go.RowKit
attribute [local go_sem] gives givesUpon

theorem askE_of' {l : List (List TIns)} (h : chainE l = 0) {x : TCall} (hx : x.ok) : askE l x = (asked l x, 0) := by unfold askE; rw [if_neg (by rw [h]; simp), if_pos hx]
theorem askE_ok {l : List (List TIns)} {x : TCall} {v : Int} (h : askE l x = (v, 0)) : chainE l = 0 ∧ asked l x = v := by
  unfold askE at h
  by_cases h0 : chainE l = 0
  · rw [if_neg (by rw [h0]; simp)] at h
    by_cases hx : x.ok
    · rw [if_pos hx] at h
      exact ⟨h0, (Prod.mk.inj h).1⟩
    · rw [if_neg hx] at h
      cases (Prod.mk.inj h).2
  · rw [if_pos h0] at h
    exact absurd (Prod.mk.inj h).2 h0
theorem chainR_len {w : World} (z : List TIns) (r : List Value) (h : chainR w (fun _ => True) z r) : r.length = 1 := by
  obtain ⟨u, rfl, _⟩ := h
  rfl
theorem chainR_sl {w : World} (z : List TIns) (u : Value) (h : chainR w (fun _ => True) z [u]) : ∃ a n c, u = .slice a n c := by
  obtain ⟨u', h, hu⟩ := h
  injection h with h
  subst h
  obtain ⟨a, c, rfl, _⟩ := Sl.form hu
  exact ⟨_, _, _, rfl⟩
theorem rev_chain {w w' : World} {base : Nat} {v : Value} {l : List (List TIns)} (h : OwnSl w' base 31 1 (chainR w (fun _ => True)) v l) (hb : Below w.heap.size w w') : RdChain w' (fun _ => True) v l :=
  Sl.mono (h.sl (D := fun _ => True) (fun _ _ => trivial)) (fun _ _ _ => trivial) (fun _ _ _ => rfl) (Nat.le_refl _) (fun _ _ _ ⟨u, h1, h2⟩ => ⟨u, h1, h2.keep (fun _ h _ => h) (fun b _ hlt => hb.block b hlt) hb.size⟩)
theorem OwnSl.grown' {α : Type} {w w1 w2 : World} {e : TypeId} {sz : Nat} {R R' : α → List Value → Prop} {v : Value} {xs ys : List α} (_ : OwnSl w2 w.heap.size e sz R' v ys) (hb : Below w.heap.size w w1) (h : OwnSl w1 w.heap.size e sz R v xs) (hg : w1.grownBy w2 v.ownBlock) : Below w.heap.size w w2 :=
  OwnSl.grown h hb hg hb.size (Nat.le_refl _)
/-- a row of chains. -/
def PairCh (W : World) (v : Value) (ls : List (List (List TIns))) : Prop := Sl W (fun _ => True) 1 (fun m cs => ∃ u, cs = [u] ∧ RdChain W (fun _ => True) u m) v ls
theorem PairCh.rows {W : World} {v : Value} {ls : List (List (List TIns))} (h : PairCh W v ls) : Sl W (fun _ => True) 1 (rowsRChain (chainR W (fun _ => True)) W (fun _ => True)) v ls := h
theorem pair_stable {ls : List (List (List TIns))} : stableP (fun v W => PairCh W v ls) := fun _ _ _ hb h =>
  Sl.mono h (fun _ h _ => h) (fun b _ hlt => hb.block b hlt) hb.size (fun _ _ _ ⟨u, h1, h2⟩ => ⟨u, h1, h2.below hb⟩)
theorem chain_stable {l : List (List TIns)} : stableP (fun v W => RdChain W (fun _ => True) v l) := fun _ _ _ hb h => h.below hb
theorem pair_made (W : World) {a b : Value} {l m : List (List TIns)} (h1 : RdChain W (fun _ => True) a l) (h2 : RdChain W (fun _ => True) b m) :
    PairCh (W.alloc (.cells #[a, b] 22)) (.slice (some ⟨W.heap.size, 0, none⟩) 2 2) [l, m] := by
  have hb : Below W.heap.size W (W.alloc (.cells #[a, b] 22)) := (Below.refl _ _).alloc (Nat.le_refl _) _
  exact sl_block (xs := [l, m]) (rows := [[a], [b]]) (RowsOf.cons (RowsOf.cons RowsOf.nil ⟨_, rfl, h2.below hb⟩ rfl) ⟨_, rfl, h1.below hb⟩ rfl) (blk_at rfl) rfl trivial (by simp [maxLen])
theorem pair_done {w w' : World} {v : Value} {l : List (List TIns)} (h : OwnSl w' w.heap.size 31 1 (chainR w (fun _ => True)) v l) (hb : Below w.heap.size w w') : RdChain w' (fun _ => True) v l := rev_chain h hb
theorem bel_cls {w0 W W' : World} (h : Below w0.heap.size w0 W) (hC : Cls W.heap.size W W') : Below w0.heap.size w0 W' := h.trans (hC.2.mono h.size)

set_option maxRecDepth 100000 in
set_option maxHeartbeats 16000000 in
theorem chainOrder_walk {w : World} (hL : Laid w) (v3 : Value) (l : List (List TIns)) (rd3 : RdChain w (fun _ => True) v3 l) (v4 : Value) (m : List (List TIns)) (rd4 : RdChain w (fun _ => True) v4 m) (rc4 : m.length * 24 ≤ 140737488351232) (x : TCall) :
    Calls Tryz.prog 3 #[v3, v4, callV x] w fun e w' => e = .returned (.bool true) ∧ Below w.heap.size w w' := by
  have HL := Lib.hid hL
  have H3 := Lib.hid rd3
  have H4 := Lib.hid rd4
  have Hrc := Lib.hid rc4
  obtain ⟨a3, c3, rfl, _⟩ := Sl.form rd3
  obtain ⟨a4, c4, rfl, _⟩ := Sl.form rd4
  clear rd3 rd4 rc4
  clear hL 
  go_enter Tryz.func3, Tryz.ntmps3
  go_wp2_with fail
  have HB := Lib.hid (Bx.one (w := w) (o := .cells #[.int .i64 x.a0, .int .i64 x.a1, .int .i64 x.a2, .int .i64 x.a3, .int .i64 x.a4] 24))
  refine (right_any x _).mono ?_
  rintro e w1 ⟨rfl, hb1⟩
  replace HB := Lib.hid (HB.out.below hb1)
  have hq0 := HB.out.cells0
  have hfr := HB.out.free0
  have HB1 := Lib.hid (HB.out.setCall0 (y := x.right))
  clear hb1
  have hset0 := HB1.out.cells0
  go_wp2_with fail
  clear hq0
  clear hfr hset0 HB
  revert HB1
  generalize (((((w1.setCell ⟨w.heap.size, 0, none⟩ (.int .i64 x.right.a0)).setCell ⟨w.heap.size, 1, none⟩ (.int .i64 x.right.a1)).setCell ⟨w.heap.size, 2, none⟩ (.int .i64 x.right.a2)).setCell ⟨w.heap.size, 3, none⟩ (.int .i64 x.right.a3)).setCell ⟨w.heap.size, 4, none⟩ (.int .i64 x.right.a4)) = w2
  intro HB
  obtain ⟨⟨va, ve⟩, hJ⟩ : ∃ E, askE l x.right = E := ⟨_, rfl⟩
  have J0 := Lib.hid hJ
  obtain ⟨⟨vm, vf⟩, hJm⟩ : ∃ E, askE m x.right = E := ⟨_, rfl⟩
  have JM := Lib.hid hJm
  obtain ⟨⟨vx, vy⟩, hJx⟩ : ∃ E, askE (l ++ m) x.right = E := ⟨_, rfl⟩
  have JX := Lib.hid hJx
  clear hJ hJm hJx
  refine (ask_any _ l x.right _ _ (H3.out.below HB.out.bel)).mono ?_
  rw [J0.out]
  rintro e w3 ⟨rfl, hb3⟩
  replace HB := Lib.hid (HB.out.below hb3)
  clear hb3
  have hq0 := HB.out.cells0
  go_wp2_with fail
  clear hq0
  refine (tightened_walk _ (HL.out.below HB.out.bel)).mono ?_
  rintro e w4 ⟨rfl, hb4⟩
  replace HB := Lib.hid (HB.out.below hb4)
  clear hb4
  by_cases h0 : ve = 0
  · subst h0
    obtain ⟨hc, hva⟩ := askE_ok J0.out
    obtain ⟨hl6, hcs⟩ := (chainE_iff l).1 hc
    have JR : Hid (askE l.reverse x.right = (va, 0)) := by show _ = _; rw [askE_of' ((chainE_iff _).2 ⟨by simpa using hl6, fun f hf => hcs f (List.mem_reverse.1 hf)⟩) x.right_ok, asked_reverse, hva]
    have JT : Hid (l.length ≤ 3 → askE (l ++ l) x.right = (va, 0)) := fun h3 => by rw [askE_of' ((chainE_iff _).2 ⟨by simp; omega, fun f hf => hcs f (by simpa using hf)⟩) x.right_ok, asked_twice, hva]
    have JXm : Hid (vf = 0 → vy = 0 → vx = min va vm) := fun h1 h2 => by subst h1 h2; rw [← minOf_eq, ← (askE_ok JX.out).2, ← hva, ← (askE_ok JM.out).2, asked_append]
    have Hl6 := Lib.hid hl6
    clear hc hva hl6 hcs
    have hq0 := HB.out.cells0
    go_wp2_with fail
    clear hq0
    refine (cloneChain_any (chainR w4 (fun _ => True)) chainR_one _ l (fun _ => True) _ (H3.out.below HB.out.bel) (by have := Hl6.out; omega)).mono ?_
    rintro e w5 ⟨v5, rfl, ho5, hb5⟩
    obtain ⟨a5, c5, rfl⟩ := ho5.slice
    have Ho5 := Lib.hid ho5
    have Hb5 := Lib.hid hb5
    clear ho5 hb5
    go_wp2_with fail
    refine (reverse_any (chainR w4 (fun _ => True)) chainR_len chainR_sl _ l _ _ Ho5.out (by have := Hl6.out; omega)).mono ?_
    rintro e w6 ⟨rfl, ho6, hg6⟩
    have hb6 : Below w4.heap.size w4 w6 := ho6.grown' Hb5.out Ho5.out hg6
    have R5 := Lib.hid (rev_chain ho6 hb6)
    have hlr : l.reverse.length = l.length := List.length_reverse
    clear Ho5 Hb5 ho6 hg6
    replace HB := Lib.hid (HB.out.below hb6)
    clear hb6
    have hq0 := HB.out.cells0
    go_wp2_with fail
    clear hq0
    refine (ask_any _ l.reverse x.right _ _ R5.out).mono ?_
    rw [JR.out]
    rintro e w7 ⟨rfl, hb7⟩
    replace HB := Lib.hid (HB.out.below hb7)
    replace R5 := Lib.hid (R5.out.below hb7)
    clear hb7
    clear hlr
    by_cases h3 : l.length ≤ 3
    · have h3' : (l.length : Int) ≤ 3 := by omega
      have JT' := Lib.hid (JT.out h3)
      have Hlen : Hid (lenTo [l, l] [l, l].length * 24 ≤ 140737488355328) := by show lenTo _ _ * 24 ≤ _; simp [lenTo]; omega
      have hq0 := HB.out.cells0
      go_wp2_with fail
      refine wp_region_B [ex (.slice a3 l.length c3), ex (.slice a3 l.length c3), pr (fun v W => PairCh W v [l, l]), pr (fun v W => RdChain W (fun _ => True) v (l ++ l)), ex (callV x.right), ex (.tuple #[.int .i64 (va), .int .i64 (0)]), ex (.tuple #[.int .i64 (va), .int .i64 (0)]), ex (.int .i64 (va)), ex (.int .i64 (0)), ex (.int .i64 (va)), ex (.int .i64 (0))] _ (Nat.le_refl _) (by kernel_rfl) (by kernel_rfl) ⟨.inl ⟨_, rfl⟩, .inl ⟨_, rfl⟩, .inr ⟨_, rfl, pair_stable⟩, .inr ⟨_, rfl, chain_stable⟩, .inl ⟨_, rfl⟩, .inl ⟨_, rfl⟩, .inl ⟨_, rfl⟩, .inl ⟨_, rfl⟩, .inl ⟨_, rfl⟩, .inl ⟨_, rfl⟩, .inl ⟨_, rfl⟩, trivial⟩ ?_
      clear hq0
      (refine walkB_ex (fun K hK => ?_); refine ⟨fun W hC hd R hR => ?_, ?_⟩; (clear hd; go_simp; exact hR _ _ (Below.refl _ _) rfl); (go_simp; refine hK _ ?_; clear hK K))
      (refine walkB_ex (fun K hK => ?_); refine ⟨fun W hC hd R hR => ?_, ?_⟩; (clear hd; go_simp; exact hR _ _ (Below.refl _ _) rfl); (go_simp; refine hK _ ?_; clear hK K))
      (refine walkB_pr (fun K hK => ?_); refine ⟨fun W hC hd R hR => ?_, fun vs => ?_⟩; (clear hd; have Hp := Lib.hid (pair_made W (H3.out.below (bel_cls HB.out.bel hC)) (H3.out.below (bel_cls HB.out.bel hC))); go_simp; exact hR _ _ ((Below.refl _ _).alloc (Nat.le_refl _) _) Hp.out); (go_simp; refine hK _ _ ?_; clear hK K))
      (refine walkB_pr (fun K hK => ?_); refine ⟨fun W hC hd R hR => ?_, fun vc => ?_⟩; (have hp : PairCh W vs [l, l] := hd 2 (by decide); clear hd; go_simp; go_at_call 16; refine (concatChain_any (chainR W (fun _ => True)) chainR_one _ [l, l] (fun _ => True) _ hp.rows Hlen.out).mono ?_; rintro e w99 ⟨v99, rfl, ho, hb⟩; exact ⟨_, rfl, hR _ _ hb (show RdChain w99 (fun _ => True) v99 (l ++ l) from by have := (pair_done ho hb); simpa using this)⟩); (go_simp; refine hK _ _ ?_; clear hK K))
      (refine walkB_ex (fun K hK => ?_); refine ⟨fun W hC hd R hR => ?_, ?_⟩; (clear hd; have hq := (HB.out.below hC.2).cells0; go_simp; exact hR _ _ (Below.refl _ _) rfl); (go_simp; refine hK _ ?_; clear hK K))
      (refine walkB_ex (fun K hK => ?_); refine ⟨fun W hC hd R hR => ?_, ?_⟩; (have hp : RdChain W (fun _ => True) vc (l ++ l) := hd 3 (by decide); clear hd; go_simp; go_at_call 12; refine (ask_any _ (l ++ l) x.right _ _ hp).mono ?_; rw [JT'.out]; rintro e w99 ⟨rfl, hb⟩; exact ⟨_, rfl, hR _ _ hb rfl⟩); (go_simp; refine hK _ ?_; clear hK K))
      (refine walkB_ex (fun K hK => ?_); refine ⟨fun W hC hd R hR => ?_, ?_⟩; (clear hd; go_simp; exact hR _ _ (Below.refl _ _) rfl); (go_simp; refine hK _ ?_; clear hK K))
      (refine walkB_ex (fun K hK => ?_); refine ⟨fun W hC hd R hR => ?_, ?_⟩; (clear hd; go_simp; exact hR _ _ (Below.refl _ _) rfl); (go_simp; refine hK _ ?_; clear hK K))
      (refine walkB_ex (fun K hK => ?_); refine ⟨fun W hC hd R hR => ?_, ?_⟩; (clear hd; go_simp; exact hR _ _ (Below.refl _ _) rfl); (go_simp; refine hK _ ?_; clear hK K))
      (refine walkB_ex (fun K hK => ?_); refine ⟨fun W hC hd R hR => ?_, ?_⟩; (clear hd; go_simp; exact hR _ _ (Below.refl _ _) rfl); (go_simp; refine hK _ ?_; clear hK K))
      (refine walkB_ex (fun K hK => ?_); refine ⟨fun W hC hd R hR => ?_, ?_⟩; (clear hd; go_simp; exact hR _ _ (Below.refl _ _) rfl); (go_simp; refine hK _ ?_; clear hK K))
      intro w8 hC _
      have hb8 := hC.2
      clear hC
      replace HB := Lib.hid (HB.out.below hb8)
      replace R5 := Lib.hid (R5.out.below hb8)
      clear hb8
      clear Hlen JT'
      have hq0 := HB.out.cells0
      go_wp2_with fail
      clear hq0
      refine (ask_any _ m x.right _ _ (H4.out.below HB.out.bel)).mono ?_
      rw [JM.out]
      rintro e w9 ⟨rfl, hb9⟩
      replace HB := Lib.hid (HB.out.below hb9)
      replace R5 := Lib.hid (R5.out.below hb9)
      clear hb9
      have Hlen : Hid (lenTo [l, m] [l, m].length * 24 ≤ 140737488355328) := by have h1 := Hl6.out; have h2 := Hrc.out; show lenTo _ _ * 24 ≤ _; simp [lenTo]; omega
      have hq0 := HB.out.cells0
      go_wp2_with fail
      refine wp_region_B [ex (.slice a3 l.length c3), ex (.slice a4 m.length c4), pr (fun v W => PairCh W v [l, m]), pr (fun v W => RdChain W (fun _ => True) v (l ++ m)), ex (callV x.right), ex (.tuple #[.int .i64 (vx), .int .i64 (vy)]), ex (.tuple #[.int .i64 (vx), .int .i64 (vy)]), ex (.int .i64 (vx)), ex (.int .i64 (vy)), ex (.int .i64 (vx)), ex (.int .i64 (vy))] _ (Nat.le_refl _) (by kernel_rfl) (by kernel_rfl) ⟨.inl ⟨_, rfl⟩, .inl ⟨_, rfl⟩, .inr ⟨_, rfl, pair_stable⟩, .inr ⟨_, rfl, chain_stable⟩, .inl ⟨_, rfl⟩, .inl ⟨_, rfl⟩, .inl ⟨_, rfl⟩, .inl ⟨_, rfl⟩, .inl ⟨_, rfl⟩, .inl ⟨_, rfl⟩, .inl ⟨_, rfl⟩, trivial⟩ ?_
      clear hq0
      (refine walkB_ex (fun K hK => ?_); refine ⟨fun W hC hd R hR => ?_, ?_⟩; (clear hd; go_simp; exact hR _ _ (Below.refl _ _) rfl); (go_simp; refine hK _ ?_; clear hK K))
      (refine walkB_ex (fun K hK => ?_); refine ⟨fun W hC hd R hR => ?_, ?_⟩; (clear hd; go_simp; exact hR _ _ (Below.refl _ _) rfl); (go_simp; refine hK _ ?_; clear hK K))
      (refine walkB_pr (fun K hK => ?_); refine ⟨fun W hC hd R hR => ?_, fun vs => ?_⟩; (clear hd; have Hp := Lib.hid (pair_made W (H3.out.below (bel_cls HB.out.bel hC)) (H4.out.below (bel_cls HB.out.bel hC))); go_simp; exact hR _ _ ((Below.refl _ _).alloc (Nat.le_refl _) _) Hp.out); (go_simp; refine hK _ _ ?_; clear hK K))
      (refine walkB_pr (fun K hK => ?_); refine ⟨fun W hC hd R hR => ?_, fun vc => ?_⟩; (have hp : PairCh W vs [l, m] := hd 2 (by decide); clear hd; go_simp; go_at_call 16; refine (concatChain_any (chainR W (fun _ => True)) chainR_one _ [l, m] (fun _ => True) _ hp.rows Hlen.out).mono ?_; rintro e w99 ⟨v99, rfl, ho, hb⟩; exact ⟨_, rfl, hR _ _ hb (show RdChain w99 (fun _ => True) v99 (l ++ m) from by have := (pair_done ho hb); simpa using this)⟩); (go_simp; refine hK _ _ ?_; clear hK K))
      (refine walkB_ex (fun K hK => ?_); refine ⟨fun W hC hd R hR => ?_, ?_⟩; (clear hd; have hq := (HB.out.below hC.2).cells0; go_simp; exact hR _ _ (Below.refl _ _) rfl); (go_simp; refine hK _ ?_; clear hK K))
      (refine walkB_ex (fun K hK => ?_); refine ⟨fun W hC hd R hR => ?_, ?_⟩; (have hp : RdChain W (fun _ => True) vc (l ++ m) := hd 3 (by decide); clear hd; go_simp; go_at_call 12; refine (ask_any _ (l ++ m) x.right _ _ hp).mono ?_; rw [JX.out]; rintro e w99 ⟨rfl, hb⟩; exact ⟨_, rfl, hR _ _ hb rfl⟩); (go_simp; refine hK _ ?_; clear hK K))
      (refine walkB_ex (fun K hK => ?_); refine ⟨fun W hC hd R hR => ?_, ?_⟩; (clear hd; go_simp; exact hR _ _ (Below.refl _ _) rfl); (go_simp; refine hK _ ?_; clear hK K))
      (refine walkB_ex (fun K hK => ?_); refine ⟨fun W hC hd R hR => ?_, ?_⟩; (clear hd; go_simp; exact hR _ _ (Below.refl _ _) rfl); (go_simp; refine hK _ ?_; clear hK K))
      (refine walkB_ex (fun K hK => ?_); refine ⟨fun W hC hd R hR => ?_, ?_⟩; (clear hd; go_simp; exact hR _ _ (Below.refl _ _) rfl); (go_simp; refine hK _ ?_; clear hK K))
      (refine walkB_ex (fun K hK => ?_); refine ⟨fun W hC hd R hR => ?_, ?_⟩; (clear hd; go_simp; exact hR _ _ (Below.refl _ _) rfl); (go_simp; refine hK _ ?_; clear hK K))
      (refine walkB_ex (fun K hK => ?_); refine ⟨fun W hC hd R hR => ?_, ?_⟩; (clear hd; go_simp; exact hR _ _ (Below.refl _ _) rfl); (go_simp; refine hK _ ?_; clear hK K))
      intro w10 hC _
      have hb10 := hC.2
      clear hC
      replace HB := Lib.hid (HB.out.below hb10)
      replace R5 := Lib.hid (R5.out.below hb10)
      clear hb10
      clear Hlen
      by_cases h1 : vf = 0
      · subst h1
        by_cases h2 : vy = 0
        · subst h2
          have hx := JXm.out rfl rfl
          subst hx
          have h4 : (min va vm == min va vm) = true := beq_self_eq_true _
          go_wp2
          go_ret
          exact ⟨rfl, HB.out.bel⟩
        · have hne : (vy != 0) = true := bne_iff_ne.2 h2
          clear h2
          go_wp2
          go_ret
          exact ⟨rfl, HB.out.bel⟩
      · have hne : (vf != 0) = true := bne_iff_ne.2 h1
        clear h1
        go_wp2
        go_ret
        exact ⟨rfl, HB.out.bel⟩
    · have h3' : ¬ (l.length : Int) ≤ 3 := by omega
      have hq0 := HB.out.cells0
      go_wp2_with fail
      clear hq0
      refine (ask_any _ m x.right _ _ (H4.out.below HB.out.bel)).mono ?_
      rw [JM.out]
      rintro e w8 ⟨rfl, hb8⟩
      replace HB := Lib.hid (HB.out.below hb8)
      replace R5 := Lib.hid (R5.out.below hb8)
      clear hb8
      have Hlen : Hid (lenTo [l, m] [l, m].length * 24 ≤ 140737488355328) := by have h1 := Hl6.out; have h2 := Hrc.out; show lenTo _ _ * 24 ≤ _; simp [lenTo]; omega
      have hq0 := HB.out.cells0
      go_wp2_with fail
      refine wp_region_B [ex (.slice a3 l.length c3), ex (.slice a4 m.length c4), pr (fun v W => PairCh W v [l, m]), pr (fun v W => RdChain W (fun _ => True) v (l ++ m)), ex (callV x.right), ex (.tuple #[.int .i64 (vx), .int .i64 (vy)]), ex (.tuple #[.int .i64 (vx), .int .i64 (vy)]), ex (.int .i64 (vx)), ex (.int .i64 (vy)), ex (.int .i64 (vx)), ex (.int .i64 (vy))] _ (Nat.le_refl _) (by kernel_rfl) (by kernel_rfl) ⟨.inl ⟨_, rfl⟩, .inl ⟨_, rfl⟩, .inr ⟨_, rfl, pair_stable⟩, .inr ⟨_, rfl, chain_stable⟩, .inl ⟨_, rfl⟩, .inl ⟨_, rfl⟩, .inl ⟨_, rfl⟩, .inl ⟨_, rfl⟩, .inl ⟨_, rfl⟩, .inl ⟨_, rfl⟩, .inl ⟨_, rfl⟩, trivial⟩ ?_
      clear hq0
      (refine walkB_ex (fun K hK => ?_); refine ⟨fun W hC hd R hR => ?_, ?_⟩; (clear hd; go_simp; exact hR _ _ (Below.refl _ _) rfl); (go_simp; refine hK _ ?_; clear hK K))
      (refine walkB_ex (fun K hK => ?_); refine ⟨fun W hC hd R hR => ?_, ?_⟩; (clear hd; go_simp; exact hR _ _ (Below.refl _ _) rfl); (go_simp; refine hK _ ?_; clear hK K))
      (refine walkB_pr (fun K hK => ?_); refine ⟨fun W hC hd R hR => ?_, fun vs => ?_⟩; (clear hd; have Hp := Lib.hid (pair_made W (H3.out.below (bel_cls HB.out.bel hC)) (H4.out.below (bel_cls HB.out.bel hC))); go_simp; exact hR _ _ ((Below.refl _ _).alloc (Nat.le_refl _) _) Hp.out); (go_simp; refine hK _ _ ?_; clear hK K))
      (refine walkB_pr (fun K hK => ?_); refine ⟨fun W hC hd R hR => ?_, fun vc => ?_⟩; (have hp : PairCh W vs [l, m] := hd 2 (by decide); clear hd; go_simp; go_at_call 16; refine (concatChain_any (chainR W (fun _ => True)) chainR_one _ [l, m] (fun _ => True) _ hp.rows Hlen.out).mono ?_; rintro e w99 ⟨v99, rfl, ho, hb⟩; exact ⟨_, rfl, hR _ _ hb (show RdChain w99 (fun _ => True) v99 (l ++ m) from by have := (pair_done ho hb); simpa using this)⟩); (go_simp; refine hK _ _ ?_; clear hK K))
      (refine walkB_ex (fun K hK => ?_); refine ⟨fun W hC hd R hR => ?_, ?_⟩; (clear hd; have hq := (HB.out.below hC.2).cells0; go_simp; exact hR _ _ (Below.refl _ _) rfl); (go_simp; refine hK _ ?_; clear hK K))
      (refine walkB_ex (fun K hK => ?_); refine ⟨fun W hC hd R hR => ?_, ?_⟩; (have hp : RdChain W (fun _ => True) vc (l ++ m) := hd 3 (by decide); clear hd; go_simp; go_at_call 12; refine (ask_any _ (l ++ m) x.right _ _ hp).mono ?_; rw [JX.out]; rintro e w99 ⟨rfl, hb⟩; exact ⟨_, rfl, hR _ _ hb rfl⟩); (go_simp; refine hK _ ?_; clear hK K))
      (refine walkB_ex (fun K hK => ?_); refine ⟨fun W hC hd R hR => ?_, ?_⟩; (clear hd; go_simp; exact hR _ _ (Below.refl _ _) rfl); (go_simp; refine hK _ ?_; clear hK K))
      (refine walkB_ex (fun K hK => ?_); refine ⟨fun W hC hd R hR => ?_, ?_⟩; (clear hd; go_simp; exact hR _ _ (Below.refl _ _) rfl); (go_simp; refine hK _ ?_; clear hK K))
      (refine walkB_ex (fun K hK => ?_); refine ⟨fun W hC hd R hR => ?_, ?_⟩; (clear hd; go_simp; exact hR _ _ (Below.refl _ _) rfl); (go_simp; refine hK _ ?_; clear hK K))
      (refine walkB_ex (fun K hK => ?_); refine ⟨fun W hC hd R hR => ?_, ?_⟩; (clear hd; go_simp; exact hR _ _ (Below.refl _ _) rfl); (go_simp; refine hK _ ?_; clear hK K))
      (refine walkB_ex (fun K hK => ?_); refine ⟨fun W hC hd R hR => ?_, ?_⟩; (clear hd; go_simp; exact hR _ _ (Below.refl _ _) rfl); (go_simp; refine hK _ ?_; clear hK K))
      intro w9 hC _
      have hb9 := hC.2
      clear hC
      replace HB := Lib.hid (HB.out.below hb9)
      replace R5 := Lib.hid (R5.out.below hb9)
      clear hb9
      clear Hlen
      by_cases h1 : vf = 0
      · subst h1
        by_cases h2 : vy = 0
        · subst h2
          have hx := JXm.out rfl rfl
          subst hx
          have h4 : (min va vm == min va vm) = true := beq_self_eq_true _
          go_wp2
          go_ret
          exact ⟨rfl, HB.out.bel⟩
        · have hne : (vy != 0) = true := bne_iff_ne.2 h2
          clear h2
          go_wp2
          go_ret
          exact ⟨rfl, HB.out.bel⟩
      · have hne : (vf != 0) = true := bne_iff_ne.2 h1
        clear h1
        go_wp2
        go_ret
        exact ⟨rfl, HB.out.bel⟩
  · have hne : (ve != 0) = true := bne_iff_ne.2 h0
    clear h0
    have hq0 := HB.out.cells0
    go_wp2_with fail
    clear hq0
    refine (tightened_walk _ (HL.out.below HB.out.bel)).mono ?_
    rintro e w5 ⟨rfl, hb5⟩
    replace HB := Lib.hid (HB.out.below hb5)
    clear hb5
    have hq0 := HB.out.cells0
    go_wp2
    go_ret
    exact ⟨rfl, HB.out.bel⟩
end Go.Proofs.YtkiipnbjckdlbaaGreatDoor
