/- PolicySays returns true at every policy, call and policy. Condition: Laid. -/
import Derived.Test.YtlhhomimcnjnfaaDoorMade
import Derived.Test.YtlhhomimcnjnfaaDoorRun
import Derived.Test.YtlhhomimcnjnfaaDoorRJudge
import Derived.Test.YtlhhomimcnjnfaaDoorSame2
import Derived.Test.YtlhhomimcnjnfaaDoorPolCheck
import Derived.Test.YtlhhomimcnjnfaaDoorRPolCheck
namespace Go.Proofs.YtlhhomimcnjnfaaDoor
open Go.RowKit
attribute [local go_sem] gives givesUpon

/-- three blocks that the call laid first. -/
theorem box3_cells {w w1 : World} {cs cs' cs2 : Array Value} {T T' T2 : TypeId} (hb : Below (w.heap.size + 3) (((w.alloc (.cells cs T)).alloc (.cells cs' T')).alloc (.cells cs2 T2)) w1) :
    (∀ j, w1.cell? ⟨w.heap.size, j, none⟩ = cs[j]?) ∧ (∀ j, w1.cell? ⟨w.heap.size + 1, j, none⟩ = cs'[j]?) ∧ (∀ j, w1.cell? ⟨w.heap.size + 2, j, none⟩ = cs2[j]?) := by
  refine ⟨fun j => ?_, fun j => ?_, fun j => ?_⟩
  · rw [hb.cell (p := ⟨w.heap.size, j, none⟩) (by simp), World.cell?_alloc_lt _ _ _ (by simp; omega), World.cell?_alloc_lt _ _ _ (by simp)]
    exact World.cell?_alloc_at _ _ _ _ rfl
  · rw [hb.cell (p := ⟨w.heap.size + 1, j, none⟩) (by simp), World.cell?_alloc_lt _ _ _ (by simp)]
    exact World.cell?_alloc_at _ _ _ _ (by simp)
  · rw [hb.cell (p := ⟨w.heap.size + 2, j, none⟩) (by simp)]
    exact World.cell?_alloc_at _ _ _ _ (by simp)
theorem bel_box3 {w w1 : World} {o o' o2 : Obj} (hb : Below (w.heap.size + 3) (((w.alloc o).alloc o').alloc o2) w1) : Below w.heap.size w w1 := (bel_alloc (bel_alloc (bel_alloc (Below.refl _ _) o) o') o2).trans (hb.mono (by omega))
theorem size_box3 {w w1 : World} {o o' o2 : Obj} (hb : Below (w.heap.size + 3) (((w.alloc o).alloc o').alloc o2) w1) : w.heap.size + 3 ≤ w1.heap.size := by have := hb.size; simp at this; omega
theorem box3_step {w wr w1 : World} {o o' o2 : Obj} (hb : Below (w.heap.size + 3) (((w.alloc o).alloc o').alloc o2) wr) (h1 : Below wr.heap.size wr w1) : Below (w.heap.size + 3) (((w.alloc o).alloc o').alloc o2) w1 := hb.trans (h1.mono (size_box3 hb))

set_option maxHeartbeats 8000000 in
theorem policySays_walk {w : World} (hL : Laid w) (u0 : Value) (t0 : TPol) (rd0 : RdRules w (fun _ => True) u0 t0.rules) (x : TCall) (u2 : Value) (t2 : TPol) (rd2 : RdRules w (fun _ => True) u2 t2.rules) :
    Calls Tryd.prog 3 #[polV u0 t0.dflt, callV x, polV u2 t2.dflt] w fun e w' => e = .returned (.bool true) ∧ Below w.heap.size w w' := by
  have HL := Lib.hid hL
  have H0 := Lib.hid rd0
  have H2 := Lib.hid rd2
  obtain ⟨a0, c0, rfl, _⟩ := Sl.form rd0
  obtain ⟨a2, c2, rfl, _⟩ := Sl.form rd2
  clear hL rd0 rd2
  -- what is known ahead
  have key : ∀ (e0 e1 : Int), polE t0 = e0 → callE x = e1 → Hid (judgeE t0 x = if e0 ≠ 0 then (0, 0, e0) else if e1 ≠ 0 then (0, 0, e1) else ((judged t0 x).1, ((judged t0 x).2 : Int), 0)) := fun e0 e1 h0 h1 => by
    show judgeE t0 x = _
    unfold judgeE
    rw [h0]
    unfold callE at h1
    by_cases h2 : e0 ≠ 0
    · rw [if_pos h2, if_pos h2]
    · rw [if_neg h2, if_neg h2]
      by_cases h3 : x.ok
      · rw [if_pos h3] at h1; subst h1; rw [if_pos h3, if_neg (by omega)]
      · rw [if_neg h3] at h1; subst h1; rw [if_neg h3, if_pos (by omega)]
  obtain ⟨E0, hE0⟩ : ∃ E0, polE t0 = E0 := ⟨_, rfl⟩
  obtain ⟨E1, hE1⟩ : ∃ E1, callE x = E1 := ⟨_, rfl⟩
  have K := key E0 E1 hE0 hE1
  have HE0 := Lib.hid hE0
  have HE1 := Lib.hid hE1
  clear key hE0 hE1
  obtain ⟨p, hp⟩ : ∃ p, judgeE t0 x = p := ⟨_, rfl⟩
  obtain ⟨V, K', E⟩ := p
  rw [hp] at K
  go_enter Tryd.func3, Tryd.ntmps3
  go_wp2_with fail
  refine (judge_any _ t0 x _ _ (RdRules.below H0.out (bel_alloc (bel_alloc (bel_alloc (Below.refl _ _) _) _) _))).mono ?_
  rw [hp]
  clear hp
  rintro e w1 ⟨rfl, hb1⟩
  have hb1' : Below (w.heap.size + 3) _ w1 := hb1.mono (by simp)
  obtain ⟨hc0, hc1, hc2⟩ := box3_cells hb1'
  have Hb1 := Lib.hid hb1'
  clear hb1 hb1'
  go_wp2_with fail
  refine (rpolcheck_any _ t0 _ _ (RdRules.below H0.out (bel_box3 Hb1.out))).mono ?_
  rw [HE0.out]
  rintro e w2 ⟨rfl, hb2⟩
  have hb2' := box3_step Hb1.out hb2
  clear hc0 hc1 hc2 hb2
  have hbel := bel_box3 hb2'
  have HS : Hid (∀ W, Cls (w.heap.size + 3) w2 W → Below w.heap.size w W ∧ (∀ j, W.cell? ⟨w.heap.size, j, none⟩ = (#[Value.slice a0 t0.rules.length c0, .int .i64 t0.dflt] : Array Value)[j]?) ∧
      (∀ j, W.cell? ⟨w.heap.size + 1, j, none⟩ = (#[Value.int .i64 x.a0, .int .i64 x.a1, .int .i64 x.a2, .int .i64 x.a3, .int .i64 x.a4] : Array Value)[j]?) ∧
      (∀ j, W.cell? ⟨w.heap.size + 1 + 1, j, none⟩ = (#[Value.slice a2 t2.rules.length c2, .int .i64 t2.dflt] : Array Value)[j]?)) := fun W hW => by
    have h := box3_cells (hb2'.trans hW.2)
    exact ⟨bel_box3 (hb2'.trans hW.2), h.1, h.2.1, h.2.2⟩
  have hz2 := size_box3 hb2'
  clear hb2' hbel Hb1
  go_wp2_with fail
  refine wp_region_exact3 (w.heap.size + 3) hz2 (by kernel_rfl) (by kernel_rfl) ?_
  repeat (refine monoE_step (fun K hK => ?_); apply Exists.intro; refine ⟨fun W hC R hR => ?_, ?_⟩; (first
    | (have hcell := (HS.out W hC).2; go_simp; exact hR _ _ (Below.refl _ _) rfl)
    | (go_simp; go_at_call 12; refine (judged_walk _ (HL.out.below (HS.out W hC).1)).mono ?_; rintro e w3 ⟨rfl, hb3⟩; exact ⟨_, rfl, hR _ _ hb3 rfl⟩)
    | (go_simp; go_at_call 13; refine (polcheck_any _ t0 _ _ (RdRules.below H0.out (HS.out W hC).1)).mono ?_; rw [HE0.out]; rintro e w3 ⟨rfl, hb3⟩; exact ⟨_, rfl, hR _ _ hb3 rfl⟩)
    | (go_simp; go_at_call 14; refine (same_any _ _ t0 t2 _ _ (RdRules.below H0.out (HS.out W hC).1) (RdRules.below H2.out (HS.out W hC).1)).mono ?_; rintro e w3 ⟨rfl, hb3⟩; exact ⟨_, rfl, hR _ _ hb3 rfl⟩)
    | (go_simp; go_at_call 15; refine (rsame_any _ _ t0 t2 _ _ (RdRules.below H0.out (HS.out W hC).1) (RdRules.below H2.out (HS.out W hC).1)).mono ?_; rintro e w3 ⟨rfl, hb3⟩; exact ⟨_, rfl, hR _ _ hb3 rfl⟩)); (go_simp; refine hK _ ?_; clear hK K))
  intro w3 hC3
  obtain ⟨hb3, hc0, hc1, hc2⟩ := HS.out w3 hC3
  have Hb3 := Lib.hid hb3
  have hz3 := hC3.1
  clear hb3 hC3
  have Hp := Lib.hid HE0.out
  by_cases h0 : E0 = 0
  · subst h0
    by_cases h1 : E1 = 0
    · subst h1
      have hk : (V, K', E) = ((judged t0 x).1, ((judged t0 x).2 : Int), 0) := by have := K.out; simpa using this
      simp only [Prod.mk.injEq] at hk
      obtain ⟨rfl, rfl, rfl⟩ := hk
      clear K
      go_wp2_with fail
      refine (rcheckcall_any x _).mono ?_
      rw [HE1.out]
      rintro e w4 ⟨rfl, hb4⟩
      have hcx : ∀ j, w4.cell? ⟨w.heap.size, j, none⟩ = (#[Value.slice a0 t0.rules.length c0, .int .i64 t0.dflt] : Array Value)[j]? := fun j => (hb4.cell (p := ⟨w.heap.size, j, none⟩) (by show w.heap.size < w3.heap.size; omega)).trans (hc0 j)
      have hcy : ∀ j, w4.cell? ⟨w.heap.size + 1, j, none⟩ = (#[Value.int .i64 x.a0, .int .i64 x.a1, .int .i64 x.a2, .int .i64 x.a3, .int .i64 x.a4] : Array Value)[j]? := fun j => (hb4.cell (p := ⟨w.heap.size + 1, j, none⟩) (by show w.heap.size + 1 < w3.heap.size; omega)).trans (hc1 j)
      have Hb4 := Lib.hid (bel_call Hb3.out hb4)
      clear hc0 hc1 hc2 hb4
      go_wp2_with fail
      refine (rjudged_any _ t0 x _ _ (RdRules.below H0.out Hb4.out) ((okPol_iff t0).1 HE0.out)).mono ?_
      rintro e w5 ⟨rfl, hb5⟩
      have Hb5 := Lib.hid (bel_call Hb4.out hb5)
      clear hb5
      go_wp2
      go_ret
      exact ⟨rfl, Hb5.out⟩
    · have b1 : (E1 != 0) = true := bne_iff_ne.2 h1
      have hk : (V, K', E) = (0, 0, E1) := by have := K.out; simpa [h1] using this
      simp only [Prod.mk.injEq] at hk
      obtain ⟨rfl, rfl, rfl⟩ := hk
      clear K h1
      go_wp2_with fail
      refine (rcheckcall_any x _).mono ?_
      rw [HE1.out]
      rintro e w4 ⟨rfl, hb4⟩
      have Hb4 := Lib.hid (bel_call Hb3.out hb4)
      clear hc0 hc1 hc2 hb4
      go_wp2
      go_ret
      exact ⟨rfl, Hb4.out⟩
  · have b0 : (E0 == 0) = false := beq_eq_false_iff_ne.2 h0
    have b1 : (E0 != 0) = true := bne_iff_ne.2 h0
    have hk : (V, K', E) = (0, 0, E0) := by have := K.out; simpa [h0] using this
    simp only [Prod.mk.injEq] at hk
    obtain ⟨rfl, rfl, rfl⟩ := hk
    clear K h0
    go_wp2
    go_ret
    exact ⟨rfl, Hb3.out⟩
end Go.Proofs.YtlhhomimcnjnfaaDoor
