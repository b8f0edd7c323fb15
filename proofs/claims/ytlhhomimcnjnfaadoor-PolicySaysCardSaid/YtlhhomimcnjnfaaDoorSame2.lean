/- Walk: the reference's SamePolicy. No condition. -/
import Derived.Test.YtlhhomimcnjnfaaDoorSame
namespace Go.Proofs.YtlhhomimcnjnfaaDoor
open Go.RowKit
attribute [local go_sem] gives givesUpon

theorem box2_step' {w wr w1 : World} {o o' : Obj} (hb : Below (w.heap.size + 2) ((w.alloc o).alloc o') wr) (h1 : Below wr.heap.size wr w1) : Below (w.heap.size + 2) ((w.alloc o).alloc o') w1 := hb.trans (h1.mono (size_box2 hb))

set_option maxHeartbeats 4000000 in
theorem rsame_any (v u : Value) (p q : TPol) (D : Nat → Prop) (w : World) (h : RdRules w D v p.rules) (h' : RdRules w D u q.rules) :
    Calls Tryd.prog 15 #[polV v p.dflt, polV u q.dflt] w fun e w' => e = .returned (.bool (decide (p = q))) ∧ Below w.heap.size w w' := by
  obtain ⟨xs, pd⟩ := p
  obtain ⟨ys, qd⟩ := q
  dsimp only at h h' ⊢
  obtain ⟨a, c, rfl, hlc, hcm, hat⟩ := Sl.form h
  obtain ⟨a', c', rfl, hlc', hcm', hat'⟩ := Sl.form h'
  have H := Lib.hid h
  have H' := Lib.hid h'
  clear h h'
  by_cases hv : pd = qd
  · have b0 : (pd != qd) = false := bne_eq_false_iff_eq.2 hv
    have hd : decide ((⟨xs, pd⟩ : TPol) = ⟨ys, qd⟩) = decide (xs = ys) := by rw [decide_eq_decide]; simp [hv]
    rw [hd]
    clear hd hv
    by_cases hl : xs.length = ys.length
    · have b1 : ((xs.length : Int) != (ys.length : Int)) = false := bne_eq_false_iff_eq.2 (by omega)
      have hl' := Lib.hid hl
      have hl1 : xs.length ≤ ys.length := by omega
      have hl2 : ys.length ≤ xs.length := by omega
      clear hl
      go_enter Tryd.func15, Tryd.ntmps15
      go_wp2_with fail
      go_loopw [24] (fun i wr => ∃ k : Nat, k ≤ xs.length ∧ i = .int .i64 k ∧ xs.take k = ys.take k ∧ Below (w.heap.size + 2) ((w.alloc (.cells #[.slice a xs.length c, .int .i64 pd] 24)).alloc (.cells #[.slice a' ys.length c', .int .i64 qd] 24)) wr) (fun i _ => xs.length - (intOf i).toNat)
      case atStart => exact ⟨0, by omega, rfl, rfl, Below.refl _ _⟩
      case round =>
        obtain ⟨k, hk, rfl, htk, hbx⟩ := hrel
        have Ht := Lib.hid htk
        have Hbx := Lib.hid hbx
        have Hb := Lib.hid (bel_box2 hbx)
        have hsz := size_box2 hbx
        obtain ⟨hc1, hc2⟩ := box2_cells hbx
        clear htk hbx
        by_cases hlt : k < xs.length
        · obtain ⟨b, o, rfl, hDb, hb⟩ := hat (by omega)
          obtain ⟨b', o', rfl, hDb', hb'⟩ := hat' (by omega)
          have hlt' : k < ys.length := by omega
          obtain ⟨ra, rc, k0, k1, hr, hlr, hcr, _⟩ := RdRules.cells (RdRules.below H.out Hb.out) hlt
          obtain ⟨qa, qc, q0, q1, hq, hlq, hcq, _⟩ := RdRules.cells (RdRules.below H'.out Hb.out) hlt'
          have hbr : b' < wr.heap.size := by omega
          have hcc : ∀ W, Cls (wr.heap.size + 1) (wr.alloc (.cells #[.slice ra xs[k].conds.length rc, .int .i64 xs[k].verdict] 41)) W → (∀ j, W.cell? ⟨wr.heap.size, j, none⟩ = (#[.slice ra xs[k].conds.length rc, .int .i64 xs[k].verdict] : Array Value)[j]?) ∧ (∀ j, W.cell? ⟨w.heap.size + 1, j, none⟩ = (#[.slice (some ⟨b', o', none⟩) ys.length c', .int .i64 qd] : Array Value)[j]?) ∧
              W.cell? ⟨b', o' + k * 2, none⟩ = some (.slice qa ys[k].conds.length qc) ∧ W.cell? ⟨b', o' + k * 2 + 1, none⟩ = some (.int .i64 ys[k].verdict) := fun W hW => by
            have hbw := bel_box hW.2
            exact ⟨box_cells hW.2, fun j => (hbw.cell (p := ⟨w.heap.size + 1, j, none⟩) (by show w.heap.size + 1 < wr.heap.size; omega)).trans (hc2 j), (hbw.cell (p := ⟨b', o' + k * 2, none⟩) hbr).trans q0, (hbw.cell (p := ⟨b', o' + k * 2 + 1, none⟩) hbr).trans q1⟩
          have Hcc := Lib.hid hcc
          have hcall : ∀ W, Cls (wr.heap.size + 1) (wr.alloc (.cells #[.slice ra xs[k].conds.length rc, .int .i64 xs[k].verdict] 41)) W →
              Calls Tryd.prog 53 #[.slice ra xs[k].conds.length rc, .slice qa ys[k].conds.length qc] W fun e w' => e = .returned (.bool (decide (xs[k].conds = ys[k].conds))) ∧ Below W.heap.size W w' := fun W hW =>
            eqconds_any _ _ _ _ D W (RdConds.below hr (bel_box hW.2)) (RdConds.below hq (bel_box hW.2))
          have Hcall := Lib.hid hcall
          have hfin : ∀ W, Cls (wr.heap.size + 1) (wr.alloc (.cells #[.slice ra xs[k].conds.length rc, .int .i64 xs[k].verdict] 41)) W → Below wr.heap.size wr W := fun W hW => bel_box hW.2
          have Hfin := Lib.hid hfin
          clear hr hq q0 q1 hcc hcall hfin hc1 hc2
          by_cases hvv : xs[k].verdict = ys[k].verdict
          · have d0 : (xs[k].verdict != ys[k].verdict) = false := bne_eq_false_iff_eq.2 hvv
            have Hvv := Lib.hid hvv
            clear hvv
            go_wp2_with fail
            refine wp_region_exact3 (wr.heap.size + 1) (by simp) (by kernel_rfl) (by kernel_rfl) ?_
            repeat (refine monoE_step (fun K hK => ?_); apply Exists.intro; refine ⟨fun W hC R hR => ?_, ?_⟩; (first
              | (have hcell := Hcc.out W hC; go_simp; exact hR _ _ (Below.refl _ _) rfl)
              | (go_simp; go_at_call 53; refine (Hcall.out W hC).mono ?_; rintro e w1 ⟨rfl, hb1⟩; exact ⟨_, rfl, hR _ _ hb1 rfl⟩)); (go_simp; refine hK _ ?_; clear hK K))
            intro w2 hC2
            by_cases he : xs[k].conds = ys[k].conds
            · have Hn : Hid (xs.take (k + 1) = ys.take (k + 1)) := take_eq_step' hlt hlt' Ht.out (by
                have h1 := Hvv.out
                have h2 := he
                revert h1 h2
                generalize xs[k] = r; generalize ys[k] = s
                cases r; cases s
                rintro h1 h2
                dsimp only at h1 h2
                subst h1 h2; rfl)
              have d : decide (xs[k].conds = ys[k].conds) = true := decide_eq_true he
              clear he
              simp only [d]
              go_wp2
              go_roundw
              case rel => exact ⟨k + 1, by omega, by go_num, Hn.out, box2_step' Hbx.out (Hfin.out _ hC2)⟩
              case measure => simp [intOf]; omega
            · have Hn := Lib.hid (ne_of_get' hlt hlt' (fun e => he (by rw [e])))
              have d : decide (xs[k].conds = ys[k].conds) = false := decide_eq_false he
              clear he
              simp only [d]
              go_wp2
              go_ret
              exact ⟨ret_bool (decide_eq_false Hn.out).symm, bel_call Hb.out (Hfin.out _ hC2)⟩
          · have d0 : (xs[k].verdict != ys[k].verdict) = true := bne_iff_ne.2 hvv
            have Hn := Lib.hid (ne_of_get' hlt hlt' (fun e => hvv (by rw [e])))
            clear hvv
            go_wp2_with fail
            refine wp_region_exact3 (wr.heap.size + 1) (by simp) (by kernel_rfl) (by kernel_rfl) ?_
            repeat (refine monoE_step (fun K hK => ?_); apply Exists.intro; refine ⟨fun W hC R hR => ?_, ?_⟩; (have hcell := Hcc.out W hC; go_simp; exact hR _ _ (Below.refl _ _) rfl); (go_simp; refine hK _ ?_; clear hK K))
            intro w2 hC2
            go_wp2
            go_ret
            exact ⟨ret_bool (decide_eq_false Hn.out).symm, bel_call Hb.out (Hfin.out _ hC2)⟩
        · obtain rfl : k = xs.length := by omega
          have Hn : Hid (xs = ys) := by
            have := Ht.out
            rw [List.take_length, hl'.out, List.take_length] at this
            exact this
          go_wp2
          go_ret
          exact ⟨ret_bool (decide_eq_true Hn.out).symm, Hb.out⟩
    · have b1 : ((xs.length : Int) != (ys.length : Int)) = true := bne_iff_ne.2 (by omega)
      have hn : decide (xs = ys) = false := decide_eq_false fun e => hl (by rw [e])
      rw [hn]
      clear hn hl
      go_enter Tryd.func15, Tryd.ntmps15
      go_wp2
      go_ret
      exact ⟨rfl, bel_alloc (bel_alloc (Below.refl _ _) _) _⟩
  · have b0 : (pd != qd) = true := bne_iff_ne.2 hv
    have hd : decide ((⟨xs, pd⟩ : TPol) = ⟨ys, qd⟩) = false := decide_eq_false fun e => hv (by injection e)
    rw [hd]
    clear hd hv
    go_enter Tryd.func15, Tryd.ntmps15
    go_wp2
    go_ret
    exact ⟨rfl, bel_alloc (bel_alloc (Below.refl _ _) _) _⟩
end Go.Proofs.YtlhhomimcnjnfaaDoor
