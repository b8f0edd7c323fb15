/- Walks: policy.Same, the reference's SamePolicy. No condition. -/
import Derived.Test.YtlhhomimcnjnfaaDoorPolRd
import Derived.Test.YtlhhomimcnjnfaaDoorPrune
import Derived.Test.YtlhhomimcnjnfaaDoorJudge
import Derived.Laws.StructEq
import Derived.KernelRfl
namespace Go.Proofs.YtlhhomimcnjnfaaDoor
open Go.RowKit
attribute [local go_sem] gives givesUpon

theorem take_eq_step' {α : Type} {xs ys : List α} {k : Nat} (hx : k < xs.length) (hy : k < ys.length) (h : xs.take k = ys.take k) (e : xs[k] = ys[k]) : xs.take (k + 1) = ys.take (k + 1) := by
  rw [List.take_succ_eq_append_getElem hx, List.take_succ_eq_append_getElem hy, h, e]
theorem ne_of_get' {α : Type} {xs ys : List α} {k : Nat} (hx : k < xs.length) (hy : k < ys.length) (e : xs[k] ≠ ys[k]) : xs ≠ ys := fun h => e (by subst h; rfl)

theorem run_neq_cond (c d : TCond) (w : World) : (binOp .neq 86 (.agg #[.int .i64 c.f, .int .i64 c.op, .int .i64 c.v]) (.agg #[.int .i64 d.f, .int .i64 d.op, .int .i64 d.v])).run Tryd.prog w = .ok (.bool (!decide (c = d))) w := by
  obtain ⟨f, o, v⟩ := c
  obtain ⟨f', o', v'⟩ := d
  dsimp only
  have hd : decide ((⟨f, o, v⟩ : TCond) = ⟨f', o', v'⟩) = (decide (f = f') && decide (o = o') && decide (v = v')) := by
    rw [Bool.eq_iff_iff]; simp [and_assoc]
  rw [hd]
  clear hd
  by_cases h1 : f = f'
  · have b1 : (f == f') = true := beq_iff_eq.2 h1
    by_cases h2 : o = o'
    · have b2 : (o == o') = true := beq_iff_eq.2 h2
      by_cases h3 : v = v'
      · have b3 : (v == v') = true := beq_iff_eq.2 h3
        rw [decide_eq_true h1, decide_eq_true h2, decide_eq_true h3]
        clear h1 h2 h3
        go_simp
      · have b3 : (v == v') = false := beq_eq_false_iff_ne.2 h3
        rw [decide_eq_true h1, decide_eq_true h2, decide_eq_false h3]
        clear h1 h2 h3
        go_simp
    · have b2 : (o == o') = false := beq_eq_false_iff_ne.2 h2
      rw [decide_eq_true h1, decide_eq_false h2]
      clear h1 h2
      go_simp
  · have b1 : (f == f') = false := beq_eq_false_iff_ne.2 h1
    rw [decide_eq_false h1]
    clear h1
    go_simp

attribute [-go_sem] run_neq_struct
set_option maxHeartbeats 1000000 in
theorem eqconds_any (v u : Value) (xs ys : List TCond) (D : Nat → Prop) (w : World) (h : RdConds w D v xs) (h' : RdConds w D u ys) :
    Calls Tryd.prog 53 #[v, u] w fun e w' => e = .returned (.bool (decide (xs = ys))) ∧ Below w.heap.size w w' := by
  obtain ⟨a, c, rfl, hlc, hcm, hat⟩ := Sl.form h
  obtain ⟨a', c', rfl, hlc', hcm', hat'⟩ := Sl.form h'
  have H := Lib.hid h
  have H' := Lib.hid h'
  clear h h'
  by_cases hl : xs.length = ys.length
  · have b0 : ((xs.length : Int) != (ys.length : Int)) = false := bne_eq_false_iff_eq.2 (by omega)
    have hl' := Lib.hid hl
    have hl1 : xs.length ≤ ys.length := by omega
    have hl2 : ys.length ≤ xs.length := by omega
    clear hl
    go_enter Tryd.func53, Tryd.ntmps53
    go_wp2_with fail
    go_loopw [13] (fun i wr => ∃ k : Nat, k ≤ xs.length ∧ i = .int .i64 k ∧ xs.take k = ys.take k ∧ Below w.heap.size w wr) (fun i _ => xs.length - (intOf i).toNat)
    case atStart => exact ⟨0, by omega, rfl, rfl, Below.refl _ _⟩
    case round =>
      obtain ⟨k, hk, rfl, htk, hbw⟩ := hrel
      have Ht := Lib.hid htk
      have hsz := hbw.size
      clear htk
      by_cases hlt : k < xs.length
      · obtain ⟨b, o, rfl, hDb, hb⟩ := hat (by omega)
        obtain ⟨b', o', rfl, hDb', hb'⟩ := hat' (by omega)
        have hlt' : k < ys.length := by omega
        have hc : ∀ W, Cls w.heap.size wr W → (W.cell? ⟨b, o + k * 3, none⟩ = some (.int .i64 xs[k].f) ∧ W.cell? ⟨b, o + k * 3 + 1, none⟩ = some (.int .i64 xs[k].op) ∧ W.cell? ⟨b, o + k * 3 + 2, none⟩ = some (.int .i64 xs[k].v)) ∧
            (W.cell? ⟨b', o' + k * 3, none⟩ = some (.int .i64 ys[k].f) ∧ W.cell? ⟨b', o' + k * 3 + 1, none⟩ = some (.int .i64 ys[k].op) ∧ W.cell? ⟨b', o' + k * 3 + 2, none⟩ = some (.int .i64 ys[k].v)) := fun W hW =>
          ⟨RdConds.cells (H.out.below (hbw.trans hW.2)) hlt, RdConds.cells (H'.out.below (hbw.trans hW.2)) hlt'⟩
        have Hc := Lib.hid hc
        have hne := run_neq_cond xs[k] ys[k]
        clear hc
        go_wp2_with fail
        refine wp_region_exact3 w.heap.size hsz (by kernel_rfl) (by kernel_rfl) ?_
        repeat (refine monoE_step (fun K hK => ?_); apply Exists.intro; refine ⟨fun W hC R hR => ?_, ?_⟩; (first
          | (have hne' := hne W; clear hne; go_simp; exact hR _ _ (Below.refl _ _) rfl)
          | (have hcc := Hc.out W hC; go_simp; exact hR _ _ (Below.refl _ _) rfl)); (go_simp; refine hK _ ?_; clear hK K))
        intro w2 hC2
        clear hne
        by_cases he : xs[k] = ys[k]
        · have Hn := Lib.hid (take_eq_step' hlt hlt' Ht.out he)
          have d : decide (xs[k] = ys[k]) = true := decide_eq_true he
          clear he
          simp only [d]
          go_wp2
          go_roundw
          case rel => exact ⟨k + 1, by omega, by go_num, Hn.out, hbw.trans hC2.2⟩
          case measure => simp [intOf]; omega
        · have Hn := Lib.hid (ne_of_get' hlt hlt' he)
          have d : decide (xs[k] = ys[k]) = false := decide_eq_false he
          clear he
          simp only [d]
          go_wp2
          go_ret
          exact ⟨ret_bool (decide_eq_false Hn.out).symm, hbw.trans hC2.2⟩
      · obtain rfl : k = xs.length := by omega
        have Hn : Hid (xs = ys) := by
          have := Ht.out
          rw [List.take_length, hl'.out, List.take_length] at this
          exact this
        go_wp2
        go_ret
        exact ⟨ret_bool (decide_eq_true Hn.out).symm, hbw⟩
  · have b0 : ((xs.length : Int) != (ys.length : Int)) = true := bne_iff_ne.2 (by omega)
    have hn : decide (xs = ys) = false := decide_eq_false fun e => hl (by rw [e])
    rw [hn]
    clear hn hl
    go_enter Tryd.func53, Tryd.ntmps53
    go_wp2
    go_ret
    exact ⟨rfl, Below.refl _ _⟩

set_option maxHeartbeats 1000000 in
theorem same1_any (v u : Value) (r q : TRule) (D : Nat → Prop) (w : World) (h : RdConds w D v r.conds) (h' : RdConds w D u q.conds) :
    Calls Tryd.prog 52 #[.agg #[v, .int .i64 r.verdict], .agg #[u, .int .i64 q.verdict]] w fun e w' => e = .returned (.bool (decide (r = q))) ∧ Below w.heap.size w w' := by
  obtain ⟨rc, rv⟩ := r
  obtain ⟨qc, qv⟩ := q
  dsimp only at h h' ⊢
  have H := Lib.hid h
  have H' := Lib.hid h'
  clear h h'
  by_cases hv : rv = qv
  · have b0 : (rv == qv) = true := beq_iff_eq.2 hv
    have hd : decide ((⟨rc, rv⟩ : TRule) = ⟨qc, qv⟩) = decide (rc = qc) := by rw [decide_eq_decide]; simp [hv]
    rw [hd]
    clear hd hv
    go_enter Tryd.func52, Tryd.ntmps52
    go_wp2_with fail
    refine (eqconds_any v u rc qc D _ (RdConds.below H.out (bel_alloc (bel_alloc (Below.refl _ _) _) _)) (RdConds.below H'.out (bel_alloc (bel_alloc (Below.refl _ _) _) _))).mono ?_
    rintro e w1 ⟨rfl, hb1⟩
    have hb1' : Below (w.heap.size + 2) _ w1 := hb1.mono (by simp)
    go_wp2
    go_ret
    exact ⟨rfl, bel_box2 hb1'⟩
  · have b0 : (rv == qv) = false := beq_eq_false_iff_ne.2 hv
    have hd : decide ((⟨rc, rv⟩ : TRule) = ⟨qc, qv⟩) = false := decide_eq_false fun e => hv (by injection e)
    rw [hd]
    clear hd hv
    go_enter Tryd.func52, Tryd.ntmps52
    go_wp2
    go_ret
    exact ⟨rfl, bel_alloc (bel_alloc (Below.refl _ _) _) _⟩

set_option maxHeartbeats 1000000 in
theorem eqrules_any (v u : Value) (xs ys : List TRule) (D : Nat → Prop) (w : World) (h : RdRules w D v xs) (h' : RdRules w D u ys) :
    Calls Tryd.prog 51 #[v, u, .func (.func 52) #[] #[]] w fun e w' => e = .returned (.bool (decide (xs = ys))) ∧ Below w.heap.size w w' := by
  obtain ⟨a, c, rfl, hlc, hcm, hat⟩ := Sl.form h
  obtain ⟨a', c', rfl, hlc', hcm', hat'⟩ := Sl.form h'
  have H := Lib.hid h
  have H' := Lib.hid h'
  clear h h'
  by_cases hl : xs.length = ys.length
  · have b0 : ((xs.length : Int) != (ys.length : Int)) = false := bne_eq_false_iff_eq.2 (by omega)
    have hl' := Lib.hid hl
    have hl1 : xs.length ≤ ys.length := by omega
    have hl2 : ys.length ≤ xs.length := by omega
    clear hl
    go_enter Tryd.func51, Tryd.ntmps51
    go_wp2_with fail
    go_loopw [17] (fun i wr => ∃ k : Nat, k ≤ xs.length ∧ i = .int .i64 k ∧ xs.take k = ys.take k ∧ Below w.heap.size w wr) (fun i _ => xs.length - (intOf i).toNat)
    case atStart => exact ⟨0, by omega, rfl, rfl, Below.refl _ _⟩
    case round =>
      obtain ⟨k, hk, rfl, htk, hbw⟩ := hrel
      have Ht := Lib.hid htk
      have hsz := hbw.size
      clear htk
      by_cases hlt : k < xs.length
      · obtain ⟨b, o, rfl, hDb, hb⟩ := hat (by omega)
        obtain ⟨b', o', rfl, hDb', hb'⟩ := hat' (by omega)
        have hlt' : k < ys.length := by omega
        obtain ⟨ra, rc, k0, k1, hr, hlr, hcr, _⟩ := RdRules.cells (RdRules.below H.out hbw) hlt
        obtain ⟨qa, qc, q0, q1, hq, hlq, hcq, _⟩ := RdRules.cells (RdRules.below H'.out hbw) hlt'
        have Hr := Lib.hid hr
        have Hq := Lib.hid hq
        have hbr : b' < wr.heap.size := by omega
        have q0' : ∀ O, (wr.alloc O).cell? ⟨b', o' + k * 2, none⟩ = some (.slice qa ys[k].conds.length qc) := fun O => (World.cell?_alloc_lt _ _ _ hbr).trans q0
        have q1' : ∀ O, (wr.alloc O).cell? ⟨b', o' + k * 2 + 1, none⟩ = some (.int .i64 ys[k].verdict) := fun O => (World.cell?_alloc_lt _ _ _ hbr).trans q1
        clear hr hq q0 q1
        go_wp2_with fail
        refine (same1_any _ _ xs[k] ys[k] D _ (RdConds.below Hr.out (bel_alloc (bel_alloc (Below.refl _ _) _) _)) (RdConds.below Hq.out (bel_alloc (bel_alloc (Below.refl _ _) _) _))).mono ?_
        rintro e w1 ⟨rfl, hb1⟩
        have hb2 : Below (wr.heap.size + 2) _ w1 := hb1.mono (by simp)
        have Hb := Lib.hid (hbw.trans ((bel_box2 hb2).mono hbw.size))
        clear hb1 hb2 k0 k1 q0' q1'
        by_cases he : xs[k] = ys[k]
        · have Hn := Lib.hid (take_eq_step' hlt hlt' Ht.out he)
          rw [decide_eq_true he]
          clear he
          go_wp2
          go_roundw
          case rel => exact ⟨k + 1, by omega, by go_num, Hn.out, Hb.out⟩
          case measure => simp [intOf]; omega
        · have Hn := Lib.hid (ne_of_get' hlt hlt' he)
          rw [decide_eq_false he]
          clear he
          go_wp2
          go_ret
          exact ⟨ret_bool (decide_eq_false Hn.out).symm, Hb.out⟩
      · obtain rfl : k = xs.length := by omega
        have Hn : Hid (xs = ys) := by
          have := Ht.out
          rw [List.take_length, hl'.out, List.take_length] at this
          exact this
        go_wp2
        go_ret
        exact ⟨ret_bool (decide_eq_true Hn.out).symm, hbw⟩
  · have b0 : ((xs.length : Int) != (ys.length : Int)) = true := bne_iff_ne.2 (by omega)
    have hn : decide (xs = ys) = false := decide_eq_false fun e => hl (by rw [e])
    rw [hn]
    clear hn hl
    go_enter Tryd.func51, Tryd.ntmps51
    go_wp2
    go_ret
    exact ⟨rfl, Below.refl _ _⟩

set_option maxHeartbeats 1000000 in
theorem same_any (v u : Value) (p q : TPol) (D : Nat → Prop) (w : World) (h : RdRules w D v p.rules) (h' : RdRules w D u q.rules) :
    Calls Tryd.prog 14 #[polV v p.dflt, polV u q.dflt] w fun e w' => e = .returned (.bool (decide (p = q))) ∧ Below w.heap.size w w' := by
  obtain ⟨pr, pd⟩ := p
  obtain ⟨qr, qd⟩ := q
  dsimp only at h h' ⊢
  have H := Lib.hid h
  have H' := Lib.hid h'
  have hmk : ∀ (fn : Fn) (first cap : Array Value) (w : World), (Instr.makeFunc fn first cap).run Tryd.prog w = .ok (.func fn first cap) w := fun _ _ _ _ => rfl
  clear h h'
  by_cases hv : pd = qd
  · have b0 : (pd == qd) = true := beq_iff_eq.2 hv
    have hd : decide ((⟨pr, pd⟩ : TPol) = ⟨qr, qd⟩) = decide (pr = qr) := by rw [decide_eq_decide]; simp [hv]
    rw [hd]
    clear hd hv
    go_enter Tryd.func14, Tryd.ntmps14
    go_wp2_with fail
    refine (eqrules_any v u pr qr D _ (RdRules.below H.out (bel_alloc (bel_alloc (Below.refl _ _) _) _)) (RdRules.below H'.out (bel_alloc (bel_alloc (Below.refl _ _) _) _))).mono ?_
    rintro e w1 ⟨rfl, hb1⟩
    have hb1' : Below (w.heap.size + 2) _ w1 := hb1.mono (by simp)
    go_wp2
    go_ret
    exact ⟨rfl, bel_box2 hb1'⟩
  · have b0 : (pd == qd) = false := beq_eq_false_iff_ne.2 hv
    have hd : decide ((⟨pr, pd⟩ : TPol) = ⟨qr, qd⟩) = false := decide_eq_false fun e => hv (by injection e)
    rw [hd]
    clear hd hv
    go_enter Tryd.func14, Tryd.ntmps14
    go_wp2
    go_ret
    exact ⟨rfl, bel_alloc (bel_alloc (Below.refl _ _) _) _⟩
end Go.Proofs.YtlhhomimcnjnfaaDoor
