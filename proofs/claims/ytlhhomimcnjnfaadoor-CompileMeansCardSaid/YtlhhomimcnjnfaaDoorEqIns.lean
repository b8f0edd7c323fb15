/- Walk: slices.Equal at Ins; Go's == and != of two Ins. No condition. -/
import Derived.Test.YtlhhomimcnjnfaaDoorPrune
import Derived.Test.YtlhhomimcnjnfaaDoorBase
import Derived.Test.YtlhhomimcnjnfaaDoorProg
import Derived.Laws.StructEq
import Derived.KernelRfl
namespace Go.Proofs.YtlhhomimcnjnfaaDoor
open Go.RowKit
attribute [local go_sem] gives givesUpon

theorem run_neq_ins (c d : TIns) (w : World) : (binOp .neq 50 (.agg #[.int .i64 c.k, .int .i64 c.a, .int .i64 c.b, .int .i64 c.c]) (.agg #[.int .i64 d.k, .int .i64 d.a, .int .i64 d.b, .int .i64 d.c])).run Tryd.prog w = .ok (.bool (!decide (c = d))) w := by
  obtain ⟨k, a, b, c⟩ := c
  obtain ⟨k', a', b', c'⟩ := d
  dsimp only
  have hd : decide ((⟨k, a, b, c⟩ : TIns) = ⟨k', a', b', c'⟩) = (decide (k = k') && decide (a = a') && decide (b = b') && decide (c = c')) := by
    rw [Bool.eq_iff_iff]; simp [and_assoc]
  rw [hd]
  clear hd
  by_cases h0 : k = k'
  · have b0 : (k == k') = true := beq_iff_eq.2 h0
    by_cases h1 : a = a'
    · have b1 : (a == a') = true := beq_iff_eq.2 h1
      by_cases h2 : b = b'
      · have b2 : (b == b') = true := beq_iff_eq.2 h2
        by_cases h3 : c = c'
        · have b3 : (c == c') = true := beq_iff_eq.2 h3
          rw [decide_eq_true h0, decide_eq_true h1, decide_eq_true h2, decide_eq_true h3]
          clear h0 h1 h2 h3
          go_simp
        · have b3 : (c == c') = false := beq_eq_false_iff_ne.2 h3
          rw [decide_eq_true h0, decide_eq_true h1, decide_eq_true h2, decide_eq_false h3]
          clear h0 h1 h2 h3
          go_simp
      · have b2 : (b == b') = false := beq_eq_false_iff_ne.2 h2
        rw [decide_eq_true h0, decide_eq_true h1, decide_eq_false h2]
        clear h0 h1 h2
        go_simp
    · have b1 : (a == a') = false := beq_eq_false_iff_ne.2 h1
      rw [decide_eq_true h0, decide_eq_false h1]
      clear h0 h1
      go_simp
  · have b0 : (k == k') = false := beq_eq_false_iff_ne.2 h0
    rw [decide_eq_false h0]
    clear h0
    go_simp
theorem run_eql_ins (c d : TIns) (w : World) : (binOp .eql 50 (.agg #[.int .i64 c.k, .int .i64 c.a, .int .i64 c.b, .int .i64 c.c]) (.agg #[.int .i64 d.k, .int .i64 d.a, .int .i64 d.b, .int .i64 d.c])).run Tryd.prog w = .ok (.bool (decide (c = d))) w := by
  obtain ⟨k, a, b, c⟩ := c
  obtain ⟨k', a', b', c'⟩ := d
  dsimp only
  have hd : decide ((⟨k, a, b, c⟩ : TIns) = ⟨k', a', b', c'⟩) = (decide (k = k') && decide (a = a') && decide (b = b') && decide (c = c')) := by
    rw [Bool.eq_iff_iff]; simp [and_assoc]
  rw [hd]
  clear hd
  by_cases h0 : k = k'
  · have b0 : (k == k') = true := beq_iff_eq.2 h0
    by_cases h1 : a = a'
    · have b1 : (a == a') = true := beq_iff_eq.2 h1
      by_cases h2 : b = b'
      · have b2 : (b == b') = true := beq_iff_eq.2 h2
        by_cases h3 : c = c'
        · have b3 : (c == c') = true := beq_iff_eq.2 h3
          rw [decide_eq_true h0, decide_eq_true h1, decide_eq_true h2, decide_eq_true h3]
          clear h0 h1 h2 h3
          go_simp
        · have b3 : (c == c') = false := beq_eq_false_iff_ne.2 h3
          rw [decide_eq_true h0, decide_eq_true h1, decide_eq_true h2, decide_eq_false h3]
          clear h0 h1 h2 h3
          go_simp
      · have b2 : (b == b') = false := beq_eq_false_iff_ne.2 h2
        rw [decide_eq_true h0, decide_eq_true h1, decide_eq_false h2]
        clear h0 h1 h2
        go_simp
    · have b1 : (a == a') = false := beq_eq_false_iff_ne.2 h1
      rw [decide_eq_true h0, decide_eq_false h1]
      clear h0 h1
      go_simp
  · have b0 : (k == k') = false := beq_eq_false_iff_ne.2 h0
    rw [decide_eq_false h0]
    clear h0
    go_simp
theorem take_eq_step4 {α : Type} {xs ys : List α} {k : Nat} (hx : k < xs.length) (hy : k < ys.length) (h : xs.take k = ys.take k) (e : xs[k] = ys[k]) : xs.take (k + 1) = ys.take (k + 1) := by
  rw [List.take_succ_eq_append_getElem hx, List.take_succ_eq_append_getElem hy, h, e]
theorem ne_of_get4 {α : Type} {xs ys : List α} {k : Nat} (hx : k < xs.length) (hy : k < ys.length) (e : xs[k] ≠ ys[k]) : xs ≠ ys := fun h => e (by subst h; rfl)

attribute [-go_sem] run_neq_struct
set_option maxHeartbeats 1000000 in
theorem eqins_any (v u : Value) (xs ys : List TIns) (D : Nat → Prop) (w : World) (h : RdCode w D v xs) (h' : RdCode w D u ys) :
    Calls Tryd.prog 25 #[v, u] w fun e w' => e = .returned (.bool (decide (xs = ys))) ∧ Below w.heap.size w w' := by
  obtain ⟨a, c, rfl, hlc, hcm, hat⟩ := Sl.form h
  obtain ⟨a', c', rfl, hlc', hcm', hat'⟩ := Sl.form h'
  have H := Lib.hid h
  have H' := Lib.hid h'
  clear h h'
  by_cases hl : xs.length = ys.length
  · have b0 : ((xs.length : Int) != (ys.length : Int)) = false := bne_eq_false_iff_eq.2 (by omega)
    have hl' := Lib.hid hl
    have hl1 : xs.length ≤ ys.length := by omega
    have hl2 : ys.length ≤ xs.length := by omega
    clear hl
    go_enter Tryd.func25, Tryd.ntmps25
    go_wp2_with fail
    go_loopw [13] (fun i wr => ∃ k : Nat, k ≤ xs.length ∧ i = .int .i64 k ∧ xs.take k = ys.take k ∧ Below w.heap.size w wr) (fun i _ => xs.length - (intOf i).toNat)
    case atStart => exact ⟨0, by omega, rfl, rfl, Below.refl _ _⟩
    case round =>
      obtain ⟨k, hk, rfl, htk, hbw⟩ := hrel
      have Ht := Lib.hid htk
      have hsz := hbw.size
      clear htk
      by_cases hlt : k < xs.length
      · obtain ⟨b, o, rfl, hDb, hb⟩ := hat (by omega)
        obtain ⟨b', o', rfl, hDb', hb'⟩ := hat' (by omega)
        have hlt' : k < ys.length := by omega
        have hc : ∀ W, Cls w.heap.size wr W → (W.cell? ⟨b, o + k * 4, none⟩ = some (.int .i64 xs[k].k) ∧ W.cell? ⟨b, o + k * 4 + 1, none⟩ = some (.int .i64 xs[k].a) ∧ W.cell? ⟨b, o + k * 4 + 2, none⟩ = some (.int .i64 xs[k].b) ∧ W.cell? ⟨b, o + k * 4 + 3, none⟩ = some (.int .i64 xs[k].c)) ∧
            (W.cell? ⟨b', o' + k * 4, none⟩ = some (.int .i64 ys[k].k) ∧ W.cell? ⟨b', o' + k * 4 + 1, none⟩ = some (.int .i64 ys[k].a) ∧ W.cell? ⟨b', o' + k * 4 + 2, none⟩ = some (.int .i64 ys[k].b) ∧ W.cell? ⟨b', o' + k * 4 + 3, none⟩ = some (.int .i64 ys[k].c)) := fun W hW =>
          ⟨RdCode.cells (H.out.below (hbw.trans hW.2)) hlt, RdCode.cells (H'.out.below (hbw.trans hW.2)) hlt'⟩
        have Hc := Lib.hid hc
        have hne := run_neq_ins xs[k] ys[k]
        clear hc
        go_wp2_with fail
        refine wp_region_exact3 w.heap.size hsz (by kernel_rfl) (by kernel_rfl) ?_
        repeat (refine monoE_step (fun K hK => ?_); apply Exists.intro; refine ⟨fun W hC R hR => ?_, ?_⟩; (first
          | (have hne' := hne W; clear hne; go_simp; exact hR _ _ (Below.refl _ _) rfl)
          | (have hcc := Hc.out W hC; go_simp; exact hR _ _ (Below.refl _ _) rfl)); (go_simp; refine hK _ ?_; clear hK K))
        intro w2 hC2
        clear hne
        by_cases he : xs[k] = ys[k]
        · have Hn := Lib.hid (take_eq_step4 hlt hlt' Ht.out he)
          have d : decide (xs[k] = ys[k]) = true := decide_eq_true he
          clear he
          simp only [d]
          go_wp2
          go_roundw
          case rel => exact ⟨k + 1, by omega, by go_num, Hn.out, hbw.trans hC2.2⟩
          case measure => simp [intOf]; omega
        · have Hn := Lib.hid (ne_of_get4 hlt hlt' he)
          have d : decide (xs[k] = ys[k]) = false := decide_eq_false he
          clear he
          simp only [d]
          go_wp2
          go_ret
          exact ⟨ret_bool (decide_eq_false Hn.out).symm, hbw.trans hC2.2⟩
      · obtain rfl : k = xs.length := by omega
        have Hn : Hid (xs = ys) := by
          have := Ht.out
          rw [List.take_length, hl'.out, List.take_length] at this
          exact this
        go_wp2
        go_ret
        exact ⟨ret_bool (decide_eq_true Hn.out).symm, hbw⟩
  · have b0 : ((xs.length : Int) != (ys.length : Int)) = true := bne_iff_ne.2 (by omega)
    have hn : decide (xs = ys) = false := decide_eq_false fun e => hl (by rw [e])
    rw [hn]
    clear hn hl
    go_enter Tryd.func25, Tryd.ntmps25
    go_wp2
    go_ret
    exact ⟨rfl, Below.refl _ _⟩
end Go.Proofs.YtlhhomimcnjnfaaDoor
