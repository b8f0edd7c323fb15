/- Walks: slices.Equal. No condition. -/
import Derived.Test.YthacmjepepiapaaProg
import Derived.Test.YthacmjepepiapaaBase
import Derived.KernelRfl
namespace Go.Proofs.Ythacmjepepiapaa
open Go.RowKit
attribute [local go_sem] gives givesUpon

theorem take_eq_step {α : Type} {xs ys : List α} {k : Nat} (hx : k < xs.length) (hy : k < ys.length) (h : xs.take k = ys.take k) (e : xs[k] = ys[k]) : xs.take (k + 1) = ys.take (k + 1) := by
  rw [List.take_succ_eq_append_getElem hx, List.take_succ_eq_append_getElem hy, h, e]
theorem ne_of_get {α : Type} {xs ys : List α} {k : Nat} (hx : k < xs.length) (hy : k < ys.length) (e : xs[k] ≠ ys[k]) : xs ≠ ys := fun h => e (by subst h; rfl)

set_option maxHeartbeats 1000000 in
theorem eqints_any (v u : Value) (xs ys : List Int) (D : Nat → Prop) (w : World) (h : RdInts w D v xs) (h' : RdInts w D u ys) :
    Calls Try.prog 7 #[v, u] w fun e w' => e = .returned (.bool (decide (xs = ys))) ∧ Below w.heap.size w w' := by
  obtain ⟨a, c, rfl, hlc, hcm, hat⟩ := Sl.form h
  obtain ⟨a', c', rfl, hlc', hcm', hat'⟩ := Sl.form h'
  have H := Lib.hid h
  have H' := Lib.hid h'
  clear h h'
  by_cases hl : xs.length = ys.length
  · have b0 : ((xs.length : Int) != (ys.length : Int)) = false := bne_eq_false_iff_eq.2 (by omega)
    have hl' := Lib.hid hl
    have hl1 : xs.length ≤ ys.length := by omega
    have hl2 : ys.length ≤ xs.length := by omega
    clear hl
    go_enter Try.func7, Try.ntmps7
    go_wp2_with fail
    go_loopw [13] (fun i wr => ∃ k : Nat, k ≤ xs.length ∧ i = .int .i64 k ∧ xs.take k = ys.take k ∧ Below w.heap.size w wr) (fun i _ => xs.length - (intOf i).toNat)
    case atStart => exact ⟨0, by omega, rfl, rfl, Below.refl _ _⟩
    case round =>
      obtain ⟨k, hk, rfl, htk, hbw⟩ := hrel
      have Ht := Lib.hid htk
      have hsz := hbw.size
      clear htk
      by_cases hlt : k < xs.length
      · obtain ⟨b, o, rfl, hDb, hb⟩ := hat (by omega)
        obtain ⟨b', o', rfl, hDb', hb'⟩ := hat' (by omega)
        have hlt' : k < ys.length := by omega
        have hc : ∀ W, Cls w.heap.size wr W → W.cell? ⟨b, o + k, none⟩ = some (.int .i64 xs[k]) ∧ W.cell? ⟨b', o' + k, none⟩ = some (.int .i64 ys[k]) := fun W hW =>
          ⟨RdInts.cell (H.out.below (hbw.trans hW.2)) hlt, RdInts.cell (H'.out.below (hbw.trans hW.2)) hlt'⟩
        have Hc := Lib.hid hc
        clear hc
        go_wp2_with fail
        refine wp_region_exact w.heap.size hsz (by kernel_rfl) (by kernel_rfl) ?_
        repeat (refine monoE_step (fun K hK => ?_); apply Exists.intro; refine ⟨fun W hC R hR => ?_, ?_⟩; (obtain ⟨hc1, hc2⟩ := Hc.out W hC; go_simp; exact hR _ _ (Below.refl _ _) rfl); (go_simp; refine hK _ ?_; clear hK K))
        intro w2 hC2
        by_cases he : xs[k] = ys[k]
        · have Hn := Lib.hid (take_eq_step hlt hlt' Ht.out he)
          have d : (xs[k] != ys[k]) = false := bne_eq_false_iff_eq.2 he
          clear he
          simp only [d]
          go_wp2
          go_roundw
          case rel => exact ⟨k + 1, by omega, by go_num, Hn.out, hbw.trans hC2.2⟩
          case measure => simp [intOf]; omega
        · have Hn := Lib.hid (ne_of_get hlt hlt' he)
          have d : (xs[k] != ys[k]) = true := bne_iff_ne.2 he
          clear he
          simp only [d]
          go_wp2
          go_ret
          exact ⟨ret_bool (decide_eq_false Hn.out).symm, hbw.trans hC2.2⟩
      · obtain rfl : k = xs.length := by omega
        have Hn : Hid (xs = ys) := by
          have := Ht.out
          rw [List.take_length, hl'.out, List.take_length] at this
          exact this
        go_wp2
        go_ret
        exact ⟨ret_bool (decide_eq_true Hn.out).symm, hbw⟩
  · have b0 : ((xs.length : Int) != (ys.length : Int)) = true := bne_iff_ne.2 (by omega)
    have hn : decide (xs = ys) = false := decide_eq_false fun e => hl (by rw [e])
    rw [hn]
    clear hn hl
    go_enter Try.func7, Try.ntmps7
    go_wp2
    go_ret
    exact ⟨rfl, Below.refl _ _⟩
end Go.Proofs.Ythacmjepepiapaa
