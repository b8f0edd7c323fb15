/- Walk: policy.Judge. No condition. -/
import Derived.Test.YtmokmmpomgjemaaDoorJudge2
namespace Go.Proofs.YtmokmmpomgjemaaDoor
open Go.RowKit

/-- the two boxes of Judge, kept. -/
theorem box2_step {w wr w1 : World} {o o' : Obj} (hb : Below (w.heap.size + 2) ((w.alloc o).alloc o') wr) (h1 : Below wr.heap.size wr w1) : Below (w.heap.size + 2) ((w.alloc o).alloc o') w1 := hb.trans (h1.mono (size_box2 hb))

set_option maxHeartbeats 4000000 in
theorem judge_any (v : Value) (p : TPol) (x : TCall) (D : Nat → Prop) (w : World) (h : RdRules w D v p.rules) :
    Calls Tryd.prog 8 #[polV v p.dflt, callV x] w fun e w' => e = .returned (.tuple #[.int .i64 (judgeE p x).1, .int .i64 (judgeE p x).2.1, .int .i64 (judgeE p x).2.2]) ∧ Below w.heap.size w w' := by
  have H := Lib.hid h
  obtain ⟨a, c, rfl, hlc, hcm, hat⟩ := Sl.form h
  clear h
  by_cases hp : polE p = 0
  · have Hp := Lib.hid hp
    by_cases hx : x.ok
    · have e : judgeE p x = ((judged p x).1, ((judged p x).2 : Int), 0) := by unfold judgeE; rw [if_neg (by omega), if_pos hx]
      have hxe : Hid (callE x = 0) := if_pos hx
      have Hle := Lib.hid (which_le x p.rules)
      rw [e]
      clear e hp hx
      go_enter Tryd.func8, Tryd.ntmps8
      go_wp2_with fail
      refine (polcheck_any _ p D _ (RdRules.below H.out (bel_alloc (bel_alloc (Below.refl _ _) _) _))).mono ?_
      rw [Hp.out]
      rintro e w1 ⟨rfl, hb1⟩
      have hb1' : Below (w.heap.size + 2) _ w1 := hb1.mono (by simp)
      obtain ⟨hc1, hc2⟩ := box2_cells hb1'
      clear hb1
      go_wp2_with fail
      refine (callcheck_any x _).mono ?_
      rw [hxe.out]
      rintro e w2 ⟨rfl, hb2⟩
      have hb2' := box2_step hb1' hb2
      clear hc1 hc2 hb1' hb2
      obtain ⟨hc1, hc2⟩ := box2_cells hb2'
      go_wp2_with fail
      refine (which_any _ p x D _ (RdRules.below H.out (bel_box2 hb2')) ((okPol_iff p).1 Hp.out)).mono ?_
      rintro e w3 ⟨rfl, hb3⟩
      have hb3' := box2_step hb2' hb3
      clear hc1 hc2 hb2' hb3
      obtain ⟨hc1, hc2⟩ := box2_cells hb3'
      have Hb := Lib.hid (bel_box2 hb3')
      have hsz := size_box2 hb3'
      by_cases hw : which x p.rules = p.rules.length
      · have hj : Hid (judged p x = (p.dflt, p.rules.length)) := by
          show judged p x = _
          unfold judged verdictAt
          rw [hw, List.getElem?_eq_none (Nat.le_refl _)]
        have b0 : ((which x p.rules : Int) == (p.rules.length : Int)) = true := beq_iff_eq.2 (by omega)
        have b1 : (which x p.rules == p.rules.length) = true := beq_iff_eq.2 hw
        have Hw := Lib.hid hw
        clear hw
        go_wp2
        go_ret3
        exact ⟨by rw [hj.out, Hw.out]; rfl, Hb.out⟩
      · have hlt : which x p.rules < p.rules.length := by have := Hle.out; omega
        have hj : Hid (judged p x = (p.rules[which x p.rules].verdict, which x p.rules)) := by
          show judged p x = _
          unfold judged verdictAt
          rw [List.getElem?_eq_getElem hlt]
        have b0 : ((which x p.rules : Int) == (p.rules.length : Int)) = false := beq_eq_false_iff_ne.2 (by omega)
        have b1 : (which x p.rules == p.rules.length) = false := beq_eq_false_iff_ne.2 hw
        obtain ⟨b, o, rfl, hDb, hbb⟩ := hat (by omega)
        obtain ⟨a', c', k0, k1, hr, hlc', hcm', hat'⟩ := RdRules.cells (RdRules.below H.out Hb.out) hlt
        clear hw hr hat' k0
        go_wp2
        go_ret3
        exact ⟨by rw [hj.out]; rfl, Hb.out⟩
    · have e : judgeE p x = (0, 0, 3) := by unfold judgeE; rw [if_neg (by omega), if_neg hx]
      have hxe : Hid (callE x = 3) := if_neg hx
      rw [e]
      clear e hp hx
      go_enter Tryd.func8, Tryd.ntmps8
      go_wp2_with fail
      refine (polcheck_any _ p D _ (RdRules.below H.out (bel_alloc (bel_alloc (Below.refl _ _) _) _))).mono ?_
      rw [Hp.out]
      rintro e w1 ⟨rfl, hb1⟩
      have hb1' : Below (w.heap.size + 2) _ w1 := hb1.mono (by simp)
      obtain ⟨hc1, hc2⟩ := box2_cells hb1'
      clear hb1
      go_wp2_with fail
      refine (callcheck_any x _).mono ?_
      rw [hxe.out]
      rintro e w2 ⟨rfl, hb2⟩
      have hb2' := box2_step hb1' hb2
      clear hc1 hc2 hb1' hb2
      go_wp2
      go_ret3
      exact ⟨rfl, bel_box2 hb2'⟩
  · have e : judgeE p x = (0, 0, polE p) := by unfold judgeE; rw [if_pos hp]
    have d : (polE p != 0) = true := bne_iff_ne.2 hp
    rw [e]
    clear e hp
    go_enter Tryd.func8, Tryd.ntmps8
    go_wp2_with fail
    refine (polcheck_any _ p D _ (RdRules.below H.out (bel_alloc (bel_alloc (Below.refl _ _) _) _))).mono ?_
    rintro e w1 ⟨rfl, hb1⟩
    have hb1' : Below (w.heap.size + 2) _ w1 := hb1.mono (by simp)
    clear hb1
    go_wp2
    go_ret3
    exact ⟨rfl, bel_box2 hb1'⟩
end Go.Proofs.YtmokmmpomgjemaaDoor
