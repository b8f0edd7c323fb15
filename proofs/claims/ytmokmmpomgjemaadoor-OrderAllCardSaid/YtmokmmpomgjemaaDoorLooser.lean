/- Walks: order.Looser, order.Alike. No condition. -/
import Derived.Test.YtmokmmpomgjemaaDoorPoints
import Derived.Test.YtmokmmpomgjemaaDoorOrderSpec
import Derived.Test.YtmokmmpomgjemaaDoorJudge3
namespace Go.Proofs.YtmokmmpomgjemaaDoor
open Go.RowKit

/-- two policies, side by side in a block. -/
theorem two_pols {W : World} {b : Nat} {T : TypeId} {D : Nat → Prop} {u v : Value} {p q : TPol} (hb : W.heap[b]? = some (.cells #[u, .int .i64 p.dflt, v, .int .i64 q.dflt] T)) (hp : RdRules W D u p.rules) (hq : RdRules W D v q.rules) (hD : D b) : RdPols W D (.slice (some ⟨b, 0, none⟩) 2 2) [p, q] :=
  sl_block (xs := [p, q]) (rows := [[u, .int .i64 p.dflt], [v, .int .i64 q.dflt]]) (RowsOf.cons (RowsOf.cons RowsOf.nil ⟨_, rfl, hq⟩ rfl) ⟨_, rfl, hp⟩ rfl) hb rfl hD (by simp [maxLen])
theorem one_pol {W : World} {b : Nat} {T : TypeId} {D : Nat → Prop} {u : Value} {p : TPol} (hb : W.heap[b]? = some (.cells #[u, .int .i64 p.dflt] T)) (hp : RdRules W D u p.rules) (hD : D b) : RdPols W D (.slice (some ⟨b, 0, none⟩) 1 1) [p] :=
  sl_block (xs := [p]) (rows := [[u, .int .i64 p.dflt]]) (RowsOf.cons RowsOf.nil ⟨_, rfl, hp⟩ rfl) hb rfl hD (by simp [maxLen])
theorem condCuts_len (f : Int) (c : TCond) : (condCuts f c).length ≤ 2 := by unfold condCuts; split <;> (try split) <;> simp
theorem flatMap_len {α β : Type} (g : α → List β) (m : Nat) : ∀ l : List α, (∀ x ∈ l, (g x).length ≤ m) → (l.flatMap g).length ≤ l.length * m
  | [], _ => by simp
  | x :: l, h => by
    have h1 := h x (List.mem_cons_self ..)
    have h2 := flatMap_len g m l (fun y hy => h y (List.mem_cons_of_mem _ hy))
    rw [List.flatMap_cons, List.length_append, List.length_cons, Nat.add_mul]; omega
theorem polCuts_len {p : TPol} (h : OkPol p) (f : Int) : (polCuts f p).length ≤ 2400 := by
  have h1 : ∀ r ∈ p.rules, (ruleCuts f r).length ≤ 20 := fun r hr => by
    have := flatMap_len (condCuts f) 2 r.conds (fun c _ => condCuts_len f c)
    have := (h.rules r hr).len
    show (r.conds.flatMap (condCuts f)).length ≤ 20
    omega
  have := flatMap_len (ruleCuts f) 20 p.rules h1
  have := h.len
  show (p.rules.flatMap (ruleCuts f)).length ≤ 2400
  omega
theorem vals_len {l : List TPol} (h : polsE l = 0) (hl : l.length ≤ 2) (f : Int) : (cutVals l f).length * 8 ≤ 140737488355328 := by
  have h1 := flatMap_len (polCuts f) 2400 l (fun p hp => polCuts_len ((polsE_iff l).1 h p hp) f)
  unfold cutVals
  simp only [List.length_cons]
  have : l.length * 2400 ≤ 2 * 2400 := Nat.mul_le_mul_right _ hl
  omega
theorem find_drop (g : TCall → Bool) (l : List TCall) (k : Nat) (h : k < l.length) : (l.drop k).find? g = if g l[k] then some l[k] else (l.drop (k + 1)).find? g := by
  rw [List.drop_eq_getElem_cons h, List.find?_cons]
  cases g l[k] <;> rfl
theorem judgeE_says {p : TPol} (h : OkPol p) {x : TCall} (hx : x.ok) : judgeE p x = (says p x, ((judged p x).2 : Int), 0) := by
  unfold judgeE
  rw [if_neg (by rw [(okPol_iff p).2 h]; simp), if_pos hx]
  rfl

set_option maxRecDepth 100000 in
set_option maxHeartbeats 8000000 in
theorem looser_any (u v : Value) (p q : TPol) (w : World) (hp : RdRules w (fun _ => True) u p.rules) (hq : RdRules w (fun _ => True) v q.rules) :
    Calls Tryd.prog 6 #[polV u p.dflt, polV v q.dflt] w fun e w' => e = .returned (.tuple #[.bool (looserE p q).1, callV (looserE p q).2.1, .int .i64 (looserE p q).2.2]) ∧ Below w.heap.size w w' := by
  have Hp := Lib.hid hp
  have Hq := Lib.hid hq
  obtain ⟨ap, cp, rfl, _⟩ := Sl.form hp
  obtain ⟨aq, cq, rfl, _⟩ := Sl.form hq
  clear hp hq
  go_enter Tryd.func6, Tryd.ntmps6
  go_wp2_with fail
  refine (points_any _ [p, q] (fun _ => True) _ (two_pols (blk_at (by simp)) (Hp.out.below (bel_alloc (bel_alloc (bel_alloc (bel_alloc (Below.refl _ _) _) _) _) _)) (Hq.out.below (bel_alloc (bel_alloc (bel_alloc (bel_alloc (Below.refl _ _) _) _) _) _)) trivial) (fun h0 f _ _ => vals_len h0 (by simp) f)).mono ?_
  rintro e w1 ⟨v1, rfl, ho1, hb1⟩
  have HB1 := Lib.hid (Bx.three.below ((bel_alloc (Below.refl _ _) _).trans (hb1.mono (by simp))))
  have Ho1 := Lib.hid ho1
  obtain ⟨a1, c1, rfl⟩ := ho1.slice
  clear ho1 hb1
  by_cases h0 : (pointsE [p, q]).2 = 0
  · obtain ⟨hok, hsz5, hpe⟩ := pointsE_ok h0
    have HL : Hid (looserE p q = looserGo ((stage [p, q] 5).find? (looserAt p q))) := by
      refine looserE_eq (p := p) (q := q) ?_
      unfold looserE
      rw [if_neg (by rw [h0]; simp)]
      split <;> rfl
    have Hok := Lib.hid hok
    have HokP := Lib.hid (hok p (by simp))
    have HokQ := Lib.hid (hok q (by simp))
    rw [hpe] at Ho1 ⊢
    have Hl1 : Hid (RdCalls w1 (fun _ => True) (.slice a1 (stage [p, q] 5).length c1) (stage [p, q] 5)) := Ho1.out.sl (fun _ _ => trivial)
    have hSl : (stage [p, q] 5).length ≤ 1000 := by rw [stage_length]; assumption
    have Hpo := Lib.hid (fun x (hx : x ∈ stage [p, q] 5) => point_ok hok hx)
    obtain ⟨S, hS⟩ : ∃ S, S = stage [p, q] 5 := ⟨_, rfl⟩
    rw [← hS] at Hl1 HL Hpo hSl ⊢
    have hat := fun h0 => Sl.at_ Hl1.out h0
    clear h0 hok hpe hS Ho1 hsz5
    go_wp2_with fail
    go_loopw [30] (fun kv wr => ∃ k : Nat, kv = .int .i64 k ∧ k ≤ S.length ∧ (S.drop k).find? (looserAt p q) = S.find? (looserAt p q) ∧ Below w1.heap.size w1 wr) (fun kv _ => S.length - (intOf kv).toNat)
    case atStart => exact ⟨0, rfl, Nat.zero_le _, rfl, Below.refl _ _⟩
    case round =>
      obtain ⟨k, rfl, hk, hfd, hb⟩ := hrel
      have Hfd := Lib.hid hfd
      have Hb := Lib.hid hb
      have hszr := hb.size
      have HBr := Lib.hid (HB1.out.below hb)
      have hc0 := HBr.out.cells0
      have hc1 := HBr.out.cells1
      clear hfd hb
      by_cases hlt : k < S.length
      · obtain ⟨b, o, rfl, _, hblt⟩ := hat (by omega)
        obtain ⟨h0c, h1c, h2c, h3c, h4c⟩ := RdCalls.cells (Hl1.out.below Hb.out) hlt
        have Hs := Lib.hid (find_drop (looserAt p q) S k hlt)
        have Hxo := Lib.hid (Hpo.out S[k] (List.getElem_mem hlt))
        obtain ⟨x, hx⟩ : ∃ x, S[k] = x := ⟨_, rfl⟩
        rw [hx] at h0c h1c h2c h3c h4c Hs Hxo
        have HJp := Lib.hid (judgeE_says HokP.out Hxo.out)
        have HJq := Lib.hid (judgeE_says HokQ.out Hxo.out)
        have HBa := Lib.hid (HBr.out.alloc (.cells (callArr x) 26))
        have Hxb : Hid ((wr.alloc (.cells (callArr x) 26)).heap[wr.heap.size]? = some (.cells (callArr x) 26)) := heap_last _ _
        have hc0' := HBa.out.cells0
        have hcx' := cells_of Hxb.out
        clear hx hc0 hc1
        go_wp2_with fail
        refine (judge_any _ p x _ _ (Hp.out.below HBa.out.bel)).mono ?_
        rw [HJp.out]
        rintro e w2 ⟨rfl, hb2⟩
        have HB2 := Lib.hid (HBa.out.below hb2)
        have Hx2 := Lib.hid (blk_below Hxb.out hb2)
        have Hbb2 := Lib.hid (bel_alloc_call (Hb.out.mono (Nat.le_refl _)) hb2)
        have hc1 := HB2.out.cells1
        have hcx := cells_of Hx2.out
        clear hb2 hc0' hcx' h0c h1c h2c h3c h4c
        go_wp2_with fail
        refine (judge_any _ q x _ _ (Hq.out.below HB2.out.bel)).mono ?_
        rw [HJq.out]
        rintro e w3 ⟨rfl, hb3⟩
        have HB3 := Lib.hid (HB2.out.below hb3)
        have Hx3 := Lib.hid (blk_below Hx2.out hb3)
        have Hbb3 := Lib.hid (bel_call Hbb2.out hb3)
        clear hb3 hc1 hcx
        by_cases hgt : says q x < says p x
        · have hd : decide (says q x < says p x) = true := decide_eq_true hgt
          have HR : Hid (looserE p q = (true, x, 0)) := by
            show looserE p q = _
            rw [HL.out, ← Hfd.out, Hs.out, if_pos (by unfold looserAt; exact hd)]
            rfl
          have hcx := cells_of Hx3.out
          have hc2 := HB3.out.cells2
          have hf2 : ∀ j, w3.frozen? ⟨w.heap.size + 1 + 1, j, none⟩ = false := fun j => HB3.out.free (i := 2) rfl j
          clear hgt
          go_wp2_with fail
          go_region
          have HBf := Lib.hid ((HB3.out.setCall2 (x := ⟨0, 0, 0, 0, 0⟩) (y := x)).drew)
          have hcf := HBf.out.cells2
          go_wp2
          refine bodyPost_ret (v := .tuple #[.bool true, callV x, .int .i64 0]) ?_ rfl ⟨by rw [HR.out], HBf.out.bel⟩
          simp [results, Tryd.results6, go_sem, hcf]
        · have hd : decide (says q x < says p x) = false := decide_eq_false hgt
          have HR : Hid ((S.drop (k + 1)).find? (looserAt p q) = S.find? (looserAt p q)) := by
            show _ = _
            have := Hs.out
            rw [if_neg (by unfold looserAt; rw [hd]; simp), Hfd.out] at this
            exact this.symm
          clear hgt
          go_wp2
          go_roundw
          case rel => exact ⟨k + 1, by go_num, by omega, HR.out, Hbb3.out⟩
          case measure => simp [intOf]; omega
      · obtain rfl : k = S.length := by omega
        have HR : Hid (looserE p q = (false, zeroCall, 0)) := by
          show looserE p q = _
          rw [HL.out, ← Hfd.out, List.drop_length]
          rfl
        have hc2 := HBr.out.cells2
        have hf2 : ∀ j, wr.frozen? ⟨w.heap.size + 1 + 1, j, none⟩ = false := fun j => HBr.out.free (i := 2) rfl j
        clear hc0 hc1
        have HBf := Lib.hid (HBr.out.setCall2 (x := ⟨0, 0, 0, 0, 0⟩) (y := ⟨0, 0, 0, 0, 0⟩))
        have hcf := HBf.out.cells2
        go_wp2
        refine bodyPost_ret (v := .tuple #[.bool false, callV ⟨0, 0, 0, 0, 0⟩, .int .i64 0]) ?_ rfl ⟨by rw [HR.out]; rfl, HBf.out.bel⟩
        simp [results, Tryd.results6, go_sem, hcf]
  · have HL : Hid (looserE p q = (false, zeroCall, (pointsE [p, q]).2)) := by
      show looserE p q = _
      unfold looserE
      rw [if_pos h0]
    have hb0 : ((pointsE [p, q]).2 != 0) = true := bne_iff_ne.2 h0
    have hc2 := HB1.out.cells2
    have hf2 : ∀ j, w1.frozen? ⟨w.heap.size + 1 + 1, j, none⟩ = false := fun j => HB1.out.free (i := 2) rfl j
    clear h0
    have HBf := Lib.hid (HB1.out.setCall2 (x := ⟨0, 0, 0, 0, 0⟩) (y := ⟨0, 0, 0, 0, 0⟩))
    have hcf := HBf.out.cells2
    go_wp2
    refine bodyPost_ret (v := .tuple #[.bool false, callV ⟨0, 0, 0, 0, 0⟩, .int .i64 (pointsE [p, q]).2]) ?_ rfl ⟨by rw [HL.out]; rfl, HBf.out.bel⟩
    simp [results, Tryd.results6, go_sem, hcf]

set_option maxRecDepth 100000 in
set_option maxHeartbeats 4000000 in
theorem alike_any (u v : Value) (p q : TPol) (w : World) (hp : RdRules w (fun _ => True) u p.rules) (hq : RdRules w (fun _ => True) v q.rules) :
    Calls Tryd.prog 14 #[polV u p.dflt, polV v q.dflt] w fun e w' => e = .returned (.tuple #[.bool (alikeE p q).1, .int .i64 (alikeE p q).2]) ∧ Below w.heap.size w w' := by
  have Hp := Lib.hid hp
  have Hq := Lib.hid hq
  obtain ⟨ap, cp, rfl, _⟩ := Sl.form hp
  obtain ⟨aq, cq, rfl, _⟩ := Sl.form hq
  obtain ⟨⟨A1, A2, A3⟩, hA⟩ : ∃ A, looserE p q = A := ⟨_, rfl⟩
  obtain ⟨⟨B1, B2, B3⟩, hB⟩ : ∃ B, looserE q p = B := ⟨_, rfl⟩
  have HA := Lib.hid hA
  have HB := Lib.hid hB
  have HE : Hid (alikeE p q = if A3 ≠ 0 then (false, A3) else (!A1 && !B1, B3)) := by show alikeE p q = _; unfold alikeE; rw [hA, hB]
  clear hp hq hA hB
  go_enter Tryd.func14, Tryd.ntmps14
  go_wp2_with fail
  refine (looser_any _ _ p q _ (Hp.out.below (bel_alloc (bel_alloc (Below.refl _ _) _) _)) (Hq.out.below (bel_alloc (bel_alloc (Below.refl _ _) _) _))).mono ?_
  rw [HA.out]
  rintro e w1 ⟨rfl, hb1⟩
  have HB1 := Lib.hid (Bx.two.below hb1)
  have hc0 := HB1.out.cells0
  have hc1 := HB1.out.cells1
  clear hb1
  have HB2 := Lib.hid (HB1.out.alloc (.cells (callArr A2) 26))
  have hc0' := HB2.out.cells0
  have hc1' := HB2.out.cells1
  clear hc0 hc1
  by_cases h0 : A3 = 0
  · subst h0
    go_wp2_with fail
    refine (looser_any _ _ q p _ (Hq.out.below HB2.out.bel) (Hp.out.below HB2.out.bel)).mono ?_
    rw [HB.out]
    rintro e w2 ⟨rfl, hb2⟩
    have HB3 := Lib.hid (HB2.out.below hb2)
    clear hb2 hc0' hc1'
    have HR : Hid (alikeE p q = (!A1 && !B1, B3)) := by show alikeE p q = _; rw [HE.out, if_neg (by simp)]
    cases A1 <;> cases B1
    all_goals
      go_wp2
      go_ret2
      rw [HR.out]
      exact ⟨rfl, HB3.out.bel.trans ((bel_alloc (Below.refl _ _) _).mono HB3.out.bel.size)⟩
  · have hb0 : (A3 != 0) = true := bne_iff_ne.2 h0
    have HR : Hid (alikeE p q = (false, A3)) := by show alikeE p q = _; rw [HE.out, if_pos h0]
    clear h0
    go_wp2
    go_ret2
    rw [HR.out]
    exact ⟨rfl, HB2.out.bel⟩
end Go.Proofs.YtmokmmpomgjemaaDoor
