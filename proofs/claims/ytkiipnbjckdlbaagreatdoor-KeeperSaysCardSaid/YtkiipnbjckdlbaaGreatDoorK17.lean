/- Texts laid one behind the other: RKeep, RTight2, RNext, RReplay, OpenCells. No condition beyond theirs. -/
import Derived.Test.YtkiipnbjckdlbaaGreatDoorK11
import Derived.Test.YtkiipnbjckdlbaaGreatDoorK14
import Derived.Test.YtkiipnbjckdlbaaGreatDoorK7
import Derived.Test.YtkiipnbjckdlbaaGreatDoorK16
import Derived.Test.YtkiipnbjckdlbaaGreatDoorK9
import Derived.Test.YtkiipnbjckdlbaaGreatDoorK5
import Derived.Laws.MakeOwn
import Derived.Test.YtkiipnbjckdlbaaGreatDoorK8
namespace Go.Proofs.YtkiipnbjckdlbaaGreatDoor
open Go.RowKit

set_option maxHeartbeats 2000000 in
theorem rnone_any (v : Value) (p : TPol) (D : Nat → Prop) (w : World) (h : RdRules w D v p.rules) :
    Calls Tryz.prog 73 #[polV v p.dflt] w fun e w' => e = .returned (.bool (decide (noPol p))) ∧ Below w.heap.size w w' := by
  obtain ⟨rs, d⟩ := p
  dsimp only at h ⊢
  obtain ⟨a, c, rfl, _, _, _⟩ := Sl.form h
  clear h
  by_cases hd : d = 0
  · subst hd
    rcases Nat.eq_zero_or_pos rs.length with r0 | r0
    · obtain rfl : rs = [] := List.length_eq_zero_iff.1 r0
      have HE : Hid (decide (noPol ⟨[], 0⟩) = true) := decide_eq_true ⟨rfl, rfl⟩
      have e1 : ([] : List TRule).length = 0 := rfl
      go_enter Tryz.func73, Tryz.ntmps73
      go_wp2
      go_ret
      exact ⟨by rw [HE.out]; rfl, bel_alloc (Below.refl _ _) _⟩
    · have HE : Hid (decide (noPol ⟨rs, 0⟩) = false) := decide_eq_false (fun h => by have := h.2; dsimp only at this; rw [this] at r0; simp at r0)
      have z1 : ((rs.length : Int) == 0) = false := by simpa using (show ¬ (rs.length : Int) = 0 by omega)
      have z2 : (rs.length == 0) = false := by simpa using (show ¬ rs.length = 0 by omega)
      have z0 : rs ≠ [] := fun e => by rw [e] at r0; simp at r0
      clear r0
      go_enter Tryz.func73, Tryz.ntmps73
      go_wp2
      go_ret
      exact ⟨by rw [HE.out]; rfl, bel_alloc (Below.refl _ _) _⟩
  · have HE : Hid (decide (noPol ⟨rs, d⟩) = false) := decide_eq_false (fun h => hd h.1)
    have z1 : (d == 0) = false := beq_eq_false_iff_ne.2 hd
    clear hd
    go_enter Tryz.func73, Tryz.ntmps73
    go_wp2
    go_ret
    exact ⟨by rw [HE.out]; rfl, bel_alloc (Below.refl _ _) _⟩

set_option maxRecDepth 100000 in
set_option maxHeartbeats 8000000 in
theorem rreccheck_any (v : Value) (r : TRec) (D : Nat → Prop) (w : World) (h : RdRules w D v r.p.rules) :
    Calls Tryz.prog 71 #[recV r v] w fun e w' => e = .returned (.int .i64 (recE r)) ∧ Below w.heap.size w w' := by
  obtain ⟨kd, cl, fr, ⟨rs, d⟩⟩ := r
  dsimp only at h ⊢
  have H := Lib.hid h
  obtain ⟨a, c, rfl, _, _, _⟩ := Sl.form h
  clear h
  have HB := Lib.hid (Bx.one (w := w) (o := .cells #[.int .i64 kd, .int .i64 cl, .int .i64 fr, .slice a rs.length c, .int .i64 d] 55))
  have HbL : Hid (Below w.heap.size w _) := HB.out.bel
  go_enter Tryz.func71, Tryz.ntmps71
  go_wp2_with fail
  refine (in_any kd 1 4 _).mono ?_
  rintro e w1 ⟨rfl, rfl⟩
  by_cases hk : kd < 1 ∨ 4 < kd
  · have HE : Hid (recE ⟨kd, cl, fr, ⟨rs, d⟩⟩ = 4) := by show _ = _; unfold recE; dsimp only; rw [if_pos hk]
    rw [inB_no (by omega)]
    clear hk
    go_wp2
    go_ret
    exact ⟨ret_int HE.out.symm, HbL.out⟩
  · rw [inB_yes (by omega) (by omega)]
    go_wp2_with fail
    refine (in_any cl 0 3 _).mono ?_
    rintro e w1 ⟨rfl, rfl⟩
    by_cases hc : cl < 0 ∨ 4 ≤ cl
    · have HE : Hid (recE ⟨kd, cl, fr, ⟨rs, d⟩⟩ = 3) := by show _ = _; unfold recE; dsimp only; rw [if_neg hk, if_pos (by omega)]
      rw [inB_no (by omega)]
      clear hk hc
      go_wp2
      go_ret
      exact ⟨ret_int HE.out.symm, HbL.out⟩
    · rw [inB_yes (by omega) (by omega)]
      go_wp2_with fail
      refine (in_any fr 0 3 _).mono ?_
      rintro e w1 ⟨rfl, rfl⟩
      by_cases hf : fr < 0 ∨ 4 ≤ fr
      · have HE : Hid (recE ⟨kd, cl, fr, ⟨rs, d⟩⟩ = 3) := by show _ = _; unfold recE; dsimp only; rw [if_neg hk, if_pos (by omega)]
        rw [inB_no (by omega)]
        clear hk hc hf
        go_wp2
        go_ret
        exact ⟨ret_int HE.out.symm, HbL.out⟩
      · rw [inB_yes (by omega) (by omega)]
        have HE0 : Hid (recE ⟨kd, cl, fr, ⟨rs, d⟩⟩ = if (kd ≠ 3 ∧ fr ≠ 0) ∨ (2 < kd ∧ ¬ noPol ⟨rs, d⟩) then 4 else if 2 < kd then 0 else polE ⟨rs, d⟩) := by show _ = _; unfold recE; dsimp only; rw [if_neg hk, if_neg (by omega)]
        by_cases h2 : 2 < kd
        · have b1 : (kd == 1) = false := beq_eq_false_iff_ne.2 (by omega)
          have b2 : (kd == 2) = false := beq_eq_false_iff_ne.2 (by omega)
          by_cases hx : kd ≠ 3 ∧ fr ≠ 0
          · have HE : Hid (recE ⟨kd, cl, fr, ⟨rs, d⟩⟩ = 4) := by show _ = _; rw [HE0.out, if_pos (.inl hx)]
            have b3 : (kd != 3) = true := bne_iff_ne.2 hx.1
            have b4 : decide (0 < fr) = true := decide_eq_true (by omega)
            clear hk hc hf hx h2
            go_wp2
            go_ret
            exact ⟨ret_int HE.out.symm, HbL.out⟩
          · have key : (fr = 0 ∧ decide (0 < fr) = false) ∨ (decide (0 < fr) = true ∧ kd = 3) := by
              by_cases f0 : fr = 0
              · exact .inl ⟨f0, decide_eq_false (by omega)⟩
              · exact .inr ⟨decide_eq_true (by omega), by omega⟩
            have fin : ∀ (nb : Bool), nb = decide (noPol ⟨rs, d⟩) → recE ⟨kd, cl, fr, ⟨rs, d⟩⟩ = if nb then 0 else 4 := fun nb hnb => by
              rw [HE0.out, hnb]
              by_cases hn : noPol ⟨rs, d⟩
              · rw [if_neg (by rintro (h | h); exact hx h; exact h.2 hn), if_pos h2, decide_eq_true hn]; rfl
              · rw [if_pos (.inr ⟨h2, hn⟩), decide_eq_false hn]; rfl
            have Fin := Lib.hid fin
            clear fin hx h2
            rcases key with ⟨rfl, b4⟩ | ⟨b4, rfl⟩
            · clear hk hc hf
              go_wp2_with fail
              refine (rnone_any _ ⟨rs, d⟩ D _ (H.out.below HB.out.bel)).mono ?_
              rintro e w1 ⟨rfl, hb1⟩
              obtain ⟨nb, hnb⟩ : ∃ nb, nb = decide (noPol ⟨rs, d⟩) := ⟨_, rfl⟩
              have HE := Lib.hid (Fin.out nb hnb)
              rw [← hnb]
              have HbF := Lib.hid (HB.out.below hb1).bel
              clear hnb hb1
              cases nb with
              | true =>
                go_wp2
                go_ret
                exact ⟨ret_int HE.out.symm, HbF.out⟩
              | false =>
                go_wp2
                go_ret
                exact ⟨ret_int HE.out.symm, HbF.out⟩
            · clear hk hc hf
              go_wp2_with fail
              refine (rnone_any _ ⟨rs, d⟩ D _ (H.out.below HB.out.bel)).mono ?_
              rintro e w1 ⟨rfl, hb1⟩
              obtain ⟨nb, hnb⟩ : ∃ nb, nb = decide (noPol ⟨rs, d⟩) := ⟨_, rfl⟩
              have HE := Lib.hid (Fin.out nb hnb)
              rw [← hnb]
              have HbF := Lib.hid (HB.out.below hb1).bel
              clear hnb hb1
              cases nb with
              | true =>
                go_wp2
                go_ret
                exact ⟨ret_int HE.out.symm, HbF.out⟩
              | false =>
                go_wp2
                go_ret
                exact ⟨ret_int HE.out.symm, HbF.out⟩
        · by_cases f0 : fr = 0
          · subst f0
            have HE : Hid (recE ⟨kd, cl, 0, ⟨rs, d⟩⟩ = polE ⟨rs, d⟩) := by show _ = _; rw [HE0.out, if_neg (by rintro (h | h); exact h.2 rfl; exact h2 h.1), if_neg h2]
            rcases (by omega : kd = 1 ∨ kd = 2) with rfl | rfl
            · clear hk hc hf h2
              go_wp2_with fail
              refine (rpolcheck_any _ ⟨rs, d⟩ D _ (H.out.below HB.out.bel)).mono ?_
              rintro e w1 ⟨rfl, hb1⟩
              have HbF := Lib.hid (HB.out.below hb1).bel
              clear hb1
              go_wp2
              go_ret
              exact ⟨ret_int HE.out.symm, HbF.out⟩
            · clear hk hc hf h2
              go_wp2_with fail
              refine (rpolcheck_any _ ⟨rs, d⟩ D _ (H.out.below HB.out.bel)).mono ?_
              rintro e w1 ⟨rfl, hb1⟩
              have HbF := Lib.hid (HB.out.below hb1).bel
              clear hb1
              go_wp2
              go_ret
              exact ⟨ret_int HE.out.symm, HbF.out⟩
          · have HE : Hid (recE ⟨kd, cl, fr, ⟨rs, d⟩⟩ = 4) := by show _ = _; rw [HE0.out, if_pos (.inl ⟨by omega, f0⟩)]
            have b4 : decide (0 < fr) = true := decide_eq_true (by omega)
            rcases (by omega : kd = 1 ∨ kd = 2) with rfl | rfl
            · clear hk hc hf f0 h2
              go_wp2
              go_ret
              exact ⟨ret_int HE.out.symm, HbL.out⟩
            · clear hk hc hf f0 h2
              go_wp2
              go_ret
              exact ⟨ret_int HE.out.symm, HbL.out⟩

set_option maxRecDepth 100000 in
set_option maxHeartbeats 8000000 in
theorem rkcheck_any (v : Value) (l : List TCell) (D : Nat → Prop) (w : World) (h : RdCells w D v l) :
    Calls Tryz.prog 34 #[v] w fun e w' => e = .returned (.int .i64 (cellsE l)) ∧ Below w.heap.size w w' := by
  obtain ⟨a, c, rfl, hlc, hcm, hat⟩ := Sl.form h
  have H := Lib.hid h
  clear h
  by_cases h4 : l.length = 4
  · have He := Lib.hid (show cellsE l = cellsGo l by unfold cellsE; rw [if_pos h4])
    have hz : ((l.length : Int) != 4) = false := by simp [h4]
    have H4 := Lib.hid h4
    have hat' := hat (by omega)
    obtain ⟨b, o, rfl, hDb, hb⟩ := hat'
    clear hat h4
    go_enter Tryz.func34, Tryz.ntmps34
    go_wp2_with fail
    go_loopw [12] (fun i wr => ∃ k : Nat, k ≤ l.length ∧ i = .int .i64 k ∧ cellsGo l = cellsGo (l.drop k) ∧ Below w.heap.size w wr) (fun i _ => l.length - (intOf i).toNat)
    case atStart => exact ⟨0, by omega, rfl, rfl, Below.refl _ _⟩
    case round =>
      obtain ⟨k, hk, rfl, hgo, hbw⟩ := hrel
      have Hgo := Lib.hid hgo
      have Hbw := Lib.hid hbw
      clear hgo hbw
      by_cases hlt : k < l.length
      · obtain ⟨a1, a2, c1, c2, k0, k1, k2, k3, hrc, hrp⟩ := RdCells.cells (H.out.below Hbw.out) hlt
        have bad : ∀ e : Int, cellE l[k] = e → e ≠ 0 → ∀ wz, Below w.heap.size w wz → Ending.returned (.int .i64 e) = .returned (.int .i64 (cellsE l)) ∧ Below w.heap.size w wz := fun e he h0 wz hz => by
          refine ⟨ret_int ?_, hz⟩
          rw [He.out, Hgo.out, cellsGo_drop l k hlt, he, if_neg h0]
        have good : cellE l[k] = 0 → cellsGo l = cellsGo (l.drop (k + 1)) := fun he => by rw [Hgo.out, cellsGo_drop l k hlt, if_pos he]
        have Hbad := Lib.hid bad
        have Hgood := Lib.hid good
        clear bad good
        generalize hX : l[k] = X at *
        clear hX
        obtain ⟨op, ch, ⟨rs, d⟩⟩ := X
        dsimp only at k0 k1 k2 k3 hrc hrp
        have Hrc := Lib.hid hrc
        have Hrp := Lib.hid hrp
        have Hsl : Hid (ch.length ≤ 9223372036854775807 ∧ rs.length ≤ 9223372036854775807) := by
          obtain ⟨_, _, hv1, h1, h2, _⟩ := Sl.form hrc
          obtain ⟨_, _, hv2, h3, h4, _⟩ := Sl.form hrp
          exact ⟨by omega, by omega⟩
        clear hrc hrp
        cases op with
        | false =>
          have HC := Lib.hid (Bx.one (w := wr) (o := .cells #[.bool false, .slice a1 ch.length c1, .slice a2 rs.length c2, .int .i64 d] 66))
          have HbC := Lib.hid (bel_call Hbw.out HC.out.bel)
          rcases Nat.eq_zero_or_pos ch.length with hc0 | hc0
          · obtain rfl : ch = [] := List.length_eq_zero_iff.1 hc0
            have e1 : ([] : List (List TIns)).length = 0 := rfl
            have Hrp1 := Lib.hid (Hrp.out.below HC.out.bel)
            clear hc0
            go_wp2_with fail
            refine (rnone_any _ ⟨rs, d⟩ D _ Hrp1.out).mono ?_
            rintro e w1 ⟨rfl, hb1⟩
            have HbC1 := Lib.hid (bel_call HbC.out hb1)
            have HC1 := Lib.hid (HC.out.below hb1)
            have hq := HC1.out.cells0
            clear hb1 HC HbC
            by_cases hn : noPol ⟨rs, d⟩
            · have Hg := Lib.hid (Hgood.out (by unfold cellE; simp [hn]))
              rw [decide_eq_true hn]
              clear hn
              go_wp2
              go_roundw
              case rel => exact ⟨k + 1, by omega, by go_num, Hg.out, HbC1.out⟩
              case measure => simp [intOf]; omega
            · have Hb := Lib.hid (Hbad.out 4 (by unfold cellE; simp [hn]) (by decide))
              rw [decide_eq_false hn]
              clear hn
              go_wp2
              go_ret
              exact Hb.out _ HbC1.out
          · have Hb := Lib.hid (Hbad.out 4 (by unfold cellE; rw [if_neg (by simp), if_neg (by intro h; have := h.1; dsimp only at this; rw [this] at hc0; simp at hc0)]) (by decide))
            have z1 : 0 < (ch.length : Int) := by omega
            have z0 : ch ≠ [] := fun e => by rw [e] at hc0; simp at hc0
            clear hc0
            go_wp2
            go_ret
            exact Hb.out _ HbC.out
        | true =>
          rcases Nat.eq_zero_or_pos ch.length with hc0 | hc0
          · obtain rfl : ch = [] := List.length_eq_zero_iff.1 hc0
            have Hb := Lib.hid (Hbad.out 4 (by unfold cellE; simp) (by decide))
            have e1 : ([] : List (List TIns)).length = 0 := rfl
            clear hc0
            go_wp2
            go_ret
            exact Hb.out _ (bel_alloc Hbw.out _)
          · have hne : ch ≠ [] := fun e => by rw [e] at hc0; simp at hc0
            have Hce : Hid (cellE ⟨true, ch, ⟨rs, d⟩⟩ = if chainE ch ≠ 0 then chainE ch else polE ⟨rs, d⟩) := by show cellE _ = _; unfold cellE; simp [hne]
            have z1 : ((ch.length : Int) == 0) = false := by simpa using (show ¬ (ch.length : Int) = 0 by omega)
            have HC := Lib.hid (Bx.one (w := wr) (o := .cells #[.bool true, .slice a1 ch.length c1, .slice a2 rs.length c2, .int .i64 d] 66))
            have HbC := Lib.hid (bel_call Hbw.out HC.out.bel)
            have z3 : 0 < (ch.length : Int) := by omega
            clear hc0
            go_wp2_with fail
            refine (rchcheck_any _ ch D _ (Hrc.out.below HC.out.bel)).mono ?_
            rintro e w1 ⟨rfl, hb1⟩
            have HC1 := Lib.hid (HC.out.below hb1)
            have HbC1 := Lib.hid (bel_call HbC.out hb1)
            have Hrp1 := Lib.hid ((Hrp.out.below HC.out.bel).below hb1)
            clear hb1 HC
            by_cases he : chainE ch = 0
            · rw [he]
              have hq := HC1.out.cells0
              go_wp2_with fail
              refine (rpolcheck_any _ ⟨rs, d⟩ D _ Hrp1.out).mono ?_
              rintro e w2 ⟨rfl, hb2⟩
              have HbC2 := Lib.hid (bel_call HbC1.out hb2)
              clear hq hb2
              by_cases hp : polE ⟨rs, d⟩ = 0
              · have Hg := Lib.hid (Hgood.out (by rw [Hce.out, if_neg (by simp [he]), hp]))
                rw [hp]
                go_wp2
                go_roundw
                case rel => exact ⟨k + 1, by omega, by go_num, Hg.out, HbC2.out⟩
                case measure => simp [intOf]; omega
              · have Hb := Lib.hid (Hbad.out (polE ⟨rs, d⟩) (by rw [Hce.out, if_neg (by simp [he])]) hp)
                have hp' : (polE ⟨rs, d⟩ != 0) = true := bne_iff_ne.2 hp
                generalize polE ⟨rs, d⟩ = E at Hb hp' ⊢
                clear hp
                go_wp2
                go_ret
                exact Hb.out _ HbC2.out
            · have Hb := Lib.hid (Hbad.out (chainE ch) (by rw [Hce.out, if_pos he]) he)
              have hp' : (chainE ch != 0) = true := bne_iff_ne.2 he
              generalize chainE ch = E at Hb hp' ⊢
              clear he
              go_wp2
              go_ret
              exact Hb.out _ HbC1.out
      · obtain rfl : k = l.length := by omega
        go_wp2
        go_ret
        exact ⟨ret_int (by rw [He.out, Hgo.out, List.drop_length]; rfl), Hbw.out⟩
  · have He := Lib.hid (show cellsE l = 4 by unfold cellsE; rw [if_neg h4])
    have hz : ((l.length : Int) != 4) = true := bne_iff_ne.2 (by omega)
    clear h4 hat
    go_enter Tryz.func34, Tryz.ntmps34
    go_wp2
    go_ret
    exact ⟨ret_int (by rw [He.out]), Below.refl _ _⟩
set_option maxHeartbeats 4000000 in
theorem rksame1_any (x y : TCell) (a1 a2 b1 b2 : Option Addr) (c1 c2 d1 d2 : Nat) (w : World) (h1 : RdChain w (fun _ => True) (.slice a1 x.chain.length c1) x.chain) (h2 : RdRules w (fun _ => True) (.slice a2 x.p.rules.length c2) x.p.rules) (h3 : RdChain w (fun _ => True) (.slice b1 y.chain.length d1) y.chain) (h4 : RdRules w (fun _ => True) (.slice b2 y.p.rules.length d2) y.p.rules) :
    Calls Tryz.prog 77 #[cellV x a1 c1 a2 c2, cellV y b1 d1 b2 d2] w fun e w' => e = .returned (.bool (decide (x = y))) ∧ Below w.heap.size w w' := by
  have H1 := Lib.hid h1
  have H2 := Lib.hid h2
  have H3 := Lib.hid h3
  have H4 := Lib.hid h4
  clear h1 h2 h3 h4
  obtain ⟨ox, cx, px⟩ := x
  obtain ⟨oy, cy, py⟩ := y
  dsimp only at H1 H2 H3 H4 ⊢
  have HB := Lib.hid (Bx.two (w := w) (o := .cells #[.bool ox, .slice a1 cx.length c1, .slice a2 px.rules.length c2, .int .i64 px.dflt] 66) (o' := .cells #[.bool oy, .slice b1 cy.length d1, .slice b2 py.rules.length d2, .int .i64 py.dflt] 66))
  have HD : Hid (decide ((⟨ox, cx, px⟩ : TCell) = ⟨oy, cy, py⟩) = (decide (ox = oy) && decide (cx = cy) && decide (px = py))) := by show _ = _; simp [Bool.and_assoc]
  by_cases ho : ox = oy
  · subst ho
    go_enter Tryz.func77, Tryz.ntmps77
    go_wp2_with fail
    refine (rchsame_any _ _ cx cy _ (H1.out.below HB.out.bel) (H3.out.below HB.out.bel)).mono ?_
    rintro e w1 ⟨rfl, hb1⟩
    have HB1 := Lib.hid (HB.out.below hb1)
    clear hb1
    by_cases hc : cx = cy
    · have d1 : decide (cx = cy) = true := decide_eq_true hc
      have HD' : Hid (decide ((⟨ox, cx, px⟩ : TCell) = ⟨ox, cy, py⟩) = decide (px = py)) := by show _ = _; rw [HD.out, d1]; simp
      rw [d1]
      clear hc HD d1
      have hq0 := HB1.out.cells0
      have hq1 := HB1.out.cells1
      go_wp2_with fail
      refine (rsame_any _ _ px py (fun _ => True) _ (RdRules.below H2.out HB1.out.bel) (RdRules.below H4.out HB1.out.bel)).mono ?_
      rintro e w2 ⟨rfl, hb2⟩
      have HB2 := Lib.hid (HB1.out.below hb2)
      clear hq0 hq1 hb2
      go_wp2
      go_ret
      exact ⟨by rw [HD'.out]; rfl, HB2.out.bel⟩
    · have d1 : decide (cx = cy) = false := decide_eq_false hc
      have HD' : Hid (decide ((⟨ox, cx, px⟩ : TCell) = ⟨ox, cy, py⟩) = false) := by show _ = _; rw [HD.out, d1]; simp
      rw [d1]
      clear hc HD d1
      go_wp2
      go_ret
      exact ⟨by rw [HD'.out]; rfl, HB1.out.bel⟩
  · have d1 : (ox == oy) = false := by simpa using ho
    have HD' : Hid (decide ((⟨ox, cx, px⟩ : TCell) = ⟨oy, cy, py⟩) = false) := by show _ = _; rw [HD.out]; simp [ho]
    clear ho HD
    have HBL : Hid (Below w.heap.size w _) := HB.out.bel
    go_enter Tryz.func77, Tryz.ntmps77
    go_wp2
    go_ret
    exact ⟨by rw [HD'.out]; rfl, HBL.out⟩
set_option maxRecDepth 100000 in
set_option maxHeartbeats 4000000 in
theorem rkeq_any (v u : Value) (xs ys : List TCell) (w : World) (h : RdCells w (fun _ => True) v xs) (h' : RdCells w (fun _ => True) u ys) :
    Calls Tryz.prog 75 #[v, u, .func (.func 77) #[] #[]] w fun e w' => e = .returned (.bool (decide (xs = ys))) ∧ Below w.heap.size w w' := by
  have H := Lib.hid h
  have H' := Lib.hid h'
  obtain ⟨a, c, rfl, hlc, hcm, hat⟩ := Sl.form h
  obtain ⟨a', c', rfl, hlc', hcm', hat'⟩ := Sl.form h'
  clear h h'
  by_cases hl : xs.length = ys.length
  · have Hl := Lib.hid hl
    have hln : ((xs.length : Int) != (ys.length : Int)) = false := by rw [hl]; simp
    clear hl
    go_enter Tryz.func75, Tryz.ntmps75
    go_wp2_with fail
    go_loopw [17] (fun i wr => ∃ k : Nat, k ≤ xs.length ∧ i = .int .i64 k ∧ xs.take k = ys.take k ∧ Below w.heap.size w wr) (fun i _ => xs.length - (intOf i).toNat)
    case atStart => exact ⟨0, by omega, rfl, rfl, Below.refl _ _⟩
    case round =>
      obtain ⟨k, hk, rfl, htk, hbw⟩ := hrel
      have Ht := Lib.hid htk
      have Hb := Lib.hid hbw
      clear htk hbw
      by_cases hlt : k < xs.length
      · obtain ⟨b, o, rfl, _, _⟩ := hat (by omega)
        obtain ⟨b', o', rfl, _, _⟩ := hat' (by rw [← Hl.out]; omega)
        have hlt' : k < ys.length := by rw [← Hl.out]; exact hlt
        obtain ⟨a1, a2, c1, c2, x0, x1, x2, x3, hr1, hp1⟩ := RdCells.cells (H.out.below Hb.out) hlt
        obtain ⟨b1, b2, d1, d2, y0, y1, y2, y3, hr2, hp2⟩ := RdCells.cells (H'.out.below Hb.out) hlt'
        have Hr1 := Lib.hid hr1
        have Hr2 := Lib.hid hr2
        have Hp1 := Lib.hid hp1
        have Hp2 := Lib.hid hp2
        have HC := Lib.hid (Bx.two (w := wr) (o := .cells #[.bool xs[k].open_, .slice a1 xs[k].chain.length c1, .slice a2 xs[k].p.rules.length c2, .int .i64 xs[k].p.dflt] 66) (o' := .cells #[.bool ys[k].open_, .slice b1 ys[k].chain.length d1, .slice b2 ys[k].p.rules.length d2, .int .i64 ys[k].p.dflt] 66))
        have q0 : ∀ O, (wr.alloc O).cell? ⟨b', o' + k * 4, none⟩ = _ := fun O => (Below.cell_alloc' O y0)
        have q1 : ∀ O, (wr.alloc O).cell? ⟨b', o' + k * 4 + 1, none⟩ = _ := fun O => (Below.cell_alloc' O y1)
        have q2 : ∀ O, (wr.alloc O).cell? ⟨b', o' + k * 4 + 2, none⟩ = _ := fun O => (Below.cell_alloc' O y2)
        have q3 : ∀ O, (wr.alloc O).cell? ⟨b', o' + k * 4 + 3, none⟩ = _ := fun O => (Below.cell_alloc' O y3)
        clear hr1 hr2 hp1 hp2
        go_wp2_with fail
        refine (rksame1_any xs[k] ys[k] _ _ _ _ _ _ _ _ _ (Hr1.out.below HC.out.bel) (RdRules.below Hp1.out HC.out.bel) (Hr2.out.below HC.out.bel) (RdRules.below Hp2.out HC.out.bel)).mono ?_
        rintro e w1 ⟨rfl, hb1⟩
        have Hb1 := Lib.hid (bel_call (bel_call Hb.out HC.out.bel) hb1)
        clear hb1 x0 x1 x2 x3 y0 y1 y2 y3 q0 q1 q2 q3 HC
        by_cases he : xs[k] = ys[k]
        · have Hn := Lib.hid (take_eq_step4 hlt hlt' Ht.out he)
          have d : decide (xs[k] = ys[k]) = true := decide_eq_true he
          clear he
          rw [d]
          go_wp2
          go_roundw
          case rel => first | exact ⟨k + 1, by omega, by go_num, Hn.out, Hb1.out⟩ | ((repeat apply Exists.intro); exact ⟨⟨k + 1, by omega, by go_num, Hn.out, Hb1.out⟩, rfl⟩)
          case measure => simp [intOf]; omega
        · have Hn := Lib.hid (ne_of_get4 hlt hlt' he)
          have d : decide (xs[k] = ys[k]) = false := decide_eq_false he
          clear he
          rw [d]
          go_wp2
          go_ret
          exact ⟨by rw [decide_eq_false Hn.out]; rfl, Hb1.out⟩
      · obtain rfl : k = xs.length := by omega
        have Hn : Hid (xs = ys) := by
          have := Ht.out
          rw [List.take_length, Hl.out, List.take_length] at this
          exact this
        go_wp2
        go_ret
        exact ⟨by rw [decide_eq_true Hn.out]; rfl, Hb.out⟩
  · have hn : xs ≠ ys := fun e => hl (by rw [e])
    have hl' : ((xs.length : Int) != (ys.length : Int)) = true := bne_iff_ne.2 (by omega)
    have HD := Lib.hid (decide_eq_false hn)
    clear hn
    go_enter Tryz.func75, Tryz.ntmps75
    go_wp2
    go_ret
    exact ⟨by rw [HD.out]; rfl, Below.refl _ _⟩
set_option maxHeartbeats 1000000 in
theorem rkeepsame_any (v u : Value) (xs ys : List TCell) (w : World) (h : RdCells w (fun _ => True) v xs) (h' : RdCells w (fun _ => True) u ys) :
    Calls Tryz.prog 36 #[v, u] w fun e w' => e = .returned (.bool (decide (xs = ys))) ∧ Below w.heap.size w w' := by
  have H := Lib.hid h
  have H' := Lib.hid h'
  obtain ⟨a, c, rfl, _⟩ := Sl.form h
  obtain ⟨a', c', rfl, _⟩ := Sl.form h'
  clear h h'
  go_enter Tryz.func36, Tryz.ntmps36
  go_wp2_with fail
  refine (rkeq_any _ _ xs ys w H.out H'.out).mono ?_
  rintro e w1 ⟨rfl, hb1⟩
  go_wp2
  go_ret
  exact ⟨rfl, hb1⟩
end Go.Proofs.YtkiipnbjckdlbaaGreatDoor
namespace Go.Proofs.YtkiipnbjckdlbaaGreatDoor
open Go.RowKit

set_option maxRecDepth 100000 in
set_option maxHeartbeats 8000000 in
theorem rtighten_dom (v u0 u1 : Value) (l : List (List TIns)) (p q : TPol) (D : Nat → Prop) (w : World) (h : RdChain w D v l) (hp : RdRules w (fun _ => True) u0 p.rules) (hq : RdRules w (fun _ => True) u1 q.rules) :
    Calls Tryz.prog 21 #[v, polV u0 p.dflt, polV u1 q.dflt] w fun e w' => ∃ v', e = .returned (.tuple #[v', .int .i64 (tightE l p q).2]) ∧ RdChain w' (fun b => D b ∨ w.heap.size ≤ b) v' (tightE l p q).1 ∧ Below w.heap.size w w' := by
  have H := Lib.hid h
  have Hp := Lib.hid hp
  have Hq := Lib.hid hq
  obtain ⟨a, c, rfl, hlc, hcm, hat⟩ := Sl.form h
  obtain ⟨ap, cp, rfl, _⟩ := Sl.form hp
  obtain ⟨aq, cq, rfl, _⟩ := Sl.form hq
  clear h hp hq
  obtain ⟨⟨Y, ye⟩, hY⟩ : ∃ E, deltaE p q = E := ⟨_, rfl⟩
  have HY := Lib.hid hY
  obtain ⟨⟨F, fe⟩, hF⟩ : ∃ E, filterE Y = E := ⟨_, rfl⟩
  have HF := Lib.hid hF
  have HFl : Hid (fe = 0 → filterL Y = F) := fun h => by have := (filterE_ok (p := Y) (by rw [hF]; exact h)).2.1; rw [hF] at this; exact (Prod.mk.inj this).1.symm
  have HT : Hid (tightE l p q = if chainE l ≠ 0 then ([], chainE l) else if ye ≠ 0 then ([], ye) else if l.length = 6 then ([], 2) else if fe ≠ 0 then ([], fe) else (l ++ [filterL Y], 0)) := by
    show tightE l p q = _
    unfold tightE
    rw [hY]
    dsimp only
    rw [hF]
  clear hY hF
  go_enter Tryz.func21, Tryz.ntmps21
  go_wp2_with fail
  have HB := Lib.hid (Bx.two (w := w) (o := .cells #[.slice ap p.rules.length cp, .int .i64 p.dflt] 37) (o' := .cells #[.slice aq q.rules.length cq, .int .i64 q.dflt] 37))
  refine (rchcheck_any _ l D _ (H.out.below HB.out.bel)).mono ?_
  rintro e w1 ⟨rfl, hb1⟩
  have HB1 := Lib.hid (HB.out.below hb1)
  clear hb1
  by_cases h0 : chainE l = 0
  · obtain ⟨hl6, hcodes⟩ := (chainE_iff l).1 h0
    have Hcd := Lib.hid hcodes
    have H0 := Lib.hid h0
    have hq0 := HB1.out.cells0
    have hq1 := HB1.out.cells1
    rw [h0]
    clear h0 hcodes
    go_wp2_with fail
    refine (rdelta_any _ _ p q _ (Hp.out.below HB1.out.bel) (Hq.out.below HB1.out.bel)).mono ?_
    rw [HY.out]
    rintro e w2 ⟨rY, rfl, hrY, hb2⟩
    have HB2 := Lib.hid (HB1.out.below hb2)
    have RY := Lib.hid (rules_true hrY)
    obtain ⟨aY, cY, rfl, _⟩ := Sl.form hrY
    have HC := Lib.hid (Bx.one (w := w2) (o := .cells #[.slice aY Y.rules.length cY, .int .i64 Y.dflt] 37))
    have HB3 := Lib.hid (HB2.out.below HC.out.bel)
    have RY3 := Lib.hid (RY.out.below HC.out.bel)
    have hqc := HC.out.cells0
    clear hrY hb2 hq0 hq1
    by_cases hy : ye = 0
    · subst hy
      by_cases h6 : l.length = 6
      · have HE : Hid (tightE l p q = ([], 2)) := by show tightE l p q = _; rw [HT.out, if_neg (by rw [H0.out]; simp), if_neg (by simp), if_pos h6]
        have HBf := Lib.hid HB3.out.bel
        have h6' : ((l.length : Int) == 6) = true := beq_iff_eq.2 (by omega)
        go_wp2
        go_ret2
        rw [HE.out]
        exact ⟨_, rfl, nil_chain _ _, HBf.out⟩
      · have h6' : ((l.length : Int) == 6) = false := by simpa using (show ¬ (l.length : Int) = 6 by omega)
        go_wp2_with fail
        refine (rfilter_any _ Y _ _ RY3.out).mono ?_
        rw [HF.out]
        rintro e w4 ⟨vF, rfl, hrF, hb4⟩
        have HB4 := Lib.hid (HB3.out.below hb4)
        have RF := Lib.hid hrF
        obtain ⟨aF, cF, rfl, _⟩ := Sl.form hrF
        clear hrF hb4 hqc
        by_cases hf : fe = 0
        · subst hf
          have HE : Hid (tightE l p q = (l ++ [F], 0)) := by show tightE l p q = _; rw [HT.out, if_neg (by rw [H0.out]; simp), if_neg (by simp), if_neg h6, if_neg (by simp), HFl.out rfl]
          have htop : w.heap.size + 2 ≤ w4.heap.size := HB4.out.top
          have hsz3 : w.heap.size ≤ (w2.alloc (.cells #[.slice aY Y.rules.length cY, .int .i64 Y.dflt] 37)).heap.size := HB3.out.bel.size
          obtain ⟨i0, hi, hz0, hz1, hz2⟩ := info_parts infocChain
          have Hi := Lib.hid hi
          have H4 : Hid (RdChain w4 (fun b => b < w4.heap.size ∧ (D b ∨ w.heap.size ≤ b)) (.slice a l.length c) l) := RdChain.keep (H.out.below HB4.out.bel) (fun _ hd hl => ⟨hl, .inl hd⟩) (fun _ _ _ => rfl) (Nat.le_refl _)
          have RF4 : Hid (RdCode w4 (fun b => b < w4.heap.size ∧ (D b ∨ w.heap.size ≤ b)) (.slice aF F.length cF) F) := RF.out.keep (fun b hb hl => ⟨hl, .inr (Nat.le_trans hsz3 hb)⟩) (fun _ _ _ => rfl) (Nat.le_refl _)
          have h4c : ∀ (b o : Nat), a = some ⟨b, o, none⟩ → True := fun _ _ _ => trivial
          obtain ⟨w5, hw5⟩ : ∃ w5, w4.alloc (.cells #[] 31) = w5 := ⟨_, rfl⟩
          have Hb5 : Hid (Below w4.heap.size w4 w5) := by show Below _ _ _; rw [← hw5]; exact bel_alloc (Below.refl _ _) _
          have Ho5 : Hid (OwnSl w5 w4.heap.size 31 1 (chainR w5 (fun b => b < w4.heap.size ∧ (D b ∨ w.heap.size ≤ b))) (.slice (some ⟨w4.heap.size, 0, none⟩) 0 0) []) := own_empty (by rw [← hw5]; exact heap_last _ _) (Nat.le_refl _)
          have H5 := Lib.hid (H4.out.below Hb5.out)
          have RF5 : Hid (RdCode w5 (fun b => b < w4.heap.size ∧ (D b ∨ w.heap.size ≤ b)) (.slice aF F.length cF) F) := RF4.out.below Hb5.out
          have hsz5 : w5.heap.size = w4.heap.size + 1 := by rw [← hw5]; simp
          clear hi h4c
          have hq4 := HB4.out.bel.size
          go_wp2_with (at_builtin; first
            | (refine wpList_app2 rfl _ _ 22 rfl w4.heap.size 31 i0 _ 1 24 Tryz.underlying22 Hi.out hz0 hz1 hz2 rfl (by decide) _ _ rfl Ho7.out _ _ rfl HN7.out (fun y _ cs h => chainR_one y cs h) (by show _ + 1 ≤ maxLen; unfold maxLen; omega) (by show (_ + 1) * 24 ≤ _; omega) (by simp; omega) ?_; intro v8 w8 hown8 hg8 hat8; have Hown8 := Lib.hid hown8; have Hg8 := Lib.hid hg8; clear hown8 hg8 hat8)
            | (refine wpList_app2 rfl _ _ 22 rfl w4.heap.size 31 i0 _ 1 24 Tryz.underlying22 Hi.out hz0 hz1 hz2 rfl (by decide) _ _ rfl Ho5.out _ _ rfl H5.out (fun y _ cs h => chainR_one y cs h) (by show 0 + _ ≤ maxLen; unfold maxLen; omega) (by show (0 + _) * 24 ≤ _; omega) (by omega) ?_; intro v6 w6 hown6 hg6 hat6; rw [List.nil_append] at hown6; have Hg6 := Lib.hid hg6; have hsame : ∀ b, b < w4.heap.size → w6.heap[b]? = w5.heap[b]? := (fun b hb => Hg6.out.block b (by omega) (fun e => by have e2 : some b = some w4.heap.size := e; injection e2 with e2; omega)); have hs6 : w5.heap.size ≤ w6.heap.size := Hg6.out.size; have Ho6 : Hid (OwnSl w6 w4.heap.size 31 1 (chainR w6 (fun b => b < w4.heap.size ∧ (D b ∨ w.heap.size ≤ b))) v6 l) := (hown6.monoR fun _ _ _ ⟨u, e1, e2⟩ => ⟨u, e1, e2.keep (fun _ h _ => h) (fun b hb _ => hsame b hb.1) hs6⟩); have RF6 : Hid (RdCode w6 (fun b => b < w4.heap.size ∧ (D b ∨ w.heap.size ≤ b)) (.slice aF F.length cF) F) := RF5.out.keep (fun _ h _ => h) (fun b hb _ => hsame b hb.1) hs6; have Hb6 : Hid (Below w4.heap.size w4 w6) := Below.grown Hb5.out Hg6.out (by omega) (fun g hg => by have e2 : some w4.heap.size = some g := hg; injection e2 with e2; omega); have Hb7 := Lib.hid (bel_alloc (Below.refl w6.heap.size w6) (.cells #[.slice aF F.length cF] 31)); have Ho7 : Hid (OwnSl (w6.alloc (.cells #[.slice aF F.length cF] 31)) w4.heap.size 31 1 (chainR (w6.alloc (.cells #[.slice aF F.length cF] 31)) (fun b => b < w4.heap.size ∧ (D b ∨ w.heap.size ≤ b))) v6 l) := ((Ho6.out.below Hb7.out).monoR fun _ _ _ ⟨u, e1, e2⟩ => ⟨u, e1, e2.below Hb7.out⟩); have HN7 := Lib.hid (one_code (T := 31) (heap_last w6 (.cells #[.slice aF F.length cF] 31)) (RF6.out.below Hb7.out)); clear hown6 hg6 hat6 hsame; obtain ⟨a6, c6, rfl⟩ := Ho6.out.slice))
          go_ret2
          rw [HE.out]
          have hblk := Ho7.out.block
          have hb8 : Below w4.heap.size w4 w8 := Below.grown (Hb6.out.trans (Hb7.out.mono (by omega))) Hg8.out (by simp; omega) (fun g hg => hblk g hg)
          refine ⟨v8, rfl, ?_, HB4.out.bel.trans (hb8.mono hq4)⟩
          exact (Hown8.out.monoR (R' := chainR w8 (fun b => D b ∨ w.heap.size ≤ b)) fun _ _ _ ⟨u, h1, h2⟩ => ⟨u, h1, h2.keep (fun _ hb _ => hb.2) (fun b hb hl => Hg8.out.block b hl (fun e => by have h9 : b < w4.heap.size := hb.1; have := hblk b e.symm; omega)) Hg8.out.size⟩).sl (fun b hb => .inr (Nat.le_trans hq4 hb))
        · have HE : Hid (tightE l p q = ([], fe)) := by show tightE l p q = _; rw [HT.out, if_neg (by rw [H0.out]; simp), if_neg (by simp), if_neg h6, if_pos hf]
          have hb0 : (fe != 0) = true := bne_iff_ne.2 hf
          have HBf := Lib.hid HB4.out.bel
          clear hf
          go_wp2
          go_ret2
          rw [HE.out]
          exact ⟨_, rfl, nil_chain _ _, HBf.out⟩
    · have HE : Hid (tightE l p q = ([], ye)) := by show tightE l p q = _; rw [HT.out, if_neg (by rw [H0.out]; simp), if_pos hy]
      have hb0 : (ye != 0) = true := bne_iff_ne.2 hy
      have HBf := Lib.hid HB3.out.bel
      clear hy
      go_wp2
      go_ret2
      rw [HE.out]
      exact ⟨_, rfl, nil_chain _ _, HBf.out⟩
  · have HE : Hid (tightE l p q = ([], chainE l)) := by show tightE l p q = _; rw [HT.out, if_pos h0]
    have hb0 : (chainE l != 0) = true := bne_iff_ne.2 h0
    have HBf := Lib.hid HB1.out.bel
    clear h0
    go_wp2
    go_ret2
    rw [HE.out]
    exact ⟨_, rfl, nil_chain _ _, HBf.out⟩
end Go.Proofs.YtkiipnbjckdlbaaGreatDoor
namespace Go.Proofs.YtkiipnbjckdlbaaGreatDoor
open Go.RowKit
attribute [local go_sem] gives givesUpon

theorem own_emptyR {α : Type} {W : World} {base b sz : Nat} {e : TypeId} {R : α → List Value → Prop} (hb : W.heap[b]? = some (.cells #[] e)) (hbase : base ≤ b) : OwnSl W base e sz R (.slice (some ⟨b, 0, none⟩) 0 0) ([] : List α) :=
  ⟨[], RowsOf.nil, by simp, .inr ⟨b, 0, #[], by simp, hbase, hb, by simp, by unfold maxLen; omega, by simp, by simp⟩⟩
/-- a box of four cells put anew. -/
theorem Bx.put4 {w W : World} {T : TypeId} {a b c d a' b' c' d' : Value} {r : List Obj} (h : Bx w (.cells #[a, b, c, d] T :: r) W) :
    Bx w (.cells #[a', b', c', d'] T :: r) ((((W.setCell ⟨w.heap.size, 0, none⟩ a').setCell ⟨w.heap.size, 1, none⟩ b').setCell ⟨w.heap.size, 2, none⟩ c').setCell ⟨w.heap.size, 3, none⟩ d') :=
  (((h.set (i := 0) rfl 0 a').set (i := 0) rfl 1 b').set (i := 0) rfl 2 c').set (i := 0) rfl 3 d'
theorem Bx.put2 {w W : World} {T : TypeId} {a b a' b' : Value} {o : Obj} {r : List Obj} (h : Bx w (o :: .cells #[a, b] T :: r) W) :
    Bx w (o :: .cells #[a', b'] T :: r) ((W.setCell ⟨w.heap.size + 1, 0, none⟩ a').setCell ⟨w.heap.size + 1, 1, none⟩ b') :=
  (h.set (i := 1) rfl 0 a').set (i := 1) rfl 1 b'
theorem put4_other {W : World} {g b : Nat} {x y z u : Value} (h : b ≠ g) : ((((W.setCell ⟨g, 0, none⟩ x).setCell ⟨g, 1, none⟩ y).setCell ⟨g, 2, none⟩ z).setCell ⟨g, 3, none⟩ u).heap[b]? = W.heap[b]? := by
  rw [set_other h, set_other h, set_other h, set_other h]
theorem put4_size {W : World} {g : Nat} {x y z u : Value} : ((((W.setCell ⟨g, 0, none⟩ x).setCell ⟨g, 1, none⟩ y).setCell ⟨g, 2, none⟩ z).setCell ⟨g, 3, none⟩ u).heap.size = W.heap.size := by
  simp only [set_size]
/-- the worlds of the region that puts chain and policy. -/
structure CInv (w0 wq : World) (T : TypeId) (pol : Obj) (c0 c1 c2 c3 d1 d2 d3 : Value) (done : Nat → Bool) (W : World) : Prop where
  bx : Bx w0 [.cells #[c0, if done 3 then d1 else c1, if done 5 then d2 else c2, if done 5 then d3 else c3] T, pol] W
  gr : wq.grownBy W (some w0.heap.size)
section
variable {w0 wq W : World} {T : TypeId} {pol : Obj} {c0 c1 c2 c3 d1 d2 d3 : Value} {done : Nat → Bool} {k : Nat}
theorem CInv.step (h : CInv w0 wq T pol c0 c1 c2 c3 d1 d2 d3 done W) (h3 : 3 ≠ k) (h5 : 5 ≠ k) : CInv w0 wq T pol c0 c1 c2 c3 d1 d2 d3 (updDone done k) W := by
  refine ⟨?_, h.gr⟩
  unfold updDone
  rw [if_neg h3, if_neg h5]
  exact h.bx
theorem CInv.st3 (h : CInv w0 wq T pol c0 c1 c2 c3 d1 d2 d3 done W) : CInv w0 wq T pol c0 c1 c2 c3 d1 d2 d3 (updDone done 3) (W.setCell ⟨w0.heap.size, 1, none⟩ d1) := by
  refine ⟨?_, grow_trans h.gr (grow_set W _ _ _)⟩
  have e3 : updDone done 3 3 = true := rfl
  have e5 : updDone done 3 5 = done 5 := rfl
  rw [e3, e5]
  exact h.bx.set (i := 0) rfl 1 d1
theorem CInv.st5 (h : CInv w0 wq T pol c0 c1 c2 c3 d1 d2 d3 done W) : CInv w0 wq T pol c0 c1 c2 c3 d1 d2 d3 (updDone done 5) ((W.setCell ⟨w0.heap.size, 2, none⟩ d2).setCell ⟨w0.heap.size, 3, none⟩ d3) := by
  refine ⟨?_, grow_trans (grow_trans h.gr (grow_set W _ _ _)) (grow_set _ _ _ _)⟩
  have e3 : updDone done 5 3 = done 3 := rfl
  have e5 : updDone done 5 5 = true := rfl
  rw [e3, e5]
  exact (h.bx.set (i := 0) rfl 2 d2).set (i := 0) rfl 3 d3
end

set_option maxRecDepth 100000 in
set_option maxHeartbeats 16000000 in
theorem rnext_any (v u : Value) (l : List TCell) (r : TRec) (D D' : Nat → Prop) (w : World) (h : RdCells w D v l) (h' : RdRules w D' u r.p.rules) :
    Calls Tryz.prog 31 #[v, recV r u] w fun e w' => ∃ a1 c1, e = .returned (.tuple #[.slice a1 (nextE l r).1.length c1, .int .i64 (nextE l r).2]) ∧ RdCells w' (fun _ => True) (.slice a1 (nextE l r).1.length c1) (nextE l r).1 ∧ Below w.heap.size w w' := by
  have H := Lib.hid h
  have Hr : Hid (RdRules w (fun b => b < w.heap.size) u r.p.rules) := h'.keep (fun _ _ hl => hl) (fun _ _ _ => rfl) (Nat.le_refl _)
  obtain ⟨kd, cl, fr, p⟩ := r
  dsimp only at Hr h' ⊢
  obtain ⟨a, c, rfl, hlc, hcm, hat⟩ := Sl.form h
  have Hat := Lib.hid hat
  obtain ⟨ap, cp, rfl, _⟩ := Sl.form h'
  clear h h' hat hlc hcm
  go_enter Tryz.func31, Tryz.ntmps31
  go_wp2_with fail
  have HB := Lib.hid (Bx.one (w := w) (o := .cells #[.int .i64 kd, .int .i64 cl, .int .i64 fr, .slice ap p.rules.length cp, .int .i64 p.dflt] 55))
  refine (rkcheck_any _ l D _ (H.out.below HB.out.bel)).mono ?_
  rintro e w1 ⟨rfl, hb1⟩
  have HB1 := Lib.hid (HB.out.below hb1)
  have H1 := Lib.hid ((H.out.below HB.out.bel).below hb1)
  have Hr1 := Lib.hid (RdRules.below (RdRules.below Hr.out HB.out.bel) hb1)
  clear hb1 HB H Hr
  by_cases h0 : cellsE l = 0
  · rw [h0]
    have H0 := Lib.hid h0
    have hq0 := HB1.out.cells0
    go_wp2_with fail
    refine (rreccheck_any _ ⟨kd, cl, fr, p⟩ _ _ Hr1.out).mono ?_
    rintro e w2 ⟨rfl, hb2⟩
    have HB2 := Lib.hid (HB1.out.below hb2)
    have H2 := Lib.hid (H1.out.below hb2)
    have Hr2 := Lib.hid (RdRules.below Hr1.out hb2)
    clear hb2 HB1 H1 Hr1 hq0
    by_cases h3 : recE ⟨kd, cl, fr, p⟩ = 0
    · rw [h3]
      obtain ⟨hk1, hk2, hcl0, hcl1, hfr0, hfr1, hnf, hno, hokp⟩ := recE_ok h3
      dsimp only at hk1 hk2 hcl0 hcl1 hfr0 hfr1 hokp
      clear hnf hno hokp
      obtain ⟨hl4, hce⟩ := (cellsE_iff l).1 h0
      obtain ⟨k, rfl⟩ : ∃ k : Nat, cl = k := ⟨cl.toNat, by omega⟩
      obtain ⟨j, rfl⟩ : ∃ j : Nat, fr = j := ⟨fr.toNat, by omega⟩
      have hkL : k < l.length := by omega
      have hjL : j < l.length := by omega
      have hx := List.getElem?_eq_getElem hkL
      have hy := List.getElem?_eq_getElem hjL
      obtain ⟨b, o, rfl, _, _⟩ := Hat.out (by omega)
      obtain ⟨a1, a2, c1, c2, x0, x1, x2, x3, hrc, hrp⟩ := RdCells.cells H2.out hkL
      obtain ⟨x, hX⟩ : ∃ x, l[k] = x := ⟨_, rfl⟩
      obtain ⟨y, hY⟩ : ∃ y, l[j] = y := ⟨_, rfl⟩
      rw [hX] at x0 x1 x2 x3 hrc hrp hx
      obtain ⟨xop, hxop⟩ : ∃ q, x.open_ = q := ⟨_, rfl⟩
      rw [hxop] at x0
      have Hxop := Lib.hid hxop
      clear hxop
      rw [hY] at hy
      have Hy := Lib.hid hy
      have hxk : cellAt l k = x := by unfold cellAt; rw [Int.toNat_natCast, List.getD_eq_getElem?_getD, hx]; rfl
      have hyj : cellAt l j = y := by unfold cellAt; rw [Int.toNat_natCast, List.getD_eq_getElem?_getD, hy]; rfl
      have HN : Hid (nextE l ⟨kd, k, j, p⟩ = if x.open_ = decide (kd = 1 ∨ kd = 3) then ([], 6) else if (nextCell l ⟨kd, k, j, p⟩).2 ≠ 0 then ([], (nextCell l ⟨kd, k, j, p⟩).2) else (l.set k (nextCell l ⟨kd, k, j, p⟩).1, 0)) := by
        show nextE _ _ = _
        unfold nextE
        rw [if_neg (by rw [h0]; simp), if_neg (by rw [h3]; simp)]
        dsimp only
        rw [hxk, Int.toNat_natCast]
      have Hx := Lib.hid hx
      have Hrc := Lib.hid hrc
      have Hrp := Lib.hid hrp
      have Hxk := Lib.hid hxk
      have Hyj := Lib.hid hyj
      have Hl4 := Lib.hid hl4
      have hkl : (k : Int) < (l.length : Int) := by omega
      have hjl : (j : Int) < (l.length : Int) := by omega
      have hk0 : (0 : Int) ≤ (k : Int) := by omega
      have hj0 : (0 : Int) ≤ (j : Int) := by omega
      have hkw : IntKind.i64.wrap (k : Int) = (k : Int) := IntWalk.i64_in _ (by omega)
      have hjw : IntKind.i64.wrap (j : Int) = (j : Int) := IntWalk.i64_in _ (by omega)
      have HT := Lib.hid HB2.out.top
      clear hX hY hrc hrp hkL hjL Hat
      clear h0 h3 hce hl4 hxk hyj hx hy hcl0 hcl1 hfr0 hfr1
      have hq0 := HB2.out.cells0
      have HC := Lib.hid (Bx.two (w := w2) (o := .cells #[.bool xop, .slice a1 x.chain.length c1, .slice a2 x.p.rules.length c2, .int .i64 x.p.dflt] 66) (o' := .cells #[.slice ap p.rules.length cp, .int .i64 p.dflt] 37))
      have HC1 := Lib.hid (Bx.one (w := w2) (o := .cells #[.bool xop, .slice a1 x.chain.length c1, .slice a2 x.p.rules.length c2, .int .i64 x.p.dflt] 66))
      have HBq := Lib.hid (HB2.out.below HC.out.bel)
      have Hqq : Hid (∀ O, ∀ i, (w2.alloc O).cell? ⟨w.heap.size, i, none⟩ = (#[Value.int .i64 kd, .int .i64 k, .int .i64 j, .slice ap p.rules.length cp, .int .i64 p.dflt] : Array Value)[i]?) := fun O => (HB2.out.alloc O).cells0
      have hqq := Hqq.out
      have hc1 := HC1.out.cells0
      have hqb := HBq.out.cells0
      have hcb := HC.out.cells0
      have hpb := HC.out.cells1
      have hcf := HC.out.free0
      have hpf : ∀ i, _ = false := HC.out.free1
      have hkd : kd = 1 ∨ kd = 3 ∨ kd = 2 ∨ kd = 4 := by omega
      clear hk1 hk2 Hqq
      rcases hkd with rfl | rfl | rfl | rfl
      · cases xop with
        | true =>
          have HE : Hid (nextE l ⟨1, k, j, p⟩ = ([], 6)) := by show nextE _ _ = _; rw [HN.out, if_pos (by rw [Hxop.out]; decide)]
          have HBL1 : Hid (Below w.heap.size w _) := (HB2.out.below HC1.out.bel).bel
          clear HN
          go_wp2
          go_ret2
          rw [HE.out]
          exact ⟨_, _, rfl, nil_cells _ _, HBL1.out⟩
        | false =>
          have HN' : Hid (nextE l ⟨1, k, j, p⟩ = if (nextCell l ⟨1, k, j, p⟩).2 ≠ 0 then ([], (nextCell l ⟨1, k, j, p⟩).2) else (l.set k (nextCell l ⟨1, k, j, p⟩).1, 0)) := by show nextE _ _ = _; rw [HN.out, if_neg (by rw [Hxop.out]; decide)]
          clear HN
          have HNC0 : Hid (nextCell l ⟨1, k, j, p⟩ = beginE p) := by show nextCell _ _ = _; unfold nextCell; rw [if_neg (by show ¬ (1 : Int) = 3; decide), if_pos rfl]
          have Hp2 := Lib.hid Hr2.out
          have HCc := Lib.hid HC.out
          have Hpp := Lib.hid (Hr2.out.below HC.out.bel)
          go_wp2_with fail
          refine (rfilter_any _ p _ _ Hpp.out).mono ?_
          obtain ⟨⟨F, fe⟩, hF⟩ : ∃ E, filterE p = E := ⟨_, rfl⟩
          have HFl : Hid (fe = 0 → filterL p = F) := fun h => by have := (filterE_ok (p := p) (by rw [hF]; exact h)).2.1; rw [hF] at this; exact (Prod.mk.inj this).1.symm
          have HBe : Hid (beginE p = if fe ≠ 0 then (zeroCell, fe) else (⟨true, [filterL p], p⟩, 0)) := by show beginE _ = _; unfold beginE; rw [hF]
          rw [hF]
          rintro e w5 ⟨vF, rfl, hrF, hb5⟩
          have HC5 := Lib.hid (HCc.out.below hb5)
          have HB5 := Lib.hid (HB2.out.below HC5.out.bel)
          have RF := Lib.hid (RdCode.keep hrF (D' := fun b => w2.heap.size + 2 ≤ b) (fun b hb _ => Nat.le_trans HCc.out.top hb) (fun _ _ _ => rfl) (Nat.le_refl _))
          obtain ⟨aF, cF, rfl, _⟩ := Sl.form hrF
          clear hrF hb5 hF
          clear hqq hc1 hqb hcb hpb
          by_cases hf : fe = 0
          · subst hf
            have HNC : Hid (nextCell l ⟨1, k, j, p⟩ = (⟨true, [F], p⟩, 0)) := by show nextCell _ _ = _; rw [HNC0.out, HBe.out, if_neg (by simp), HFl.out rfl]
            have HE : Hid (nextE l ⟨1, k, j, p⟩ = (l.set k ⟨true, [F], p⟩, 0)) := by show nextE _ _ = _; rw [HN'.out, HNC.out]; simp
            have HK := Lib.hid (Bx.one (w := w5) (o := .cells #[.slice aF F.length cF] 31))
            have HCk := Lib.hid (HC5.out.below HK.out.bel)
            have HBk := Lib.hid (HB5.out.below HK.out.bel)
            have Hsz5 : Hid (w2.heap.size + 2 ≤ w5.heap.size) := HC5.out.top
            have hckk := HCk.out.cells0
            have hpkk := HCk.out.cells1
            have hfkk := HCk.out.free0
            have hc5 := HC5.out.cells0
            have hp5 := HC5.out.cells1
            have hb5k := HBk.out.cells0
            obtain ⟨wF, hwF⟩ : ∃ wF, (((((w5.alloc (.cells #[.slice aF F.length cF] 31)).setCell ⟨w2.heap.size, 0, none⟩ (.bool true)).setCell ⟨w2.heap.size, 1, none⟩ (.slice (some ⟨w5.heap.size, 0, none⟩) 1 1)).setCell ⟨w2.heap.size, 2, none⟩ (.slice ap p.rules.length cp)).setCell ⟨w2.heap.size, 3, none⟩ (.int .i64 p.dflt)) = wF := ⟨_, rfl⟩
            have hoth : ∀ b, b ≠ w2.heap.size → wF.heap[b]? = (w5.alloc (.cells #[.slice aF F.length cF] 31)).heap[b]? := fun b hb => by rw [← hwF]; exact put4_other hb
            have hszF : wF.heap.size = (w5.alloc (.cells #[.slice aF F.length cF] 31)).heap.size := by rw [← hwF]; exact put4_size
            have HCF := Lib.hid (show Bx w2 _ wF by rw [← hwF]; exact HCk.out.put4 (a' := .bool true) (b' := .slice (some ⟨w5.heap.size, 0, none⟩) 1 1) (c' := .slice ap p.rules.length cp) (d' := .int .i64 p.dflt))
            have HYp : Hid (RdRules wF (fun _ => True) (.slice ap p.rules.length cp) p.rules) := rules_true (Hp2.out.below HCF.out.bel)
            have HYc : Hid (RdChain wF (fun _ => True) (.slice (some ⟨w5.heap.size, 0, none⟩) 1 1) [F]) :=
              sl_block (xs := [F]) (rows := [[.slice aF F.length cF]]) (RowsOf.cons RowsOf.nil ⟨_, rfl, (RF.out.below HK.out.bel).keep (fun _ _ _ => trivial) (fun b hb _ => hoth b (by have h1 : w2.heap.size + 2 ≤ b := hb; omega)) (by rw [hszF]; exact Nat.le_refl _)⟩ rfl) ((hoth _ (by have := Hsz5.out; omega)).trans (HK.out.at_ 0 _ rfl)) rfl trivial (by simp [maxLen])
            clear hoth hszF
            have HBF := Lib.hid (HB2.out.below HCF.out.bel)
            have HF : Hid (RdCells wF (fun b => b < wF.heap.size) (.slice (some ⟨b, o, none⟩) l.length c) l) := (H2.out.below HCF.out.bel).keep (fun _ _ hl => hl) (fun _ _ _ => rfl) (Nat.le_refl _)
            have hqf := HBF.out.cells0
            have hcq := HCF.out.cells0
            obtain ⟨i0, hi, hz0, hz1, hz2⟩ := info_parts infocCell
            have Hi := Lib.hid hi
            obtain ⟨w7, hw7⟩ : ∃ w7, wF.alloc (.cells #[] 66) = w7 := ⟨_, rfl⟩
            have Hb7 : Hid (Below wF.heap.size wF w7) := by show Below _ _ _; rw [← hw7]; exact bel_alloc (Below.refl _ _) _
            have Ho7 : Hid (OwnSl w7 wF.heap.size 66 4 (cellR w7 (fun b => b < wF.heap.size)) (.slice (some ⟨wF.heap.size, 0, none⟩) 0 0) []) := own_emptyR (by rw [← hw7]; exact heap_last _ _) (Nat.le_refl _)
            have H7 := Lib.hid (HF.out.below Hb7.out)
            have hsz7 : w7.heap.size = wF.heap.size + 1 := by rw [← hw7]; simp
            have HL4 := Lib.hid Hl4.out
            have hq7 : ∀ i, w7.cell? ⟨w.heap.size, i, none⟩ = (#[Value.int .i64 1, .int .i64 k, .int .i64 j, .slice ap p.rules.length cp, .int .i64 p.dflt] : Array Value)[i]? := (HBF.out.below Hb7.out).cells0
            have Hge : Hid (w.heap.size + 1 ≤ w2.heap.size ∧ w2.heap.size + 2 ≤ wF.heap.size) := ⟨HT.out, HCF.out.top⟩
            clear hi
            go_wp2_with (at_builtin; (
              refine wpList_app2 rfl _ _ 53 rfl wF.heap.size 66 i0 _ 4 64 Tryz.underlying53 Hi.out hz0 hz1 hz2 rfl (by decide) _ _ rfl Ho7.out _ _ rfl H7.out (fun y _ cs h => cellR_one y cs h) (by have := HL4.out; show 0 + _ ≤ maxLen; unfold maxLen; omega) (by have := HL4.out; show (0 + _) * 64 ≤ _; omega) (by omega) ?_
              intro v8 w8 hown8 hg8 hat8
              rw [List.nil_append] at hown8
              have Hb8 : Hid (Below wF.heap.size wF w8) := Below.grown Hb7.out hg8 (by omega) (fun g hg => by have e2 : some wF.heap.size = some g := hg; injection e2 with e2; omega)
              have hsame : ∀ b, b < wF.heap.size → w8.heap[b]? = w7.heap[b]? := (fun b hb => hg8.block b (by omega) (fun e => by have e2 : some b = some wF.heap.size := e; injection e2 with e2; omega))
              have hs8 : w7.heap.size ≤ w8.heap.size := hg8.size
              obtain ⟨a8, c8, rfl⟩ := hown8.slice
              obtain ⟨g, rfl, hgb, hgl, _⟩ := OwnSl.addr hown8 (by have := HL4.out; omega)
              have HO8 : Hid (OwnCells w8 wF.heap.size 0 g l.length c8 l) := hown8.monoR fun _ _ _ hy => hy.keep (fun b hb _ => ⟨Nat.zero_le _, by have h9 : b < wF.heap.size := hb; omega⟩) (fun b hb _ => hsame b hb) hs8
              have Hgb : Hid (wF.heap.size ≤ g) := hgb
              have HBF8 := Lib.hid (HBF.out.below Hb8.out)
              have HCF8 := Lib.hid (HCF.out.below Hb8.out)
              have hqf8 := HBF8.out.cells0
              have hcq8 := HCF8.out.cells0
              have HYc8 : Hid (RdChain w8 (Dg 0 g) (.slice (some ⟨w5.heap.size, 0, none⟩) 1 1) (⟨true, [F], p⟩ : TCell).chain) := HYc.out.keep (fun b _ hl => ⟨Nat.zero_le _, by have h9 := Hgb.out; omega⟩) (fun b _ hl => Hb8.out.block b hl) Hb8.out.size
              have HYp8 : Hid (RdRules w8 (Dg 0 g) (.slice ap p.rules.length cp) (⟨true, [F], p⟩ : TCell).p.rules) := HYp.out.keep (fun b _ hl => ⟨Nat.zero_le _, by have h9 := Hgb.out; omega⟩) (fun b _ hl => Hb8.out.block b hl) Hb8.out.size
              obtain ⟨za1, za2, zc1, zc2, z0, z1, z2, z3, _, _⟩ := HO8.out.cells Hx.out
              have hfz := HO8.out.frz (by have := HL4.out; omega)
              have HOw := Lib.hid (HO8.out.put (y := (⟨true, [F], p⟩ : TCell)) Hx.out HYc8.out HYp8.out)
              have HRD := Lib.hid (HOw.out.read (B' := 0) (Nat.zero_le _) (Nat.zero_le _))
              have Hls : Hid ((l.set k (⟨true, [F], p⟩ : TCell)).length = l.length) := List.length_set
              have HBL := Lib.hid (below_put (k := k) (o := true) (u := .slice (some ⟨w5.heap.size, 0, none⟩) 1 1) (v := .slice ap p.rules.length cp) (d := p.dflt) HBF8.out.bel (show w.heap.size ≤ g by have := Hge.out; have := Hgb.out; omega))
              clear hown8 hg8 hat8 hgb hgl hsame hs8))
            go_ret2
            rw [HE.out]
            dsimp only
            rw [Hls.out]
            exact ⟨_, _, rfl, RdCells.keep HRD.out (fun _ _ _ => trivial) (fun _ _ _ => rfl) (Nat.le_refl _), HBL.out⟩
          · have HE : Hid (nextE l ⟨1, k, j, p⟩ = ([], fe)) := by show nextE _ _ = _; rw [HN'.out, HNC0.out, HBe.out, if_pos hf]; simp [hf]
            have hne : (fe != 0) = true := bne_iff_ne.2 hf
            have HBL5 : Hid (Below w.heap.size w w5) := HB5.out.bel
            clear hf
            go_wp2
            go_ret2
            rw [HE.out]
            exact ⟨_, _, rfl, nil_cells _ _, HBL5.out⟩
      · cases xop with
        | true =>
          have HE : Hid (nextE l ⟨3, k, j, p⟩ = ([], 6)) := by show nextE _ _ = _; rw [HN.out, if_pos (by rw [Hxop.out]; decide)]
          have HBL1 : Hid (Below w.heap.size w _) := (HB2.out.below HC1.out.bel).bel
          clear HN
          go_wp2
          go_ret2
          rw [HE.out]
          exact ⟨_, _, rfl, nil_cells _ _, HBL1.out⟩
        | false =>
          have HN' : Hid (nextE l ⟨3, k, j, p⟩ = if (nextCell l ⟨3, k, j, p⟩).2 ≠ 0 then ([], (nextCell l ⟨3, k, j, p⟩).2) else (l.set k (nextCell l ⟨3, k, j, p⟩).1, 0)) := by show nextE _ _ = _; rw [HN.out, if_neg (by rw [Hxop.out]; decide)]
          clear HN
          obtain ⟨hjL, hY⟩ := List.getElem?_eq_some_iff.1 Hy.out
          obtain ⟨b1, b2, d1, d2, g0, -, g2, g3, -, hyp⟩ := RdCells.cells H2.out hjL
          rw [hY] at g0 g2 g3 hyp
          have Hp2 : Hid (RdRules w2 D (.slice b2 y.p.rules.length d2) y.p.rules) := hyp
          clear hyp hY hjL
          have y0 := Below.cell_alloc' (.cells #[.slice ap p.rules.length cp, .int .i64 p.dflt] 37) (Below.cell_alloc' (.cells #[.bool false, .slice a1 x.chain.length c1, .slice a2 x.p.rules.length c2, .int .i64 x.p.dflt] 66) g0)
          have y2 := Below.cell_alloc' (.cells #[.slice ap p.rules.length cp, .int .i64 p.dflt] 37) (Below.cell_alloc' (.cells #[.bool false, .slice a1 x.chain.length c1, .slice a2 x.p.rules.length c2, .int .i64 x.p.dflt] 66) g2)
          have y3 := Below.cell_alloc' (.cells #[.slice ap p.rules.length cp, .int .i64 p.dflt] 37) (Below.cell_alloc' (.cells #[.bool false, .slice a1 x.chain.length c1, .slice a2 x.p.rules.length c2, .int .i64 x.p.dflt] 66) g3)
          clear g0 g2 g3
          cases yo : y.open_ with
          | false =>
            have HNC : Hid (nextCell l ⟨3, k, j, p⟩ = (zeroCell, 5)) := by show nextCell _ _ = _; unfold nextCell; rw [if_pos rfl, Hyj.out, yo]; simp
            have HE : Hid (nextE l ⟨3, k, j, p⟩ = ([], 5)) := by show nextE _ _ = _; rw [HN'.out, HNC.out]; simp
            have HBLq : Hid (Below w.heap.size w _) := HBq.out.bel
            rw [yo] at y0
            go_wp2
            go_ret2
            rw [HE.out]
            exact ⟨_, _, rfl, nil_cells _ _, HBLq.out⟩
          | true =>
            have HNC0 : Hid (nextCell l ⟨3, k, j, p⟩ = beginE y.p) := by show nextCell _ _ = _; unfold nextCell; rw [if_pos rfl, Hyj.out, yo]; rfl
            rw [yo] at y0
            have HCc := Lib.hid (Bx.two (w := w2) (o := .cells #[.bool false, .slice a1 x.chain.length c1, .slice a2 x.p.rules.length c2, .int .i64 x.p.dflt] 66) (o' := .cells #[.slice b2 y.p.rules.length d2, .int .i64 y.p.dflt] 37))
            have Hpp := Lib.hid (Hp2.out.below HCc.out.bel)
            have hcS := HCc.out.cells0
            have hpS := HCc.out.cells1
            have hqS := (HB2.out.below HCc.out.bel).cells0
            go_wp2_with fail
            refine (rfilter_any _ y.p _ _ Hpp.out).mono ?_
            obtain ⟨⟨F, fe⟩, hF⟩ : ∃ E, filterE y.p = E := ⟨_, rfl⟩
            have HFl : Hid (fe = 0 → filterL y.p = F) := fun h => by have := (filterE_ok (p := y.p) (by rw [hF]; exact h)).2.1; rw [hF] at this; exact (Prod.mk.inj this).1.symm
            have HBe : Hid (beginE y.p = if fe ≠ 0 then (zeroCell, fe) else (⟨true, [filterL y.p], y.p⟩, 0)) := by show beginE _ = _; unfold beginE; rw [hF]
            rw [hF]
            rintro e w5 ⟨vF, rfl, hrF, hb5⟩
            have HC5 := Lib.hid (HCc.out.below hb5)
            have HB5 := Lib.hid (HB2.out.below HC5.out.bel)
            have RF := Lib.hid (RdCode.keep hrF (D' := fun b => w2.heap.size + 2 ≤ b) (fun b hb _ => Nat.le_trans HCc.out.top hb) (fun _ _ _ => rfl) (Nat.le_refl _))
            obtain ⟨aF, cF, rfl, _⟩ := Sl.form hrF
            clear hrF hb5 hF
            clear hqq hc1 hqb hcb hpb
            by_cases hf : fe = 0
            · subst hf
              have HNC : Hid (nextCell l ⟨3, k, j, p⟩ = (⟨true, [F], y.p⟩, 0)) := by show nextCell _ _ = _; rw [HNC0.out, HBe.out, if_neg (by simp), HFl.out rfl]
              have HE : Hid (nextE l ⟨3, k, j, p⟩ = (l.set k ⟨true, [F], y.p⟩, 0)) := by show nextE _ _ = _; rw [HN'.out, HNC.out]; simp
              have HK := Lib.hid (Bx.one (w := w5) (o := .cells #[.slice aF F.length cF] 31))
              have HCk := Lib.hid (HC5.out.below HK.out.bel)
              have HBk := Lib.hid (HB5.out.below HK.out.bel)
              have Hsz5 : Hid (w2.heap.size + 2 ≤ w5.heap.size) := HC5.out.top
              have hckk := HCk.out.cells0
              have hpkk := HCk.out.cells1
              have hfkk := HCk.out.free0
              have hc5 := HC5.out.cells0
              have hp5 := HC5.out.cells1
              have hb5k := HBk.out.cells0
              obtain ⟨wF, hwF⟩ : ∃ wF, (((((w5.alloc (.cells #[.slice aF F.length cF] 31)).setCell ⟨w2.heap.size, 0, none⟩ (.bool true)).setCell ⟨w2.heap.size, 1, none⟩ (.slice (some ⟨w5.heap.size, 0, none⟩) 1 1)).setCell ⟨w2.heap.size, 2, none⟩ (.slice b2 y.p.rules.length d2)).setCell ⟨w2.heap.size, 3, none⟩ (.int .i64 y.p.dflt)) = wF := ⟨_, rfl⟩
              have hoth : ∀ b, b ≠ w2.heap.size → wF.heap[b]? = (w5.alloc (.cells #[.slice aF F.length cF] 31)).heap[b]? := fun b hb => by rw [← hwF]; exact put4_other hb
              have hszF : wF.heap.size = (w5.alloc (.cells #[.slice aF F.length cF] 31)).heap.size := by rw [← hwF]; exact put4_size
              have HCF := Lib.hid (show Bx w2 _ wF by rw [← hwF]; exact HCk.out.put4 (a' := .bool true) (b' := .slice (some ⟨w5.heap.size, 0, none⟩) 1 1) (c' := .slice b2 y.p.rules.length d2) (d' := .int .i64 y.p.dflt))
              have HYp : Hid (RdRules wF (fun _ => True) (.slice b2 y.p.rules.length d2) y.p.rules) := rules_true (Hp2.out.below HCF.out.bel)
              have HYc : Hid (RdChain wF (fun _ => True) (.slice (some ⟨w5.heap.size, 0, none⟩) 1 1) [F]) :=
                sl_block (xs := [F]) (rows := [[.slice aF F.length cF]]) (RowsOf.cons RowsOf.nil ⟨_, rfl, (RF.out.below HK.out.bel).keep (fun _ _ _ => trivial) (fun b hb _ => hoth b (by have h1 : w2.heap.size + 2 ≤ b := hb; omega)) (by rw [hszF]; exact Nat.le_refl _)⟩ rfl) ((hoth _ (by have := Hsz5.out; omega)).trans (HK.out.at_ 0 _ rfl)) rfl trivial (by simp [maxLen])
              clear hoth hszF
              have HBF := Lib.hid (HB2.out.below HCF.out.bel)
              have HF : Hid (RdCells wF (fun b => b < wF.heap.size) (.slice (some ⟨b, o, none⟩) l.length c) l) := (H2.out.below HCF.out.bel).keep (fun _ _ hl => hl) (fun _ _ _ => rfl) (Nat.le_refl _)
              have hqf := HBF.out.cells0
              have hcq := HCF.out.cells0
              obtain ⟨i0, hi, hz0, hz1, hz2⟩ := info_parts infocCell
              have Hi := Lib.hid hi
              obtain ⟨w7, hw7⟩ : ∃ w7, wF.alloc (.cells #[] 66) = w7 := ⟨_, rfl⟩
              have Hb7 : Hid (Below wF.heap.size wF w7) := by show Below _ _ _; rw [← hw7]; exact bel_alloc (Below.refl _ _) _
              have Ho7 : Hid (OwnSl w7 wF.heap.size 66 4 (cellR w7 (fun b => b < wF.heap.size)) (.slice (some ⟨wF.heap.size, 0, none⟩) 0 0) []) := own_emptyR (by rw [← hw7]; exact heap_last _ _) (Nat.le_refl _)
              have H7 := Lib.hid (HF.out.below Hb7.out)
              have hsz7 : w7.heap.size = wF.heap.size + 1 := by rw [← hw7]; simp
              have HL4 := Lib.hid Hl4.out
              have hq7 : ∀ i, w7.cell? ⟨w.heap.size, i, none⟩ = (#[Value.int .i64 3, .int .i64 k, .int .i64 j, .slice ap p.rules.length cp, .int .i64 p.dflt] : Array Value)[i]? := (HBF.out.below Hb7.out).cells0
              have Hge : Hid (w.heap.size + 1 ≤ w2.heap.size ∧ w2.heap.size + 2 ≤ wF.heap.size) := ⟨HT.out, HCF.out.top⟩
              clear hi
              go_wp2_with (at_builtin; (
                refine wpList_app2 rfl _ _ 53 rfl wF.heap.size 66 i0 _ 4 64 Tryz.underlying53 Hi.out hz0 hz1 hz2 rfl (by decide) _ _ rfl Ho7.out _ _ rfl H7.out (fun y _ cs h => cellR_one y cs h) (by have := HL4.out; show 0 + _ ≤ maxLen; unfold maxLen; omega) (by have := HL4.out; show (0 + _) * 64 ≤ _; omega) (by omega) ?_
                intro v8 w8 hown8 hg8 hat8
                rw [List.nil_append] at hown8
                have Hb8 : Hid (Below wF.heap.size wF w8) := Below.grown Hb7.out hg8 (by omega) (fun g hg => by have e2 : some wF.heap.size = some g := hg; injection e2 with e2; omega)
                have hsame : ∀ b, b < wF.heap.size → w8.heap[b]? = w7.heap[b]? := (fun b hb => hg8.block b (by omega) (fun e => by have e2 : some b = some wF.heap.size := e; injection e2 with e2; omega))
                have hs8 : w7.heap.size ≤ w8.heap.size := hg8.size
                obtain ⟨a8, c8, rfl⟩ := hown8.slice
                obtain ⟨g, rfl, hgb, hgl, _⟩ := OwnSl.addr hown8 (by have := HL4.out; omega)
                have HO8 : Hid (OwnCells w8 wF.heap.size 0 g l.length c8 l) := hown8.monoR fun _ _ _ hy => hy.keep (fun b hb _ => ⟨Nat.zero_le _, by have h9 : b < wF.heap.size := hb; omega⟩) (fun b hb _ => hsame b hb) hs8
                have Hgb : Hid (wF.heap.size ≤ g) := hgb
                have HBF8 := Lib.hid (HBF.out.below Hb8.out)
                have HCF8 := Lib.hid (HCF.out.below Hb8.out)
                have hqf8 := HBF8.out.cells0
                have hcq8 := HCF8.out.cells0
                have HYc8 : Hid (RdChain w8 (Dg 0 g) (.slice (some ⟨w5.heap.size, 0, none⟩) 1 1) (⟨true, [F], y.p⟩ : TCell).chain) := HYc.out.keep (fun b _ hl => ⟨Nat.zero_le _, by have h9 := Hgb.out; omega⟩) (fun b _ hl => Hb8.out.block b hl) Hb8.out.size
                have HYp8 : Hid (RdRules w8 (Dg 0 g) (.slice b2 y.p.rules.length d2) (⟨true, [F], y.p⟩ : TCell).p.rules) := HYp.out.keep (fun b _ hl => ⟨Nat.zero_le _, by have h9 := Hgb.out; omega⟩) (fun b _ hl => Hb8.out.block b hl) Hb8.out.size
                obtain ⟨za1, za2, zc1, zc2, z0, z1, z2, z3, _, _⟩ := HO8.out.cells Hx.out
                have hfz := HO8.out.frz (by have := HL4.out; omega)
                have HOw := Lib.hid (HO8.out.put (y := (⟨true, [F], y.p⟩ : TCell)) Hx.out HYc8.out HYp8.out)
                have HRD := Lib.hid (HOw.out.read (B' := 0) (Nat.zero_le _) (Nat.zero_le _))
                have Hls : Hid ((l.set k (⟨true, [F], y.p⟩ : TCell)).length = l.length) := List.length_set
                have HBL := Lib.hid (below_put (k := k) (o := true) (u := .slice (some ⟨w5.heap.size, 0, none⟩) 1 1) (v := .slice b2 y.p.rules.length d2) (d := y.p.dflt) HBF8.out.bel (show w.heap.size ≤ g by have := Hge.out; have := Hgb.out; omega))
                clear hown8 hg8 hat8 hgb hgl hsame hs8))
              go_ret2
              rw [HE.out]
              dsimp only
              rw [Hls.out]
              exact ⟨_, _, rfl, RdCells.keep HRD.out (fun _ _ _ => trivial) (fun _ _ _ => rfl) (Nat.le_refl _), HBL.out⟩
            · have HE : Hid (nextE l ⟨3, k, j, p⟩ = ([], fe)) := by show nextE _ _ = _; rw [HN'.out, HNC0.out, HBe.out, if_pos hf]; simp [hf]
              have hne : (fe != 0) = true := bne_iff_ne.2 hf
              have HBL5 : Hid (Below w.heap.size w w5) := HB5.out.bel
              clear hf
              go_wp2
              go_ret2
              rw [HE.out]
              exact ⟨_, _, rfl, nil_cells _ _, HBL5.out⟩
      · cases xop with
        | false =>
          have HE : Hid (nextE l ⟨2, k, j, p⟩ = ([], 6)) := by show nextE _ _ = _; rw [HN.out, if_pos (by rw [Hxop.out]; decide)]
          have HBL1 : Hid (Below w.heap.size w _) := (HB2.out.below HC1.out.bel).bel
          clear HN
          go_wp2
          go_ret2
          rw [HE.out]
          exact ⟨_, _, rfl, nil_cells _ _, HBL1.out⟩
        | true =>
          have HN' : Hid (nextE l ⟨2, k, j, p⟩ = if (nextCell l ⟨2, k, j, p⟩).2 ≠ 0 then ([], (nextCell l ⟨2, k, j, p⟩).2) else (l.set k (nextCell l ⟨2, k, j, p⟩).1, 0)) := by show nextE _ _ = _; rw [HN.out, if_neg (by rw [Hxop.out]; decide)]
          clear HN
          obtain ⟨⟨T, te⟩, hTt⟩ : ∃ E, tightE x.chain x.p p = E := ⟨_, rfl⟩
          have HTt := Lib.hid hTt
          have HNC0 : Hid (nextCell l ⟨2, k, j, p⟩ = if te ≠ 0 then (zeroCell, te) else (⟨true, T, p⟩, 0)) := by show nextCell _ _ = _; unfold nextCell; dsimp only; rw [if_neg (by decide), if_neg (by decide), if_pos rfl, Hxk.out, hTt]
          clear hTt
          have Hrc2 : Hid (RdChain w2 (fun b => b < w2.heap.size) (.slice a1 x.chain.length c1) x.chain) := Hrc.out.keep (fun _ _ hl => hl) (fun _ _ _ => rfl) (Nat.le_refl _)
          have HcC := Lib.hid (Hrc2.out.below HC.out.bel)
          have HcP := Lib.hid (rules_true (Hrp.out.below HC.out.bel))
          have HcR := Lib.hid (rules_true (Hr2.out.below HC.out.bel))
          go_wp2_with fail
          refine (rtighten_dom _ _ _ x.chain x.p p _ _ HcC.out HcP.out HcR.out).mono ?_
          rw [HTt.out]
          rintro e w5 ⟨v5, rfl, hr5, hb5⟩
          have HC5 := Lib.hid (HC.out.below hb5)
          have HB5 := Lib.hid (HB2.out.below HC5.out.bel)
          have RT : Hid (RdChain w5 (fun b => b < w2.heap.size ∨ w2.heap.size + 2 ≤ b) v5 T) := hr5.keep (fun b hb _ => hb.elim .inl (fun h => .inr (Nat.le_trans HC.out.top h))) (fun _ _ _ => rfl) (Nat.le_refl _)
          obtain ⟨a5, c5, rfl, _⟩ := Sl.form hr5
          clear hr5 hb5 hqq hc1 hqb hcb hpb
          by_cases hte : te = 0
          · subst hte
            have HNC : Hid (nextCell l ⟨2, k, j, p⟩ = (⟨true, T, p⟩, 0)) := by show nextCell _ _ = _; rw [HNC0.out, if_neg (by simp)]
            have HE : Hid (nextE l ⟨2, k, j, p⟩ = (l.set k ⟨true, T, p⟩, 0)) := by show nextE _ _ = _; rw [HN'.out, HNC.out]; simp
            have hc5 := HC5.out.cells0
            have hp5 := HC5.out.cells1
            have hf5 := HC5.out.free0
            have HI0 : Hid (CInv w2 w5 66 (.cells #[.slice ap p.rules.length cp, .int .i64 p.dflt] 37) (.bool true) (.slice a1 x.chain.length c1) (.slice a2 x.p.rules.length c2) (.int .i64 x.p.dflt) (.slice a5 T.length c5) (.slice ap p.rules.length cp) (.int .i64 p.dflt) (fun _ => false) w5.drew) := ⟨HC5.out.drew, grow_drew _ _⟩
            go_wp2_with fail
            refine wp_region_stores3 (CInv w2 w5 66 (.cells #[.slice ap p.rules.length cp, .int .i64 p.dflt] 37) (.bool true) (.slice a1 x.chain.length c1) (.slice a2 x.p.rules.length c2) (.int .i64 x.p.dflt) (.slice a5 T.length c5) (.slice ap p.rules.length cp) (.int .i64 p.dflt)) (by kernel_rfl) (by kernel_rfl) HI0.out _ rfl ?_
            iterate 3 (refine doneP_step (fun K hK => ?_); apply Exists.intro; refine ⟨fun done W hI h0 hd hn R hR => ?_, ?_⟩; (have hpw := hI.bx.cells1; have hcw := hI.bx.cells0; clear h0 hd hn; go_simp; exact hR _ _ (hI.step (by decide) (by decide)) rfl); (go_simp; refine hK _ ?_; clear hK K))
            (refine doneP_step (fun K hK => ?_); apply Exists.intro; refine ⟨fun done W hI h0 hd hn R hR => ?_, ?_⟩; (have hcw := hI.bx.cells0; have hcf := hI.bx.free0; have HS := Lib.hid hI.st3; clear h0 hd hn hI; go_simp; exact hR _ _ HS.out rfl); (go_simp; refine hK _ ?_; clear hK K))
            (refine doneP_step (fun K hK => ?_); apply Exists.intro; refine ⟨fun done W hI h0 hd hn R hR => ?_, ?_⟩; (have hpw := hI.bx.cells1; have hcw := hI.bx.cells0; clear h0 hd hn; go_simp; exact hR _ _ (hI.step (by decide) (by decide)) rfl); (go_simp; refine hK _ ?_; clear hK K))
            (refine doneP_step (fun K hK => ?_); apply Exists.intro; refine ⟨fun done W hI h0 hd hn R hR => ?_, ?_⟩; (have hcw := hI.bx.cells0; have hcf := hI.bx.free0; have HS := Lib.hid hI.st5; clear h0 hd hn hI; go_simp; exact hR _ _ HS.out rfl); (go_simp; refine hK _ ?_; clear hK K))
            intro done wF hdone hI
            have hbx := hI.bx
            rw [hdone 3 (by decide), hdone 5 (by decide)] at hbx
            have HCF : Hid (Bx w2 [.cells #[.bool true, .slice a5 T.length c5, .slice ap p.rules.length cp, .int .i64 p.dflt] 66, .cells #[.slice ap p.rules.length cp, .int .i64 p.dflt] 37] wF) := hbx
            have HYp : Hid (RdRules wF (fun _ => True) (.slice ap p.rules.length cp) p.rules) := rules_true (Hr2.out.below HCF.out.bel)
            have HYc : Hid (RdChain wF (fun _ => True) (.slice a5 T.length c5) T) := RT.out.keep (fun _ _ _ => trivial) (fun b hb hl => hI.gr.block b hl (fun e => by have hb2 : b < w2.heap.size ∨ w2.heap.size + 2 ≤ b := hb; injection e with e; omega)) hI.gr.size
            clear hbx hdone hI hc5 hp5 hf5
            have HBF := Lib.hid (HB2.out.below HCF.out.bel)
            have HF : Hid (RdCells wF (fun b => b < wF.heap.size) (.slice (some ⟨b, o, none⟩) l.length c) l) := (H2.out.below HCF.out.bel).keep (fun _ _ hl => hl) (fun _ _ _ => rfl) (Nat.le_refl _)
            have hqf := HBF.out.cells0
            have hcq := HCF.out.cells0
            obtain ⟨i0, hi, hz0, hz1, hz2⟩ := info_parts infocCell
            have Hi := Lib.hid hi
            obtain ⟨w7, hw7⟩ : ∃ w7, wF.alloc (.cells #[] 66) = w7 := ⟨_, rfl⟩
            have Hb7 : Hid (Below wF.heap.size wF w7) := by show Below _ _ _; rw [← hw7]; exact bel_alloc (Below.refl _ _) _
            have Ho7 : Hid (OwnSl w7 wF.heap.size 66 4 (cellR w7 (fun b => b < wF.heap.size)) (.slice (some ⟨wF.heap.size, 0, none⟩) 0 0) []) := own_emptyR (by rw [← hw7]; exact heap_last _ _) (Nat.le_refl _)
            have H7 := Lib.hid (HF.out.below Hb7.out)
            have hsz7 : w7.heap.size = wF.heap.size + 1 := by rw [← hw7]; simp
            have HL4 := Lib.hid Hl4.out
            have hq7 : ∀ i, w7.cell? ⟨w.heap.size, i, none⟩ = (#[Value.int .i64 2, .int .i64 k, .int .i64 j, .slice ap p.rules.length cp, .int .i64 p.dflt] : Array Value)[i]? := (HBF.out.below Hb7.out).cells0
            have Hge : Hid (w.heap.size + 1 ≤ w2.heap.size ∧ w2.heap.size + 2 ≤ wF.heap.size) := ⟨HT.out, HCF.out.top⟩
            clear hi
            go_wp2_with (at_builtin; (
              refine wpList_app2 rfl _ _ 53 rfl wF.heap.size 66 i0 _ 4 64 Tryz.underlying53 Hi.out hz0 hz1 hz2 rfl (by decide) _ _ rfl Ho7.out _ _ rfl H7.out (fun y _ cs h => cellR_one y cs h) (by have := HL4.out; show 0 + _ ≤ maxLen; unfold maxLen; omega) (by have := HL4.out; show (0 + _) * 64 ≤ _; omega) (by omega) ?_
              intro v8 w8 hown8 hg8 hat8
              rw [List.nil_append] at hown8
              have Hb8 : Hid (Below wF.heap.size wF w8) := Below.grown Hb7.out hg8 (by omega) (fun g hg => by have e2 : some wF.heap.size = some g := hg; injection e2 with e2; omega)
              have hsame : ∀ b, b < wF.heap.size → w8.heap[b]? = w7.heap[b]? := (fun b hb => hg8.block b (by omega) (fun e => by have e2 : some b = some wF.heap.size := e; injection e2 with e2; omega))
              have hs8 : w7.heap.size ≤ w8.heap.size := hg8.size
              obtain ⟨a8, c8, rfl⟩ := hown8.slice
              obtain ⟨g, rfl, hgb, hgl, _⟩ := OwnSl.addr hown8 (by have := HL4.out; omega)
              have HO8 : Hid (OwnCells w8 wF.heap.size 0 g l.length c8 l) := hown8.monoR fun _ _ _ hy => hy.keep (fun b hb _ => ⟨Nat.zero_le _, by have h9 : b < wF.heap.size := hb; omega⟩) (fun b hb _ => hsame b hb) hs8
              have Hgb : Hid (wF.heap.size ≤ g) := hgb
              have HBF8 := Lib.hid (HBF.out.below Hb8.out)
              have HCF8 := Lib.hid (HCF.out.below Hb8.out)
              have hqf8 := HBF8.out.cells0
              have hcq8 := HCF8.out.cells0
              have HYc8 : Hid (RdChain w8 (Dg 0 g) (.slice a5 T.length c5) (⟨true, T, p⟩ : TCell).chain) := HYc.out.keep (fun b _ hl => ⟨Nat.zero_le _, by have h9 := Hgb.out; omega⟩) (fun b _ hl => Hb8.out.block b hl) Hb8.out.size
              have HYp8 : Hid (RdRules w8 (Dg 0 g) (.slice ap p.rules.length cp) (⟨true, T, p⟩ : TCell).p.rules) := HYp.out.keep (fun b _ hl => ⟨Nat.zero_le _, by have h9 := Hgb.out; omega⟩) (fun b _ hl => Hb8.out.block b hl) Hb8.out.size
              obtain ⟨za1, za2, zc1, zc2, z0, z1, z2, z3, _, _⟩ := HO8.out.cells Hx.out
              have hfz := HO8.out.frz (by have := HL4.out; omega)
              have HOw := Lib.hid (HO8.out.put (y := (⟨true, T, p⟩ : TCell)) Hx.out HYc8.out HYp8.out)
              have HRD := Lib.hid (HOw.out.read (B' := 0) (Nat.zero_le _) (Nat.zero_le _))
              have Hls : Hid ((l.set k (⟨true, T, p⟩ : TCell)).length = l.length) := List.length_set
              have HBL := Lib.hid (below_put (k := k) (o := true) (u := .slice a5 T.length c5) (v := .slice ap p.rules.length cp) (d := p.dflt) HBF8.out.bel (show w.heap.size ≤ g by have := Hge.out; have := Hgb.out; omega))
              clear hown8 hg8 hat8 hgb hgl hsame hs8))
            go_ret2
            rw [HE.out]
            dsimp only
            rw [Hls.out]
            exact ⟨_, _, rfl, RdCells.keep HRD.out (fun _ _ _ => trivial) (fun _ _ _ => rfl) (Nat.le_refl _), HBL.out⟩
          · have HE : Hid (nextE l ⟨2, k, j, p⟩ = ([], te)) := by show nextE _ _ = _; rw [HN'.out, HNC0.out, if_pos hte]; simp [hte]
            have hne : (te != 0) = true := bne_iff_ne.2 hte
            have HBL5 : Hid (Below w.heap.size w w5) := HB5.out.bel
            clear hte
            go_wp2
            go_ret2
            rw [HE.out]
            exact ⟨_, _, rfl, nil_cells _ _, HBL5.out⟩
      · cases xop with
        | false =>
          have HE : Hid (nextE l ⟨4, k, j, p⟩ = ([], 6)) := by show nextE _ _ = _; rw [HN.out, if_pos (by rw [Hxop.out]; decide)]
          have HBL1 : Hid (Below w.heap.size w _) := (HB2.out.below HC1.out.bel).bel
          clear HN
          go_wp2
          go_ret2
          rw [HE.out]
          exact ⟨_, _, rfl, nil_cells _ _, HBL1.out⟩
        | true =>
          have HN' : Hid (nextE l ⟨4, k, j, p⟩ = if (nextCell l ⟨4, k, j, p⟩).2 ≠ 0 then ([], (nextCell l ⟨4, k, j, p⟩).2) else (l.set k (nextCell l ⟨4, k, j, p⟩).1, 0)) := by show nextE _ _ = _; rw [HN.out, if_neg (by rw [Hxop.out]; decide)]
          clear HN
          have HNC : Hid (nextCell l ⟨4, k, j, p⟩ = (zeroCell, 0)) := by show nextCell _ _ = _; unfold nextCell; simp
          have HE : Hid (nextE l ⟨4, k, j, p⟩ = (l.set k zeroCell, 0)) := by show nextE _ _ = _; rw [HN'.out, HNC.out]; simp
          obtain ⟨wF, hwF⟩ : ∃ wF, ((w2.alloc (.cells #[.bool false, .slice none 0 0, .slice none 0 0, .int .i64 0] 66)).alloc (.cells #[.slice ap p.rules.length cp, .int .i64 p.dflt] 37)) = wF := ⟨_, rfl⟩
          have HCF := Lib.hid (show Bx w2 _ wF by rw [← hwF]; exact Bx.two (o := .cells #[.bool false, .slice none 0 0, .slice none 0 0, .int .i64 0] 66) (o' := .cells #[.slice ap p.rules.length cp, .int .i64 p.dflt] 37))
          have HYp : Hid (RdRules wF (fun _ => True) (.slice none 0 0) []) := nil_rules' _ _
          have HYc : Hid (RdChain wF (fun _ => True) (.slice none 0 0) []) := nil_chain _ _
          have HBF := Lib.hid (HB2.out.below HCF.out.bel)
          have HF : Hid (RdCells wF (fun b => b < wF.heap.size) (.slice (some ⟨b, o, none⟩) l.length c) l) := (H2.out.below HCF.out.bel).keep (fun _ _ hl => hl) (fun _ _ _ => rfl) (Nat.le_refl _)
          have hqf := HBF.out.cells0
          have hcq := HCF.out.cells0
          obtain ⟨i0, hi, hz0, hz1, hz2⟩ := info_parts infocCell
          have Hi := Lib.hid hi
          obtain ⟨w7, hw7⟩ : ∃ w7, wF.alloc (.cells #[] 66) = w7 := ⟨_, rfl⟩
          have Hb7 : Hid (Below wF.heap.size wF w7) := by show Below _ _ _; rw [← hw7]; exact bel_alloc (Below.refl _ _) _
          have Ho7 : Hid (OwnSl w7 wF.heap.size 66 4 (cellR w7 (fun b => b < wF.heap.size)) (.slice (some ⟨wF.heap.size, 0, none⟩) 0 0) []) := own_emptyR (by rw [← hw7]; exact heap_last _ _) (Nat.le_refl _)
          have H7 := Lib.hid (HF.out.below Hb7.out)
          have hsz7 : w7.heap.size = wF.heap.size + 1 := by rw [← hw7]; simp
          have HL4 := Lib.hid Hl4.out
          have hq7 : ∀ i, w7.cell? ⟨w.heap.size, i, none⟩ = (#[Value.int .i64 4, .int .i64 k, .int .i64 j, .slice ap p.rules.length cp, .int .i64 p.dflt] : Array Value)[i]? := (HBF.out.below Hb7.out).cells0
          have Hge : Hid (w.heap.size + 1 ≤ w2.heap.size ∧ w2.heap.size + 2 ≤ wF.heap.size) := ⟨HT.out, HCF.out.top⟩
          clear hi
          go_wp2_with (at_builtin; (
            refine wpList_app2 rfl _ _ 53 rfl wF.heap.size 66 i0 _ 4 64 Tryz.underlying53 Hi.out hz0 hz1 hz2 rfl (by decide) _ _ rfl Ho7.out _ _ rfl H7.out (fun y _ cs h => cellR_one y cs h) (by have := HL4.out; show 0 + _ ≤ maxLen; unfold maxLen; omega) (by have := HL4.out; show (0 + _) * 64 ≤ _; omega) (by omega) ?_
            intro v8 w8 hown8 hg8 hat8
            rw [List.nil_append] at hown8
            have Hb8 : Hid (Below wF.heap.size wF w8) := Below.grown Hb7.out hg8 (by omega) (fun g hg => by have e2 : some wF.heap.size = some g := hg; injection e2 with e2; omega)
            have hsame : ∀ b, b < wF.heap.size → w8.heap[b]? = w7.heap[b]? := (fun b hb => hg8.block b (by omega) (fun e => by have e2 : some b = some wF.heap.size := e; injection e2 with e2; omega))
            have hs8 : w7.heap.size ≤ w8.heap.size := hg8.size
            obtain ⟨a8, c8, rfl⟩ := hown8.slice
            obtain ⟨g, rfl, hgb, hgl, _⟩ := OwnSl.addr hown8 (by have := HL4.out; omega)
            have HO8 : Hid (OwnCells w8 wF.heap.size 0 g l.length c8 l) := hown8.monoR fun _ _ _ hy => hy.keep (fun b hb _ => ⟨Nat.zero_le _, by have h9 : b < wF.heap.size := hb; omega⟩) (fun b hb _ => hsame b hb) hs8
            have Hgb : Hid (wF.heap.size ≤ g) := hgb
            have HBF8 := Lib.hid (HBF.out.below Hb8.out)
            have HCF8 := Lib.hid (HCF.out.below Hb8.out)
            have hqf8 := HBF8.out.cells0
            have hcq8 := HCF8.out.cells0
            have HYc8 : Hid (RdChain w8 (Dg 0 g) (.slice none 0 0) (zeroCell : TCell).chain) := HYc.out.keep (fun b _ hl => ⟨Nat.zero_le _, by have h9 := Hgb.out; omega⟩) (fun b _ hl => Hb8.out.block b hl) Hb8.out.size
            have HYp8 : Hid (RdRules w8 (Dg 0 g) (.slice none 0 0) (zeroCell : TCell).p.rules) := HYp.out.keep (fun b _ hl => ⟨Nat.zero_le _, by have h9 := Hgb.out; omega⟩) (fun b _ hl => Hb8.out.block b hl) Hb8.out.size
            obtain ⟨za1, za2, zc1, zc2, z0, z1, z2, z3, _, _⟩ := HO8.out.cells Hx.out
            have hfz := HO8.out.frz (by have := HL4.out; omega)
            have HOw := Lib.hid (HO8.out.put (y := (zeroCell : TCell)) Hx.out HYc8.out HYp8.out)
            have HRD := Lib.hid (HOw.out.read (B' := 0) (Nat.zero_le _) (Nat.zero_le _))
            have Hls : Hid ((l.set k (zeroCell : TCell)).length = l.length) := List.length_set
            have HBL := Lib.hid (below_put (k := k) (o := false) (u := .slice none 0 0) (v := .slice none 0 0) (d := 0) HBF8.out.bel (show w.heap.size ≤ g by have := Hge.out; have := Hgb.out; omega))
            clear hown8 hg8 hat8 hgb hgl hsame hs8))
          go_ret2
          rw [HE.out]
          dsimp only
          rw [Hls.out]
          exact ⟨_, _, rfl, RdCells.keep HRD.out (fun _ _ _ => trivial) (fun _ _ _ => rfl) (Nat.le_refl _), HBL.out⟩
    · have HE : Hid (nextE l ⟨kd, cl, fr, p⟩ = ([], recE ⟨kd, cl, fr, p⟩)) := by show nextE _ _ = _; unfold nextE; rw [if_neg (by rw [H0.out]; simp), if_pos h3]
      have HBL : Hid (Below w.heap.size w w2) := HB2.out.bel
      have hne : (recE ⟨kd, cl, fr, p⟩ != 0) = true := bne_iff_ne.2 h3
      generalize recE ⟨kd, cl, fr, p⟩ = E at *
      clear h3
      go_wp2
      go_ret2
      rw [HE.out]
      exact ⟨_, _, rfl, nil_cells _ _, HBL.out⟩
  · have HE : Hid (nextE l ⟨kd, cl, fr, p⟩ = ([], cellsE l)) := by show nextE _ _ = _; unfold nextE; rw [if_pos h0]
    have HBL : Hid (Below w.heap.size w w1) := HB1.out.bel
    have hne : (cellsE l != 0) = true := bne_iff_ne.2 h0
    generalize cellsE l = E at *
    clear h0
    go_wp2
    go_ret2
    rw [HE.out]
    exact ⟨_, _, rfl, nil_cells _ _, HBL.out⟩
end Go.Proofs.YtkiipnbjckdlbaaGreatDoor
namespace Go.Proofs.YtkiipnbjckdlbaaGreatDoor
open Go.RowKit
set_option maxRecDepth 100000 in
theorem made4 (W : World) : (Instr.makeSlice 53 (.int .i64 4) (.int .i64 4)).run Tryz.prog W = .ok (.slice (some ⟨W.heap.size, 0, none⟩) 4 4) (W.alloc (.cells #[.bool false, .slice none 0 0, .slice none 0 0, .int .i64 0, .bool false, .slice none 0 0, .slice none 0 0, .int .i64 0, .bool false, .slice none 0 0, .slice none 0 0, .int .i64 0, .bool false, .slice none 0 0, .slice none 0 0, .int .i64 0] 66)) := by
  obtain ⟨i0, hi, hz0, hz1, hz2⟩ := info_parts infocCell
  have hmk := fun (W : World) => run_make (P := Tryz.prog) W 53 66 i0 (.agg #[.bool false, .slice none 0 0, .slice none 0 0, .int .i64 0]) Tryz.underlying53 hi hz0 .i64 .i64 4 4 (by decide) (by decide) (by rw [hz2]; decide) (by decide)
  have hcs : madeCells (Value.agg #[.bool false, .slice none 0 0, .slice none 0 0, .int .i64 0]).cells ((4 : Int).toNat * i0.size) = #[.bool false, .slice none 0 0, .slice none 0 0, .int .i64 0, .bool false, .slice none 0 0, .slice none 0 0, .int .i64 0, .bool false, .slice none 0 0, .slice none 0 0, .int .i64 0, .bool false, .slice none 0 0, .slice none 0 0, .int .i64 0] := by rw [hz1]; kernel_rfl
  rw [hcs, show (4 : Int).toNat = 4 from rfl] at hmk
  exact hmk W
set_option maxRecDepth 100000 in
theorem made4_rd (W : World) : RdCells (W.alloc (.cells #[.bool false, .slice none 0 0, .slice none 0 0, .int .i64 0, .bool false, .slice none 0 0, .slice none 0 0, .int .i64 0, .bool false, .slice none 0 0, .slice none 0 0, .int .i64 0, .bool false, .slice none 0 0, .slice none 0 0, .int .i64 0] 66)) (fun b => W.heap.size ≤ b) (.slice (some ⟨W.heap.size, 0, none⟩) 4 4) newCells := by
  have hz : ∀ W' D', cellR W' D' zeroCell [.bool false, .slice none 0 0, .slice none 0 0, .int .i64 0] := fun W' D' => ⟨_, _, rfl, ⟨none, 0, rfl, Nat.le_refl _, by decide, fun _ => rfl, fun h => by cases h⟩, ⟨none, 0, rfl, Nat.le_refl _, by decide, fun _ => rfl, fun h => by cases h⟩⟩
  exact sl_block (xs := newCells) (RowsOf.cons (RowsOf.cons (RowsOf.cons (RowsOf.cons RowsOf.nil (hz _ _) rfl) (hz _ _) rfl) (hz _ _) rfl) (hz _ _) rfl) (heap_last _ _) rfl (Nat.le_refl _) (by simp [maxLen, newCells])
set_option maxRecDepth 100000 in
set_option maxHeartbeats 8000000 in
theorem rreplay_any (v : Value) (l : List TRec) (D : Nat → Prop) (w : World) (h : RdRecs w D v l) :
    Calls Tryz.prog 39 #[v] w fun e w' => ∃ a1 c1, e = .returned (.tuple #[.slice a1 (replayE l).1.length c1, .int .i64 (replayE l).2]) ∧ RdCells w' (fun _ => True) (.slice a1 (replayE l).1.length c1) (replayE l).1 ∧ Below w.heap.size w w' := by
  have H := Lib.hid h
  obtain ⟨a, c, rfl, hlc, hcm, hat⟩ := Sl.form h
  clear h
  by_cases h40 : 40 < l.length
  · have HE : Hid (replayE l = ([], 2)) := by show replayE l = _; unfold replayE; rw [if_pos h40]
    have hz : 40 < (l.length : Int) := by omega
    clear h40 hat
    go_enter Tryz.func39, Tryz.ntmps39
    go_wp2
    go_ret2
    rw [HE.out]
    exact ⟨_, _, rfl, nil_cells _ _, Below.refl _ _⟩
  · have HE : Hid (replayE l = replayGo l newCells) := by show replayE l = _; unfold replayE; rw [if_neg h40]
    have hz : ¬ 40 < (l.length : Int) := by omega
    clear h40
    go_enter Tryz.func39, Tryz.ntmps39
    have hmk := made4
    have Hr1 := Lib.hid (RdCells.keep (made4_rd w) (D' := fun _ => True) (fun _ _ _ => trivial) (fun _ _ _ => rfl) (Nat.le_refl _))
    have Hb1 := Lib.hid (bel_alloc (Below.refl w.heap.size w) (.cells #[.bool false, .slice none 0 0, .slice none 0 0, .int .i64 0, .bool false, .slice none 0 0, .slice none 0 0, .int .i64 0, .bool false, .slice none 0 0, .slice none 0 0, .int .i64 0, .bool false, .slice none 0 0, .slice none 0 0, .int .i64 0] 66))
    go_wp2_with fail
    go_loopw [4, 15] (fun ov kv wr => ∃ (k : Nat) (ls : List TCell) (a2 : Option Addr) (c2 : Nat), kv = .int .i64 k ∧ ov = .slice a2 ls.length c2 ∧ k ≤ l.length ∧ replayGo l newCells = replayGo (l.drop k) ls ∧ RdCells wr (fun _ => True) (.slice a2 ls.length c2) ls ∧ Below w.heap.size w wr) (fun _ kv _ => l.length - (intOf kv).toNat)
    case atStart => exact ⟨0, newCells, _, _, rfl, rfl, by omega, rfl, Hr1.out, Hb1.out⟩
    case round =>
      obtain ⟨k, ls, a2, c2, rfl, rfl, hk, hgo, hrd, hbw⟩ := hrel
      have Hgo := Lib.hid hgo
      have Hrd := Lib.hid hrd
      have Hb := Lib.hid hbw
      clear hgo hrd hbw
      by_cases hlt : k < l.length
      · obtain ⟨b, o, rfl, _, _⟩ := hat (by omega)
        obtain ⟨a3, c3, x0, x1, x2, x3, x4, hp⟩ := RdRecs.cells (H.out.below Hb.out) hlt
        have Hp := Lib.hid hp
        have Hd := Lib.hid (replayGo_drop l k hlt ls)
        have HC := Lib.hid (Bx.one (w := wr) (o := .cells #[.int .i64 l[k].kind, .int .i64 l[k].cell, .int .i64 l[k].from_, .slice a3 l[k].p.rules.length c3, .int .i64 l[k].p.dflt] 55))
        have hq0 := HC.out.cells0
        clear hp
        go_wp2_with fail
        refine (rnext_any _ _ ls l[k] _ _ _ (Hrd.out.below HC.out.bel) (RdRules.below Hp.out HC.out.bel)).mono ?_
        obtain ⟨⟨N, ne⟩, hN⟩ : ∃ E, nextE ls l[k] = E := ⟨_, rfl⟩
        have HN := Lib.hid hN
        clear hN
        rw [HN.out]
        rintro e w2 ⟨a4, c4, rfl, hr2, hb2⟩
        have Hr2 := Lib.hid hr2
        have Hb2 := Lib.hid (bel_call (bel_call Hb.out HC.out.bel) hb2)
        clear hr2 hb2 x0 x1 x2 x3 x4 HC hq0
        by_cases h0 : ne = 0
        · subst h0
          have Hn : Hid (replayGo l newCells = replayGo (l.drop (k + 1)) N) := by show replayGo _ _ = _; rw [Hgo.out, Hd.out, HN.out, if_neg (by simp)]
          go_wp2
          go_roundw
          case rel => exact ⟨k + 1, N, a4, c4, by go_num, rfl, by omega, Hn.out, Hr2.out, Hb2.out⟩
          case measure => simp [intOf]; omega
        · have HE2 : Hid (replayE l = ([], ne)) := by show replayE l = _; rw [HE.out, Hgo.out, Hd.out, HN.out, if_pos h0]
          have hne : (ne != 0) = true := bne_iff_ne.2 h0
          clear h0
          go_wp2
          go_ret2
          rw [HE2.out]
          exact ⟨_, _, rfl, nil_cells _ _, Hb2.out⟩
      · obtain rfl : k = l.length := by omega
        have HE2 : Hid (replayE l = (ls, 0)) := by show replayE l = _; rw [HE.out, Hgo.out, List.drop_length]; rfl
        go_wp2
        go_ret2
        rw [HE2.out]
        exact ⟨_, _, rfl, Hrd.out, Hb.out⟩
end Go.Proofs.YtkiipnbjckdlbaaGreatDoor
namespace Go.Proofs.YtkiipnbjckdlbaaGreatDoor
open Go.RowKit Go.ChangeShapes Go.WideShapes Go.Deep
set_option maxRecDepth 100000

/-- a record, read. -/
def RdRec (w : World) (v : Value) (r : TRec) : Prop := ∃ u, v = recV r u ∧ RdRules w (fun _ => True) u r.p.rules
section
variable {H : Type} {enc : TypeId × Value → H} {w : World} {base : Nat} {spare : Nat → Bool} {held : Bool}
theorem trod_cell {fuel : Nat} {cs : List Value} {x : DataW H × List MemPlace} (hl : cs.length = 4) (h : DataW.trod enc Tryz.prog w base spare held fuel 66 cs = some x) : ∃ a : TCell, cellR w (fun _ => True) a cs := by
  have hfs : (Tryz.prog.underlying 66).map (fun d => match d with | .struct fs => fs.map (fun f => (f.type, f.offset)) | _ => #[]) = some #[(4, 0), (22, 1), (37, 2)] := by kernel_rfl
  obtain ⟨fs, he⟩ : ∃ fs, Tryz.prog.underlying 66 = some (.struct fs) := ⟨_, Tryz.underlying66⟩
  rw [he] at hfs
  simp only [Option.map_some, Option.some.injEq] at hfs
  have hc : Tryz.prog.cellsOf 4 = 1 := by kernel_rfl
  obtain ⟨n0, y0, h0⟩ := trod_field (i := 0) he hfs h rfl
  rw [hc] at h0
  obtain ⟨ob, e0, _⟩ := DataW.trod_bool Tryz.underlying4 h0
  obtain ⟨n1, y1, h1⟩ := trod_field (i := 1) he hfs h rfl
  have hc1 : Tryz.prog.cellsOf 22 = 1 := by kernel_rfl
  rw [hc1] at h1
  obtain ⟨v1, ch, e1, hsl⟩ := sl_of_trod (sz := 1) Tryz.underlying22 (by kernel_rfl) (by omega) (fun _ _ _ hl hx => trod_filter hl hx) h1
  obtain ⟨n2, y2, h2⟩ := trod_field (i := 2) he hfs h rfl
  have hc2 : Tryz.prog.cellsOf 37 = 2 := by kernel_rfl
  rw [hc2] at h2
  match cs, hl with
  | [c0, c1, c2, c3], _ =>
    obtain ⟨p, v, hcs, hr⟩ := trod_pol (by simp) h2
    simp at e0 e1 hcs
    exact ⟨⟨ob, ch, p⟩, v1, v, by simp [e0, e1, hcs], hsl, hr⟩
theorem open_cells {r : Reach} {b0 : Nat} {v : Value} {d : DataW H} {ps : List MemPlace}
    (hv : Value.okWide Tryz.prog w r b0 53 v) (h : DataW.Trod enc Tryz.prog w base spare held 53 v d ps) : ∃ l, RdCells w (fun _ => True) v l := by
  obtain ⟨a, len, cap, rfl⟩ := okWide_slice Tryz.underlying53 hv
  obtain ⟨fuel, hf⟩ := h
  obtain ⟨v', xs, hcs, hsl⟩ := sl_of_trod (sz := 4) Tryz.underlying53 (by kernel_rfl) (by omega) (fun _ _ _ hl hx => trod_cell hl hx) hf
  simp [Value.cells] at hcs
  rw [hcs]
  exact ⟨xs, hsl⟩
theorem open_rec {r : Reach} {b0 : Nat} {v : Value} {d : DataW H} {ps : List MemPlace}
    (hv : Value.okWide Tryz.prog w r b0 55 v) (h : DataW.Trod enc Tryz.prog w base spare held 55 v d ps) : ∃ t : TRec, RdRec w v t := by
  simp only [Value.okWide, Tryz.underlying55] at hv
  obtain ⟨cs, rfl, _⟩ := hv
  obtain ⟨fuel, hf⟩ := h
  obtain ⟨xs, m, _, _, hlen, _, _⟩ := DataW.trod_struct Tryz.underlying55 hf
  have hc : Tryz.prog.cellsOf 55 = 5 := by kernel_rfl
  rw [hc] at hlen
  obtain ⟨t, u, hcs, hr⟩ := trod_rec hlen hf
  obtain ⟨l⟩ := cs
  simp only [Value.cells] at hcs
  subst hcs
  exact ⟨t, u, rfl, hr⟩
end
end Go.Proofs.YtkiipnbjckdlbaaGreatDoor
