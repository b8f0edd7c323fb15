/- Texts laid one behind the other: RKeep, Builder, LastOp, TPrint, NoteCheck, NoteSpec, RegB. No condition beyond theirs. -/
import Derived.Test.YthkgjohhbdipcaaGreatDoorK6
import Derived.Test.YthkgjohhbdipcaaGreatDoorK3
import Derived.Test.YthkgjohhbdipcaaGreatDoorProg
import Derived.Test.YthkgjohhbdipcaaGreatDoorK2
import Derived.Lib.Builder
import Derived.Lib.UnsafeStr
import Derived.Lib.AppendStr
import Derived.Laws.Externs
import Derived.KernelRfl
import Derived.Test.YthkgjohhbdipcaaGreatDoorK5
set_option linter.all false
namespace Go.Proofs.YthkgjohhbdipcaaGreatDoor
open Go.RowKit

set_option maxHeartbeats 2000000 in
theorem rnone_any (v : Value) (p : TPol) (D : Nat → Prop) (w : World) (h : RdRules w D v p.rules) :
    Calls Tryz.prog 111 #[polV v p.dflt] w fun e w' => e = .returned (.bool (decide (noPol p))) ∧ Below w.heap.size w w' := by
  obtain ⟨rs, d⟩ := p
  dsimp only at h ⊢
  obtain ⟨a, c, rfl, _, _, _⟩ := Sl.form h
  clear h
  by_cases hd : d = 0
  · subst hd
    rcases Nat.eq_zero_or_pos rs.length with r0 | r0
    · obtain rfl : rs = [] := List.length_eq_zero_iff.1 r0
      have HE : Hid (decide (noPol ⟨[], 0⟩) = true) := decide_eq_true ⟨rfl, rfl⟩
      have e1 : ([] : List TRule).length = 0 := rfl
      go_enter Tryz.func111, Tryz.ntmps111
      go_wp2
      go_ret
      exact ⟨by rw [HE.out]; rfl, bel_alloc (Below.refl _ _) _⟩
    · have HE : Hid (decide (noPol ⟨rs, 0⟩) = false) := decide_eq_false (fun h => by have := h.2; dsimp only at this; rw [this] at r0; simp at r0)
      have z1 : ((rs.length : Int) == 0) = false := by simpa using (show ¬ (rs.length : Int) = 0 by omega)
      have z2 : (rs.length == 0) = false := by simpa using (show ¬ rs.length = 0 by omega)
      have z0 : rs ≠ [] := fun e => by rw [e] at r0; simp at r0
      clear r0
      go_enter Tryz.func111, Tryz.ntmps111
      go_wp2
      go_ret
      exact ⟨by rw [HE.out]; rfl, bel_alloc (Below.refl _ _) _⟩
  · have HE : Hid (decide (noPol ⟨rs, d⟩) = false) := decide_eq_false (fun h => hd h.1)
    have z1 : (d == 0) = false := beq_eq_false_iff_ne.2 hd
    clear hd
    go_enter Tryz.func111, Tryz.ntmps111
    go_wp2
    go_ret
    exact ⟨by rw [HE.out]; rfl, bel_alloc (Below.refl _ _) _⟩

set_option maxRecDepth 100000 in
set_option maxHeartbeats 8000000 in
theorem rreccheck_any (v : Value) (r : TRec) (D : Nat → Prop) (w : World) (h : RdRules w D v r.p.rules) :
    Calls Tryz.prog 71 #[recV r v] w fun e w' => e = .returned (.int .i64 (recE r)) ∧ Below w.heap.size w w' := by
  obtain ⟨kd, cl, fr, ⟨rs, d⟩⟩ := r
  dsimp only at h ⊢
  have H := Lib.hid h
  obtain ⟨a, c, rfl, _, _, _⟩ := Sl.form h
  clear h
  have HB := Lib.hid (Bx.one (w := w) (o := .cells #[.int .i64 kd, .int .i64 cl, .int .i64 fr, .slice a rs.length c, .int .i64 d] 56))
  have HbL : Hid (Below w.heap.size w _) := HB.out.bel
  go_enter Tryz.func71, Tryz.ntmps71
  go_wp2_with fail
  refine (in_any kd 1 4 _).mono ?_
  rintro e w1 ⟨rfl, rfl⟩
  by_cases hk : kd < 1 ∨ 4 < kd
  · have HE : Hid (recE ⟨kd, cl, fr, ⟨rs, d⟩⟩ = 4) := by show _ = _; unfold recE; dsimp only; rw [if_pos hk]
    rw [inB_no (by omega)]
    clear hk
    go_wp2
    go_ret
    exact ⟨ret_int HE.out.symm, HbL.out⟩
  · rw [inB_yes (by omega) (by omega)]
    go_wp2_with fail
    refine (in_any cl 0 3 _).mono ?_
    rintro e w1 ⟨rfl, rfl⟩
    by_cases hc : cl < 0 ∨ 4 ≤ cl
    · have HE : Hid (recE ⟨kd, cl, fr, ⟨rs, d⟩⟩ = 3) := by show _ = _; unfold recE; dsimp only; rw [if_neg hk, if_pos (by omega)]
      rw [inB_no (by omega)]
      clear hk hc
      go_wp2
      go_ret
      exact ⟨ret_int HE.out.symm, HbL.out⟩
    · rw [inB_yes (by omega) (by omega)]
      go_wp2_with fail
      refine (in_any fr 0 3 _).mono ?_
      rintro e w1 ⟨rfl, rfl⟩
      by_cases hf : fr < 0 ∨ 4 ≤ fr
      · have HE : Hid (recE ⟨kd, cl, fr, ⟨rs, d⟩⟩ = 3) := by show _ = _; unfold recE; dsimp only; rw [if_neg hk, if_pos (by omega)]
        rw [inB_no (by omega)]
        clear hk hc hf
        go_wp2
        go_ret
        exact ⟨ret_int HE.out.symm, HbL.out⟩
      · rw [inB_yes (by omega) (by omega)]
        have HE0 : Hid (recE ⟨kd, cl, fr, ⟨rs, d⟩⟩ = if (kd ≠ 3 ∧ fr ≠ 0) ∨ (2 < kd ∧ ¬ noPol ⟨rs, d⟩) then 4 else if 2 < kd then 0 else polE ⟨rs, d⟩) := by show _ = _; unfold recE; dsimp only; rw [if_neg hk, if_neg (by omega)]
        by_cases h2 : 2 < kd
        · have b1 : (kd == 1) = false := beq_eq_false_iff_ne.2 (by omega)
          have b2 : (kd == 2) = false := beq_eq_false_iff_ne.2 (by omega)
          by_cases hx : kd ≠ 3 ∧ fr ≠ 0
          · have HE : Hid (recE ⟨kd, cl, fr, ⟨rs, d⟩⟩ = 4) := by show _ = _; rw [HE0.out, if_pos (.inl hx)]
            have b3 : (kd != 3) = true := bne_iff_ne.2 hx.1
            have b4 : decide (0 < fr) = true := decide_eq_true (by omega)
            clear hk hc hf hx h2
            go_wp2
            go_ret
            exact ⟨ret_int HE.out.symm, HbL.out⟩
          · have key : (fr = 0 ∧ decide (0 < fr) = false) ∨ (decide (0 < fr) = true ∧ kd = 3) := by
              by_cases f0 : fr = 0
              · exact .inl ⟨f0, decide_eq_false (by omega)⟩
              · exact .inr ⟨decide_eq_true (by omega), by omega⟩
            have fin : ∀ (nb : Bool), nb = decide (noPol ⟨rs, d⟩) → recE ⟨kd, cl, fr, ⟨rs, d⟩⟩ = if nb then 0 else 4 := fun nb hnb => by
              rw [HE0.out, hnb]
              by_cases hn : noPol ⟨rs, d⟩
              · rw [if_neg (by rintro (h | h); exact hx h; exact h.2 hn), if_pos h2, decide_eq_true hn]; rfl
              · rw [if_pos (.inr ⟨h2, hn⟩), decide_eq_false hn]; rfl
            have Fin := Lib.hid fin
            clear fin hx h2
            rcases key with ⟨rfl, b4⟩ | ⟨b4, rfl⟩
            · clear hk hc hf
              go_wp2_with fail
              refine (rnone_any _ ⟨rs, d⟩ D _ (H.out.below HB.out.bel)).mono ?_
              rintro e w1 ⟨rfl, hb1⟩
              obtain ⟨nb, hnb⟩ : ∃ nb, nb = decide (noPol ⟨rs, d⟩) := ⟨_, rfl⟩
              have HE := Lib.hid (Fin.out nb hnb)
              rw [← hnb]
              have HbF := Lib.hid (HB.out.below hb1).bel
              clear hnb hb1
              cases nb with
              | true =>
                go_wp2
                go_ret
                exact ⟨ret_int HE.out.symm, HbF.out⟩
              | false =>
                go_wp2
                go_ret
                exact ⟨ret_int HE.out.symm, HbF.out⟩
            · clear hk hc hf
              go_wp2_with fail
              refine (rnone_any _ ⟨rs, d⟩ D _ (H.out.below HB.out.bel)).mono ?_
              rintro e w1 ⟨rfl, hb1⟩
              obtain ⟨nb, hnb⟩ : ∃ nb, nb = decide (noPol ⟨rs, d⟩) := ⟨_, rfl⟩
              have HE := Lib.hid (Fin.out nb hnb)
              rw [← hnb]
              have HbF := Lib.hid (HB.out.below hb1).bel
              clear hnb hb1
              cases nb with
              | true =>
                go_wp2
                go_ret
                exact ⟨ret_int HE.out.symm, HbF.out⟩
              | false =>
                go_wp2
                go_ret
                exact ⟨ret_int HE.out.symm, HbF.out⟩
        · by_cases f0 : fr = 0
          · subst f0
            have HE : Hid (recE ⟨kd, cl, 0, ⟨rs, d⟩⟩ = polE ⟨rs, d⟩) := by show _ = _; rw [HE0.out, if_neg (by rintro (h | h); exact h.2 rfl; exact h2 h.1), if_neg h2]
            rcases (by omega : kd = 1 ∨ kd = 2) with rfl | rfl
            · clear hk hc hf h2
              go_wp2_with fail
              refine (rpolcheck_any _ ⟨rs, d⟩ D _ (H.out.below HB.out.bel)).mono ?_
              rintro e w1 ⟨rfl, hb1⟩
              have HbF := Lib.hid (HB.out.below hb1).bel
              clear hb1
              go_wp2
              go_ret
              exact ⟨ret_int HE.out.symm, HbF.out⟩
            · clear hk hc hf h2
              go_wp2_with fail
              refine (rpolcheck_any _ ⟨rs, d⟩ D _ (H.out.below HB.out.bel)).mono ?_
              rintro e w1 ⟨rfl, hb1⟩
              have HbF := Lib.hid (HB.out.below hb1).bel
              clear hb1
              go_wp2
              go_ret
              exact ⟨ret_int HE.out.symm, HbF.out⟩
          · have HE : Hid (recE ⟨kd, cl, fr, ⟨rs, d⟩⟩ = 4) := by show _ = _; rw [HE0.out, if_pos (.inl ⟨by omega, f0⟩)]
            have b4 : decide (0 < fr) = true := decide_eq_true (by omega)
            rcases (by omega : kd = 1 ∨ kd = 2) with rfl | rfl
            · clear hk hc hf f0 h2
              go_wp2
              go_ret
              exact ⟨ret_int HE.out.symm, HbL.out⟩
            · clear hk hc hf f0 h2
              go_wp2
              go_ret
              exact ⟨ret_int HE.out.symm, HbL.out⟩

set_option maxRecDepth 100000 in
set_option maxHeartbeats 8000000 in
theorem rkcheck_any (v : Value) (l : List TCell) (D : Nat → Prop) (w : World) (h : RdCells w D v l) :
    Calls Tryz.prog 92 #[v] w fun e w' => e = .returned (.int .i64 (cellsE l)) ∧ Below w.heap.size w w' := by
  obtain ⟨a, c, rfl, hlc, hcm, hat⟩ := Sl.form h
  have H := Lib.hid h
  clear h
  by_cases h4 : l.length = 4
  · have He := Lib.hid (show cellsE l = cellsGo l by unfold cellsE; rw [if_pos h4])
    have hz : ((l.length : Int) != 4) = false := by simp [h4]
    have H4 := Lib.hid h4
    have hat' := hat (by omega)
    obtain ⟨b, o, rfl, hDb, hb⟩ := hat'
    clear hat h4
    go_enter Tryz.func92, Tryz.ntmps92
    go_wp2_with fail
    go_loopw [12] (fun i wr => ∃ k : Nat, k ≤ l.length ∧ i = .int .i64 k ∧ cellsGo l = cellsGo (l.drop k) ∧ Below w.heap.size w wr) (fun i _ => l.length - (intOf i).toNat)
    case atStart => exact ⟨0, by omega, rfl, rfl, Below.refl _ _⟩
    case round =>
      obtain ⟨k, hk, rfl, hgo, hbw⟩ := hrel
      have Hgo := Lib.hid hgo
      have Hbw := Lib.hid hbw
      clear hgo hbw
      by_cases hlt : k < l.length
      · obtain ⟨a1, a2, c1, c2, k0, k1, k2, k3, hrc, hrp⟩ := RdCells.cells (H.out.below Hbw.out) hlt
        have bad : ∀ e : Int, cellE l[k] = e → e ≠ 0 → ∀ wz, Below w.heap.size w wz → Ending.returned (.int .i64 e) = .returned (.int .i64 (cellsE l)) ∧ Below w.heap.size w wz := fun e he h0 wz hz => by
          refine ⟨ret_int ?_, hz⟩
          rw [He.out, Hgo.out, cellsGo_drop l k hlt, he, if_neg h0]
        have good : cellE l[k] = 0 → cellsGo l = cellsGo (l.drop (k + 1)) := fun he => by rw [Hgo.out, cellsGo_drop l k hlt, if_pos he]
        have Hbad := Lib.hid bad
        have Hgood := Lib.hid good
        clear bad good
        generalize hX : l[k] = X at *
        clear hX
        obtain ⟨op, ch, ⟨rs, d⟩⟩ := X
        dsimp only at k0 k1 k2 k3 hrc hrp
        have Hrc := Lib.hid hrc
        have Hrp := Lib.hid hrp
        have Hsl : Hid (ch.length ≤ 9223372036854775807 ∧ rs.length ≤ 9223372036854775807) := by
          obtain ⟨_, _, hv1, h1, h2, _⟩ := Sl.form hrc
          obtain ⟨_, _, hv2, h3, h4, _⟩ := Sl.form hrp
          exact ⟨by omega, by omega⟩
        clear hrc hrp
        cases op with
        | false =>
          have HC := Lib.hid (Bx.one (w := wr) (o := .cells #[.bool false, .slice a1 ch.length c1, .slice a2 rs.length c2, .int .i64 d] 52))
          have HbC := Lib.hid (bel_call Hbw.out HC.out.bel)
          rcases Nat.eq_zero_or_pos ch.length with hc0 | hc0
          · obtain rfl : ch = [] := List.length_eq_zero_iff.1 hc0
            have e1 : ([] : List (List TIns)).length = 0 := rfl
            have Hrp1 := Lib.hid (Hrp.out.below HC.out.bel)
            clear hc0
            go_wp2_with fail
            refine (rnone_any _ ⟨rs, d⟩ D _ Hrp1.out).mono ?_
            rintro e w1 ⟨rfl, hb1⟩
            have HbC1 := Lib.hid (bel_call HbC.out hb1)
            have HC1 := Lib.hid (HC.out.below hb1)
            have hq := HC1.out.cells0
            clear hb1 HC HbC
            by_cases hn : noPol ⟨rs, d⟩
            · have Hg := Lib.hid (Hgood.out (by unfold cellE; simp [hn]))
              rw [decide_eq_true hn]
              clear hn
              go_wp2
              go_roundw
              case rel => exact ⟨k + 1, by omega, by go_num, Hg.out, HbC1.out⟩
              case measure => simp [intOf]; omega
            · have Hb := Lib.hid (Hbad.out 4 (by unfold cellE; simp [hn]) (by decide))
              rw [decide_eq_false hn]
              clear hn
              go_wp2
              go_ret
              exact Hb.out _ HbC1.out
          · have Hb := Lib.hid (Hbad.out 4 (by unfold cellE; rw [if_neg (by simp), if_neg (by intro h; have := h.1; dsimp only at this; rw [this] at hc0; simp at hc0)]) (by decide))
            have z1 : 0 < (ch.length : Int) := by omega
            have z0 : ch ≠ [] := fun e => by rw [e] at hc0; simp at hc0
            clear hc0
            go_wp2
            go_ret
            exact Hb.out _ HbC.out
        | true =>
          rcases Nat.eq_zero_or_pos ch.length with hc0 | hc0
          · obtain rfl : ch = [] := List.length_eq_zero_iff.1 hc0
            have Hb := Lib.hid (Hbad.out 4 (by unfold cellE; simp) (by decide))
            have e1 : ([] : List (List TIns)).length = 0 := rfl
            clear hc0
            go_wp2
            go_ret
            exact Hb.out _ (bel_alloc Hbw.out _)
          · have hne : ch ≠ [] := fun e => by rw [e] at hc0; simp at hc0
            have Hce : Hid (cellE ⟨true, ch, ⟨rs, d⟩⟩ = if chainE ch ≠ 0 then chainE ch else polE ⟨rs, d⟩) := by show cellE _ = _; unfold cellE; simp [hne]
            have z1 : ((ch.length : Int) == 0) = false := by simpa using (show ¬ (ch.length : Int) = 0 by omega)
            have HC := Lib.hid (Bx.one (w := wr) (o := .cells #[.bool true, .slice a1 ch.length c1, .slice a2 rs.length c2, .int .i64 d] 52))
            have HbC := Lib.hid (bel_call Hbw.out HC.out.bel)
            have z3 : 0 < (ch.length : Int) := by omega
            clear hc0
            go_wp2_with fail
            refine (rchcheck_any _ ch D _ (Hrc.out.below HC.out.bel)).mono ?_
            rintro e w1 ⟨rfl, hb1⟩
            have HC1 := Lib.hid (HC.out.below hb1)
            have HbC1 := Lib.hid (bel_call HbC.out hb1)
            have Hrp1 := Lib.hid ((Hrp.out.below HC.out.bel).below hb1)
            clear hb1 HC
            by_cases he : chainE ch = 0
            · rw [he]
              have hq := HC1.out.cells0
              go_wp2_with fail
              refine (rpolcheck_any _ ⟨rs, d⟩ D _ Hrp1.out).mono ?_
              rintro e w2 ⟨rfl, hb2⟩
              have HbC2 := Lib.hid (bel_call HbC1.out hb2)
              clear hq hb2
              by_cases hp : polE ⟨rs, d⟩ = 0
              · have Hg := Lib.hid (Hgood.out (by rw [Hce.out, if_neg (by simp [he]), hp]))
                rw [hp]
                go_wp2
                go_roundw
                case rel => exact ⟨k + 1, by omega, by go_num, Hg.out, HbC2.out⟩
                case measure => simp [intOf]; omega
              · have Hb := Lib.hid (Hbad.out (polE ⟨rs, d⟩) (by rw [Hce.out, if_neg (by simp [he])]) hp)
                have hp' : (polE ⟨rs, d⟩ != 0) = true := bne_iff_ne.2 hp
                generalize polE ⟨rs, d⟩ = E at Hb hp' ⊢
                clear hp
                go_wp2
                go_ret
                exact Hb.out _ HbC2.out
            · have Hb := Lib.hid (Hbad.out (chainE ch) (by rw [Hce.out, if_pos he]) he)
              have hp' : (chainE ch != 0) = true := bne_iff_ne.2 he
              generalize chainE ch = E at Hb hp' ⊢
              clear he
              go_wp2
              go_ret
              exact Hb.out _ HbC1.out
      · obtain rfl : k = l.length := by omega
        go_wp2
        go_ret
        exact ⟨ret_int (by rw [He.out, Hgo.out, List.drop_length]; rfl), Hbw.out⟩
  · have He := Lib.hid (show cellsE l = 4 by unfold cellsE; rw [if_neg h4])
    have hz : ((l.length : Int) != 4) = true := bne_iff_ne.2 (by omega)
    clear h4 hat
    go_enter Tryz.func92, Tryz.ntmps92
    go_wp2
    go_ret
    exact ⟨ret_int (by rw [He.out]), Below.refl _ _⟩
set_option maxHeartbeats 4000000 in
theorem rksame1_any (x y : TCell) (a1 a2 b1 b2 : Option Addr) (c1 c2 d1 d2 : Nat) (w : World) (h1 : RdChain w (fun _ => True) (.slice a1 x.chain.length c1) x.chain) (h2 : RdRules w (fun _ => True) (.slice a2 x.p.rules.length c2) x.p.rules) (h3 : RdChain w (fun _ => True) (.slice b1 y.chain.length d1) y.chain) (h4 : RdRules w (fun _ => True) (.slice b2 y.p.rules.length d2) y.p.rules) :
    Calls Tryz.prog 90 #[cellV x a1 c1 a2 c2, cellV y b1 d1 b2 d2] w fun e w' => e = .returned (.bool (decide (x = y))) ∧ Below w.heap.size w w' := by
  have H1 := Lib.hid h1
  have H2 := Lib.hid h2
  have H3 := Lib.hid h3
  have H4 := Lib.hid h4
  clear h1 h2 h3 h4
  obtain ⟨ox, cx, px⟩ := x
  obtain ⟨oy, cy, py⟩ := y
  dsimp only at H1 H2 H3 H4 ⊢
  have HB := Lib.hid (Bx.two (w := w) (o := .cells #[.bool ox, .slice a1 cx.length c1, .slice a2 px.rules.length c2, .int .i64 px.dflt] 52) (o' := .cells #[.bool oy, .slice b1 cy.length d1, .slice b2 py.rules.length d2, .int .i64 py.dflt] 52))
  have HD : Hid (decide ((⟨ox, cx, px⟩ : TCell) = ⟨oy, cy, py⟩) = (decide (ox = oy) && decide (cx = cy) && decide (px = py))) := by show _ = _; simp [Bool.and_assoc]
  by_cases ho : ox = oy
  · subst ho
    go_enter Tryz.func90, Tryz.ntmps90
    go_wp2_with fail
    refine (rchsame_any _ _ cx cy _ (H1.out.below HB.out.bel) (H3.out.below HB.out.bel)).mono ?_
    rintro e w1 ⟨rfl, hb1⟩
    have HB1 := Lib.hid (HB.out.below hb1)
    clear hb1
    by_cases hc : cx = cy
    · have d1 : decide (cx = cy) = true := decide_eq_true hc
      have HD' : Hid (decide ((⟨ox, cx, px⟩ : TCell) = ⟨ox, cy, py⟩) = decide (px = py)) := by show _ = _; rw [HD.out, d1]; simp
      rw [d1]
      clear hc HD d1
      have hq0 := HB1.out.cells0
      have hq1 := HB1.out.cells1
      go_wp2_with fail
      refine (rsame_any _ _ px py (fun _ => True) _ (RdRules.below H2.out HB1.out.bel) (RdRules.below H4.out HB1.out.bel)).mono ?_
      rintro e w2 ⟨rfl, hb2⟩
      have HB2 := Lib.hid (HB1.out.below hb2)
      clear hq0 hq1 hb2
      go_wp2
      go_ret
      exact ⟨by rw [HD'.out]; rfl, HB2.out.bel⟩
    · have d1 : decide (cx = cy) = false := decide_eq_false hc
      have HD' : Hid (decide ((⟨ox, cx, px⟩ : TCell) = ⟨ox, cy, py⟩) = false) := by show _ = _; rw [HD.out, d1]; simp
      rw [d1]
      clear hc HD d1
      go_wp2
      go_ret
      exact ⟨by rw [HD'.out]; rfl, HB1.out.bel⟩
  · have d1 : (ox == oy) = false := by simpa using ho
    have HD' : Hid (decide ((⟨ox, cx, px⟩ : TCell) = ⟨oy, cy, py⟩) = false) := by show _ = _; rw [HD.out]; simp [ho]
    clear ho HD
    have HBL : Hid (Below w.heap.size w _) := HB.out.bel
    go_enter Tryz.func90, Tryz.ntmps90
    go_wp2
    go_ret
    exact ⟨by rw [HD'.out]; rfl, HBL.out⟩
set_option maxRecDepth 100000 in
set_option maxHeartbeats 4000000 in
theorem rkeq_any (v u : Value) (xs ys : List TCell) (w : World) (h : RdCells w (fun _ => True) v xs) (h' : RdCells w (fun _ => True) u ys) :
    Calls Tryz.prog 89 #[v, u, .func (.func 90) #[] #[]] w fun e w' => e = .returned (.bool (decide (xs = ys))) ∧ Below w.heap.size w w' := by
  have H := Lib.hid h
  have H' := Lib.hid h'
  obtain ⟨a, c, rfl, hlc, hcm, hat⟩ := Sl.form h
  obtain ⟨a', c', rfl, hlc', hcm', hat'⟩ := Sl.form h'
  clear h h'
  by_cases hl : xs.length = ys.length
  · have Hl := Lib.hid hl
    have hln : ((xs.length : Int) != (ys.length : Int)) = false := by rw [hl]; simp
    clear hl
    go_enter Tryz.func89, Tryz.ntmps89
    go_wp2_with fail
    go_loopw [17] (fun i wr => ∃ k : Nat, k ≤ xs.length ∧ i = .int .i64 k ∧ xs.take k = ys.take k ∧ Below w.heap.size w wr) (fun i _ => xs.length - (intOf i).toNat)
    case atStart => exact ⟨0, by omega, rfl, rfl, Below.refl _ _⟩
    case round =>
      obtain ⟨k, hk, rfl, htk, hbw⟩ := hrel
      have Ht := Lib.hid htk
      have Hb := Lib.hid hbw
      clear htk hbw
      by_cases hlt : k < xs.length
      · obtain ⟨b, o, rfl, _, _⟩ := hat (by omega)
        obtain ⟨b', o', rfl, _, _⟩ := hat' (by rw [← Hl.out]; omega)
        have hlt' : k < ys.length := by rw [← Hl.out]; exact hlt
        obtain ⟨a1, a2, c1, c2, x0, x1, x2, x3, hr1, hp1⟩ := RdCells.cells (H.out.below Hb.out) hlt
        obtain ⟨b1, b2, d1, d2, y0, y1, y2, y3, hr2, hp2⟩ := RdCells.cells (H'.out.below Hb.out) hlt'
        have Hr1 := Lib.hid hr1
        have Hr2 := Lib.hid hr2
        have Hp1 := Lib.hid hp1
        have Hp2 := Lib.hid hp2
        have HC := Lib.hid (Bx.two (w := wr) (o := .cells #[.bool xs[k].open_, .slice a1 xs[k].chain.length c1, .slice a2 xs[k].p.rules.length c2, .int .i64 xs[k].p.dflt] 52) (o' := .cells #[.bool ys[k].open_, .slice b1 ys[k].chain.length d1, .slice b2 ys[k].p.rules.length d2, .int .i64 ys[k].p.dflt] 52))
        have q0 : ∀ O, (wr.alloc O).cell? ⟨b', o' + k * 4, none⟩ = _ := fun O => (Below.cell_alloc' O y0)
        have q1 : ∀ O, (wr.alloc O).cell? ⟨b', o' + k * 4 + 1, none⟩ = _ := fun O => (Below.cell_alloc' O y1)
        have q2 : ∀ O, (wr.alloc O).cell? ⟨b', o' + k * 4 + 2, none⟩ = _ := fun O => (Below.cell_alloc' O y2)
        have q3 : ∀ O, (wr.alloc O).cell? ⟨b', o' + k * 4 + 3, none⟩ = _ := fun O => (Below.cell_alloc' O y3)
        clear hr1 hr2 hp1 hp2
        go_wp2_with fail
        refine (rksame1_any xs[k] ys[k] _ _ _ _ _ _ _ _ _ (Hr1.out.below HC.out.bel) (RdRules.below Hp1.out HC.out.bel) (Hr2.out.below HC.out.bel) (RdRules.below Hp2.out HC.out.bel)).mono ?_
        rintro e w1 ⟨rfl, hb1⟩
        have Hb1 := Lib.hid (bel_call (bel_call Hb.out HC.out.bel) hb1)
        clear hb1 x0 x1 x2 x3 y0 y1 y2 y3 q0 q1 q2 q3 HC
        by_cases he : xs[k] = ys[k]
        · have Hn := Lib.hid (take_eq_step4 hlt hlt' Ht.out he)
          have d : decide (xs[k] = ys[k]) = true := decide_eq_true he
          clear he
          rw [d]
          go_wp2
          go_roundw
          case rel => first | exact ⟨k + 1, by omega, by go_num, Hn.out, Hb1.out⟩ | ((repeat apply Exists.intro); exact ⟨⟨k + 1, by omega, by go_num, Hn.out, Hb1.out⟩, rfl⟩)
          case measure => simp [intOf]; omega
        · have Hn := Lib.hid (ne_of_get4 hlt hlt' he)
          have d : decide (xs[k] = ys[k]) = false := decide_eq_false he
          clear he
          rw [d]
          go_wp2
          go_ret
          exact ⟨by rw [decide_eq_false Hn.out]; rfl, Hb1.out⟩
      · obtain rfl : k = xs.length := by omega
        have Hn : Hid (xs = ys) := by
          have := Ht.out
          rw [List.take_length, Hl.out, List.take_length] at this
          exact this
        go_wp2
        go_ret
        exact ⟨by rw [decide_eq_true Hn.out]; rfl, Hb.out⟩
  · have hn : xs ≠ ys := fun e => hl (by rw [e])
    have hl' : ((xs.length : Int) != (ys.length : Int)) = true := bne_iff_ne.2 (by omega)
    have HD := Lib.hid (decide_eq_false hn)
    clear hn
    go_enter Tryz.func89, Tryz.ntmps89
    go_wp2
    go_ret
    exact ⟨by rw [HD.out]; rfl, Below.refl _ _⟩
set_option maxHeartbeats 1000000 in
theorem rkeepsame_any (v u : Value) (xs ys : List TCell) (w : World) (h : RdCells w (fun _ => True) v xs) (h' : RdCells w (fun _ => True) u ys) :
    Calls Tryz.prog 52 #[v, u] w fun e w' => e = .returned (.bool (decide (xs = ys))) ∧ Below w.heap.size w w' := by
  have H := Lib.hid h
  have H' := Lib.hid h'
  obtain ⟨a, c, rfl, _⟩ := Sl.form h
  obtain ⟨a', c', rfl, _⟩ := Sl.form h'
  clear h h'
  go_enter Tryz.func52, Tryz.ntmps52
  go_wp2_with fail
  refine (rkeq_any _ _ xs ys w H.out H'.out).mono ?_
  rintro e w1 ⟨rfl, hb1⟩
  go_wp2
  go_ret
  exact ⟨rfl, hb1⟩
end Go.Proofs.YthkgjohhbdipcaaGreatDoor
namespace Go.Proofs.YthkgjohhbdipcaaGreatDoor
open Go.RowKit

theorem infoBuilder : (Tryz.prog.info? 144).map (·.size) = some 2 := by kernel_rfl
theorem liesBuilder : liesAt Tryz.prog Tryz.prog.depth 144 (2 / Tryz.prog.cellsOf 144) 0 144 1 = true := by kernel_rfl
theorem infoByteB : (Tryz.prog.info? 5).map (fun i => (i.zero, i.size, i.bytes)) = some (some (.int .u8 0), 1, 1) := by kernel_rfl
theorem cellsByteB : Tryz.prog.cellsOf 5 = 1 := by kernel_rfl

/-- a builder that holds these bytes. -/
def Bd (B b : Nat) (l : List UInt8) (w : World) : Prop := Lib.IsBuilder 144 5 B b (Lib.byteCells l) w

set_option maxHeartbeats 1000000 in
set_option maxRecDepth 100000 in
theorem bcheck_used (b : Nat) (w : World) (h0 : w.cell? ⟨b, 0, none⟩ = some (.pointer (some ⟨b, 0, none⟩))) :
    Calls Tryz.prog 141 #[.pointer (some ⟨b, 0, none⟩)] w fun e w' => e = .returned (.tuple #[]) ∧ w' = w := by
  obtain ⟨j, hj, _⟩ := Option.map_eq_some_iff.1 infoBuilder
  go_enter Tryz.func141, Tryz.ntmps141
  go_wp2
  rw [Lib.run_neq_ptr_same w _ Tryz.underlying142 hj]
  go_wp2
  go_end0
  exact ⟨rfl, rfl⟩

set_option maxHeartbeats 1000000 in
set_option maxRecDepth 100000 in
theorem bcheck_fresh (b : Nat) (w : World) (h0 : w.cell? ⟨b, 0, none⟩ = some (.pointer none)) (hsh : w.shape? b = some (144, 2)) (hfz : w.frozen? ⟨b, 0, none⟩ = false) :
    Calls Tryz.prog 141 #[.pointer (some ⟨b, 0, none⟩)] w fun e w' => e = .returned (.tuple #[]) ∧ w' = w.setCell ⟨b, 0, none⟩ (.pointer (some ⟨b, 0, none⟩)) := by
  obtain ⟨j, hj, hjs⟩ := Option.map_eq_some_iff.1 infoBuilder
  go_enter Tryz.func141, Tryz.ntmps141
  go_wp2
  rw [Lib.run_to_unsafe w ⟨b, 0, none⟩ Tryz.underlying142 Tryz.underlying205 hj (by rw [hjs]; decide) hsh (Nat.zero_lt_succ 1)]
  simp only [Result.andThen]
  rw [Oper.upon_value]
  go_wp2
  rw [run_callFunc_extern Tryz.func168 (by kernel_rfl) (by kernel_rfl) (by kernel_rfl) (e := Extern.AbiNoEscape.same) (by kernel_rfl)]
  rw [Lib.run_noEscape]
  simp only [Result.andThen]
  rw [Oper.upon_value]
  go_wp2
  rw [Lib.run_from_unsafe w ⟨b, 0, none⟩ Tryz.underlying205 Tryz.underlying142 hj hsh liesBuilder]
  simp only [Result.andThen]
  rw [Oper.upon_value]
  go_wp2
  go_end0
  exact ⟨rfl, rfl⟩

/-- all blocks but a builder's own one, and its row, stay. -/
def BFr (b : Nat) (w w' : World) : Prop := ∀ k, k < w.heap.size → k ≠ b → (∀ v, w.cell? ⟨b, 1, none⟩ = some v → v.ownBlock ≠ some k) → w'.heap[k]? = w.heap[k]?
theorem bcheck_any (B b : Nat) (bs : List Value) (w : World) (h : Lib.IsBuilder 144 5 B b bs w) :
    Calls Tryz.prog 141 #[.pointer (some ⟨b, 0, none⟩)] w fun e w' => e = .returned (.tuple #[]) ∧ (Lib.BuilderAt 144 5 B b (.pointer (some ⟨b, 0, none⟩)) bs w' ∧ Below B w w') ∧ w'.heap.size = w.heap.size ∧ (∀ k, k ≠ b → w'.heap[k]? = w.heap[k]?) ∧ w'.cell? ⟨b, 1, none⟩ = w.cell? ⟨b, 1, none⟩ := by
  rcases h with h | h
  · refine (bcheck_fresh b w h.cell0 h.shape h.frozen0).mono ?_
    rintro e w' ⟨rfl, rfl⟩
    exact ⟨rfl, ⟨h.used _, (Below.refl B w).setCell (p := ⟨b, 0, none⟩) h.1 _⟩, by simp [World.setCell], fun k hk => Below.heap_setCell _ _ _ _ (fun e => hk e), World.cell?_setCell_other _ _ _ _ (by intro e; injection e with _ e _; cases e)⟩
  · refine (bcheck_used b w h.cell0).mono ?_
    rintro e w' ⟨rfl, rfl⟩
    exact ⟨rfl, ⟨h, Below.refl B _⟩, rfl, fun _ _ => rfl, rfl⟩

set_option maxHeartbeats 2000000 in
set_option maxRecDepth 100000 in
theorem bwrite_any (B b : Nat) (l : List UInt8) (s : ByteArray) (w : World) (h : Bd B b l w) (hlen : l.length + s.size ≤ 140737488355328) (hBw : B ≤ w.heap.size) :
    Calls Tryz.prog 102 #[.pointer (some ⟨b, 0, none⟩), .string s] w fun e w' => e = .returned (.tuple #[.int .i64 s.size, .nilIface]) ∧ Bd B b (l ++ s.data.toList) w' ∧ Below B w w' ∧ BFr b w w' := by
  obtain ⟨i0, hi, hz0, hz1, hz2⟩ := info_parts infoByteB
  have hl : (Lib.byteCells l).length = l.length := Lib.byteCells_length l
  have H := Lib.hid h
  have Hi := Lib.hid hi
  clear h hi
  go_enter Tryz.func102, Tryz.ntmps102
  go_wp2_with fail
  refine (bcheck_any B b _ _ H.out).mono ?_
  rintro e w1 ⟨rfl, ⟨h1, hb1⟩, hs1, hk1, hc11⟩
  obtain ⟨hB, v, hbk, hown, hne⟩ := h1
  have Hk1 := Lib.hid hk1
  have Hs1 := Lib.hid hs1
  have Hc11 := Lib.hid hc11
  clear hk1 hs1 hc11
  have c0 : w1.cell? ⟨b, 0, none⟩ = some (.pointer (some ⟨b, 0, none⟩)) := by rw [Lib.cell_of_heap hbk]; rfl
  have c1 : w1.cell? ⟨b, 1, none⟩ = some v := by rw [Lib.cell_of_heap hbk]; rfl
  have Hown := Lib.hid hown
  have Hbk := Lib.hid hbk
  have Hb1 := Lib.hid hb1
  have Hne := Lib.hid hne
  clear hown hbk hb1 hne
  go_wp2_with (at_builtin; refine Lib.wpList_append_own_string _ rfl _ _ 23 9 rfl B 5 i0 Tryz.underlying23 Tryz.underlying9 Hi.out hz0 hz1 hz2 _ _ _ rfl Hown.out s rfl ?c3 ?c4 ?c5 ?_)
  case c3 => rw [hl]; unfold maxLen; omega
  case c4 => rw [hl]; omega
  case c5 => have := Hb1.out.size; omega
  intro v' w2 hown' hgrow _
  have hlt : b < w1.heap.size := (Array.getElem?_eq_some_iff.1 Hbk.out).1
  have hb2 : w2.heap[b]? = some (.cells #[.pointer (some ⟨b, 0, none⟩), v] 144 (0, 0)) := by
    rw [hgrow.block b hlt (fun e => Hne.out e.symm)]
    exact Hbk.out
  have d0 : w2.cell? ⟨b, 0, none⟩ = some (.pointer (some ⟨b, 0, none⟩)) := by rw [Lib.cell_of_heap hb2]; rfl
  have d1 : w2.cell? ⟨b, 1, none⟩ = some v := by rw [Lib.cell_of_heap hb2]; rfl
  have f1 : w2.frozen? ⟨b, 1, none⟩ = false := Lib.frozen_of_heap hb2 1
  obtain ⟨ao, n', cap, rfl⟩ : ∃ ao n' cap, v' = .slice ao n' cap := by
    rcases hown'.2 with ⟨hv, _⟩ | ⟨g, cap, cur, hv, _⟩
    · exact ⟨_, _, _, hv⟩
    · exact ⟨_, _, _, hv⟩
  have Hgrow := Lib.hid hgrow
  have Hown' := Lib.hid hown'
  have Hb2 := Lib.hid hb2
  have Hc1 : Hid (w.cell? ⟨b, 1, none⟩ = some v) := by show _ = _; rw [← Hc11.out]; exact c1
  clear hgrow hown' hb2 c0 c1
  go_wp2
  go_ret2
  refine ⟨rfl, ?_, ?_, ?_⟩
  · have hap : Lib.byteCells l ++ Lib.strCells s = Lib.byteCells (l ++ s.data.toList) := by rw [Lib.byteCells_append]; rfl
    have := Hown'.out
    rw [hap] at this
    refine .inr (Lib.BuilderAt.put (T := 144) (e := 5) hB Hb2.out ?_ (by decide))
    have hl2 : (Lib.byteCells (l ++ s.data.toList)).length = (Lib.byteCells l).length + s.size := by
      rw [Lib.byteCells_length, List.length_append, hl]; rfl
    rw [hl2, hl]
    exact this
  · exact (Hb1.out.grown Hgrow.out (by have := Hb1.out.size; omega) (fun k hk => (Hown.out.lt k hk).1)).setCell (p := ⟨b, 1, none⟩) hB _
  · intro k hk hkb hkv
    rw [Below.heap_setCell _ _ _ _ (fun e => hkb e), Hgrow.out.block k (by rw [Hs1.out]; exact hk) (fun e => hkv v Hc1.out e.symm)]
    exact Hk1.out k hkb
theorem Bd.lt {B b : Nat} {l : List UInt8} {w : World} (h : Bd B b l w) : B ≤ b ∧ b < w.heap.size := by
  rcases h with h | h
  · exact ⟨h.1, h.lt⟩
  · exact ⟨h.1, h.lt⟩
theorem Bd.own {B b : Nat} {l : List UInt8} {w : World} (h : Bd B b l w) : ∀ v, w.cell? ⟨b, 1, none⟩ = some v → ∀ g, v.ownBlock = some g → g < w.heap.size := by
  have key : ∀ p, Lib.BuilderAt 144 5 B b p (Lib.byteCells l) w → ∀ v, w.cell? ⟨b, 1, none⟩ = some v → ∀ g, v.ownBlock = some g → g < w.heap.size := by
    rintro p ⟨hB, v, hbk, hown, hne⟩ v' hv g hg
    rw [Lib.cell_of_heap hbk] at hv
    injection hv with hv
    subst hv
    exact (hown.lt g hg).2
  rcases h with h | h
  · exact key _ h
  · exact key _ h
/-- a builder, whatever is laid behind it. -/
theorem Bd.below {B b : Nat} {l : List UInt8} {w w' : World} (h : Bd B b l w) (hb : Below w.heap.size w w') : Bd B b l w' := by
  have key : ∀ p, Lib.BuilderAt 144 5 B b p (Lib.byteCells l) w → Lib.BuilderAt 144 5 B b p (Lib.byteCells l) w' := by
    rintro p ⟨hB, v, hbk, hown, hne⟩
    exact ⟨hB, v, (hb.block b (Array.getElem?_eq_some_iff.1 hbk).1).trans hbk, by
      obtain ⟨h1, h2⟩ := hown
      refine ⟨h1, ?_⟩
      rcases h2 with h2 | ⟨g, cap, cur, hv, hg, hh, r⟩
      · exact .inl h2
      · exact .inr ⟨g, cap, cur, hv, hg, (hb.block g (Array.getElem?_eq_some_iff.1 hh).1).trans hh, r⟩, hne⟩
  rcases h with h | h
  · exact .inl (key _ h)
  · exact .inr (key _ h)
/-- blocks from B on stay. -/
def KeepFrom (B : Nat) (W W' : World) : Prop := W.heap.size ≤ W'.heap.size ∧ ∀ k, B ≤ k → k < W.heap.size → W'.heap[k]? = W.heap[k]?
theorem KeepFrom.of_below {B : Nat} {W W' : World} (h : Below W.heap.size W W') : KeepFrom B W W' := ⟨h.size, fun k _ hk => h.block k hk⟩
theorem Bd.keep {B b : Nat} {l : List UInt8} {w0 W W' : World} (h : Bd B b l w0) (hC : Below w0.heap.size w0 W) (hF : BFr b W W') (hs : W.heap.size ≤ W'.heap.size) : KeepFrom w0.heap.size W W' := by
  refine ⟨hs, fun k hk hlt => hF k hlt (by have := h.lt; omega) fun v hv e => ?_⟩
  have hv' : w0.cell? ⟨b, 1, none⟩ = some v := by
    rw [← hv]
    exact (hC.cell (p := ⟨b, 1, none⟩) h.lt.2).symm
  have := h.own v hv' k e
  omega

set_option maxHeartbeats 2000000 in
set_option maxRecDepth 100000 in
theorem bstring_any (B b : Nat) (l : List UInt8) (w : World) (h : Bd B b l w) (h0 : l ≠ []) :
    Calls Tryz.prog 106 #[.pointer (some ⟨b, 0, none⟩)] w fun e w' => e = .returned (.string ⟨l.toArray⟩) ∧ Below B w w' := by
  obtain ⟨p, hB, v, hbk, hown, hne⟩ : ∃ p, Lib.BuilderAt 144 5 B b p (Lib.byteCells l) w := by
    rcases h with h | h
    · exact ⟨_, h⟩
    · exact ⟨_, h⟩
  have hl0 : l.length ≠ 0 := by simpa using h0
  rw [Lib.byteCells_length] at hown
  obtain ⟨g, cap, cur, rfl, hbg, hg, hnc, hcm, hcs, htake⟩ : ∃ g cap cur, v = .slice (some ⟨g, 0, none⟩) l.length cap ∧ B ≤ g ∧ w.heap[g]? = some (.cells cur 5 (0, 0)) ∧ l.length ≤ cap ∧ cap ≤ maxLen ∧ cur.size = cap * 1 ∧ cur.toList.take (l.length * 1) = Lib.byteCells l := by
    rcases hown.2 with ⟨_, hz⟩ | ⟨g, cap, cur, hv, r⟩
    · exact absurd hz hl0
    · exact ⟨g, cap, cur, hv, r⟩
  have c1 : w.drew.cell? ⟨b, 1, none⟩ = some (.slice (some ⟨g, 0, none⟩) l.length cap) := by
    have : w.drew.heap[b]? = some (.cells #[p, .slice (some ⟨g, 0, none⟩) l.length cap] 144 (0, 0)) := hbk
    rw [Lib.cell_of_heap this]; rfl
  have hSD : (Builtin.unsafeSliceData_ #[23] 184 #[.slice (some ⟨g, 0, none⟩) l.length cap]).run Tryz.prog w.drew = .ok (.pointer (some ⟨g, 0, none⟩)) w.drew :=
    Lib.run_unsafeSliceData_row _ _ _ _ _ _ (by omega)
  have hUS : (Builtin.unsafeString_ #[184, 3] 9 #[.pointer (some ⟨g, 0, none⟩), .int .i64 l.length]).run Tryz.prog w.drew = .ok (.string ⟨l.toArray⟩) (w.drew.freeze ⟨g, 0, none⟩ l.length) := by
    refine Lib.run_unsafeString_row w.drew 184 3 9 5 Tryz.underlying184 cellsByteB g cur.size (by have hg' : w.drew.heap[g]? = some (.cells cur 5 (0, 0)) := hg; simp [World.shape?, hg']) l h0 (by omega) (by unfold maxLen at hcm; omega) ?_
    intro j x hx
    have := hown.cells (g := g) rfl j (.int .u8 x.toNat) (by simp [Lib.byteCells, hx])
    exact this
  have Hg := Lib.hid hg
  clear h hown hne hbk hg htake hcs hcm hnc h0
  go_enter Tryz.func106, Tryz.ntmps106
  go_wp2
  go_region
  all_goals (go_wp2; go_ret; exact ⟨rfl, Lib.below_freeze (Below.drew (Below.refl B w)) (p := ⟨g, 0, none⟩) hbg _⟩)
end Go.Proofs.YthkgjohhbdipcaaGreatDoor
namespace Go.Proofs.YthkgjohhbdipcaaGreatDoor
open Go.RowKit

/-- until operation n is done the worlds are w0's with blocks behind it; then Fin holds. -/
def LastI (n : Nat) (w0 : World) (Fin : World → Prop) (done : Nat → Bool) (W : World) : Prop := if done n = true then Fin W else Cls w0.heap.size w0 W
section
variable {n k : Nat} {w0 W W' : World} {Fin : World → Prop} {done : Nat → Bool}
theorem LastI.start : LastI n w0 Fin (fun _ => false) w0.drew := by
  unfold LastI
  rw [if_neg (by simp)]
  exact ⟨Nat.le_refl _, (Below.refl _ _).drew⟩
theorem LastI.before (h : LastI n w0 Fin done W) (hd : done n = false) : Cls w0.heap.size w0 W := by
  unfold LastI at h
  rw [if_neg (by rw [hd]; simp)] at h
  exact h
theorem LastI.step (h : LastI n w0 Fin done W) (hd : done n = false) (hk : n ≠ k) (hb : Below W.heap.size W W') : LastI n w0 Fin (updDone done k) W' := by
  have hC := h.before hd
  unfold LastI updDone
  rw [if_neg hk, hd, if_neg (by simp)]
  exact hC.step hb
theorem LastI.at_ (h : Fin W) : LastI n w0 Fin (updDone done n) W := by
  unfold LastI updDone
  rw [if_pos rfl, if_pos rfl]
  exact h
theorem LastI.after (h : LastI n w0 Fin done W) (hd : done n = true) : Fin W := by
  unfold LastI at h
  rw [if_pos hd] at h
  exact h
end
def stableK (B : Nat) (p : Value → World → Prop) : Prop := ∀ v w w', KeepFrom B w w' → p v w → p v w'
def stablesK (B : Nat) : List Spec → Prop
  | [] => True
  | s :: r => ((∃ x, s = ex x) ∨ ∃ p, s = pr p ∧ stableK B p) ∧ stablesK B r
theorem stablesK_get {B : Nat} : ∀ (ss : List Spec), stablesK B ss → ∀ s ∈ ss, ∀ v w w', KeepFrom B w w' → s.fact v w → s.fact v w'
  | [], _, s, h => by cases h
  | s0 :: r, h, s, hm => by
    rcases List.mem_cons.1 hm with rfl | hm
    · rcases h.1 with ⟨x, rfl⟩ | ⟨p, rfl, hp⟩
      · exact fun _ _ _ _ _ => trivial
      · exact fun v w w' hg hf => hp v w w' hg hf
    · exact stablesK_get r h.2 s hm
/-- THE LAW. -/
theorem wp_region_lastop {P : Program} {l : List Oper} {Q : Exit → Act → World → Prop} {a : Act} {id : Nat} {w : World} (n B : Nat) (ss : List Spec) (Fin : World → Prop) (hm : P.follows .mixedOrders = true) (hB : monoB2 (l.map prune) a.tmps.size = true)
    (hst : stablesK B ss) (bs : List (List Nat)) (hbs : befores (l.map prune) [] = bs) (h : walkP P l.toArray (LastI n w Fin) (fun _ W W' => KeepFrom B W W') bs (Q .normal) l.length l ss 0 a [] (fun _ => True)) : (Code.region id l.toArray true).wp P Q a w :=
  wp_region_done3 ss (LastI n w Fin) (fun _ W W' => KeepFrom B W W') hm hB (fun _ _ s _ hk v _ w1 w2 _ hT hf => stablesK_get ss hst s (List.mem_of_getElem? hk) v w1 w2 hT hf) LastI.start bs hbs h

/-- a slice over a new block that is known whole. -/
def VRow (B : Nat) (T : TypeId) (cells : Array Value) (n : Nat) (v : Value) (W : World) : Prop := ∃ b, v = .slice (some ⟨b, 0, none⟩) n n ∧ B ≤ b ∧ W.heap[b]? = some (.cells cells T)
/-- the address of a cell of it. -/
def VAt (B : Nat) (T : TypeId) (cells : Array Value) (k : Nat) (v : Value) (W : World) : Prop := ∃ b, v = .pointer (some ⟨b, k, none⟩) ∧ B ≤ b ∧ W.heap[b]? = some (.cells cells T)
theorem VRow.stable {B n : Nat} {T : TypeId} {cells : Array Value} : stableK B (VRow B T cells n) := fun v w w' h ⟨b, hv, hB, hb⟩ => ⟨b, hv, hB, (h.2 b hB (Array.getElem?_eq_some_iff.1 hb).1).trans hb⟩
theorem VAt.stable {B k : Nat} {T : TypeId} {cells : Array Value} : stableK B (VAt B T cells k) := fun v w w' h ⟨b, hv, hB, hb⟩ => ⟨b, hv, hB, (h.2 b hB (Array.getElem?_eq_some_iff.1 hb).1).trans hb⟩
end Go.Proofs.YthkgjohhbdipcaaGreatDoor
namespace Go.Proofs.YthkgjohhbdipcaaGreatDoor
open Go.RowKit Go.Shelf
attribute [local go_sem] gives givesUpon
attribute [-go_sem] run_string_add_if run_slice_string_if run_slice_string

@[reducible] def verdictRow : Array Value := #[Value.string (bsL [107, 105, 108, 108]), .string (bsL [116, 114, 97, 112]), .string (bsL [102, 97, 105, 108]), .string (bsL [108, 111, 103]), .string (bsL [97, 108, 108, 111, 119])]
@[reducible] def fieldRow : Array Value := #[Value.string (bsL [110, 114]), .string (bsL [107, 105, 110, 100]), .string (bsL [97]), .string (bsL [98]), .string (bsL [99])]
@[reducible] def opRow : Array Value := #[Value.string (bsL []), .string (bsL [61]), .string (bsL [33]), .string (bsL [60]), .string (bsL [62])]
theorem op_cell {v : Int} (h0 : 1 ≤ v) (h1 : v ≤ 4) : opRow[v.toNat]? = some (.string (bsL [opW v])) := by
  rcases (by omega : v = 1 ∨ v = 2 ∨ v = 3 ∨ v = 4) with rfl | rfl | rfl | rfl <;> rfl
theorem verdicts_any (w : World) : Calls Tryz.prog 103 #[] w fun e w' => e = .returned (.slice (some ⟨w.heap.size, 0, none⟩) 5 5) ∧ w' = w.alloc (.cells verdictRow 9) := by
  go_enter Tryz.func103, Tryz.ntmps103
  go_wp2
  go_ret
  exact ⟨rfl, rfl⟩
theorem fields_any (w : World) : Calls Tryz.prog 104 #[] w fun e w' => e = .returned (.slice (some ⟨w.heap.size, 0, none⟩) 5 5) ∧ w' = w.alloc (.cells fieldRow 9) := by
  go_enter Tryz.func104, Tryz.ntmps104
  go_wp2
  go_ret
  exact ⟨rfl, rfl⟩
theorem ops_any (w : World) : Calls Tryz.prog 105 #[] w fun e w' => e = .returned (.slice (some ⟨w.heap.size, 0, none⟩) 5 5) ∧ w' = w.alloc (.cells opRow 9) := by
  go_enter Tryz.func105, Tryz.ntmps105
  go_wp2
  go_ret
  exact ⟨rfl, rfl⟩
/-- chapter 3's Print, errors too. -/
def printE (p : TPol) : List UInt8 × Int := if polE p = 0 then (textP p, 0) else ([], polE p)
theorem bd_new (w : World) : Bd w.heap.size w.heap.size [] (w.alloc (.cells #[.pointer none, .slice none 0 0] 144)) :=
  .inl ⟨Nat.le_refl _, _, heap_last _ _, ⟨by simp [Lib.byteCells], .inl ⟨rfl, rfl⟩⟩, by simp [Value.ownBlock]⟩
theorem bsL_toList (l : List UInt8) : (bsL l).data.toList = l := rfl
set_option maxRecDepth 100000 in
set_option maxHeartbeats 16000000 in
theorem tprint_any (v : Value) (p : TPol) (D : Nat → Prop) (w : World) (h : RdRules w D v p.rules) (hL : Laid w) :
    Calls Tryz.prog 66 #[polV v p.dflt] w fun e w' => e = .returned (.tuple #[.string (bsL (printE p).1), .int .i64 (printE p).2]) ∧ Below w.heap.size w w' := by
  have H := Lib.hid (RdRules.keep h (D' := fun b => b < w.heap.size) (fun _ _ hl => hl) (fun _ _ _ => rfl) (Nat.le_refl _))
  have HL := Lib.hid hL
  obtain ⟨a, c, rfl, hlc, hcm, hat⟩ := Sl.form H.out
  clear h hL
  go_enter Tryz.func66, Tryz.ntmps66
  go_wp2_with fail
  have HB := Lib.hid (Bx.one (w := w) (o := .cells #[.slice a p.rules.length c, .int .i64 p.dflt] 38))
  refine (polcheck_any _ p _ _ (RdRules.below H.out HB.out.bel)).mono ?_
  rintro e w1 ⟨rfl, hb1⟩
  replace HB := Lib.hid (HB.out.below hb1)
  clear hb1
  by_cases h0 : polE p = 0
  · have HE : Hid (printE p = (textP p, 0)) := if_pos h0
    have Hok := Lib.hid ((okPol_iff p).1 h0)
    have H1 := Lib.hid (RdRules.below H.out HB.out.bel)
    have HL1 := Lib.hid (HL.out.below HB.out.bel)
    rw [h0]
    clear h0
    have Hbd0 := Lib.hid (bd_new w1)
    have Hb0 : Hid (Below w1.heap.size w1 (w1.alloc (.cells #[.pointer none, .slice none 0 0] 144))) := bel_alloc (Below.refl _ _) _
    have hsz1 : w.heap.size + 1 ≤ w1.heap.size := HB.out.top
    have hc0 := (HB.out.below Hb0.out).cells0
    go_wp2_with fail
    clear hc0
    revert Hbd0 Hb0
    generalize (w1.alloc (.cells #[.pointer none, .slice none 0 0] 144)) = w2
    intro Hbd0 Hb0
    go_loopw [18] (fun kv wr => ∃ k : Nat, kv = .int .i64 k ∧ k ≤ p.rules.length ∧ Bd w1.heap.size w1.heap.size (headP (p.rules.take k)) wr ∧ Below w1.heap.size w1 wr) (fun kv _ => p.rules.length - (intOf kv).toNat)
    case atStart => exact ⟨0, rfl, by omega, Hbd0.out, Hb0.out⟩
    case round =>
      obtain ⟨k, rfl, hk, hbd, hb⟩ := hrel
      obtain ⟨wo, rfl⟩ : ∃ wo : World, wo = wr := ⟨_, rfl⟩
      have Hbase := Lib.hid hbd
      have Hb := Lib.hid hb
      have hszr := hb.size
      clear hbd hb Hbd0 Hb0
      have HBr := Lib.hid (HB.out.below Hb.out)
      obtain ⟨t, ht⟩ : ∃ t, t = headP (p.rules.take k) := ⟨_, rfl⟩
      have htl : t.length ≤ 33600 := by
        rw [ht]
        have := headP_len (p.rules.take k) (fun x hx => Hok.out.rules x (List.mem_of_mem_take hx))
        rw [List.length_take] at this
        have := Hok.out.len
        omega
      rw [← ht] at Hbase
      have Ht := Lib.hid ht
      clear ht
      by_cases hlt : k < p.rules.length
      · obtain ⟨b, o, rfl, _, _⟩ := hat (by omega)
        obtain ⟨ca, cc, hc0w, hc1w, hrd, _, _, hcat⟩ := RdRules.cells (RdRules.below H1.out Hb.out) hlt
        have Hkr := Lib.hid (Hok.out.rules p.rules[k] (List.getElem_mem hlt))
        have Htk := Lib.hid (headP_take hlt)
        obtain ⟨r, hr⟩ : ∃ r, p.rules[k] = r := ⟨_, rfl⟩
        rw [hr] at hc0w hc1w hrd hcat Hkr Htk
        have Hrd := Lib.hid hrd
        have hcl10 := Hkr.out.len
        have hv0 := Hkr.out.v0
        have hv1 := Hkr.out.v1
        have hv5 : r.verdict < 5 := by omega
        have hvl := verdictW_len r.verdict
        clear hrd hr
        go_wp2_with fail
        clear hc0w hc1w
        obtain ⟨w3, hw3⟩ : ∃ w3, wo.alloc (.cells #[.slice ca r.conds.length cc, .int .i64 r.verdict] 147) = w3 := ⟨_, rfl⟩
        have Hbb : Hid (Below wo.heap.size wo w3) := by show Below _ _ _; rw [← hw3]; exact bel_alloc (Below.refl _ _) _
        have Hrb : Hid (w3.heap[wo.heap.size]? = some (.cells #[.slice ca r.conds.length cc, .int .i64 r.verdict] 147)) := by show _ = _; rw [← hw3]; exact heap_last _ _
        have HBB : Hid (wo.heap.size ≤ w3.heap.size) := Hbb.out.size
        have Hbd := Lib.hid (Hbase.out.below Hbb.out)
        rw [hw3]
        clear hw3
        refine wp_region_lastop 5 wo.heap.size [pr (VRow wo.heap.size 9 verdictRow 5), ex (.pointer (some ⟨wo.heap.size, 1, none⟩)), ex (.int .i64 r.verdict), pr (VAt wo.heap.size 9 verdictRow (r.verdict).toNat), ex (.string (bsL (verdictW r.verdict))), ex (.tuple #[.int .i64 ((bsL (verdictW r.verdict)).size : Int), .nilIface])] (fun W => Bd w1.heap.size w1.heap.size (t ++ verdictW r.verdict) W ∧ Below w1.heap.size w1 W ∧ W.heap[wo.heap.size]? = some (.cells #[.slice ca r.conds.length cc, .int .i64 r.verdict] 147) ∧ wo.heap.size ≤ W.heap.size) (by kernel_rfl) (by kernel_rfl) ⟨.inr ⟨_, rfl, VRow.stable⟩, .inl ⟨_, rfl⟩, .inl ⟨_, rfl⟩, .inr ⟨_, rfl, VAt.stable⟩, .inl ⟨_, rfl⟩, .inl ⟨_, rfl⟩, trivial⟩ _ rfl ?_
        (refine walkP_pr (fun K hK => ?_); refine ⟨fun done W hI h0 hd hn hf R hR => ?_, fun v0 => ?_⟩; (have hno : done 5 = false := hn 5 (by decide); have hC := hI.before hno; have HC := Lib.hid hC; clear hC; clear h0 hd hn hf; go_simp; go_at_call 103; refine (verdicts_any W).mono ?_; rintro e w9 ⟨rfl, rfl⟩; exact ⟨_, rfl, hR _ _ (hI.step hno (by decide) (bel_alloc (Below.refl _ _) _)) (KeepFrom.of_below (bel_alloc (Below.refl _ _) _)) ⟨_, rfl, Nat.le_trans HBB.out HC.out.1, heap_last _ _⟩⟩); (go_simp; refine hK _ _ ?_; clear hK K))
        (refine walkP_ex (fun K hK => ?_); refine ⟨fun done W hI h0 hd hn hf R hR => ?_, ?_⟩; (have hno : done 5 = false := hn 5 (by decide); have hC := hI.before hno; clear h0 hd hn hf; go_simp; exact hR _ _ (hI.step hno (by decide) (Below.refl _ _)) (KeepFrom.of_below (Below.refl _ _)) rfl); (go_simp; refine hK _ ?_; clear hK K))
        (refine walkP_ex (fun K hK => ?_); refine ⟨fun done W hI h0 hd hn hf R hR => ?_, ?_⟩; (have hno : done 5 = false := hn 5 (by decide); have hC := hI.before hno; have hcell := cells_of (blk_below Hrb.out hC.2); clear hC; clear h0 hd hn hf; go_simp; exact hR _ _ (hI.step hno (by decide) (Below.refl _ _)) (KeepFrom.of_below (Below.refl _ _)) rfl); (go_simp; refine hK _ ?_; clear hK K))
        (refine walkP_pr (fun K hK => ?_); refine ⟨fun done W hI h0 hd hn hf R hR => ?_, fun v3 => ?_⟩; (have hno : done 5 = false := hn 5 (by decide); have hC := hI.before hno; have hv : VRow wo.heap.size 9 verdictRow 5 v0 W := hf 0 (by decide); obtain ⟨b0, rfl, hb0, hc0⟩ := hv; have Hc0 := Lib.hid hc0; clear hc0 hC; clear h0 hd hn hf; go_simp; exact hR _ _ (hI.step hno (by decide) (Below.refl _ _)) (KeepFrom.of_below (Below.refl _ _)) ⟨b0, rfl, hb0, Hc0.out⟩); (go_simp; refine hK _ _ ?_; clear hK K))
        (refine walkP_ex (fun K hK => ?_); refine ⟨fun done W hI h0 hd hn hf R hR => ?_, ?_⟩; (have hno : done 5 = false := hn 5 (by decide); have hC := hI.before hno; have hv : VAt wo.heap.size 9 verdictRow (r.verdict).toNat v3 W := hf 3 (by decide); obtain ⟨b0, rfl, hb0, hc0⟩ := hv; have hcell := (cells_of hc0 _).trans (verdict_cell hv0 hv1); clear hc0 hC; clear h0 hd hn hf; go_simp; exact hR _ _ (hI.step hno (by decide) (Below.refl _ _)) (KeepFrom.of_below (Below.refl _ _)) rfl); (go_simp; refine hK _ ?_; clear hK K))
        (refine walkP_ex (fun K hK => ?_); refine ⟨fun done W hI h0 hd hn hf R hR => ?_, ?_⟩; (have hno : done 5 = false := h0; have hC := hI.before hno; have HC := Lib.hid hC; clear hC; clear h0 hd hn hf; go_simp; go_at_call 102; refine (bwrite_any w1.heap.size w1.heap.size t (bsL (verdictW r.verdict)) W (Hbd.out.below HC.out.2) (by show _ + ((verdictW r.verdict)).toArray.size ≤ _; simp; omega) (by have := Hbd.out.lt; have := HC.out.1; omega)).mono ?_; rintro e w9 ⟨rfl, h1, h2, h3⟩; exact ⟨_, rfl, hR _ _ (LastI.at_ ⟨h1, (Hb.out.trans ((Hbb.out.trans (HC.out.2.mono HBB.out)).mono hszr)).trans h2, ((Hbase.out.keep (Hbb.out.trans (HC.out.2.mono HBB.out)) h3 h2.size).2 _ (Nat.le_refl _) (by have h4 := (Array.getElem?_eq_some_iff.1 Hrb.out).1; have h5 := HC.out.1; omega)).trans (blk_below Hrb.out HC.out.2), by have h4 := HC.out.1; have h5 := HBB.out; have h6 := h2.size; omega⟩) (Hbase.out.keep (Hbb.out.trans (HC.out.2.mono HBB.out)) h3 h2.size) rfl⟩); (go_simp; refine hK _ ?_; clear hK K))
        intro done w4 hd hI _
        obtain ⟨hbd4, hb4, hrb4, hsz4⟩ := hI.after (hd 5 (by decide))
        clear hd hI
        have Hbd4 := Lib.hid hbd4
        have Hb4 := Lib.hid hb4
        have hcr := cells_of hrb4
        have Hrd4 : Hid (RdConds w4 (fun b => b < w.heap.size) (.slice ca r.conds.length cc) r.conds) := Hrd.out.keep (fun _ h _ => h) (fun b hb _ => by have h1 : b < w.heap.size := hb; rw [Hb4.out.block b (by omega), Hb.out.block b (by omega)]) hsz4
        clear hbd4 hb4 hrb4 Hbd Hbb Hrb HBB
        go_wp2_with fail
        clear hcr
        go_loopw [31] (fun jv wi => ∃ j : Nat, jv = .int .i64 j ∧ j ≤ r.conds.length ∧ Bd w1.heap.size w1.heap.size ((t ++ verdictW r.verdict) ++ headC (r.conds.take j)) wi ∧ Below w1.heap.size w1 wi ∧ w4.heap.size ≤ wi.heap.size) (fun jv _ => r.conds.length - (intOf jv).toNat)
        case atStart => exact ⟨0, rfl, by omega, by simpa [headC] using Hbd4.out, Hb4.out, Nat.le_refl _⟩
        case round =>
          obtain ⟨j, rfl, hj, hbd, hbi, hszi⟩ := hrel
          obtain ⟨wi, rfl⟩ : ∃ wi : World, wi = wr := ⟨_, rfl⟩
          have hul : ((t ++ verdictW r.verdict) ++ headC (r.conds.take j)).length ≤ 34000 := by
            have h1 := headC_len (r.conds.take j) (fun x hx => Hkr.out.conds x (List.mem_of_mem_take hx))
            rw [List.length_take] at h1
            have h2 := Hkr.out.len
            simp only [List.length_append]; omega
          obtain ⟨u, hu⟩ : ∃ u, u = (t ++ verdictW r.verdict) ++ headC (r.conds.take j) := ⟨_, rfl⟩
          rw [← hu] at hbd hul
          clear Hbase
          have Hbase := Lib.hid hbd
          have Hbi := Lib.hid hbi
          have Hu := Lib.hid hu
          have hszb := hbi.size
          clear hbd hbi hu
          by_cases hjl : j < r.conds.length
          · obtain ⟨b2, o2, rfl, _, _⟩ := hcat (by omega)
            have Hrdi : RdConds wi (fun b => b < w.heap.size) (.slice (some ⟨b2, o2, none⟩) r.conds.length cc) r.conds := Hrd4.out.keep (fun _ h _ => h) (fun b hb _ => by have h1 : b < w.heap.size := hb; rw [Hbi.out.block b (by omega), Hb4.out.block b (by omega)]) hszi
            obtain ⟨hd0, hd1, hd2⟩ := RdConds.cells Hrdi hjl
            have Hoc := Lib.hid (Hkr.out.conds r.conds[j] (List.getElem_mem hjl))
            have Hcj := Lib.hid (headC_take hjl)
            obtain ⟨⟨cf, cop, cv⟩, hcj⟩ : ∃ y : TCond, r.conds[j] = y := ⟨_, rfl⟩
            rw [hcj] at hd0 hd1 hd2 Hoc Hcj
            obtain ⟨hf0, hf1, ho0, ho1, hcv0, hcv1⟩ := (show (0 ≤ cf ∧ cf ≤ 4 ∧ 1 ≤ cop ∧ cop ≤ 4 ∧ 0 ≤ cv ∧ cv ≤ 65535) from ⟨Hoc.out.f0, by have h : cf < 5 := Hoc.out.f1; omega, Hoc.out.o0, Hoc.out.o1, Hoc.out.v0, by have h1 := Hoc.out.v1; have : mostOf cf ≤ 65535 := (by unfold mostOf; split <;> (try split) <;> omega); exact Int.le_trans h1 this⟩)
            have hf5 : cf < 5 := by omega
            have ho5 : cop < 5 := by omega
            have hoz : 0 ≤ cop := by omega
            have hfl := fieldW_len cf
            have hil := Lib.itoa_length_le cv (by omega) (by omega)
            obtain ⟨s1, hs1⟩ : ∃ s1, 32 :: fieldW cf = s1 := ⟨_, rfl⟩
            obtain ⟨s2, hs2⟩ : ∃ s2, s1 ++ [opW cop] = s2 := ⟨_, rfl⟩
            obtain ⟨s3, hs3⟩ : ∃ s3, s2 ++ Lib.itoa cv = s3 := ⟨_, rfl⟩
            have hl1 : s1.length ≤ 5 := by rw [← hs1]; simp; omega
            have hl2 : s2.length ≤ 6 := by rw [← hs2]; simp; omega
            have hl3 : s3.length ≤ 27 := by rw [← hs3]; simp; omega
            have hb1 : ∀ W : World, (Op.stringOp .add ⟨#[32]⟩ (bsL (fieldW cf))).run Tryz.prog W = .ok (.string (bsL s1)) W := fun W => by rw [← hs1]; exact add_bs [32] (fieldW cf) (by simp; omega) W
            have hb2 : ∀ W : World, (Op.stringOp .add (bsL s1) (bsL [opW cop])).run Tryz.prog W = .ok (.string (bsL s2)) W := fun W => by rw [← hs2]; exact add_bs s1 [opW cop] (by simp; omega) W
            have hb3 : ∀ W : World, (Op.stringOp .add (bsL s2) (bsL (Lib.itoa cv))).run Tryz.prog W = .ok (.string (bsL s3)) W := fun W => by rw [← hs3]; exact add_bs s2 (Lib.itoa cv) (by omega) W
            have HF : Hid (u ++ s3 = (t ++ verdictW r.verdict) ++ headC (r.conds.take (j + 1))) := by
              show _ = _
              rw [Hcj.out, ← hs3, ← hs2, ← hs1, Hu.out]; unfold condW; simp
            clear hs1 hs2 hs3 hl1 hl2 hcj
            go_wp2_with fail
            clear hd0 hd1 hd2
            obtain ⟨w5, hw5⟩ : ∃ w5, wi.alloc (.cells #[.int .i64 cf, .int .i64 cop, .int .i64 cv] 153) = w5 := ⟨_, rfl⟩
            have Hbb : Hid (Below wi.heap.size wi w5) := by show Below _ _ _; rw [← hw5]; exact bel_alloc (Below.refl _ _) _
            have Hrb : Hid (w5.heap[wi.heap.size]? = some (.cells #[.int .i64 cf, .int .i64 cop, .int .i64 cv] 153)) := by show _ = _; rw [← hw5]; exact heap_last _ _
            have HBB : Hid (wi.heap.size ≤ w5.heap.size) := Hbb.out.size
            have Hbd := Lib.hid (Hbase.out.below Hbb.out)
            have HLi := Lib.hid (HL1.out.below (Hbi.out.trans (Hbb.out.mono hszb)))
            rw [hw5]
            clear hw5
            refine wp_region_lastop 16 wi.heap.size [pr (VRow wi.heap.size 9 fieldRow 5), ex (.pointer (some ⟨wi.heap.size, 0, none⟩)), ex (.int .i64 cf), pr (VAt wi.heap.size 9 fieldRow cf.toNat), ex (.string (bsL (fieldW cf))), ex (.string (bsL s1)), pr (VRow wi.heap.size 9 opRow 5), ex (.pointer (some ⟨wi.heap.size, 1, none⟩)), ex (.int .i64 cop), pr (VAt wi.heap.size 9 opRow cop.toNat), ex (.string (bsL [opW cop])), ex (.string (bsL s2)), ex (.pointer (some ⟨wi.heap.size, 2, none⟩)), ex (.int .i64 cv), ex (.string (bsL (Lib.itoa cv))), ex (.string (bsL s3)), ex (.tuple #[.int .i64 ((bsL s3).size : Int), .nilIface])] (fun W => Bd w1.heap.size w1.heap.size (u ++ s3) W ∧ Below w1.heap.size w1 W ∧ wi.heap.size ≤ W.heap.size) (by kernel_rfl) (by kernel_rfl) ⟨.inr ⟨_, rfl, VRow.stable⟩, .inl ⟨_, rfl⟩, .inl ⟨_, rfl⟩, .inr ⟨_, rfl, VAt.stable⟩, .inl ⟨_, rfl⟩, .inl ⟨_, rfl⟩, .inr ⟨_, rfl, VRow.stable⟩, .inl ⟨_, rfl⟩, .inl ⟨_, rfl⟩, .inr ⟨_, rfl, VAt.stable⟩, .inl ⟨_, rfl⟩, .inl ⟨_, rfl⟩, .inl ⟨_, rfl⟩, .inl ⟨_, rfl⟩, .inl ⟨_, rfl⟩, .inl ⟨_, rfl⟩, .inl ⟨_, rfl⟩, trivial⟩ _ rfl ?_
            (refine walkP_pr (fun K hK => ?_); refine ⟨fun done W hI h0 hd hn hf R hR => ?_, fun v0 => ?_⟩; (have hno : done 16 = false := hn 16 (by decide); have hC := hI.before hno; have HC := Lib.hid hC; clear hC; clear h0 hd hn hf; go_simp; go_at_call 104; refine (fields_any W).mono ?_; rintro e w9 ⟨rfl, rfl⟩; exact ⟨_, rfl, hR _ _ (hI.step hno (by decide) (bel_alloc (Below.refl _ _) _)) (KeepFrom.of_below (bel_alloc (Below.refl _ _) _)) ⟨_, rfl, Nat.le_trans HBB.out HC.out.1, heap_last _ _⟩⟩); (go_simp; refine hK _ _ ?_; clear hK K))
            (refine walkP_ex (fun K hK => ?_); refine ⟨fun done W hI h0 hd hn hf R hR => ?_, ?_⟩; (have hno : done 16 = false := hn 16 (by decide); have hC := hI.before hno; clear h0 hd hn hf; go_simp; exact hR _ _ (hI.step hno (by decide) (Below.refl _ _)) (KeepFrom.of_below (Below.refl _ _)) rfl); (go_simp; refine hK _ ?_; clear hK K))
            (refine walkP_ex (fun K hK => ?_); refine ⟨fun done W hI h0 hd hn hf R hR => ?_, ?_⟩; (have hno : done 16 = false := hn 16 (by decide); have hC := hI.before hno; have hcell := cells_of (blk_below Hrb.out hC.2); clear hC; clear h0 hd hn hf; go_simp; exact hR _ _ (hI.step hno (by decide) (Below.refl _ _)) (KeepFrom.of_below (Below.refl _ _)) rfl); (go_simp; refine hK _ ?_; clear hK K))
            (refine walkP_pr (fun K hK => ?_); refine ⟨fun done W hI h0 hd hn hf R hR => ?_, fun v3 => ?_⟩; (have hno : done 16 = false := hn 16 (by decide); have hC := hI.before hno; have hv : VRow wi.heap.size 9 fieldRow 5 v0 W := hf 0 (by decide); obtain ⟨b0, rfl, hb0, hc0⟩ := hv; have Hc0 := Lib.hid hc0; clear hc0 hC; clear h0 hd hn hf; go_simp; exact hR _ _ (hI.step hno (by decide) (Below.refl _ _)) (KeepFrom.of_below (Below.refl _ _)) ⟨b0, rfl, hb0, Hc0.out⟩); (go_simp; refine hK _ _ ?_; clear hK K))
            (refine walkP_ex (fun K hK => ?_); refine ⟨fun done W hI h0 hd hn hf R hR => ?_, ?_⟩; (have hno : done 16 = false := hn 16 (by decide); have hC := hI.before hno; have hv : VAt wi.heap.size 9 fieldRow cf.toNat v3 W := hf 3 (by decide); obtain ⟨b0, rfl, hb0, hc0⟩ := hv; have hcell := (cells_of hc0 _).trans (field_cell hf0 hf1); clear hc0 hC; clear h0 hd hn hf; go_simp; exact hR _ _ (hI.step hno (by decide) (Below.refl _ _)) (KeepFrom.of_below (Below.refl _ _)) rfl); (go_simp; refine hK _ ?_; clear hK K))
            (refine walkP_ex (fun K hK => ?_); refine ⟨fun done W hI h0 hd hn hf R hR => ?_, ?_⟩; (have hno : done 16 = false := hn 16 (by decide); have hC := hI.before hno; clear h0 hd hn hf; go_simp; exact hR _ _ (hI.step hno (by decide) (Below.refl _ _)) (KeepFrom.of_below (Below.refl _ _)) rfl); (go_simp; refine hK _ ?_; clear hK K))
            (refine walkP_pr (fun K hK => ?_); refine ⟨fun done W hI h0 hd hn hf R hR => ?_, fun v6 => ?_⟩; (have hno : done 16 = false := hn 16 (by decide); have hC := hI.before hno; have HC := Lib.hid hC; clear hC; clear h0 hd hn hf; go_simp; go_at_call 105; refine (ops_any W).mono ?_; rintro e w9 ⟨rfl, rfl⟩; exact ⟨_, rfl, hR _ _ (hI.step hno (by decide) (bel_alloc (Below.refl _ _) _)) (KeepFrom.of_below (bel_alloc (Below.refl _ _) _)) ⟨_, rfl, Nat.le_trans HBB.out HC.out.1, heap_last _ _⟩⟩); (go_simp; refine hK _ _ ?_; clear hK K))
            (refine walkP_ex (fun K hK => ?_); refine ⟨fun done W hI h0 hd hn hf R hR => ?_, ?_⟩; (have hno : done 16 = false := hn 16 (by decide); have hC := hI.before hno; clear h0 hd hn hf; go_simp; exact hR _ _ (hI.step hno (by decide) (Below.refl _ _)) (KeepFrom.of_below (Below.refl _ _)) rfl); (go_simp; refine hK _ ?_; clear hK K))
            (refine walkP_ex (fun K hK => ?_); refine ⟨fun done W hI h0 hd hn hf R hR => ?_, ?_⟩; (have hno : done 16 = false := hn 16 (by decide); have hC := hI.before hno; have hcell := cells_of (blk_below Hrb.out hC.2); clear hC; clear h0 hd hn hf; go_simp; exact hR _ _ (hI.step hno (by decide) (Below.refl _ _)) (KeepFrom.of_below (Below.refl _ _)) rfl); (go_simp; refine hK _ ?_; clear hK K))
            (refine walkP_pr (fun K hK => ?_); refine ⟨fun done W hI h0 hd hn hf R hR => ?_, fun v9 => ?_⟩; (have hno : done 16 = false := hn 16 (by decide); have hC := hI.before hno; have hv : VRow wi.heap.size 9 opRow 5 v6 W := hf 6 (by decide); obtain ⟨b0, rfl, hb0, hc0⟩ := hv; have Hc0 := Lib.hid hc0; clear hc0 hC; clear h0 hd hn hf; go_simp; exact hR _ _ (hI.step hno (by decide) (Below.refl _ _)) (KeepFrom.of_below (Below.refl _ _)) ⟨b0, rfl, hb0, Hc0.out⟩); (go_simp; refine hK _ _ ?_; clear hK K))
            (refine walkP_ex (fun K hK => ?_); refine ⟨fun done W hI h0 hd hn hf R hR => ?_, ?_⟩; (have hno : done 16 = false := hn 16 (by decide); have hC := hI.before hno; have hv : VAt wi.heap.size 9 opRow cop.toNat v9 W := hf 9 (by decide); obtain ⟨b0, rfl, hb0, hc0⟩ := hv; have hcell := (cells_of hc0 _).trans (op_cell ho0 ho1); clear hc0 hC; clear h0 hd hn hf; go_simp; exact hR _ _ (hI.step hno (by decide) (Below.refl _ _)) (KeepFrom.of_below (Below.refl _ _)) rfl); (go_simp; refine hK _ ?_; clear hK K))
            (refine walkP_ex (fun K hK => ?_); refine ⟨fun done W hI h0 hd hn hf R hR => ?_, ?_⟩; (have hno : done 16 = false := hn 16 (by decide); have hC := hI.before hno; clear h0 hd hn hf; go_simp; exact hR _ _ (hI.step hno (by decide) (Below.refl _ _)) (KeepFrom.of_below (Below.refl _ _)) rfl); (go_simp; refine hK _ ?_; clear hK K))
            (refine walkP_ex (fun K hK => ?_); refine ⟨fun done W hI h0 hd hn hf R hR => ?_, ?_⟩; (have hno : done 16 = false := hn 16 (by decide); have hC := hI.before hno; clear h0 hd hn hf; go_simp; exact hR _ _ (hI.step hno (by decide) (Below.refl _ _)) (KeepFrom.of_below (Below.refl _ _)) rfl); (go_simp; refine hK _ ?_; clear hK K))
            (refine walkP_ex (fun K hK => ?_); refine ⟨fun done W hI h0 hd hn hf R hR => ?_, ?_⟩; (have hno : done 16 = false := hn 16 (by decide); have hC := hI.before hno; have hcell := cells_of (blk_below Hrb.out hC.2); clear hC; clear h0 hd hn hf; go_simp; exact hR _ _ (hI.step hno (by decide) (Below.refl _ _)) (KeepFrom.of_below (Below.refl _ _)) rfl); (go_simp; refine hK _ ?_; clear hK K))
            (refine walkP_ex (fun K hK => ?_); refine ⟨fun done W hI h0 hd hn hf R hR => ?_, ?_⟩; (have hno : done 16 = false := hn 16 (by decide); have hC := hI.before hno; have hLW := HLi.out.below hC.2; have HC := Lib.hid hC; clear hC; clear h0 hd hn hf; go_simp; go_at_call 65; refine (itoa_any cv (by omega) (by omega) _ hLW).mono ?_; rintro e w9 ⟨rfl, hb9⟩; exact ⟨_, rfl, hR _ _ (hI.step hno (by decide) hb9) (KeepFrom.of_below hb9) rfl⟩); (go_simp; refine hK _ ?_; clear hK K))
            (refine walkP_ex (fun K hK => ?_); refine ⟨fun done W hI h0 hd hn hf R hR => ?_, ?_⟩; (have hno : done 16 = false := hn 16 (by decide); have hC := hI.before hno; clear h0 hd hn hf; go_simp; exact hR _ _ (hI.step hno (by decide) (Below.refl _ _)) (KeepFrom.of_below (Below.refl _ _)) rfl); (go_simp; refine hK _ ?_; clear hK K))
            (refine walkP_ex (fun K hK => ?_); refine ⟨fun done W hI h0 hd hn hf R hR => ?_, ?_⟩; (have hno : done 16 = false := h0; have hC := hI.before hno; have HC := Lib.hid hC; clear hC; clear h0 hd hn hf; go_simp; go_at_call 102; refine (bwrite_any w1.heap.size w1.heap.size u (bsL s3) W (Hbd.out.below HC.out.2) (by show _ + (s3).toArray.size ≤ _; simp; omega) (by have := Hbd.out.lt; have := HC.out.1; omega)).mono ?_; rintro e w9 ⟨rfl, h1, h2, h3⟩; exact ⟨_, rfl, hR _ _ (LastI.at_ ⟨h1, (Hbi.out.trans ((Hbb.out.trans (HC.out.2.mono HBB.out)).mono hszb)).trans h2, by have h4 := HC.out.1; have h5 := HBB.out; have h6 := h2.size; omega⟩) (Hbase.out.keep (Hbb.out.trans (HC.out.2.mono HBB.out)) h3 h2.size) rfl⟩); (go_simp; refine hK _ ?_; clear hK K))
            intro done w6 hd hI _
            obtain ⟨hbd6, hb6, hsz6⟩ := hI.after (hd 16 (by decide))
            clear hd hI
            have Hbd6 := Lib.hid hbd6
            have Hb6 := Lib.hid hb6
            clear hbd6 hb6 hb1 hb2 hb3
            go_wp2
            go_roundw
            case rel => first | exact ⟨j + 1, by go_num, by omega, by rw [← HF.out]; exact Hbd6.out, Hb6.out, by omega⟩ | ((repeat apply Exists.intro); exact ⟨⟨j + 1, by go_num, by omega, by rw [← HF.out]; exact Hbd6.out, Hb6.out, by omega⟩, rfl⟩)
            case measure => simp [intOf]; omega
          · obtain rfl : j = r.conds.length := by omega
            have HF : Hid (u ++ (bsL [59]).data.toList = headP (p.rules.take (k + 1))) := by
              show _ = _
              rw [Htk.out, Hu.out, List.take_length, Ht.out, bsL_toList]; unfold ruleW headC; simp
            go_wp2_with (go_at_call 102; refine (bwrite_any w1.heap.size w1.heap.size u (bsL [59]) _ Hbase.out (by show _ + 1 ≤ _; omega) (by omega)).mono ?_; rintro e w9 ⟨rfl, h1, h2, _⟩; have H9 := Lib.hid h1; have Hb9 := Lib.hid (Hbi.out.trans h2); clear h1 h2)
            go_roundw
            case rel => first | exact ⟨k + 1, by go_num, by omega, by rw [← HF.out]; exact H9.out, Hb9.out⟩ | ((repeat apply Exists.intro); exact ⟨⟨k + 1, by go_num, by omega, by rw [← HF.out]; exact H9.out, Hb9.out⟩, rfl⟩)
            case measure => simp [intOf]; omega
      · obtain rfl : k = p.rules.length := by omega
        have hd0 := Hok.out.d0
        have hd1 := Hok.out.d1
        have hd5 : p.dflt < 5 := by omega
        have hvl := verdictW_len p.dflt
        have Hbb := Lib.hid (Below.refl wo.heap.size wo)
        have HBB : Hid (wo.heap.size ≤ wo.heap.size) := Nat.le_refl _
        have Hbd := Lib.hid Hbase.out
        have Hrb : Hid (wo.heap[w.heap.size]? = some (.cells #[.slice a p.rules.length c, .int .i64 p.dflt] 38)) := HBr.out.at_ 0 _ rfl
        go_wp2_with fail
        refine wp_region_lastop 5 wo.heap.size [pr (VRow wo.heap.size 9 verdictRow 5), ex (.pointer (some ⟨w.heap.size, 1, none⟩)), ex (.int .i64 p.dflt), pr (VAt wo.heap.size 9 verdictRow (p.dflt).toNat), ex (.string (bsL (verdictW p.dflt))), ex (.tuple #[.int .i64 ((bsL (verdictW p.dflt)).size : Int), .nilIface])] (fun W => Bd w1.heap.size w1.heap.size (t ++ verdictW p.dflt) W ∧ Below w1.heap.size w1 W) (by kernel_rfl) (by kernel_rfl) ⟨.inr ⟨_, rfl, VRow.stable⟩, .inl ⟨_, rfl⟩, .inl ⟨_, rfl⟩, .inr ⟨_, rfl, VAt.stable⟩, .inl ⟨_, rfl⟩, .inl ⟨_, rfl⟩, trivial⟩ _ rfl ?_
        (refine walkP_pr (fun K hK => ?_); refine ⟨fun done W hI h0 hd hn hf R hR => ?_, fun v0 => ?_⟩; (have hno : done 5 = false := hn 5 (by decide); have hC := hI.before hno; have HC := Lib.hid hC; clear hC; clear h0 hd hn hf; go_simp; go_at_call 103; refine (verdicts_any W).mono ?_; rintro e w9 ⟨rfl, rfl⟩; exact ⟨_, rfl, hR _ _ (hI.step hno (by decide) (bel_alloc (Below.refl _ _) _)) (KeepFrom.of_below (bel_alloc (Below.refl _ _) _)) ⟨_, rfl, Nat.le_trans HBB.out HC.out.1, heap_last _ _⟩⟩); (go_simp; refine hK _ _ ?_; clear hK K))
        (refine walkP_ex (fun K hK => ?_); refine ⟨fun done W hI h0 hd hn hf R hR => ?_, ?_⟩; (have hno : done 5 = false := hn 5 (by decide); have hC := hI.before hno; clear h0 hd hn hf; go_simp; exact hR _ _ (hI.step hno (by decide) (Below.refl _ _)) (KeepFrom.of_below (Below.refl _ _)) rfl); (go_simp; refine hK _ ?_; clear hK K))
        (refine walkP_ex (fun K hK => ?_); refine ⟨fun done W hI h0 hd hn hf R hR => ?_, ?_⟩; (have hno : done 5 = false := hn 5 (by decide); have hC := hI.before hno; have hcell := cells_of (blk_below Hrb.out hC.2); clear hC; clear h0 hd hn hf; go_simp; exact hR _ _ (hI.step hno (by decide) (Below.refl _ _)) (KeepFrom.of_below (Below.refl _ _)) rfl); (go_simp; refine hK _ ?_; clear hK K))
        (refine walkP_pr (fun K hK => ?_); refine ⟨fun done W hI h0 hd hn hf R hR => ?_, fun v3 => ?_⟩; (have hno : done 5 = false := hn 5 (by decide); have hC := hI.before hno; have hv : VRow wo.heap.size 9 verdictRow 5 v0 W := hf 0 (by decide); obtain ⟨b0, rfl, hb0, hc0⟩ := hv; have Hc0 := Lib.hid hc0; clear hc0 hC; clear h0 hd hn hf; go_simp; exact hR _ _ (hI.step hno (by decide) (Below.refl _ _)) (KeepFrom.of_below (Below.refl _ _)) ⟨b0, rfl, hb0, Hc0.out⟩); (go_simp; refine hK _ _ ?_; clear hK K))
        (refine walkP_ex (fun K hK => ?_); refine ⟨fun done W hI h0 hd hn hf R hR => ?_, ?_⟩; (have hno : done 5 = false := hn 5 (by decide); have hC := hI.before hno; have hv : VAt wo.heap.size 9 verdictRow (p.dflt).toNat v3 W := hf 3 (by decide); obtain ⟨b0, rfl, hb0, hc0⟩ := hv; have hcell := (cells_of hc0 _).trans (verdict_cell hd0 hd1); clear hc0 hC; clear h0 hd hn hf; go_simp; exact hR _ _ (hI.step hno (by decide) (Below.refl _ _)) (KeepFrom.of_below (Below.refl _ _)) rfl); (go_simp; refine hK _ ?_; clear hK K))
        (refine walkP_ex (fun K hK => ?_); refine ⟨fun done W hI h0 hd hn hf R hR => ?_, ?_⟩; (have hno : done 5 = false := h0; have hC := hI.before hno; have HC := Lib.hid hC; clear hC; clear h0 hd hn hf; go_simp; go_at_call 102; refine (bwrite_any w1.heap.size w1.heap.size t (bsL (verdictW p.dflt)) W (Hbd.out.below HC.out.2) (by show _ + ((verdictW p.dflt)).toArray.size ≤ _; simp; omega) (by have := Hbd.out.lt; have := HC.out.1; omega)).mono ?_; rintro e w9 ⟨rfl, h1, h2, h3⟩; exact ⟨_, rfl, hR _ _ (LastI.at_ ⟨h1, (Hb.out.trans (HC.out.2.mono hszr)).trans h2⟩) (Hbase.out.keep (Hbb.out.trans (HC.out.2.mono HBB.out)) h3 h2.size) rfl⟩); (go_simp; refine hK _ ?_; clear hK K))
        intro done w4 hd hI _
        obtain ⟨hbd4, hb4⟩ := hI.after (hd 5 (by decide))
        clear hd hI
        have HF : Hid (t ++ verdictW p.dflt = textP p) := by
          show _ = _
          rw [Ht.out, List.take_length]; rfl
        have hne : t ++ verdictW p.dflt ≠ [] := by
          unfold verdictW
          repeat (split; · simp)
          simp
        have Hne := Lib.hid hne
        have Hbd4 := Lib.hid hbd4
        have Hb4 := Lib.hid hb4
        clear hbd4 hb4 hne
        go_wp2_with fail
        refine (bstring_any w1.heap.size w1.heap.size _ _ Hbd4.out Hne.out).mono ?_
        rintro e w5 ⟨rfl, hb5⟩
        have HBf := Lib.hid (HB.out.bel.trans ((Hb4.out.trans hb5).mono HB.out.bel.size))
        clear hb5
        go_wp2
        go_ret2
        exact ⟨by rw [HE.out, ← HF.out]; rfl, HBf.out⟩
  · have HE : Hid (printE p = ([], polE p)) := if_neg h0
    have hne : (polE p != 0) = true := bne_iff_ne.2 h0
    have HBf := Lib.hid HB.out.bel
    generalize polE p = E at *
    clear h0
    go_wp2
    go_ret2
    exact ⟨by rw [HE.out]; rfl, HBf.out⟩
end Go.Proofs.YthkgjohhbdipcaaGreatDoor
namespace Go.Proofs.YthkgjohhbdipcaaGreatDoor
open Go.RowKit

set_option maxRecDepth 100000 in
set_option maxHeartbeats 8000000 in
theorem notecheck_any (v : Value) (r : TRec) (D : Nat → Prop) (w : World) (h : RdRules w D v r.p.rules) :
    Calls Tryz.prog 29 #[recV r v] w fun e w' => e = .returned (.int .i64 (recE r)) ∧ Below w.heap.size w w' := by
  obtain ⟨kd, cl, fr, ⟨rs, d⟩⟩ := r
  dsimp only at h ⊢
  have H := Lib.hid h
  obtain ⟨a, c, rfl, hlc, hcm, hat⟩ := Sl.form h
  clear h
  by_cases k1 : kd < 1
  · have he : recE ⟨kd, cl, fr, ⟨rs, d⟩⟩ = 4 := by unfold recE; dsimp only; rw [if_pos (Or.inl k1)]
    rw [he]; clear he H hat
    go_enter Tryz.func29, Tryz.ntmps29
    go_wp2
    go_ret
    exact ⟨rfl, bel_alloc (Below.refl _ _) _⟩
  · by_cases k2 : 4 < kd
    · have he : recE ⟨kd, cl, fr, ⟨rs, d⟩⟩ = 4 := by unfold recE; dsimp only; rw [if_pos (Or.inr k2)]
      rw [he]; clear he H hat
      go_enter Tryz.func29, Tryz.ntmps29
      go_wp2
      go_ret
      exact ⟨rfl, bel_alloc (Below.refl _ _) _⟩
    · by_cases c1 : cl < 0
      · have he : recE ⟨kd, cl, fr, ⟨rs, d⟩⟩ = 3 := by unfold recE; dsimp only; rw [if_neg (by omega : ¬ (kd < 1 ∨ 4 < kd)), if_pos (by omega)]
        rw [he]; clear he H hat
        go_enter Tryz.func29, Tryz.ntmps29
        go_wp2
        go_ret
        exact ⟨rfl, bel_alloc (Below.refl _ _) _⟩
      · by_cases c2 : 4 ≤ cl
        · have he : recE ⟨kd, cl, fr, ⟨rs, d⟩⟩ = 3 := by unfold recE; dsimp only; rw [if_neg (by omega : ¬ (kd < 1 ∨ 4 < kd)), if_pos (by omega)]
          rw [he]; clear he H hat
          go_enter Tryz.func29, Tryz.ntmps29
          go_wp2
          go_ret
          exact ⟨rfl, bel_alloc (Below.refl _ _) _⟩
        · by_cases c3 : fr < 0
          · have he : recE ⟨kd, cl, fr, ⟨rs, d⟩⟩ = 3 := by unfold recE; dsimp only; rw [if_neg (by omega : ¬ (kd < 1 ∨ 4 < kd)), if_pos (by omega)]
            rw [he]; clear he H hat
            go_enter Tryz.func29, Tryz.ntmps29
            go_wp2
            go_ret
            exact ⟨rfl, bel_alloc (Below.refl _ _) _⟩
          · by_cases c4 : 4 ≤ fr
            · have he : recE ⟨kd, cl, fr, ⟨rs, d⟩⟩ = 3 := by unfold recE; dsimp only; rw [if_neg (by omega : ¬ (kd < 1 ∨ 4 < kd)), if_pos (by omega)]
              rw [he]; clear he H hat
              go_enter Tryz.func29, Tryz.ntmps29
              go_wp2
              go_ret
              exact ⟨rfl, bel_alloc (Below.refl _ _) _⟩
            · by_cases k4 : kd = 3
              · subst k4
                have k3 : (2 : Int) < 3 := by decide
                by_cases d0 : d = 0
                · subst d0
                  rcases Nat.eq_zero_or_pos rs.length with r0 | r0
                  · obtain rfl : rs = [] := List.length_eq_zero_iff.1 r0
                    have e1 : ([] : List TRule).length = 0 := rfl
                    have he : recE ⟨(3 : Int), cl, fr, ⟨[], 0⟩⟩ = 0 := by unfold recE; dsimp only; rw [if_neg (by omega : ¬ ((3 : Int) < 1 ∨ 4 < (3 : Int))), if_neg (by omega : ¬ (cl < 0 ∨ 4 ≤ cl ∨ fr < 0 ∨ 4 ≤ fr)), if_neg (by simp [noPol]; try omega), if_pos k3]
                    rw [he]; clear he H hat
                    go_enter Tryz.func29, Tryz.ntmps29
                    go_wp2
                    go_ret
                    exact ⟨rfl, bel_alloc (Below.refl _ _) _⟩
                  · have z0 : rs ≠ [] := fun e => by rw [e] at r0; simp at r0
                    have z1 : 0 < (rs.length : Int) := by omega
                    clear r0
                    have he : recE ⟨(3 : Int), cl, fr, ⟨rs, 0⟩⟩ = 4 := by unfold recE; dsimp only; rw [if_neg (by omega : ¬ ((3 : Int) < 1 ∨ 4 < (3 : Int))), if_neg (by omega : ¬ (cl < 0 ∨ 4 ≤ cl ∨ fr < 0 ∨ 4 ≤ fr)), if_pos (Or.inr ⟨k3, fun h => z0 h.2⟩)]
                    rw [he]; clear he H hat
                    go_enter Tryz.func29, Tryz.ntmps29
                    go_wp2
                    go_ret
                    exact ⟨rfl, bel_alloc (Below.refl _ _) _⟩
                · have z1 : (d != 0) = true := bne_iff_ne.2 d0
                  have he : recE ⟨(3 : Int), cl, fr, ⟨rs, d⟩⟩ = 4 := by unfold recE; dsimp only; rw [if_neg (by omega : ¬ ((3 : Int) < 1 ∨ 4 < (3 : Int))), if_neg (by omega : ¬ (cl < 0 ∨ 4 ≤ cl ∨ fr < 0 ∨ 4 ≤ fr)), if_pos (Or.inr ⟨k3, fun h => d0 h.1⟩)]
                  rw [he]; clear he H hat
                  go_enter Tryz.func29, Tryz.ntmps29
                  go_wp2
                  go_ret
                  exact ⟨rfl, bel_alloc (Below.refl _ _) _⟩
              · have k4' : (kd != 3) = true := bne_iff_ne.2 k4
                by_cases f0 : fr = 0
                · subst f0
                  by_cases k3 : 2 < kd
                  · by_cases d0 : d = 0
                    · subst d0
                      rcases Nat.eq_zero_or_pos rs.length with r0 | r0
                      · obtain rfl : rs = [] := List.length_eq_zero_iff.1 r0
                        have e1 : ([] : List TRule).length = 0 := rfl
                        have he : recE ⟨kd, cl, (0 : Int), ⟨[], 0⟩⟩ = 0 := by unfold recE; dsimp only; rw [if_neg (by omega : ¬ (kd < 1 ∨ 4 < kd)), if_neg (by omega : ¬ (cl < 0 ∨ 4 ≤ cl ∨ (0 : Int) < 0 ∨ 4 ≤ (0 : Int))), if_neg (by simp [noPol]; try omega), if_pos k3]
                        rw [he]; clear he H hat
                        go_enter Tryz.func29, Tryz.ntmps29
                        go_wp2
                        go_ret
                        exact ⟨rfl, bel_alloc (Below.refl _ _) _⟩
                      · have z0 : rs ≠ [] := fun e => by rw [e] at r0; simp at r0
                        have z1 : 0 < (rs.length : Int) := by omega
                        clear r0
                        have he : recE ⟨kd, cl, (0 : Int), ⟨rs, 0⟩⟩ = 4 := by unfold recE; dsimp only; rw [if_neg (by omega : ¬ (kd < 1 ∨ 4 < kd)), if_neg (by omega : ¬ (cl < 0 ∨ 4 ≤ cl ∨ (0 : Int) < 0 ∨ 4 ≤ (0 : Int))), if_pos (Or.inr ⟨k3, fun h => z0 h.2⟩)]
                        rw [he]; clear he H hat
                        go_enter Tryz.func29, Tryz.ntmps29
                        go_wp2
                        go_ret
                        exact ⟨rfl, bel_alloc (Below.refl _ _) _⟩
                    · have z1 : (d != 0) = true := bne_iff_ne.2 d0
                      have he : recE ⟨kd, cl, (0 : Int), ⟨rs, d⟩⟩ = 4 := by unfold recE; dsimp only; rw [if_neg (by omega : ¬ (kd < 1 ∨ 4 < kd)), if_neg (by omega : ¬ (cl < 0 ∨ 4 ≤ cl ∨ (0 : Int) < 0 ∨ 4 ≤ (0 : Int))), if_pos (Or.inr ⟨k3, fun h => d0 h.1⟩)]
                      rw [he]; clear he H hat
                      go_enter Tryz.func29, Tryz.ntmps29
                      go_wp2
                      go_ret
                      exact ⟨rfl, bel_alloc (Below.refl _ _) _⟩
                  · have he : recE ⟨kd, cl, (0 : Int), ⟨rs, d⟩⟩ = polE ⟨rs, d⟩ := by unfold recE; dsimp only; rw [if_neg (by omega : ¬ (kd < 1 ∨ 4 < kd)), if_neg (by omega : ¬ (cl < 0 ∨ 4 ≤ cl ∨ (0 : Int) < 0 ∨ 4 ≤ (0 : Int))), if_neg (by omega), if_neg k3]
                    have He := Lib.hid he
                    clear he hat
                    have HB := Lib.hid (Bx.one (w := w) (o := .cells #[.int .i64 kd, .int .i64 cl, .int .i64 (0 : Int), .slice a rs.length c, .int .i64 d] 56))
                    go_enter Tryz.func29, Tryz.ntmps29
                    go_wp2_with fail
                    refine (polcheck_any _ ⟨rs, d⟩ D _ (H.out.below HB.out.bel)).mono ?_
                    rintro e w1 ⟨rfl, hb1⟩
                    have HB1 := Lib.hid (HB.out.below hb1)
                    clear hb1
                    go_wp2
                    go_ret
                    exact ⟨ret_int He.out.symm, HB1.out.bel⟩
                · have f0' : (fr != 0) = true := bne_iff_ne.2 f0
                  have he : recE ⟨kd, cl, fr, ⟨rs, d⟩⟩ = 4 := by unfold recE; dsimp only; rw [if_neg (by omega : ¬ (kd < 1 ∨ 4 < kd)), if_neg (by omega : ¬ (cl < 0 ∨ 4 ≤ cl ∨ fr < 0 ∨ 4 ≤ fr)), if_pos (Or.inl ⟨k4, f0⟩)]
                  rw [he]; clear he H hat
                  go_enter Tryz.func29, Tryz.ntmps29
                  go_wp2
                  go_ret
                  exact ⟨rfl, bel_alloc (Below.refl _ _) _⟩
end Go.Proofs.YthkgjohhbdipcaaGreatDoor
namespace Go.Proofs.YthkgjohhbdipcaaGreatDoor

def kindW (k : Int) : List UInt8 := if k = 1 then [111, 112, 101, 110] else if k = 2 then [116, 105, 103, 104, 116] else if k = 3 then [102, 111, 114, 107] else [115, 104, 117, 116]
def kindOf (l : List UInt8) : Int := if l = [111, 112, 101, 110] then 1 else if l = [116, 105, 103, 104, 116] then 2 else if l = [102, 111, 114, 107] then 3 else if l = [115, 104, 117, 116] then 4 else 0
def zeroRec : TRec := ⟨0, 0, 0, zeroPol⟩
def tailW (r : TRec) : List UInt8 := if r.kind = 3 then 32 :: Lib.itoa r.from_ else if r.kind = 4 then [] else 32 :: textP r.p
/-- chapter 10's Print, of a right record. -/
def recW (r : TRec) : List UInt8 := kindW r.kind ++ 32 :: (Lib.itoa r.cell ++ tailW r)
def checkedRec (r : TRec) : TRec × Int := if recE r = 0 then (r, 0) else (zeroRec, recE r)
/-- what is read of a kind, a cell's word, and what is behind it. -/
def readGo (k : Int) (u : List UInt8 × List UInt8 × Bool) : TRec × Int :=
  if k = 0 ∨ (wholeS u.1).2 = false ∨ u.2.2 ≠ decide (k ≠ 4) then (zeroRec, 1)
  else if k = 3 then (if (wholeS u.2.1).2 then checkedRec ⟨3, (wholeS u.1).1, (wholeS u.2.1).1, zeroPol⟩ else (zeroRec, 1))
  else if k = 4 then checkedRec ⟨4, (wholeS u.1).1, 0, zeroPol⟩
  else if (readP u.2.1).2 ≠ 0 then (zeroRec, (readP u.2.1).2) else checkedRec ⟨k, (wholeS u.1).1, 0, (readP u.2.1).1⟩
/-- chapter 10's Parse. -/
def readRec (s : List UInt8) : TRec × Int := readGo (kindOf (Lib.cut s [32]).1) (Lib.cut (Lib.cut s [32]).2.1 [32])
theorem cut_cases (s : List UInt8) (c : UInt8) : (c ∉ s ∧ Lib.cut s [c] = (s, [], false)) ∨ ∃ a r, s = a ++ c :: r ∧ c ∉ a ∧ Lib.cut s [c] = (a, r, true) := by
  by_cases h : c ∈ s
  · obtain ⟨a, r, rfl, ha⟩ := List.eq_append_cons_of_mem h
    exact .inr ⟨a, r, rfl, ha, cut_app ha⟩
  · exact .inl ⟨h, cut_none h⟩
theorem kindW_plain (k : Int) : ∀ b ∈ kindW k, plainB b = true := by
  intro b hb
  unfold kindW at hb
  split at hb
  · simp at hb; rcases hb with rfl | rfl | rfl | rfl <;> decide
  · split at hb
    · simp at hb; rcases hb with rfl | rfl | rfl | rfl | rfl <;> decide
    · split at hb
      · simp at hb; rcases hb with rfl | rfl | rfl | rfl <;> decide
      · simp at hb; rcases hb with rfl | rfl | rfl | rfl <;> decide
theorem kindOf_W {k : Int} (h0 : 1 ≤ k) (h1 : k ≤ 4) : kindOf (kindW k) = k := by
  have : k = 1 ∨ k = 2 ∨ k = 3 ∨ k = 4 := by omega
  rcases this with rfl | rfl | rfl | rfl <;> decide
theorem kindW_of {l : List UInt8} (h : kindOf l ≠ 0) : kindW (kindOf l) = l ∧ 1 ≤ kindOf l ∧ kindOf l ≤ 4 := by
  unfold kindOf at h ⊢
  split
  · rename_i e; subst e; exact ⟨by decide, by decide, by decide⟩
  · split
    · rename_i e; subst e; exact ⟨by decide, by decide, by decide⟩
    · split
      · rename_i e; subst e; exact ⟨by decide, by decide, by decide⟩
      · split
        · rename_i e; subst e; exact ⟨by decide, by decide, by decide⟩
        · rename_i h1 h2 h3 h4
          rw [if_neg h1, if_neg h2, if_neg h3, if_neg h4] at h
          exact absurd rfl h
theorem itoa_no {v : Int} (h0 : 0 ≤ v) {b : UInt8} (hb : b.toNat < 48 ∨ 57 < b.toNat) : b ∉ Lib.itoa v := by
  intro hm
  have := (itoa_digits h0).1 b hm; omega
theorem noPol_zero {p : TPol} (h : noPol p) : p = zeroPol := by
  obtain ⟨l, d⟩ := p
  obtain ⟨h1, h2⟩ := h
  dsimp only at h1 h2
  subst h1 h2; rfl
theorem zero_noPol : noPol zeroPol := ⟨rfl, rfl⟩
theorem cut_rec {r : TRec} (h : recE r = 0) : Lib.cut (recW r) [32] = (kindW r.kind, Lib.itoa r.cell ++ tailW r, true) ∧ Lib.cut (Lib.itoa r.cell ++ tailW r) [32] = (Lib.itoa r.cell, (tailW r).drop 1, decide (r.kind ≠ 4)) := by
  obtain ⟨k0, k1, c0, c1, f0, f1, e1, e2, e3⟩ := recE_ok h
  refine ⟨cut_app (plain_ne (kindW_plain _) (by decide)), ?_⟩
  have hn : (32 : UInt8) ∉ Lib.itoa r.cell := itoa_no c0 (by decide)
  by_cases h4 : r.kind = 4
  · unfold tailW
    rw [if_neg (by omega), if_pos h4, List.append_nil, cut_none hn]
    simp [h4]
  · have hd : decide (r.kind ≠ 4) = true := by simpa using h4
    rw [hd]
    by_cases h3 : r.kind = 3
    · unfold tailW
      rw [if_pos h3, cut_app hn]; rfl
    · unfold tailW
      rw [if_neg h3, if_neg h4, cut_app hn]; rfl
/-- what is printed is read. -/
theorem recW_read {r : TRec} (h : recE r = 0) : readRec (recW r) = (r, 0) := by
  obtain ⟨h1, h2⟩ := cut_rec h
  obtain ⟨k0, k1, c0, c1, f0, f1, e1, e2, e3⟩ := recE_ok h
  unfold readRec
  rw [h1]
  dsimp only
  rw [h2, kindOf_W k0 k1]
  unfold readGo
  dsimp only
  have hw := whole_itoa c0 (show r.cell ≤ 65535 by omega)
  rw [hw]
  rw [if_neg (by simp; omega)]
  have hk : ∀ r', r' = r → checkedRec r' = (r, 0) := by rintro r' rfl; unfold checkedRec; rw [if_pos h]
  by_cases h3 : r.kind = 3
  · have ht : (tailW r).drop 1 = Lib.itoa r.from_ := by unfold tailW; rw [if_pos h3]; rfl
    rw [if_pos h3, ht, whole_itoa f0 (by omega)]
    dsimp only
    rw [if_pos rfl]
    refine hk _ ?_
    obtain ⟨a, b, c, d⟩ := r
    dsimp only at *
    rw [noPol_zero (e2 (by omega)), h3]
  · by_cases h4 : r.kind = 4
    · rw [if_neg h3, if_pos h4]
      refine hk _ ?_
      obtain ⟨a, b, c, d⟩ := r
      dsimp only at *
      rw [noPol_zero (e2 (by omega)), h4, e1 h3]
    · have ht : (tailW r).drop 1 = textP r.p := by unfold tailW; rw [if_neg h3, if_neg h4]; rfl
      rw [if_neg h3, if_neg h4, ht, print_read (e3 (by omega))]
      dsimp only
      rw [if_neg (by simp)]
      refine hk _ ?_
      obtain ⟨a, b, c, d⟩ := r
      dsimp only at *
      rw [e1 h3]
theorem checkedRec_ok {r r' : TRec} (h : checkedRec r' = (r, 0)) : r' = r ∧ recE r = 0 := by
  unfold checkedRec at h
  split at h
  · rename_i h0
    simp only [Prod.mk.injEq, and_true] at h
    subst h; exact ⟨rfl, h0⟩
  · rename_i h0
    simp only [Prod.mk.injEq] at h
    exact absurd h.2 h0
/-- what is read is printed as it was. -/
theorem read_recW {s : List UInt8} {r : TRec} (h : readRec s = (r, 0)) : recE r = 0 ∧ recW r = s := by
  unfold readRec readGo at h
  split at h
  · simp at h
  · rename_i hbad
    have hk : kindOf (Lib.cut s [32]).1 ≠ 0 := fun e => hbad (.inl e)
    have hw : (wholeS (Lib.cut (Lib.cut s [32]).2.1 [32]).1).2 = true := by
      cases hx : (wholeS (Lib.cut (Lib.cut s [32]).2.1 [32]).1).2 with
      | true => rfl
      | false => exact absurd (.inr (.inl hx)) hbad
    have hm : (Lib.cut (Lib.cut s [32]).2.1 [32]).2.2 = decide (kindOf (Lib.cut s [32]).1 ≠ 4) := by
      by_cases hx : (Lib.cut (Lib.cut s [32]).2.1 [32]).2.2 = decide (kindOf (Lib.cut s [32]).1 ≠ 4)
      · exact hx
      · exact absurd (.inr (.inr hx)) hbad
    clear hbad
    obtain ⟨hkw, hk1, hk2⟩ := kindW_of hk
    rcases cut_cases s 32 with ⟨_, hc⟩ | ⟨a, t, rfl, ha, hc⟩
    · rw [hc] at hw
      have : (wholeS (Lib.cut ([] : List UInt8) [32]).1).2 = false := by decide
      rw [this] at hw; cases hw
    rw [hc] at h hk hw hm hkw hk1 hk2
    dsimp only at h hk hw hm hkw hk1 hk2
    generalize hK : kindOf a = k at h hk hm hkw hk1 hk2
    rcases cut_cases t 32 with ⟨_, hc2⟩ | ⟨b, t2, rfl, hb, hc2⟩
    · rw [hc2] at h hw hm
      dsimp only at h hw hm
      have h4 : k = 4 := by
        have := of_decide_eq_false hm.symm
        omega
      rw [if_neg (by omega), if_pos h4] at h
      obtain ⟨h1, h2⟩ := checkedRec_ok h
      refine ⟨h2, ?_⟩
      rw [← h1]
      unfold recW tailW
      dsimp only
      rw [if_neg (by omega), if_pos rfl, List.append_nil, ← whole_some hw, ← h4, hkw]
    · rw [hc2] at h hw hm
      dsimp only at h hw hm
      have h4 : k ≠ 4 := of_decide_eq_true hm.symm
      by_cases h3 : k = 3
      · rw [if_pos h3] at h
        split at h
        · rename_i hw2
          obtain ⟨h1, h2⟩ := checkedRec_ok h
          refine ⟨h2, ?_⟩
          rw [← h1]
          unfold recW tailW
          dsimp only
          rw [if_pos rfl, ← whole_some hw, ← whole_some hw2, ← h3, hkw]
        · simp at h
      · rw [if_neg h3, if_neg h4] at h
        split at h
        · rename_i he
          simp only [Prod.mk.injEq] at h
          exact absurd h.2 he
        · rename_i he
          obtain ⟨h1, h2⟩ := checkedRec_ok h
          refine ⟨h2, ?_⟩
          have hp : readP t2 = ((readP t2).1, 0) := by
            have : (readP t2).2 = 0 := by simpa using he
            rw [← this]
          rw [← h1]
          unfold recW tailW
          dsimp only
          rw [if_neg h3, if_neg h4, ← whole_some hw, (read_print hp).2, hkw]
/-- unlike records have unlike texts. -/
theorem recW_inj {r q : TRec} (h : recE r = 0) (h' : recE q = 0) : recW r = recW q ↔ r = q := by
  constructor
  · intro e
    have h1 := recW_read h
    rw [e, recW_read h'] at h1
    simp only [Prod.mk.injEq, and_true] at h1
    exact h1.symm
  · rintro rfl; rfl

/-! ### lines -/
theorem text_no10 {p : TPol} (h : OkPol p) : (10 : UInt8) ∉ textP p := by
  unfold textP
  intro hm
  rcases List.mem_append.1 hm with hm | hm
  · obtain ⟨r, hr, hm⟩ := List.mem_flatMap.1 hm
    have ok := h.rules r hr
    rcases List.mem_append.1 hm with hm | hm
    · unfold ruleW at hm
      rcases List.mem_append.1 hm with hm | hm
      · exact plain_ne (verdictW_plain _) (by decide) hm
      · obtain ⟨c, hc, hm⟩ := List.mem_flatMap.1 hm
        rcases List.mem_cons.1 hm with hm | hm
        · exact absurd hm (by decide)
        · exact condW_no (ok.conds c hc).v0 (by decide) (by decide) (by decide) (by decide) (by decide) (by decide) hm
    · exact absurd hm (by decide)
  · exact plain_ne (verdictW_plain _) (by decide) hm
theorem rec_no10 {r : TRec} (h : recE r = 0) : (10 : UInt8) ∉ recW r := by
  obtain ⟨k0, k1, c0, c1, f0, f1, e1, e2, e3⟩ := recE_ok h
  intro hm
  unfold recW at hm
  rcases List.mem_append.1 hm with hm | hm
  · exact plain_ne (kindW_plain _) (by decide) hm
  · rcases List.mem_cons.1 hm with hm | hm
    · exact absurd hm (by decide)
    · rcases List.mem_append.1 hm with hm | hm
      · exact itoa_no c0 (by decide) hm
      · unfold tailW at hm
        split at hm
        · rcases List.mem_cons.1 hm with hm | hm
          · exact absurd hm (by decide)
          · exact itoa_no f0 (by decide) hm
        · split at hm
          · cases hm
          · rcases List.mem_cons.1 hm with hm | hm
            · exact absurd hm (by decide)
            · exact text_no10 (e3 (by omega)) hm
def lineW (r : TRec) : List UInt8 := recW r ++ [10]
def logW (l : List TRec) : List UInt8 := l.flatMap lineW
/-- records as far as they are whole lines: these, how many bytes these have, what is wrong with the next one. -/
def linesF : Nat → List UInt8 → Nat → List TRec × Nat × Int
  | 0, _, _ => ([], 0, 0)
  | n + 1, s, most => if s = [] then ([], 0, 0) else if (Lib.cut s [10]).2.2 = false then ([], 0, 8) else
      if (readRec (Lib.cut s [10]).1).2 ≠ 0 then ([], 0, (readRec (Lib.cut s [10]).1).2) else if most = 0 then ([], 0, 2) else
        ((readRec (Lib.cut s [10]).1).1 :: (linesF n (Lib.cut s [10]).2.1 (most - 1)).1, (Lib.cut s [10]).1.length + 1 + (linesF n (Lib.cut s [10]).2.1 (most - 1)).2.1, (linesF n (Lib.cut s [10]).2.1 (most - 1)).2.2)
def linesOf (s : List UInt8) (most : Nat) : List TRec × Nat × Int := linesF s.length s most
theorem linesF_fuel : ∀ (n m : Nat) (s : List UInt8) (most : Nat), s.length ≤ n → s.length ≤ m → linesF n s most = linesF m s most
  | 0, 0, _, _, _, _ => rfl
  | 0, m + 1, s, most, h, _ => by
    obtain rfl : s = [] := List.length_eq_zero_iff.1 (by omega)
    simp [linesF]
  | n + 1, 0, s, most, _, h => by
    obtain rfl : s = [] := List.length_eq_zero_iff.1 (by omega)
    simp [linesF]
  | n + 1, m + 1, s, most, h1, h2 => by
    unfold linesF
    rcases cut_cases s 10 with ⟨_, hc⟩ | ⟨a, t, rfl, ha, hc⟩
    · rw [hc]; simp
    · rw [hc]
      dsimp only
      simp only [List.length_append, List.length_cons] at h1 h2
      rw [linesF_fuel n m t (most - 1) (by omega) (by omega)]
theorem lines_nil (most : Nat) : linesOf [] most = ([], 0, 0) := rfl
theorem lines_torn {s : List UInt8} (h : (10 : UInt8) ∉ s) (h0 : s ≠ []) (most : Nat) : linesOf s most = ([], 0, 8) := by
  unfold linesOf
  cases s with
  | nil => exact absurd rfl h0
  | cons b s =>
    show linesF (s.length + 1) _ _ = _
    unfold linesF
    rw [cut_none h]; simp
theorem lines_cons {a t : List UInt8} (ha : (10 : UInt8) ∉ a) (most : Nat) : linesOf (a ++ 10 :: t) most = if (readRec a).2 ≠ 0 then ([], 0, (readRec a).2) else if most = 0 then ([], 0, 2) else
    ((readRec a).1 :: (linesOf t (most - 1)).1, a.length + 1 + (linesOf t (most - 1)).2.1, (linesOf t (most - 1)).2.2) := by
  have hl : (a ++ 10 :: t).length = (a.length + t.length) + 1 := by simp; omega
  unfold linesOf
  rw [hl]
  conv => lhs; unfold linesF
  rw [cut_app ha]
  dsimp only
  rw [if_neg (by simp), if_neg (by simp), linesF_fuel (a.length + t.length) t.length t (most - 1) (by omega) (Nat.le_refl _)]
/-- of lines of right records, and what no line is, all records are read. -/
theorem lines_log : ∀ (l : List TRec) (t : List UInt8) (most : Nat), (∀ r ∈ l, recE r = 0) → l.length ≤ most → linesOf (logW l ++ t) most = (l ++ (linesOf t (most - l.length)).1, (logW l).length + (linesOf t (most - l.length)).2.1, (linesOf t (most - l.length)).2.2)
  | [], t, most, _, _ => by simp [logW]
  | r :: l, t, most, h, hm => by
    have h0 := h r (List.mem_cons_self ..)
    have e : logW (r :: l) ++ t = recW r ++ 10 :: (logW l ++ t) := by simp [logW, lineW]
    simp only [List.length_cons] at hm
    rw [e, lines_cons (rec_no10 h0), recW_read h0, if_neg (by simp), if_neg (by omega), lines_log l t (most - 1) (fun x hx => h x (List.mem_cons_of_mem _ hx)) (by omega)]
    have e2 : most - 1 - l.length = most - (l.length + 1) := by omega
    simp only [List.length_cons, e2]
    refine Prod.ext rfl (Prod.ext ?_ rfl)
    simp [logW, lineW]; omega
/-- what is read are right records, and they were written so. -/
theorem lines_back : ∀ (n : Nat) (s : List UInt8) (most : Nat), s.length ≤ n → (∀ r ∈ (linesOf s most).1, recE r = 0) ∧ (linesOf s most).1.length ≤ most ∧ ∃ t, s = logW (linesOf s most).1 ++ t ∧ (linesOf s most).2.1 = (logW (linesOf s most).1).length ∧ ((linesOf s most).2.2 = 0 → t = [])
  | n, s, most, hn => by
    rcases cut_cases s 10 with ⟨hs, _⟩ | ⟨a, t, rfl, ha, hc⟩
    · by_cases h0 : s = []
      · subst h0; rw [lines_nil]; simp [logW]
      · rw [lines_torn hs h0]; simp [logW]
    · cases n with
      | zero => simp at hn
      | succ n =>
      simp only [List.length_append, List.length_cons] at hn
      obtain ⟨i1, i2, t2, i3, i4, i5⟩ := lines_back n t (most - 1) (by omega)
      rw [lines_cons ha]
      split
      · rename_i he
        refine ⟨by simp, by simp, _, by simp [logW]; rfl, by simp [logW], fun h => absurd h he⟩
      · rename_i he
        split
        · refine ⟨by simp, by simp, _, by simp [logW]; rfl, by simp [logW], fun h => by simp at h⟩
        · rename_i hm
          have hr : readRec a = ((readRec a).1, 0) := by
            have : (readRec a).2 = 0 := by simpa using he
            rw [← this]
          obtain ⟨r1, r2⟩ := read_recW hr
          refine ⟨fun r hr' => ?_, by simp; omega, t2, ?_, ?_, i5⟩
          · rcases List.mem_cons.1 hr' with rfl | hr'
            · exact r1
            · exact i1 r hr'
          · have e : logW ((readRec a).1 :: (linesOf t (most - 1)).1) ++ t2 = a ++ 10 :: (logW (linesOf t (most - 1)).1 ++ t2) := by simp [logW, lineW, r2]
            dsimp only
            rw [e, ← i3]
          · dsimp only
            rw [i4]
            simp [logW, lineW, r2]; omega
theorem linesOf_spec (s : List UInt8) (most : Nat) : (∀ r ∈ (linesOf s most).1, recE r = 0) ∧ (linesOf s most).1.length ≤ most ∧ ∃ t, s = logW (linesOf s most).1 ++ t ∧ (linesOf s most).2.1 = (logW (linesOf s most).1).length ∧ ((linesOf s most).2.2 = 0 → t = []) := lines_back _ s most (Nat.le_refl _)
/-- of a beginning of lines a beginning of the records is read. -/
theorem lines_take : ∀ (l : List TRec) (n most : Nat), (∀ r ∈ l, recE r = 0) → l.length ≤ most → ∃ k, k ≤ l.length ∧ (linesOf ((logW l).take n) most).1 = l.take k ∧ (linesOf ((logW l).take n) most).2.1 = (logW (l.take k)).length
  | [], n, most, _, _ => ⟨0, by simp, by simp [logW, lines_nil], by simp [logW, lines_nil]⟩
  | r :: l, n, most, h, hm => by
    have h0 := h r (List.mem_cons_self ..)
    simp only [List.length_cons] at hm
    have e : logW (r :: l) = recW r ++ 10 :: logW l := by simp [logW, lineW]
    rw [e]
    by_cases hn : n ≤ (recW r).length
    · have ht : (recW r ++ 10 :: logW l).take n = (recW r).take n := List.take_append_of_le_length hn
      have hno : (10 : UInt8) ∉ (recW r).take n := fun hx => rec_no10 h0 (List.mem_of_mem_take hx)
      rw [ht]
      by_cases he : (recW r).take n = []
      · rw [he]; exact ⟨0, by simp, by simp [lines_nil], by simp [logW, lines_nil]⟩
      · rw [lines_torn hno he]; exact ⟨0, by simp, by simp, by simp [logW]⟩
    · obtain ⟨m, rfl⟩ : ∃ m, n = (recW r).length + (m + 1) := ⟨n - (recW r).length - 1, by omega⟩
      have ht : (recW r ++ 10 :: logW l).take ((recW r).length + (m + 1)) = recW r ++ 10 :: (logW l).take m := by
        rw [List.take_length_add_append, List.take_succ_cons]
      rw [ht, lines_cons (rec_no10 h0), recW_read h0, if_neg (by simp), if_neg (by omega)]
      obtain ⟨k, hk, i1, i2⟩ := lines_take l m (most - 1) (fun x hx => h x (List.mem_cons_of_mem _ hx)) (by omega)
      refine ⟨k + 1, by simp; omega, by simp [i1], ?_⟩
      dsimp only
      rw [i2, List.take_succ_cons]
      simp [logW, lineW]; omega

/-! ### disks -/
structure TDisk where
  safe : List UInt8
  wait : List UInt8
deriving DecidableEq
def zeroDisk : TDisk := ⟨[], []⟩
/-- chapter 11's Check. -/
def diskE (d : TDisk) : Int := if 60000 < d.safe.length + d.wait.length then 2 else (linesOf d.safe 40).2.2
/-- chapter 11's Put. -/
def putE (d : TDisk) (r : TRec) : TDisk × Int := if diskE d ≠ 0 then (zeroDisk, diskE d) else if recE r ≠ 0 then (zeroDisk, recE r) else
  if 60000 < d.safe.length + d.wait.length + (recW r).length + 1 then (zeroDisk, 2) else (⟨d.safe, d.wait ++ lineW r⟩, 0)
/-- chapter 11's Sync. -/
def syncE (d : TDisk) : TDisk × Int := if diskE d ≠ 0 then (zeroDisk, diskE d) else if diskE ⟨d.safe ++ d.wait, []⟩ ≠ 0 then (zeroDisk, diskE ⟨d.safe ++ d.wait, []⟩) else (⟨d.safe ++ d.wait, []⟩, 0)
/-- chapter 11's Crash. -/
def crashE (d : TDisk) (n : Int) : TDisk × Int := if diskE d ≠ 0 then (zeroDisk, diskE d) else if n < 0 ∨ (d.wait.length : Int) < n then (zeroDisk, 3) else (⟨d.safe, d.wait.take n.toNat⟩, 0)
def restOf (d : TDisk) : List TRec × Nat × Int := linesOf d.wait (40 - (linesOf d.safe 40).1.length)
/-- chapter 11's Recover. -/
def recoverE (d : TDisk) : TDisk × List TRec × Int := if diskE d ≠ 0 then (zeroDisk, [], diskE d) else (⟨d.safe ++ d.wait.take (restOf d).2.1, []⟩, (linesOf d.safe 40).1 ++ (restOf d).1, 0)
theorem diskE_ok {d : TDisk} (h : diskE d = 0) : d.safe.length + d.wait.length ≤ 60000 ∧ (∀ r ∈ (linesOf d.safe 40).1, recE r = 0) ∧ (linesOf d.safe 40).1.length ≤ 40 ∧ d.safe = logW (linesOf d.safe 40).1 := by
  unfold diskE at h
  split at h
  · simp at h
  · rename_i h0
    obtain ⟨i1, i2, t, i3, _, i5⟩ := linesOf_spec d.safe 40
    rw [i5 h, List.append_nil] at i3
    exact ⟨by omega, i1, i2, i3⟩
theorem diskE_log {l : List TRec} {w : List UInt8} (hl : ∀ r ∈ l, recE r = 0) (h40 : l.length ≤ 40) (hn : (logW l).length + w.length ≤ 60000) : diskE ⟨logW l, w⟩ = 0 ∧ linesOf (logW l) 40 = (l, (logW l).length, 0) := by
  have := lines_log l [] 40 hl h40
  rw [List.append_nil, lines_nil] at this
  simp only [List.append_nil, Nat.add_zero] at this
  refine ⟨?_, this⟩
  unfold diskE
  dsimp only
  rw [if_neg (by omega), this]
theorem logW_append (l m : List TRec) : logW (l ++ m) = logW l ++ logW m := by unfold logW; rw [List.flatMap_append]
end Go.Proofs.YthkgjohhbdipcaaGreatDoor
namespace Go.Proofs.YthkgjohhbdipcaaGreatDoor
open Go.RowKit

section
variable {P : Program} {ops : Array Oper} {B : Nat} {w0 : World} {Q : Act → World → Prop} {o : Oper} {l : List Oper} {ss : List Spec} {a : Act} {fs : List (World → Prop)} {F : World → Prop}
def obB (P : Program) (ops : Array Oper) (B : Nat) (w0 : World) (s : Spec) (o : Oper) (a : Act) (fs : List (World → Prop)) : Prop :=
  ∀ (W : World), Cls B w0 W → depFacts (prune o) fs W → ∀ R : Value → World → Prop, (∀ (v : Value) (W' : World), Below W.heap.size W W' → s.holds v W' → R v W') → if Region.wanted o (yielded ops a.tmps) then gives P o a W R else R undef W
def walkB (P : Program) (ops : Array Oper) (B : Nat) (w0 : World) (Q : Act → World → Prop) : List Oper → List Spec → Act → List (World → Prop) → (World → Prop) → Prop
  | [], _, a, _, F => ∀ (W : World), Cls B w0 W → F W → Q a W
  | _ :: _, [], _, _, _ => False
  | o :: l, s :: ss, a, fs, F => obB P ops B w0 s o a fs ∧
      match s.exact? with
      | some x => walkB P ops B w0 Q l ss (a.put o.dst x) (fs ++ [fun _ : World => True]) F
      | none => ∀ v : Value, walkB P ops B w0 Q l ss (a.put o.dst v) (fs ++ [s.pred v]) (fun w : World => F w ∧ s.pred v w)
theorem walkB_ex {x : Value} (h : ∀ K : Act → Prop, (∀ a', walkB P ops B w0 Q l ss a' (fs ++ [fun _ : World => True]) F → K a') → obB P ops B w0 (ex x) o a fs ∧ K (a.put o.dst x)) : walkB P ops B w0 Q (o :: l) (ex x :: ss) a fs F := h _ (fun _ h => h)
theorem walkB_pr {p : Value → World → Prop} (h : ∀ K : Value → Act → Prop, (∀ v a', walkB P ops B w0 Q l ss a' (fs ++ [p v]) (fun w : World => F w ∧ p v w) → K v a') → obB P ops B w0 (pr p) o a fs ∧ ∀ v, K v (a.put o.dst v)) : walkB P ops B w0 Q (o :: l) (pr p :: ss) a fs F := h _ (fun _ _ h => h)
theorem walkB_P {bs : List (List Nat)} {n : Nat} : ∀ (l : List Oper) (ss : List Spec) (i : Nat) (a : Act) (fs : List (World → Prop)) (F : World → Prop), walkB P ops B w0 Q l ss a fs F → walkP P ops (fun _ => Cls B w0) TB bs Q n l ss i a fs F
  | [], _, _, _, _, _, h => fun _ W _ hC hF => h W hC hF
  | _ :: _, [], _, _, _, _, h => h.elim
  | o :: l, s :: ss, i, a, fs, F, h => by
    obtain ⟨h1, h2⟩ := h
    refine ⟨fun done W hI _ _ _ hf R hR => h1 W hI hf R fun v W' hb hs => hR v W' (hI.step hb) hb hs, ?_⟩
    revert h2
    show (match s.exact? with | some x => _ | none => _) → (match s.exact? with | some x => _ | none => _)
    cases s.exact? with
    | some x => exact fun h2 => walkB_P l ss (i + 1) _ _ _ h2
    | none => exact fun h2 v => walkB_P l ss (i + 1) _ _ _ (h2 v)
def stableP (p : Value → World → Prop) : Prop := ∀ v w w', Below w.heap.size w w' → p v w → p v w'
def stables : List Spec → Prop
  | [] => True
  | s :: r => ((∃ x, s = ex x) ∨ ∃ p, s = pr p ∧ stableP p) ∧ stables r
theorem stables_get : ∀ (ss : List Spec), stables ss → ∀ s ∈ ss, stableB s
  | [], _, s, h => by cases h
  | s0 :: r, h, s, hm => by
    rcases List.mem_cons.1 hm with rfl | hm
    · rcases h.1 with ⟨x, rfl⟩ | ⟨p, rfl, hp⟩
      · exact stable_ex x
      · exact hp
    · exact stables_get r h.2 s hm
/-- THE LAW. -/
theorem wp_region_B {Q : Exit → Act → World → Prop} {id : Nat} {w : World} (ss : List Spec) (B : Nat) (hBw : B ≤ w.heap.size) (hm : P.follows .mixedOrders = true) (hB : monoB2 (l.map prune) a.tmps.size = true)
    (hst : stables ss) (h : walkB P l.toArray B w (Q .normal) l ss a [] (fun _ => True)) : (Code.region id l.toArray true).wp P Q a w :=
  wp_region_done3 ss (fun _ => Cls B w) TB hm hB (fun _ _ s _ hk v _ w1 w2 _ hT hf => stables_get ss hst s (List.mem_of_getElem? hk) v w1 w2 hT hf) ⟨hBw, (Below.refl _ _).drew⟩ _ rfl (walkB_P l ss 0 a [] _ h)
end
end Go.Proofs.YthkgjohhbdipcaaGreatDoor
