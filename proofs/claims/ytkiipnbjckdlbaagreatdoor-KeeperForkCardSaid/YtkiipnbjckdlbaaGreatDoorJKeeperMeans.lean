/- KeeperMeans returns true at every records and call. Condition: Laid. -/
import Derived.Test.YtkiipnbjckdlbaaGreatDoorK11
import Derived.Test.YtkiipnbjckdlbaaGreatDoorK7
import Derived.Test.YtkiipnbjckdlbaaGreatDoorK5
namespace Go.Proofs.YtkiipnbjckdlbaaGreatDoor
open Go.RowKit

theorem askE_of2 {l : List (List TIns)} (h : chainE l = 0) {x : TCall} (hx : x.ok) : askE l x = (asked l x, 0) := by unfold askE; rw [if_neg (by rw [h]; simp), if_pos hx]
set_option maxRecDepth 100000 in
set_option maxHeartbeats 16000000 in
theorem keeperMeans_walk {w : World} (hL : Laid w) (v3 : Value) (l : List TRec) (rd3 : RdRecs w (fun _ => True) v3 l) (x : TCall) :
    Calls Tryz.prog 8 #[v3, callV x] w fun e w' => e = .returned (.bool true) ∧ Below w.heap.size w w' := by
  have HL := Lib.hid hL
  have H3 := Lib.hid rd3
  obtain ⟨a3, c3, rfl, _⟩ := Sl.form rd3
  clear rd3
  clear hL 
  go_enter Tryz.func8, Tryz.ntmps8
  go_wp2_with fail
  have HB := Lib.hid (Bx.one (w := w) (o := .cells #[.int .i64 x.a0, .int .i64 x.a1, .int .i64 x.a2, .int .i64 x.a3, .int .i64 x.a4] 24))
  refine (right_any x _).mono ?_
  rintro e w1 ⟨rfl, hb1⟩
  replace HB := Lib.hid (HB.out.below hb1)
  have hq0 := HB.out.cells0
  have hfr := HB.out.free0
  have HB1 := Lib.hid (HB.out.setCall0 (y := x.right))
  clear hb1
  have hset0 := HB1.out.cells0
  go_wp2_with fail
  clear hq0
  clear hfr hset0 HB
  revert HB1
  generalize (((((w1.setCell ⟨w.heap.size, 0, none⟩ (.int .i64 x.right.a0)).setCell ⟨w.heap.size, 1, none⟩ (.int .i64 x.right.a1)).setCell ⟨w.heap.size, 2, none⟩ (.int .i64 x.right.a2)).setCell ⟨w.heap.size, 3, none⟩ (.int .i64 x.right.a3)).setCell ⟨w.heap.size, 4, none⟩ (.int .i64 x.right.a4)) = w2
  intro HB
  obtain ⟨⟨C, ce⟩, hC⟩ : ∃ E, replayE l = E := ⟨_, rfl⟩
  have HC := Lib.hid hC
  clear hC
  refine (replay_any _ l _ _ (H3.out.below HB.out.bel)).mono ?_
  rw [HC.out]
  rintro e w3 ⟨aC, cC, rfl, hrC, hb3⟩
  replace HB := Lib.hid (HB.out.below hb3)
  have RC := Lib.hid (cells_true hrC)
  clear hrC hb3
  have hq0 := HB.out.cells0
  go_wp2_with fail
  clear hq0
  refine (opened_walk _ (HL.out.below HB.out.bel)).mono ?_
  rintro e w4 ⟨rfl, hb4⟩
  replace HB := Lib.hid (HB.out.below hb4)
  replace RC := Lib.hid (RC.out.below hb4)
  clear hb4
  by_cases h0 : ce = 0
  · subst h0
    obtain ⟨_, _, hmeans, hcE⟩ := replayE_ok (l := l) (by rw [HC.out])
    rw [HC.out] at hmeans hcE
    dsimp only at hmeans hcE
    have HM := Lib.hid hmeans
    clear hmeans hcE
    have hq0 := HB.out.cells0
    go_wp2_with fail
    clear hq0
    go_loopw [30] (fun kv wr => ∃ k : Nat, kv = .int .i64 k ∧ k ≤ C.length ∧ RdCells wr (fun _ => True) (.slice aC C.length cC) C ∧ Bx w [.cells #[.int .i64 x.right.a0, .int .i64 x.right.a1, .int .i64 x.right.a2, .int .i64 x.right.a3, .int .i64 x.right.a4] 24] wr) (fun kv _ => C.length - (intOf kv).toNat)
    case atStart => exact ⟨0, rfl, by omega, RC.out, HB.out⟩
    case round =>
      obtain ⟨k, rfl, hk, hrd, hbx⟩ := hrel
      clear RC HB
      have RC := Lib.hid hrd
      have HB := Lib.hid hbx
      clear hrd hbx
      by_cases hlt : k < C.length
      · obtain ⟨a, c, hv, hlc, hcm, hat⟩ := Sl.form RC.out
        obtain ⟨b, o, rfl, _⟩ : ∃ b o, aC = some ⟨b, o, none⟩ ∧ True := by
          injection hv with e1 e2 e3
          obtain ⟨b, o, h1, _⟩ := hat (by omega)
          exact ⟨b, o, by rw [e1, h1], trivial⟩
        obtain ⟨a1, a2, c1, c2, k0, k1, k2, k3, hrc, hrp⟩ := RdCells.cells RC.out hlt
        have Hmk := Lib.hid (HM.out C[k] (List.getElem_mem hlt))
        clear hv hat
        generalize hX : C[k] = X at *
        clear hX
        obtain ⟨op, ch, p⟩ := X
        dsimp only at k0 k1 k2 k3 hrc hrp
        have Hrc := Lib.hid hrc
        have Hrp := Lib.hid hrp
        have HN := Lib.hid (Bx.one (w := wr) (o := .cells #[.bool op, .slice a1 ch.length c1, .slice a2 p.rules.length c2, .int .i64 p.dflt] 66))
        clear hrc hrp
        cases op with
        | false =>
          have RC1 := Lib.hid (RC.out.below HN.out.bel)
          have HB1 := Lib.hid (HB.out.below HN.out.bel)
          go_wp2
          go_roundw
          case rel => exact ⟨k + 1, by go_num, by omega, RC1.out, HB1.out⟩
          case measure => simp [intOf]; omega
        | true =>
          obtain ⟨hok, hch, _, hsay⟩ := Hmk.out rfl
          dsimp only at hok hch hsay
          obtain ⟨sv, hsv⟩ : ∃ v, says p x.right = v := ⟨_, rfl⟩
          have JA : Hid (askE ch x.right = (sv, 0)) := by show _ = _; rw [askE_of2 hch x.right_ok, hsay _ x.right_ok, hsv]
          have JJ := Lib.hid (judgeE_says hok x.right_ok)
          rw [hsv] at JJ
          clear hok hch hsay hsv
          have RC1 := Lib.hid (RC.out.below HN.out.bel)
          have HB1 := Lib.hid (HB.out.below HN.out.bel)
          have hqb := HB1.out.cells0
          go_wp2_with fail
          refine (ask_any _ ch x.right _ _ (Hrc.out.below HN.out.bel)).mono ?_
          rw [JA.out]
          rintro e w20 ⟨rfl, hb20⟩
          have RC2 := Lib.hid (RC1.out.below hb20)
          have HB2 := Lib.hid (HB1.out.below hb20)
          have HN2 := Lib.hid (HN.out.below hb20)
          clear hqb hb20
          have hqb := HB2.out.cells0
          have hqn := HN2.out.cells0
          go_wp2_with fail
          refine (judge_any _ p x.right _ _ (RdRules.below Hrp.out HN2.out.bel)).mono ?_
          rw [JJ.out]
          rintro e w21 ⟨rfl, hb21⟩
          have RC3 := Lib.hid (RC2.out.below hb21)
          have HB3 := Lib.hid (HB2.out.below hb21)
          clear hqb hqn hb21 k0 k1 k2 k3
          go_wp2
          go_roundw
          case rel => exact ⟨k + 1, by go_num, by omega, RC3.out, HB3.out⟩
          case measure => simp [intOf]; omega
      · obtain rfl : k = C.length := by omega
        go_wp2
        go_ret
        exact ⟨rfl, HB.out.bel⟩
  · have hne : (ce != 0) = true := bne_iff_ne.2 h0
    clear h0
    have hq0 := HB.out.cells0
    go_wp2_with fail
    clear hq0
    refine (opened_walk _ (HL.out.below HB.out.bel)).mono ?_
    rintro e w5 ⟨rfl, hb5⟩
    replace HB := Lib.hid (HB.out.below hb5)
    replace RC := Lib.hid (RC.out.below hb5)
    clear hb5
    have hq0 := HB.out.cells0
    go_wp2
    go_ret
    exact ⟨rfl, HB.out.bel⟩
end Go.Proofs.YtkiipnbjckdlbaaGreatDoor
