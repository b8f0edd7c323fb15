/- Texts laid one behind the other: RefCode, RChain, RMeetSpec, RAll, RRule, RBoth, BoolRange, RPointSpec. No condition beyond theirs. -/
import Derived.Test.YtkiipnbjckdlbaaGreatDoorK2
import Derived.Test.YtkiipnbjckdlbaaGreatDoorK7
import Derived.Test.YtkiipnbjckdlbaaGreatDoorK5
import Derived.Test.YtkiipnbjckdlbaaGreatDoorK1
import Derived.Test.YtkiipnbjckdlbaaGreatDoorK4
import Derived.Laws.EntriesVeiled
import Derived.Maps.RangeWalk
import Derived.Laws.IdiomRangeMap
namespace Go.Proofs.YtkiipnbjckdlbaaGreatDoor
open Go.RowKit

theorem slice_ext {b o o' n n' c c' : Nat} (h1 : o = o') (h2 : n = n') (h3 : c = c') : Value.slice (some ⟨b, o, none⟩) n c = .slice (some ⟨b, o', none⟩) n' c' := by subst h1 h2 h3; rfl
set_option maxHeartbeats 2000000 in
theorem ran_ok (v : Value) (l : List TIns) (x : TCall) (D : Nat → Prop) (w : World) (h : RdCode w D v l) (hc : codeE l = 0) :
    Calls Tryz.prog 63 #[v, callV x] w fun e w' => e = .returned (.tuple #[.int .i64 (run l x).1, .int .i64 (run l x).2]) ∧ Below w.heap.size w w' := by
  obtain ⟨hR, hl⟩ := right_of hc
  have hpos : 0 < l.length := List.length_pos_iff.2 hR.ne
  obtain ⟨a, c, rfl, hlc, hcm, hat⟩ := Sl.form h
  obtain ⟨b, o, rfl, hDb, hb⟩ := hat hpos
  have H := Lib.hid h
  have HR := Lib.hid hR
  clear h hR hc hat
  go_enter Tryz.func63, Tryz.ntmps63
  go_wp2_with fail
  go_loopw [0, 6, 7] (fun s n d wr => ∃ (k dn : Nat) (nn : Int), k < l.length ∧ dn ≤ k ∧ s = .slice (some ⟨b, o + k * 4, none⟩) (l.length - k) (c - k) ∧ n = .int .i64 nn ∧ d = .int .i64 (dn + 1) ∧ RunAt x l k nn dn ∧ Below (w.heap.size + 1) (w.alloc (.cells #[.int .i64 x.a0, .int .i64 x.a1, .int .i64 x.a2, .int .i64 x.a3, .int .i64 x.a4] 24)) wr) (fun s _ _ _ => match s with | .slice _ n _ => n | _ => 0)
  case atStart => exact ⟨0, 0, 0, hpos, by omega, by simp, rfl, rfl, RunAt.start x l, Below.refl _ _⟩
  case round =>
    obtain ⟨k, dn, nn, hk, hdn, rfl, rfl, rfl, hrun, hbx⟩ := hrel
    have Hrun := Lib.hid hrun
    have hsz := size_box hbx
    obtain ⟨c0, c1, c2, c3⟩ := RdCode.cells (RdCode.below H.out (bel_box hbx)) hk
    have hcell := box_cells hbx
    obtain ⟨hi, hn4⟩ := HR.out.at_ hk
    have Hn4 := Lib.hid hn4
    clear hrun hn4
    rcases insE_cases hi with ⟨h4, h5, h6, h7, h8⟩ | ⟨h1, h5, h6, h7, h8⟩ | ⟨h23, h5, h6, h7, h8, h9, h10⟩
    · rw [h4] at c0
      have Hr := Lib.hid (Hrun.out.ret hk h4)
      clear hi h4 h5 h6 h7 h8
      go_wp2
      all_goals go_ret2
      all_goals exact ⟨by rw [Hr.out]; simp, bel_alloc (bel_box hbx) _⟩
    · obtain ⟨m, hm⟩ := Int.eq_ofNat_of_zero_le h5
      have Hn := Lib.hid (Hrun.out.load hk h1)
      have hk1 := Hn4.out (by omega)
      rw [h1] at c0
      rw [hm] at c1 Hn
      have hm5 : m < 5 := by omega
      have hcm := hcell m
      rw [cell5 x m hm5] at hcm
      have hcm' : ∀ o, (wr.alloc o).cell? ⟨w.heap.size, m, none⟩ = some (.int .i64 (x.get m)) := fun o => (World.cell?_alloc_lt wr o ⟨w.heap.size, m, none⟩ (show w.heap.size < wr.heap.size by omega)).trans hcm
      clear hi h1 h5 h6 h7 h8 hm hcell Hrun
      go_wp2
      go_roundw
      case rel => exact ⟨k + 1, dn + 1, _, hk1, by omega, slice_ext (by omega) (by omega) (by omega), rfl, by go_num, Hn.out, hbx.trans ((Below.refl _ _).alloc (size_box hbx) _)⟩
      case measure => simp; omega
    · obtain ⟨mb, hmb⟩ := Int.eq_ofNat_of_zero_le h7
      obtain ⟨mc, hmc⟩ := Int.eq_ofNat_of_zero_le h9
      have Hn := Lib.hid (Hrun.out.jump hk h23)
      rw [hmb] at c2
      rw [hmc] at c3
      have hx : Hid (insNext l[k] nn = if (l[k].k = 2 ∧ nn = l[k].a) ∨ (l[k].k = 3 ∧ nn < l[k].a) then mb else mc) := by unfold insNext; rw [hmb, hmc]; rfl
      have hb1 : k + 1 + mb < l.length := by omega
      have hb2 : k + 1 + mc < l.length := by omega
      clear hi h5 h6 h7 h8 h9 h10 hmb hmc hcell Hrun
      rcases h23 with h2 | h3
      · rw [h2] at c0
        by_cases he : nn = l[k].a
        · have be : (nn == l[k].a) = true := beq_iff_eq.2 he
          have Hm : Hid (insNext l[k] nn = mb) := by rw [hx.out]; exact if_pos (.inl ⟨h2, he⟩)
          clear he h2 hx
          go_wp2
          go_roundw
          case rel => exact ⟨k + 1 + mb, dn + 1, nn, hb1, by omega, slice_ext (by omega) (by omega) (by omega), rfl, by go_num, by have := Hn.out; rwa [Hm.out] at this, hbx.trans ((Below.refl _ _).alloc (size_box hbx) _)⟩
          case measure => simp; omega
        · have be : (nn == l[k].a) = false := beq_eq_false_iff_ne.2 he
          have Hm : Hid (insNext l[k] nn = mc) := by rw [hx.out]; exact if_neg (by omega)
          clear he h2 hx
          go_wp2
          go_roundw
          case rel => exact ⟨k + 1 + mc, dn + 1, nn, hb2, by omega, slice_ext (by omega) (by omega) (by omega), rfl, by go_num, by have := Hn.out; rwa [Hm.out] at this, hbx.trans ((Below.refl _ _).alloc (size_box hbx) _)⟩
          case measure => simp; omega
      · rw [h3] at c0
        by_cases he : nn < l[k].a
        · have Hm : Hid (insNext l[k] nn = mb) := by rw [hx.out]; exact if_pos (.inr ⟨h3, he⟩)
          clear h3 hx
          go_wp2
          go_roundw
          case rel => exact ⟨k + 1 + mb, dn + 1, nn, hb1, by omega, slice_ext (by omega) (by omega) (by omega), rfl, by go_num, by have := Hn.out; rwa [Hm.out] at this, hbx.trans ((Below.refl _ _).alloc (size_box hbx) _)⟩
          case measure => simp; omega
        · have Hm : Hid (insNext l[k] nn = mc) := by rw [hx.out]; exact if_neg (by omega)
          clear h3 hx
          go_wp2
          go_roundw
          case rel => exact ⟨k + 1 + mc, dn + 1, nn, hb2, by omega, slice_ext (by omega) (by omega) (by omega), rfl, by go_num, by have := Hn.out; rwa [Hm.out] at this, hbx.trans ((Below.refl _ _).alloc (size_box hbx) _)⟩
          case measure => simp; omega

set_option maxHeartbeats 4000000 in
theorem rcheckcode_any (v : Value) (l : List TIns) (D : Nat → Prop) (w : World) (h : RdCode w D v l) : Calls Tryz.prog 52 #[v] w fun e w' => e = .returned (.int .i64 (codeE l)) ∧ Below w.heap.size w w' := by
  obtain ⟨a, c, rfl, hlc, hcm, hat⟩ := Sl.form h
  have H := Lib.hid h
  clear h
  by_cases h0 : ¬ (1 ≤ (l.length : Int) ∧ (l.length : Int) ≤ 1500)
  · have d := inB_no h0
    have hs : codeE l = 2 := if_pos (by omega)
    rw [hs]; clear hs hat H h0
    go_enter Tryz.func52, Tryz.ntmps52
    go_wp2_with (go_at_call 62; refine (in_any _ _ _ _).mono ?_; rintro e w1 ⟨rfl, rfl⟩)
    go_ret
    exact ⟨rfl, Below.refl _ _⟩
  · obtain ⟨b, o, rfl, hDb, hb⟩ := hat (by omega)
    have d := inB_yes (n := (l.length : Int)) (a := 1) (b := 1500) (by omega) (by omega)
    have hE := Lib.hid (show codeE l = if codeGo l ≠ 0 then codeGo l else if lastK l = 4 then 0 else 4 from if_neg (by omega))
    have h1 : 1 ≤ l.length := by omega
    clear hat h0
    go_enter Tryz.func52, Tryz.ntmps52
    go_wp2_with (go_at_call 62; refine (in_any _ _ _ _).mono ?_; rintro e w1 ⟨rfl, rfl⟩)
    go_loopw [14] (fun i wr => ∃ k : Nat, k ≤ l.length ∧ i = .int .i64 k ∧ codeGo l = codeGo (l.drop k) ∧ Below w.heap.size w wr) (fun i _ => l.length - (intOf i).toNat)
    case atStart => exact ⟨0, by omega, rfl, rfl, Below.refl _ _⟩
    case round =>
      obtain ⟨k, hk, rfl, hgo, hbw⟩ := hrel
      have Hgo := Lib.hid hgo
      clear hgo d
      by_cases hlt : k < l.length
      · obtain ⟨c0, c1, c2, c3⟩ := RdCode.cells (RdCode.below H.out hbw) hlt
        have hsz := hbw.size
        have bad : ∀ e : Int, insE l[k] ((l.length : Int) - 1 - k) = e → e ≠ 0 → ∀ wz, Below w.heap.size w wz → Ending.returned (.int .i64 e) = .returned (.int .i64 (codeE l)) ∧ Below w.heap.size w wz := fun e he h0 wz hz => by
          refine ⟨ret_int ?_, hz⟩
          rw [hE.out, Hgo.out, codeGo_drop l k hlt, he, if_neg h0, if_pos h0]
        have good : insE l[k] ((l.length : Int) - 1 - k) = 0 → codeGo l = codeGo (l.drop (k + 1)) := fun he => by rw [Hgo.out, codeGo_drop l k hlt, if_pos he]
        have hx := Lib.hid (show insE l[k] ((l.length : Int) - 1 - k) = _ from rfl)
        generalize hX : l[k] = X at *
        clear hX hx
        obtain ⟨xk, xa, xb, xc⟩ := X
        dsimp only at c0 c1 c2 c3
        have Hbad := Lib.hid bad
        have Hgood := Lib.hid good
        clear bad good
        by_cases hA : xk = 1 ∨ xk = 4
        · by_cases hbz : xb = 0
          · subst hbz
            by_cases hcz : xc = 0
            · subst hcz
              by_cases ha : 0 ≤ xa ∧ xa ≤ 4
              · have d := inB_yes ha.1 ha.2
                have Hg := Lib.hid (Hgood.out (by simp [insE, hA]; omega))
                clear Hbad Hgood ha
                rcases hA with rfl | rfl
                · go_wp2_with (go_at_call 62; refine (in_any _ _ _ _).mono ?_; rintro e w1 ⟨rfl, rfl⟩)
                  go_roundw
                  case rel => exact ⟨k + 1, by omega, by go_num, Hg.out, bel_alloc hbw _⟩
                  case measure => simp [intOf]; omega
                · go_wp2_with (go_at_call 62; refine (in_any _ _ _ _).mono ?_; rintro e w1 ⟨rfl, rfl⟩)
                  go_roundw
                  case rel => exact ⟨k + 1, by omega, by go_num, Hg.out, bel_alloc hbw _⟩
                  case measure => simp [intOf]; omega
              · have d := inB_no ha
                have Hb := Lib.hid (Hbad.out 3 (by simp only [insE, hA]; simp; omega) (by decide))
                clear Hbad Hgood ha
                rcases hA with rfl | rfl
                · go_wp2_with (go_at_call 62; refine (in_any _ _ _ _).mono ?_; rintro e w1 ⟨rfl, rfl⟩)
                  go_ret
                  exact Hb.out _ (bel_alloc hbw _)
                · go_wp2_with (go_at_call 62; refine (in_any _ _ _ _).mono ?_; rintro e w1 ⟨rfl, rfl⟩)
                  go_ret
                  exact Hb.out _ (bel_alloc hbw _)
            · have bz : (xc != 0) = true := bne_iff_ne.2 hcz
              have Hb := Lib.hid (Hbad.out 4 (by simp [insE, hA, hcz]) (by decide))
              clear Hbad Hgood hcz
              rcases hA with rfl | rfl
              · go_wp2_with (go_at_call 62; refine (in_any _ _ _ _).mono ?_; rintro e w1 ⟨rfl, rfl⟩)
                go_ret
                exact Hb.out _ (bel_alloc hbw _)
              · go_wp2_with (go_at_call 62; refine (in_any _ _ _ _).mono ?_; rintro e w1 ⟨rfl, rfl⟩)
                go_ret
                exact Hb.out _ (bel_alloc hbw _)
          · have bz : (xb != 0) = true := bne_iff_ne.2 hbz
            have Hb := Lib.hid (Hbad.out 4 (by simp [insE, hA, hbz]) (by decide))
            clear Hbad Hgood hbz
            rcases hA with rfl | rfl
            · go_wp2_with (go_at_call 62; refine (in_any _ _ _ _).mono ?_; rintro e w1 ⟨rfl, rfl⟩)
              go_ret
              exact Hb.out _ (bel_alloc hbw _)
            · go_wp2_with (go_at_call 62; refine (in_any _ _ _ _).mono ?_; rintro e w1 ⟨rfl, rfl⟩)
              go_ret
              exact Hb.out _ (bel_alloc hbw _)
        · by_cases hB : xk = 2 ∨ xk = 3
          · have hA1 : ¬ (xk = 1) := fun e => hA (.inl e)
            have hA4 : ¬ (xk = 4) := fun e => hA (.inr e)
            by_cases ha : 0 ≤ xa ∧ xa ≤ 65535
            · have d := inB_yes ha.1 ha.2
              have Hgood' : Hid (0 ≤ xb ∧ xb < (l.length : Int) - 1 - k → 0 ≤ xc ∧ xc < (l.length : Int) - 1 - k → codeGo l = codeGo (l.drop (k + 1))) := fun h1 h2 => Hgood.out (by simp only [insE, if_neg hA, if_pos hB]; rw [if_neg (by omega), if_neg (by omega)])
              have Hbad' : Hid (¬ (0 ≤ xb ∧ xb < (l.length : Int) - 1 - k) ∨ ¬ (0 ≤ xc ∧ xc < (l.length : Int) - 1 - k) → ∀ wz, Below w.heap.size w wz → Ending.returned (.int .i64 5) = .returned (.int .i64 (codeE l)) ∧ Below w.heap.size w wz) := fun h1 => Hbad.out 5 (by simp only [insE, if_neg hA, if_pos hB]; rw [if_neg (by omega), if_pos (by omega)]) (by decide)
              clear Hbad Hgood ha hA hA1 hA4
              rcases hB with rfl | rfl
              · go_wp2_with (go_at_call 62; refine (in_any _ _ _ _).mono ?_; rintro e w1 ⟨rfl, rfl⟩)
                go_loop [54] (fun i => ∃ j : Nat, j ≤ 2 ∧ i = .int .i64 j ∧ Hid (1 ≤ j → 0 ≤ xb ∧ xb < (l.length : Int) - 1 - k) ∧ Hid (2 ≤ j → 0 ≤ xc ∧ xc < (l.length : Int) - 1 - k)) (fun i => 2 - (intOf i).toNat)
                case atStart => exact ⟨0, by omega, rfl, fun h => absurd h (by omega), fun h => absurd h (by omega)⟩
                case round =>
                  obtain ⟨j, hj, rfl, hj1, hj2⟩ := hrel
                  have hjj : j = 0 ∨ j = 1 ∨ j = 2 := by omega
                  rcases hjj with rfl | rfl | rfl
                  · by_cases hq : 0 ≤ xb ∧ xb < (l.length : Int) - 1 - k
                    · have Hq := Lib.hid hq
                      obtain ⟨hq1, hq2⟩ := hq
                      go_wp2
                      go_round
                      case rel => exact ⟨1, by omega, rfl, fun _ => Hq.out, fun h => absurd h (by omega)⟩
                      case measure => simp [intOf]
                    · have Hf := Lib.hid (Hbad'.out (.inl hq))
                      by_cases hq1 : xb < 0
                      · clear hq
                        go_wp2
                        go_ret
                        exact Hf.out _ (bel_alloc (bel_alloc hbw _) _)
                      · have hq2 : (l.length : Int) - 1 - k ≤ xb := by omega
                        clear hq
                        go_wp2
                        go_ret
                        exact Hf.out _ (bel_alloc (bel_alloc hbw _) _)
                  · by_cases hq : 0 ≤ xc ∧ xc < (l.length : Int) - 1 - k
                    · have Hq := Lib.hid hq
                      obtain ⟨hq1, hq2⟩ := hq
                      go_wp2
                      go_round
                      case rel => exact ⟨2, by omega, rfl, fun _ => hj1.out (by omega), fun _ => Hq.out⟩
                      case measure => simp [intOf]
                    · have Hf := Lib.hid (Hbad'.out (.inr hq))
                      by_cases hq1 : xc < 0
                      · clear hq
                        go_wp2
                        go_ret
                        exact Hf.out _ (bel_alloc (bel_alloc hbw _) _)
                      · have hq2 : (l.length : Int) - 1 - k ≤ xc := by omega
                        clear hq
                        go_wp2
                        go_ret
                        exact Hf.out _ (bel_alloc (bel_alloc hbw _) _)
                  · have Hg := Lib.hid (Hgood'.out (hj1.out (by omega)) (hj2.out (by omega)))
                    go_wp2
                    go_roundw
                    case rel => exact ⟨k + 1, by omega, by go_num, Hg.out, bel_alloc (bel_alloc hbw _) _⟩
                    case measure => simp [intOf]; omega
              · go_wp2_with (go_at_call 62; refine (in_any _ _ _ _).mono ?_; rintro e w1 ⟨rfl, rfl⟩)
                go_loop [54] (fun i => ∃ j : Nat, j ≤ 2 ∧ i = .int .i64 j ∧ Hid (1 ≤ j → 0 ≤ xb ∧ xb < (l.length : Int) - 1 - k) ∧ Hid (2 ≤ j → 0 ≤ xc ∧ xc < (l.length : Int) - 1 - k)) (fun i => 2 - (intOf i).toNat)
                case atStart => exact ⟨0, by omega, rfl, fun h => absurd h (by omega), fun h => absurd h (by omega)⟩
                case round =>
                  obtain ⟨j, hj, rfl, hj1, hj2⟩ := hrel
                  have hjj : j = 0 ∨ j = 1 ∨ j = 2 := by omega
                  rcases hjj with rfl | rfl | rfl
                  · by_cases hq : 0 ≤ xb ∧ xb < (l.length : Int) - 1 - k
                    · have Hq := Lib.hid hq
                      obtain ⟨hq1, hq2⟩ := hq
                      go_wp2
                      go_round
                      case rel => exact ⟨1, by omega, rfl, fun _ => Hq.out, fun h => absurd h (by omega)⟩
                      case measure => simp [intOf]
                    · have Hf := Lib.hid (Hbad'.out (.inl hq))
                      by_cases hq1 : xb < 0
                      · clear hq
                        go_wp2
                        go_ret
                        exact Hf.out _ (bel_alloc (bel_alloc hbw _) _)
                      · have hq2 : (l.length : Int) - 1 - k ≤ xb := by omega
                        clear hq
                        go_wp2
                        go_ret
                        exact Hf.out _ (bel_alloc (bel_alloc hbw _) _)
                  · by_cases hq : 0 ≤ xc ∧ xc < (l.length : Int) - 1 - k
                    · have Hq := Lib.hid hq
                      obtain ⟨hq1, hq2⟩ := hq
                      go_wp2
                      go_round
                      case rel => exact ⟨2, by omega, rfl, fun _ => hj1.out (by omega), fun _ => Hq.out⟩
                      case measure => simp [intOf]
                    · have Hf := Lib.hid (Hbad'.out (.inr hq))
                      by_cases hq1 : xc < 0
                      · clear hq
                        go_wp2
                        go_ret
                        exact Hf.out _ (bel_alloc (bel_alloc hbw _) _)
                      · have hq2 : (l.length : Int) - 1 - k ≤ xc := by omega
                        clear hq
                        go_wp2
                        go_ret
                        exact Hf.out _ (bel_alloc (bel_alloc hbw _) _)
                  · have Hg := Lib.hid (Hgood'.out (hj1.out (by omega)) (hj2.out (by omega)))
                    go_wp2
                    go_roundw
                    case rel => exact ⟨k + 1, by omega, by go_num, Hg.out, bel_alloc (bel_alloc hbw _) _⟩
                    case measure => simp [intOf]; omega
            · have d := inB_no ha
              have Hb := Lib.hid (Hbad.out 3 (by simp only [insE, if_neg hA, if_pos hB]; rw [if_pos (by omega)]) (by decide))
              clear Hbad Hgood ha hA hA1 hA4
              rcases hB with rfl | rfl
              · go_wp2_with (go_at_call 62; refine (in_any _ _ _ _).mono ?_; rintro e w1 ⟨rfl, rfl⟩)
                go_ret
                exact Hb.out _ (bel_alloc hbw _)
              · go_wp2_with (go_at_call 62; refine (in_any _ _ _ _).mono ?_; rintro e w1 ⟨rfl, rfl⟩)
                go_ret
                exact Hb.out _ (bel_alloc hbw _)
          · have e1 : (xk == 1) = false := beq_eq_false_iff_ne.2 (by omega)
            have e2 : (xk == 2) = false := beq_eq_false_iff_ne.2 (by omega)
            have e3 : (xk == 3) = false := beq_eq_false_iff_ne.2 (by omega)
            have e4 : (xk == 4) = false := beq_eq_false_iff_ne.2 (by omega)
            have Hb := Lib.hid (Hbad.out 4 (by simp only [insE, if_neg hA, if_neg hB]) (by decide))
            clear Hbad Hgood hA hB
            go_wp2
            go_ret
            exact Hb.out _ (bel_alloc hbw _)
      · obtain rfl : k = l.length := by omega
        have hz : codeGo l = 0 := by rw [Hgo.out, List.drop_length]; rfl
        have Hz := Lib.hid hz
        have hl1 : l.length - 1 < l.length := by omega
        obtain ⟨c0, _, _, _⟩ := RdCode.cells (RdCode.below H.out hbw) hl1
        have Hl := Lib.hid (lastK_eq l (by omega))
        clear hz
        by_cases h4 : l[l.length - 1].k = 4
        · rw [h4] at c0
          have Hf := Lib.hid (show codeE l = 0 by rw [hE.out, Hz.out, Hl.out, h4]; simp)
          clear h4
          go_wp2
          go_ret
          exact ⟨ret_int Hf.out.symm, hbw⟩
        · have b4 : (l[l.length - 1].k != 4) = true := bne_iff_ne.2 h4
          have Hf := Lib.hid (show codeE l = 4 by rw [hE.out, Hz.out, Hl.out, if_neg h4]; simp)
          clear h4
          go_wp2
          go_ret
          exact ⟨ret_int Hf.out.symm, hbw⟩
end Go.Proofs.YtkiipnbjckdlbaaGreatDoor
namespace Go.Proofs.YtkiipnbjckdlbaaGreatDoor
open Go.RowKit

set_option maxHeartbeats 1000000 in
theorem rchsame1_any (v u : Value) (f g : List TIns) (w : World) (h : RdCode w (fun _ => True) v f) (h' : RdCode w (fun _ => True) u g) :
    Calls Tryz.prog 60 #[v, u] w fun e w' => e = .returned (.bool (decide (f = g))) ∧ Below w.heap.size w w' := by
  have H := Lib.hid h
  have H' := Lib.hid h'
  obtain ⟨a, c, rfl, _⟩ := Sl.form h
  obtain ⟨a', c', rfl, _⟩ := Sl.form h'
  clear h h'
  go_enter Tryz.func60, Tryz.ntmps60
  go_wp2_with fail
  refine (eqins_any _ _ f g _ w H.out H'.out).mono ?_
  rintro e w1 ⟨rfl, hb1⟩
  go_wp2
  go_ret
  exact ⟨rfl, hb1⟩
set_option maxHeartbeats 4000000 in
theorem rcheq_any (v u : Value) (xs ys : List (List TIns)) (w : World) (h : RdChain w (fun _ => True) v xs) (h' : RdChain w (fun _ => True) u ys) :
    Calls Tryz.prog 58 #[v, u, .func (.func 60) #[] #[]] w fun e w' => e = .returned (.bool (decide (xs = ys))) ∧ Below w.heap.size w w' := by
  have H := Lib.hid h
  have H' := Lib.hid h'
  obtain ⟨a, c, rfl, hlc, hcm, hat⟩ := Sl.form h
  obtain ⟨a', c', rfl, hlc', hcm', hat'⟩ := Sl.form h'
  clear h h'
  by_cases hl : xs.length = ys.length
  · have Hl := Lib.hid hl
    have hln : ((xs.length : Int) != (ys.length : Int)) = false := by rw [hl]; simp
    clear hl
    go_enter Tryz.func58, Tryz.ntmps58
    go_wp2_with fail
    go_loopw [17] (fun i wr => ∃ k : Nat, k ≤ xs.length ∧ i = .int .i64 k ∧ xs.take k = ys.take k ∧ Below w.heap.size w wr) (fun i _ => xs.length - (intOf i).toNat)
    case atStart => exact ⟨0, by omega, rfl, rfl, Below.refl _ _⟩
    case round =>
      obtain ⟨k, hk, rfl, htk, hbw⟩ := hrel
      have Ht := Lib.hid htk
      have Hb := Lib.hid hbw
      clear htk hbw
      by_cases hlt : k < xs.length
      · obtain ⟨b, o, rfl, _, _⟩ := hat (by omega)
        obtain ⟨b', o', rfl, _, _⟩ := hat' (by rw [← Hl.out]; omega)
        have hlt' : k < ys.length := by rw [← Hl.out]; exact hlt
        obtain ⟨a1, c1, hc1, hr1⟩ := RdChain.cells (H.out.below Hb.out) hlt
        obtain ⟨a2, c2, hc2, hr2⟩ := RdChain.cells (H'.out.below Hb.out) hlt'
        have Hr1 := Lib.hid hr1
        have Hr2 := Lib.hid hr2
        clear hr1 hr2
        go_wp2_with fail
        refine (rchsame1_any _ _ xs[k] ys[k] _ Hr1.out Hr2.out).mono ?_
        rintro e w1 ⟨rfl, hb1⟩
        have Hb1 := Lib.hid (bel_call Hb.out hb1)
        clear hb1 hc1 hc2
        by_cases he : xs[k] = ys[k]
        · have Hn := Lib.hid (take_eq_step4 hlt hlt' Ht.out he)
          have d : decide (xs[k] = ys[k]) = true := decide_eq_true he
          clear he
          rw [d]
          go_wp2
          go_roundw
          case rel => first | exact ⟨k + 1, by omega, by go_num, Hn.out, Hb1.out⟩ | ((repeat apply Exists.intro); exact ⟨⟨k + 1, by omega, by go_num, Hn.out, Hb1.out⟩, rfl⟩)
          case measure => simp [intOf]; omega
        · have Hn := Lib.hid (ne_of_get4 hlt hlt' he)
          have d : decide (xs[k] = ys[k]) = false := decide_eq_false he
          clear he
          rw [d]
          go_wp2
          go_ret
          exact ⟨by rw [decide_eq_false Hn.out]; rfl, Hb1.out⟩
      · obtain rfl : k = xs.length := by omega
        have Hn : Hid (xs = ys) := by
          have := Ht.out
          rw [List.take_length, Hl.out, List.take_length] at this
          exact this
        go_wp2
        go_ret
        exact ⟨by rw [decide_eq_true Hn.out]; rfl, Hb.out⟩
  · have hn : xs ≠ ys := fun e => hl (by rw [e])
    have hl' : ((xs.length : Int) != (ys.length : Int)) = true := bne_iff_ne.2 (by omega)
    have HD := Lib.hid (decide_eq_false hn)
    clear hn
    go_enter Tryz.func58, Tryz.ntmps58
    go_wp2
    go_ret
    exact ⟨by rw [HD.out]; rfl, Below.refl _ _⟩
set_option maxHeartbeats 1000000 in
theorem rchsame_any (v u : Value) (xs ys : List (List TIns)) (w : World) (h : RdChain w (fun _ => True) v xs) (h' : RdChain w (fun _ => True) u ys) :
    Calls Tryz.prog 24 #[v, u] w fun e w' => e = .returned (.bool (decide (xs = ys))) ∧ Below w.heap.size w w' := by
  have H := Lib.hid h
  have H' := Lib.hid h'
  obtain ⟨a, c, rfl, _⟩ := Sl.form h
  obtain ⟨a', c', rfl, _⟩ := Sl.form h'
  clear h h'
  go_enter Tryz.func24, Tryz.ntmps24
  go_wp2_with fail
  refine (rcheq_any _ _ xs ys w H.out H'.out).mono ?_
  rintro e w1 ⟨rfl, hb1⟩
  go_wp2
  go_ret
  exact ⟨rfl, hb1⟩
set_option maxHeartbeats 4000000 in
set_option maxHeartbeats 4000000 in
theorem rchcheck_any (v : Value) (l : List (List TIns)) (D : Nat → Prop) (w : World) (h : RdChain w D v l) :
    Calls Tryz.prog 19 #[v] w fun e w' => e = .returned (.int .i64 (chainE l)) ∧ Below w.heap.size w w' := by
  obtain ⟨a, c, rfl, hlc, hcm, hat⟩ := Sl.form h
  have H := Lib.hid h
  clear h
  go_enter Tryz.func19, Tryz.ntmps19
  by_cases h6 : 6 < l.length
  · have hE : chainE l = 2 := by unfold chainE; rw [if_pos h6]
    rw [hE]
    go_wp2
    go_ret
    exact ⟨rfl, Below.refl _ _⟩
  · have HE : Hid (chainE l = codesGo l) := by show chainE l = _; unfold chainE; rw [if_neg h6]
    go_wp2_with fail
    go_loopw [11] (fun kv wr => ∃ k : Nat, kv = .int .i64 k ∧ k ≤ l.length ∧ codesGo l = codesGo (l.drop k) ∧ Below w.heap.size w wr) (fun kv _ => l.length - (intOf kv).toNat)
    case atStart => exact ⟨0, rfl, by omega, rfl, Below.refl _ _⟩
    case round =>
      obtain ⟨k, rfl, hk, hd, hb⟩ := hrel
      have Hd := Lib.hid hd
      have Hb := Lib.hid hb
      clear hd hb
      by_cases hlt : k < l.length
      · obtain ⟨b, o, rfl, _, _⟩ := hat (by omega)
        obtain ⟨a', c', hc, hr⟩ := RdChain.cells (H.out.below Hb.out) hlt
        have Hr := Lib.hid hr
        have Hdk := Lib.hid (codesGo_drop l k hlt)
        obtain ⟨f, hf⟩ : ∃ f, l[k] = f := ⟨_, rfl⟩
        rw [hf] at hc Hr Hdk
        clear hr hf
        go_wp2_with fail
        refine (rcheckcode_any _ f _ _ Hr.out).mono ?_
        rintro e w1 ⟨rfl, hb1⟩
        have Hb1 := Lib.hid (bel_call Hb.out hb1)
        clear hb1 hc
        by_cases h0 : codeE f = 0
        · have Hn : Hid (codesGo l = codesGo (l.drop (k + 1))) := by show _ = _; rw [Hd.out, Hdk.out, if_pos h0]
          rw [h0]
          clear h0
          go_wp2
          go_roundw
          case rel => exact ⟨k + 1, by go_num, by omega, Hn.out, Hb1.out⟩
          case measure => simp [intOf]; omega
        · have Hn : Hid (chainE l = codeE f) := by show _ = _; rw [HE.out, Hd.out, Hdk.out, if_neg h0]
          have hb0 : (codeE f != 0) = true := bne_iff_ne.2 h0
          clear h0
          go_wp2
          go_ret
          exact ⟨ret_int Hn.out.symm, Hb1.out⟩
      · obtain rfl : k = l.length := by omega
        have Hn : Hid (chainE l = 0) := by show _ = _; rw [HE.out, Hd.out, List.drop_length]; rfl
        go_wp2
        go_ret
        exact ⟨ret_int Hn.out.symm, Hb.out⟩
set_option maxHeartbeats 4000000 in
theorem rasked_any (v : Value) (l : List (List TIns)) (x : TCall) (D : Nat → Prop) (w : World) (h : RdChain w D v l) (hok : ∀ f ∈ l, codeE f = 0) (hx : x.ok) :
    Calls Tryz.prog 27 #[v, callV x] w fun e w' => e = .returned (.int .i64 (asked l x)) ∧ Below w.heap.size w w' := by
  obtain ⟨a, c, rfl, hlc, hcm, hat⟩ := Sl.form h
  have H := Lib.hid h
  have Hok := Lib.hid hok
  have Hx := Lib.hid hx
  clear h hok hx
  go_enter Tryz.func27, Tryz.ntmps27
  go_wp2_with fail
  have HB := Lib.hid (Bx.one (w := w) (o := .cells #[.int .i64 x.a0, .int .i64 x.a1, .int .i64 x.a2, .int .i64 x.a3, .int .i64 x.a4] 24))
  go_loopw [5, 12] (fun vv kv wr => ∃ (k : Nat) (t : Int), kv = .int .i64 k ∧ vv = .int .i64 t ∧ k ≤ l.length ∧ asked l x = askGo x (l.drop k) t ∧ Bx w [.cells #[.int .i64 x.a0, .int .i64 x.a1, .int .i64 x.a2, .int .i64 x.a3, .int .i64 x.a4] 24] wr) (fun _ kv _ => l.length - (intOf kv).toNat)
  case atStart => exact ⟨0, 4, rfl, rfl, by omega, rfl, HB.out⟩
  case round =>
    obtain ⟨k, t, rfl, rfl, hk, hd, hb⟩ := hrel
    have Hd := Lib.hid hd
    have HBr := Lib.hid hb
    clear hd hb
    by_cases hlt : k < l.length
    · obtain ⟨b, o, rfl, _, _⟩ := hat (by omega)
      obtain ⟨a', c', hc, hr⟩ := RdChain.cells (H.out.below HBr.out.bel) hlt
      have Hr := Lib.hid hr
      have Hck := Lib.hid (Hok.out l[k] (List.getElem_mem hlt))
      have Hdk := Lib.hid (askGo_drop x l k t hlt)
      obtain ⟨f, hf⟩ : ∃ f, l[k] = f := ⟨_, rfl⟩
      rw [hf] at hc Hr Hdk Hck
      have hc0 := HBr.out.cells0
      clear hr hf
      go_wp2_with fail
      refine (ran_ok _ f x _ _ Hr.out Hck.out).mono ?_
      rintro e w3 ⟨rfl, hb3⟩
      have HB3 := Lib.hid (HBr.out.below hb3)
      clear hb3 hc hc0
      obtain ⟨u, hu⟩ : ∃ u, (run f x).1 = u := ⟨_, rfl⟩
      rw [hu] at Hdk ⊢
      have Hn : Hid (asked l x = askGo x (l.drop (k + 1)) (minOf t u)) := by show _ = _; rw [Hd.out, Hdk.out]
      by_cases htu : u < t
      · have hd1 : decide (u < t) = true := decide_eq_true htu
        have e1 : minOf t u = u := by unfold minOf; rw [if_neg (by omega)]
        rw [e1] at Hn
        clear htu e1
        go_wp2
        go_roundw
        case rel => exact ⟨k + 1, u, by go_num, rfl, by omega, Hn.out, HB3.out⟩
        case measure => simp [intOf]; omega
      · have hd1 : decide (u < t) = false := decide_eq_false htu
        have e1 : minOf t u = t := by unfold minOf; rw [if_pos (by omega)]
        rw [e1] at Hn
        clear htu e1
        go_wp2
        go_roundw
        case rel => exact ⟨k + 1, t, by go_num, rfl, by omega, Hn.out, HB3.out⟩
        case measure => simp [intOf]; omega
    · obtain rfl : k = l.length := by omega
      have Hn : Hid (asked l x = t) := by show _ = _; rw [Hd.out, List.drop_length]; rfl
      have HBf := Lib.hid HBr.out.bel
      go_wp2
      go_ret
      exact ⟨ret_int Hn.out.symm, HBf.out⟩
end Go.Proofs.YtkiipnbjckdlbaaGreatDoor
namespace Go.Proofs.YtkiipnbjckdlbaaGreatDoor

/-- the rules that stand for one rule of the first policy. -/
def bothRow (of : Int → Int → Int) (q : TPol) (r : TRule) : List TRule := q.rules.map (pairRule of r) ++ [⟨r.conds ++ [], of r.verdict q.dflt⟩]
def bothLast (of : Int → Int → Int) (p q : TPol) : List TRule := q.rules.map (pairRule of ⟨[], p.dflt⟩)
theorem both_pairs (of : Int → Int → Int) (p q : TPol) : pairPol of p q = ⟨p.rules.flatMap (bothRow of q) ++ bothLast of p q, of p.dflt q.dflt⟩ := by
  unfold pairPol
  congr 1
  have e : ∀ r, (wholeOf q).map (pairRule of r) = bothRow of q r := fun r => by
    unfold wholeOf bothRow
    rw [List.map_append]
    rfl
  have e1 : pairs of (wholeOf p) (wholeOf q) = (p.rules.flatMap (bothRow of q) ++ bothLast of p q) ++ [pairRule of ⟨[], p.dflt⟩ ⟨[], q.dflt⟩] := by
    unfold pairs
    rw [show (fun a => (wholeOf q).map (pairRule of a)) = bothRow of q from funext e]
    show List.flatMap _ (p.rules ++ [⟨[], p.dflt⟩]) = _
    rw [List.flatMap_append, List.append_assoc]
    congr 1
    unfold bothRow bothLast
    simp [pairRule]
  rw [e1, List.dropLast_concat]
theorem trim_prefix (d : Int) : ∀ l : List TRule, l.take (trimD d l).length = trimD d l
  | [] => rfl
  | r :: l => by
    unfold trimD
    split
    · rfl
    · rw [List.length_cons, List.take_succ_cons, trim_prefix d l]
theorem trim_len (d : Int) (r : TRule) (l : List TRule) : (trimD d (l ++ [r])).length = if r.verdict = d then (trimD d l).length else l.length + 1 := by
  rw [trim_snoc]
  split
  · rfl
  · simp
theorem trim_le (d : Int) : ∀ l : List TRule, (trimD d l).length ≤ l.length
  | [] => Nat.le_refl _
  | r :: l => by
    unfold trimD
    split
    · simp
    · simp only [List.length_cons]
      have := trim_le d l
      omega
theorem used_le (ks : List Nat) : ∀ (l : List TRule) (i : Nat), (usedRules ks l i).length ≤ l.length
  | [], _ => Nat.le_refl _
  | r :: l, i => by
    unfold usedRules
    have := used_le ks l (i + 1)
    split <;> simp only [List.length_cons] <;> omega
end Go.Proofs.YtkiipnbjckdlbaaGreatDoor
namespace Go.Proofs.YtkiipnbjckdlbaaGreatDoor
open Go.RowKit

set_option maxRecDepth 100000 in
set_option maxHeartbeats 4000000 in
theorem rall_any (v : Value) (l : List TPol) (D : Nat → Prop) (w : World) (h : RdPols w D v l) :
    Calls Tryz.prog 87 #[v] w fun e w' => e = .returned (.int .i64 (polsE l)) ∧ Below w.heap.size w w' := by
  have H := Lib.hid h
  obtain ⟨a, c, rfl, hlc, hcm, hat⟩ := Sl.form h
  clear h
  go_enter Tryz.func87, Tryz.ntmps87
  go_wp2_with fail
  go_loopw [8] (fun kv wr => ∃ k : Nat, kv = .int .i64 k ∧ k ≤ l.length ∧ polsE (l.drop k) = polsE l ∧ Below w.heap.size w wr) (fun kv _ => l.length - (intOf kv).toNat)
  case atStart => exact ⟨0, rfl, Nat.zero_le _, rfl, Below.refl _ _⟩
  case round =>
    obtain ⟨k, rfl, hk, hdr, hb⟩ := hrel
    have Hdr := Lib.hid hdr
    have Hb := Lib.hid hb
    have hsz := hb.size
    clear hdr hb
    by_cases hlt : k < l.length
    · obtain ⟨b, o, rfl, hDb, hblt⟩ := hat (by omega)
      obtain ⟨ca, cc, hc0w, hc1w, hrd, hcl, hcmx, hcat⟩ := RdPols.cells H.out hlt
      have Hs := Lib.hid (polsE_drop l k hlt)
      obtain ⟨p, hp⟩ : ∃ p, l[k] = p := ⟨_, rfl⟩
      rw [hp] at hc0w hc1w hrd hcl hcat Hs
      have Hrd := Lib.hid hrd
      have hc0 := (Hb.out.cell (p := ⟨b, o + k * 2, none⟩) hblt).trans hc0w
      have hc1 := (Hb.out.cell (p := ⟨b, o + k * 2 + 1, none⟩) hblt).trans hc1w
      clear hrd hp hc0w hc1w
      go_wp2_with fail
      refine (rpolcheck_any _ p D _ (RdRules.below Hrd.out (bel_alloc Hb.out _))).mono ?_
      rintro e w1 ⟨rfl, hb1⟩
      have Hb1 := Lib.hid (bel_alloc_call Hb.out hb1)
      clear hb1 hc0 hc1
      by_cases h0 : polE p = 0
      · have H0 := Lib.hid h0
        rw [h0]
        clear h0
        go_wp2
        go_roundw
        case rel => exact ⟨k + 1, by go_num, by omega, by have := Hs.out; rw [if_pos H0.out, Hdr.out] at this; exact this.symm, Hb1.out⟩
        case measure => simp [intOf]; omega
      · have hb0 : (polE p != 0) = true := bne_iff_ne.2 h0
        have HE : Hid (polsE l = polE p) := by
          show polsE l = _
          have := Hs.out
          rw [if_neg h0, Hdr.out] at this
          exact this
        clear h0
        go_wp2
        go_ret
        rw [HE.out]
        exact ⟨rfl, Hb1.out⟩
    · obtain rfl : k = l.length := by omega
      have H0 : Hid (polsE l = 0) := by have := Hdr.out; rw [List.drop_length] at this; exact this.symm
      go_wp2
      go_ret
      rw [H0.out]
      exact ⟨rfl, Hb.out⟩
end Go.Proofs.YtkiipnbjckdlbaaGreatDoor
namespace Go.Proofs.YtkiipnbjckdlbaaGreatDoor
open Go.RowKit
attribute [local go_sem] gives givesUpon

def bothOf (ex : Bool) (a b : Int) : Int := if a < b then a else if ex then 4 else b
theorem bothOf_true : bothOf true = exceptOf := rfl
theorem bothOf_false : bothOf false = minOf := by
  funext a b
  unfold bothOf minOf
  split
  · rw [if_pos (by omega)]
  · simp only [Bool.false_eq_true, if_false]
    split
    · omega
    · rfl
set_option maxRecDepth 100000 in
theorem rof_any (ex : Bool) (a b : Int) (ε : Nat) (w : World) (h : w.cell? ⟨ε, 0, none⟩ = some (.bool ex)) :
    Calls Tryz.prog 88 #[.int .i64 a, .int .i64 b, .pointer (some ⟨ε, 0, none⟩)] w fun e w' => e = .returned (.int .i64 (bothOf ex a b)) ∧ w = w' := by
  by_cases hab : a < b
  · have hd : decide (a < b) = true := decide_eq_true hab
    have hE : Hid (bothOf ex a b = a) := if_pos hab
    clear hab
    go_enter Tryz.func88, Tryz.ntmps88
    go_wp2
    go_ret
    exact ⟨ret_int hE.out.symm, rfl⟩
  · have hd : decide (a < b) = false := decide_eq_false hab
    cases ex with
    | true =>
      have hE : Hid (bothOf true a b = 4) := by show (if a < b then a else if true = true then (4 : Int) else b) = 4; rw [if_neg hab, if_pos rfl]
      clear hab
      go_enter Tryz.func88, Tryz.ntmps88
      go_wp2
      go_ret
      exact ⟨ret_int hE.out.symm, rfl⟩
    | false =>
      have hE : Hid (bothOf false a b = b) := by show (if a < b then a else if false = true then (4 : Int) else b) = b; rw [if_neg hab, if_neg (by simp)]
      clear hab
      go_enter Tryz.func88, Tryz.ntmps88
      go_wp2
      go_ret
      exact ⟨ret_int hE.out.symm, rfl⟩
@[reducible] def ofFn (ε : Nat) : Value := .func (.func 88) #[] #[.pointer (some ⟨ε, 0, none⟩)]
set_option maxRecDepth 100000 in
set_option maxHeartbeats 16000000 in
theorem rrule_any (ex : Bool) {B β ε φ : Nat} {wB : World} {pv0 pv : Value} {rs : List TRule} (ra rb : TRule) (ca cb : Option Addr) (cca ccb : Nat) (wj : World) (hG : GatherI B β (.int .i64 0) wB pv0 wj pv rs) (hβ : β < B) (hB : B ≤ wj.heap.size) (hβw : β < wj.heap.size)
    (hε : wj.heap[ε]? = some (.cells #[.bool ex] 4)) (hεβ : ε ≠ β) (hφ : wj.heap[φ]? = some (.cells #[ofFn ε] 70)) (hφβ : φ ≠ β)
    (hra : RdConds wj (fun b => b ≠ β) (.slice ca ra.conds.length cca) ra.conds) (hrb : RdConds wj (fun b => b ≠ β) (.slice cb rb.conds.length ccb) rb.conds) (hcl : ra.conds.length ≤ 10) (hcm : rb.conds.length ≤ 10) (hrl : rs.length ≤ 20000) :
    Calls Tryz.prog 89 #[.agg #[.slice ca ra.conds.length cca, .int .i64 ra.verdict], .agg #[.slice cb rb.conds.length ccb, .int .i64 rb.verdict], .pointer (some ⟨β, 0, none⟩), .pointer (some ⟨φ, 0, none⟩)] wj fun e w' => e = .returned (.tuple #[]) ∧ ∃ pv', GatherI B β (.int .i64 0) wB pv0 w' pv' (rs ++ [pairRule (bothOf ex) ra rb]) := by
  have HJ := Lib.hid hG
  obtain ⟨i0, hi, hz0, hz1, hz2⟩ := info_parts infocRule
  have Hi := Lib.hid hi
  obtain ⟨w0, hw0⟩ : ∃ w0, (wj.alloc (.cells #[.slice ca ra.conds.length cca, .int .i64 ra.verdict] 80)).alloc (.cells #[.slice cb rb.conds.length ccb, .int .i64 rb.verdict] 80) = w0 := ⟨_, rfl⟩
  have HbJ : Hid (Below wj.heap.size wj w0) := by show Below _ _ _; rw [← hw0]; exact bel_alloc (bel_alloc (Below.refl _ _) _) _
  have hsz0 : w0.heap.size = wj.heap.size + 1 + 1 := by rw [← hw0]; simp
  have H13 : Hid (w0.heap[wj.heap.size]? = some (.cells #[.slice ca ra.conds.length cca, .int .i64 ra.verdict] 80)) := by show _ = _; rw [← hw0]; exact blk_old (heap_last _ _)
  have H15 : Hid (w0.heap[wj.heap.size + 1]? = some (.cells #[.slice cb rb.conds.length ccb, .int .i64 rb.verdict] 80)) := by show _ = _; rw [← hw0]; exact blk_at (by simp)
  have Hra0 : Hid (RdConds w0 (fun b => b ≠ β) (.slice ca ra.conds.length cca) ra.conds) := hra.below HbJ.out
  have Hrb0 : Hid (RdConds w0 (fun b => b ≠ β) (.slice cb rb.conds.length ccb) rb.conds) := hrb.below HbJ.out
  have Hbox0 : Hid (w0.heap[β]? = some (.cells #[pv, .int .i64 0] 37)) := blk_below hG.box HbJ.out
  have Hφ0 : Hid (w0.heap[φ]? = some (.cells #[ofFn ε] 70)) := blk_below hφ HbJ.out
  have Hε0 : Hid (w0.heap[ε]? = some (.cells #[.bool ex] 4)) := blk_below hε HbJ.out
  obtain ⟨rows, hro, hrow⟩ := hG.own
  have Hcv : Hid (∀ g, pv.ownBlock = some g → g ≠ β) := fun g hg => by have := (hrow.lt g hg).1; omega
  have Hro := Lib.hid hro
  have Hrow : Hid (w0.ownsRow B 80 2 pv rs.length rows.flatten) := ownsRow_keep1 hrow fun b _ hl _ => HbJ.out.block b hl
  have Hβ0 : Hid (β < w0.heap.size) := by show _ < _; omega
  have H13lt : Hid (wj.heap.size < w0.heap.size) := by show _ < _; omega
  have H13ne : Hid (wj.heap.size ≠ β) := by show _ ≠ _; omega
  have H15lt : Hid (wj.heap.size + 1 < w0.heap.size) := by show _ < _; omega
  have H15ne : Hid (wj.heap.size + 1 ≠ β) := by show _ ≠ _; omega
  have Hφlt : Hid (φ < w0.heap.size) := (Array.getElem?_eq_some_iff.1 Hφ0.out).1
  have Hφne : Hid (φ ≠ β) := hφβ
  have Hεlt : Hid (ε < w0.heap.size) := (Array.getElem?_eq_some_iff.1 Hε0.out).1
  have Hεne : Hid (ε ≠ β) := hεβ
  have HwA : Hid (B ≤ w0.heap.size) := by show _ ≤ _; omega
  obtain ⟨vd, hvd⟩ : ∃ vd, bothOf ex ra.verdict rb.verdict = vd := ⟨_, rfl⟩
  have Hvd := Lib.hid hvd
  have HP : Hid (pairRule (bothOf ex) ra rb = ⟨ra.conds ++ rb.conds, vd⟩) := by show _ = _; rw [← hvd]; rfl
  clear hG hi hro hrow hε hφ hra hrb hvd hφβ hεβ
  go_enter Tryz.func89, Tryz.ntmps89
  go_wp2_with fail
  try rw [hw0]
  clear hw0 hsz0
  refine wp_region_apr β 37 #[pv, .int .i64 0] 0 B 80 2 pv rs.length rows.flatten 1 (fun vf => [vf 7, .int .i64 vd]) 16 18 (pairG w0 (.slice ca ra.conds.length cca) (.slice cb rb.conds.length ccb) (ra.conds ++ rb.conds) vd) (by kernel_rfl) (by kernel_rfl) _ rfl Hbox0.out Hrow.out (by omega) Hcv.out (by decide) (by decide) (fun k vf w1 w2 hb _ h => pairG_keep hb h)
    (fun k f g w1 hfg hk h => by
      unfold pairG at h ⊢
      split
      · rename_i e; subst e; rw [if_pos rfl, hk] at h; exact h
      · rename_i e
        rw [if_neg e] at h
        split
        · rename_i e2; subst e2; rw [if_pos rfl, hk] at h; exact h
        · rename_i e2
          rw [if_neg e2] at h
          split
          · rename_i e3; subst e3; rw [if_pos rfl, hfg 7 (by decide)] at h; exact h
          · rename_i e3
            rw [if_neg e3] at h
            split
            · rename_i e4; subst e4; rw [if_pos rfl, hk, hfg 7 (by decide)] at h; exact h
            · trivial) (fun f g h => by show [f 7, _] = [g 7, _]; rw [h 7 (by decide)]) ?_
  (refine rel_ex (fun K hK => ?_); apply Exists.intro; refine ⟨fun done vf W hI h0 hd hn hf R hR => ?_, ?_, ?_⟩; (clear h0 hd hn hf; go_simp; exact hR _ _ (hI.step (Below.refl _ _) (by decide) (by decide) Hβ0.out) (ApT.of_below (Below.refl _ _)) rfl trivial); exact (fun _ _ _ => rfl); (go_simp; refine hK _ ?_; clear hK K))
  (refine rel_ex (fun K hK => ?_); apply Exists.intro; refine ⟨fun done vf W hI h0 hd hn hf R hR => ?_, ?_, ?_⟩; (have hcell := cells_of (hI.before (hn 18 (by decide))); clear h0 hd hn hf; go_simp; exact hR _ _ (hI.step (Below.refl _ _) (by decide) (by decide) Hβ0.out) (ApT.of_below (Below.refl _ _)) rfl trivial); exact (fun _ _ _ => rfl); (go_simp; refine hK _ ?_; clear hK K))
  (refine rel_ex (fun K hK => ?_); apply Exists.intro; refine ⟨fun done vf W hI h0 hd hn hf R hR => ?_, ?_, ?_⟩; (clear h0 hd hn hf; go_simp; exact hR _ _ (hI.step (Below.refl _ _) (by decide) (by decide) Hβ0.out) (ApT.of_below (Below.refl _ _)) rfl trivial); exact (fun _ _ _ => rfl); (go_simp; refine hK _ ?_; clear hK K))
  (refine rel_ex (fun K hK => ?_); apply Exists.intro; refine ⟨fun done vf W hI h0 hd hn hf R hR => ?_, ?_, ?_⟩; (have hcell := cells_of ((hI.old (hn 16 (by decide)) _ H13lt.out H13ne.out).trans H13.out); clear h0 hd hn hf; go_simp; exact hR _ _ (hI.step (Below.refl _ _) (by decide) (by decide) Hβ0.out) (ApT.of_below (Below.refl _ _)) rfl trivial); exact (fun _ _ _ => rfl); (go_simp; refine hK _ ?_; clear hK K))
  (refine rel_ex (fun K hK => ?_); apply Exists.intro; refine ⟨fun done vf W hI h0 hd hn hf R hR => ?_, ?_, ?_⟩; (clear h0 hd hn hf; go_simp; exact hR _ _ (hI.step (Below.refl _ _) (by decide) (by decide) Hβ0.out) (ApT.of_below (Below.refl _ _)) rfl trivial); exact (fun _ _ _ => rfl); (go_simp; refine hK _ ?_; clear hK K))
  (refine rel_ex (fun K hK => ?_); apply Exists.intro; refine ⟨fun done vf W hI h0 hd hn hf R hR => ?_, ?_, ?_⟩; (have hcell := cells_of ((hI.old (hn 16 (by decide)) _ H15lt.out H15ne.out).trans H15.out); clear h0 hd hn hf; go_simp; exact hR _ _ (hI.step (Below.refl _ _) (by decide) (by decide) Hβ0.out) (ApT.of_below (Below.refl _ _)) rfl trivial); exact (fun _ _ _ => rfl); (go_simp; refine hK _ ?_; clear hK K))
  (refine rel_pr (fun K hK => ?_); refine ⟨fun done vf W hI h0 hd hn hf R hR => ?_, ?_⟩; (clear h0 hd hn hf; go_simp; exact hR _ _ (hI.step (bel_alloc (Below.refl _ _) _) (by decide) (by decide) Hβ0.out) (ApT.of_below (bel_alloc (Below.refl _ _) _)) trivial ⟨_, rfl, hI.size, heap_last _ _⟩); (go_simp; refine hK _ ?_; clear hK K))
  (refine rel_pr (fun K hK => ?_); refine ⟨fun done vf W hI h0 hd hn hf R hR => ?_, ?_⟩; (have h6 : NewRow w0.heap.size 78 2 #[.slice ca ra.conds.length cca, .slice cb rb.conds.length ccb] (vf 6) W := hf 6 (hd 6 (by decide)); obtain ⟨b6, h6, hb6, hc6⟩ := h6; have Hc6 := Lib.hid hc6; have HW := Lib.hid (hI.old (hn 16 (by decide))); have Hsz := Lib.hid hI.size; clear h0 hd hn hf hc6; go_simp; go_at_call 90; refine (concatCond_any (.slice (some ⟨b6, 0, none⟩) 2 2) [ra.conds, rb.conds] (fun _ => True) W (two_conds Hc6.out (Hra0.out.keep (fun _ _ _ => trivial) (fun b hb hl => HW.out b hl hb) Hsz.out) (Hrb0.out.keep (fun _ _ _ => trivial) (fun b hb hl => HW.out b hl hb) Hsz.out)) (by rw [lenTo_two]; omega)).mono ?_; (rintro e w5 ⟨v5, rfl, ho5, hb5⟩; exact ⟨_, rfl, hR _ _ (hI.step hb5 (by decide) (by decide) Hβ0.out) (ApT.of_below hb5) trivial (show OwnSl w5 w0.heap.size 89 3 condR v5 (ra.conds ++ rb.conds) by have := ho5.base Hsz.out; simpa using this)⟩)); (go_simp; refine hK _ ?_; clear hK K))
  (refine rel_ex (fun K hK => ?_); apply Exists.intro; refine ⟨fun done vf W hI h0 hd hn hf R hR => ?_, ?_, ?_⟩; (have hcell := cells_of ((hI.old (hn 16 (by decide)) _ Hφlt.out Hφne.out).trans Hφ0.out); clear h0 hd hn hf; go_simp; exact hR _ _ (hI.step (Below.refl _ _) (by decide) (by decide) Hβ0.out) (ApT.of_below (Below.refl _ _)) rfl trivial); exact (fun _ _ _ => rfl); (go_simp; refine hK _ ?_; clear hK K))
  (refine rel_ex (fun K hK => ?_); apply Exists.intro; refine ⟨fun done vf W hI h0 hd hn hf R hR => ?_, ?_, ?_⟩; (clear h0 hd hn hf; go_simp; exact hR _ _ (hI.step (Below.refl _ _) (by decide) (by decide) Hβ0.out) (ApT.of_below (Below.refl _ _)) rfl trivial); exact (fun _ _ _ => rfl); (go_simp; refine hK _ ?_; clear hK K))
  (refine rel_ex (fun K hK => ?_); apply Exists.intro; refine ⟨fun done vf W hI h0 hd hn hf R hR => ?_, ?_, ?_⟩; (have hcell := cells_of ((hI.old (hn 16 (by decide)) _ H13lt.out H13ne.out).trans H13.out); clear h0 hd hn hf; go_simp; exact hR _ _ (hI.step (Below.refl _ _) (by decide) (by decide) Hβ0.out) (ApT.of_below (Below.refl _ _)) rfl trivial); exact (fun _ _ _ => rfl); (go_simp; refine hK _ ?_; clear hK K))
  (refine rel_ex (fun K hK => ?_); apply Exists.intro; refine ⟨fun done vf W hI h0 hd hn hf R hR => ?_, ?_, ?_⟩; (clear h0 hd hn hf; go_simp; exact hR _ _ (hI.step (Below.refl _ _) (by decide) (by decide) Hβ0.out) (ApT.of_below (Below.refl _ _)) rfl trivial); exact (fun _ _ _ => rfl); (go_simp; refine hK _ ?_; clear hK K))
  (refine rel_ex (fun K hK => ?_); apply Exists.intro; refine ⟨fun done vf W hI h0 hd hn hf R hR => ?_, ?_, ?_⟩; (have hcell := cells_of ((hI.old (hn 16 (by decide)) _ H15lt.out H15ne.out).trans H15.out); clear h0 hd hn hf; go_simp; exact hR _ _ (hI.step (Below.refl _ _) (by decide) (by decide) Hβ0.out) (ApT.of_below (Below.refl _ _)) rfl trivial); exact (fun _ _ _ => rfl); (go_simp; refine hK _ ?_; clear hK K))
  (refine rel_ex (fun K hK => ?_); apply Exists.intro; refine ⟨fun done vf W hI h0 hd hn hf R hR => ?_, ?_, ?_⟩; (have hcell := (hI.old (hn 16 (by decide)) _ Hεlt.out Hεne.out).trans Hε0.out; clear h0 hd hn hf; go_simp; go_at_call 88; refine (rof_any ex ra.verdict rb.verdict ε _ (cells_of hcell 0)).mono ?_; rintro e w5 ⟨rfl, rfl⟩; exact ⟨_, rfl, hR _ _ (hI.step (Below.refl _ _) (by decide) (by decide) Hβ0.out) (ApT.of_below (Below.refl _ _)) rfl trivial⟩); exact (fun _ _ _ => rfl); (go_simp; refine hK _ ?_; clear hK K))
  (refine rel_ex (fun K hK => ?_); refine ⟨fun vf => .agg #[vf 7, .int .i64 vd], fun done vf W hI h0 hd hn hf R hR => ?_, ?_, ?_⟩; (have h7 : OwnSl W w0.heap.size 89 3 condR (vf 7) (ra.conds ++ rb.conds) := hf 7 (hd 7 (by decide)); have h7k := h7; obtain ⟨a7, c7, h7⟩ := h7.slice; generalize (ra.conds ++ rb.conds).length = n7 at h7; clear h0 hd hn hf; go_simp; exact hR _ _ (hI.step (Below.refl _ _) (by decide) (by decide) Hβ0.out) (ApT.of_below (Below.refl _ _)) (by show _ = Value.agg #[vf 7, .int .i64 vd]; rw [h7, ← Hvd.out]) h7k); exact (fun f g h => by show Value.agg #[f 7, _] = Value.agg #[g 7, _]; rw [h 7 (by decide)]); (go_simp; refine hK _ ?_; clear hK K))
  (refine rel_pr (fun K hK => ?_); refine ⟨fun done vf W hI h0 hd hn hf R hR => ?_, ?_⟩; (have h7 : OwnSl W w0.heap.size 89 3 condR (vf 7) (ra.conds ++ rb.conds) := hf 14 (hd 14 (by decide)); have H7k := Lib.hid h7; obtain ⟨a7, c7, h7⟩ := h7.slice; generalize (ra.conds ++ rb.conds).length = n7 at h7; have H7 := Lib.hid h7; clear h0 hd hn hf; go_simp; exact hR _ _ (hI.step (bel_alloc (Below.refl _ _) _) (by decide) (by decide) Hβ0.out) (ApT.of_below (bel_alloc (Below.refl _ _) _)) trivial ⟨⟨_, rfl, hI.size, by rw [heap_last]; show some (Obj.cells #[.slice a7 n7 c7, .int .i64 vd] _) = some (Obj.cells #[vf 7, .int .i64 vd] _); rw [H7.out]⟩, H7k.out.below (bel_alloc (Below.refl _ _) _)⟩); (go_simp; refine hK _ ?_; clear hK K))
  (refine rel_pr (fun K hK => ?_); refine ⟨fun done vf W hI h0 hd hn hf R hR => ?_, ?_⟩; (have h15 : NewRow w0.heap.size 80 1 #[vf 7, .int .i64 vd] (vf 15) W ∧ OwnSl W w0.heap.size 89 3 condR (vf 7) (ra.conds ++ rb.conds) := hf 15 (hd 15 (by decide)); obtain ⟨⟨bn, hbv, hbn, hcn⟩, h7⟩ := h15; obtain ⟨a7, c7, h7⟩ := h7.slice; refine ob_plain rfl ?_; refine gives_append_at (.tmp 7) (.tmp 21) 35 rfl B 80 i0 _ 2 32 Tryz.underlying35 Hi.out hz0 hz1 hz2 rfl (by omega) pv rs.length rows.flatten (by rfl) (hI.own h0) ⟨bn, 0, none⟩ 1 1 [vf 7, .int .i64 vd] (by exact hbv) (by rfl) (World.news_of_block hcn) (by rw [h7]; simp [Value.oneCell']) (by omega) (by unfold maxLen; omega) (by omega) (by have := hI.size; have := HwA.out; omega) (fun v' w' h1 h2 h3 => hR _ _ (hI.appended (hn 18 (by decide)) Hcv.out h2 Hβ0.out) (ApT.of_grown h2) trivial ⟨by exact h1, by rcases h3 with h3 | h3; exact .inl h3; exact .inr (fun g hg => by have h9 : v'.ownBlock = some g := hg; rw [h3] at h9; injection h9 with h9; have := hI.size; omega)⟩)); (go_simp; refine hK _ ?_; clear hK K))
  (refine rel_ex (fun K hK => ?_); apply Exists.intro; refine ⟨fun done vf W hI h0 hd hn hf R hR => ?_, ?_, ?_⟩; (clear h0 hd hn hf; go_simp; exact hR _ _ (hI.step (Below.refl _ _) (by decide) (by decide) Hβ0.out) (ApT.of_below (Below.refl _ _)) rfl trivial); exact (fun _ _ _ => rfl); (go_simp; refine hK _ ?_; clear hK K))
  (refine rel_ex (fun K hK => ?_); apply Exists.intro; refine ⟨fun done vf W hI h0 hd hn hf R hR => ?_, ?_, ?_⟩; (have h16 : W.ownsRow B 80 2 (vf 16) (rs.length + 1) (rows.flatten ++ [vf 7, .int .i64 vd]) ∧ _ := hf 16 (hd 16 (by decide)); obtain ⟨gv, cpv, hv16, _, _⟩ := World.ownsRow.form h16.1 (by omega); have hst := hI.stored (off := 0) (v := vf 16) (hd 16 (by decide)) (by decide); have hbf := hI.before h0; have hcb := cells_of hbf; have hfb := not_frozen hbf; have Hst := Lib.hid hst; have Hset := Lib.hid (set_at (o := 0) (v := vf 16) hbf); have H16 := Lib.hid hv16; clear hd hn hf h16 hst hbf; go_simp; rw [← H16.out]; exact hR _ _ Hst.out ApT.of_store rfl Hset.out); exact (fun _ _ _ => rfl); (go_simp; refine hK _ ?_; clear hK K))
  intro done vf W hd hI hF
  have h7 : OwnSl W w0.heap.size 89 3 condR (vf 7) (ra.conds ++ rb.conds) := hF 7 (by decide)
  have h16 : W.ownsRow B 80 2 (vf 16) (rs.length + 1) (rows.flatten ++ [vf 7, .int .i64 vd]) ∧ ((vf 16).ownBlock = pv.ownBlock ∨ ∀ g, (vf 16).ownBlock = some g → w0.heap.size ≤ g) := hF 16 (by decide)
  have h18 : W.heap[β]? = some (.cells (#[pv, .int .i64 0].setIfInBounds 0 (vf 16)) 37) := hF 18 (by decide)
  have HN := Lib.hid (GatherI.step HJ.out HbJ.out hβ HwA.out hI Hro.out h16.1 h16.2 h18 h7 ruleT_ne)

  clear hd hI hF h7 h16 h18
  go_wp2
  exact bodyPost_end (results_none rfl _ _ _) rfl ⟨rfl, _, by rw [HP.out]; exact HN.out⟩
end Go.Proofs.YtkiipnbjckdlbaaGreatDoor
namespace Go.Proofs.YtkiipnbjckdlbaaGreatDoor
open Go.RowKit
attribute [local go_sem] gives givesUpon

theorem bothRow_take {of : Int → Int → Int} {q : TPol} {l : List TRule} {k : Nat} (h : k < l.length) : (l.take (k + 1)).flatMap (bothRow of q) = ((l.take k).flatMap (bothRow of q) ++ q.rules.map (pairRule of l[k])) ++ [pairRule of l[k] ⟨[], q.dflt⟩] := by
  rw [List.take_succ_eq_append_getElem h, List.flatMap_append]
  simp [bothRow, pairRule]
theorem both_len (of : Int → Int → Int) (q : TPol) : ∀ l : List TRule, (l.flatMap (bothRow of q)).length = l.length * (q.rules.length + 1)
  | [] => by simp
  | r :: l => by
    rw [List.flatMap_cons, List.length_append, both_len of q l, List.length_cons, Nat.add_mul]
    simp [bothRow]; omega
theorem both_size {of : Int → Int → Int} {p q : TPol} (hp : OkPol p) (hq : OkPol q) (k : Nat) : ((p.rules.take k).flatMap (bothRow of q)).length ≤ 14520 := by
  rw [both_len, List.length_take]
  have h1 := hp.len
  have h2 := hq.len
  have h3 : min k p.rules.length * (q.rules.length + 1) ≤ 120 * 121 := Nat.mul_le_mul (by omega) (by omega)
  omega
theorem map_take_succ {α β : Type} (f : α → β) {l : List α} {j : Nat} (h : j < l.length) : (l.take (j + 1)).map f = (l.take j).map f ++ [f l[j]] := by
  rw [List.take_succ_eq_append_getElem h, List.map_append]; rfl
theorem nil_conds' (w : World) (D : Nat → Prop) : RdConds w D (.slice none 0 0) [] := ⟨none, 0, rfl, Nat.le_refl _, by unfold maxLen; simp, fun _ => rfl, fun h => by cases h⟩

set_option maxRecDepth 100000 in
set_option maxHeartbeats 16000000 in
theorem rboth_any (ex : Bool) (u v : Value) (p q : TPol) (w : World) (hp : RdRules w (fun _ => True) u p.rules) (hq : RdRules w (fun _ => True) v q.rules) :
    Calls Tryz.prog 54 #[polV u p.dflt, polV v q.dflt, .bool ex] w fun e w' => ∃ r, e = .returned (.tuple #[polV r (pairE (bothOf ex) p q).1.dflt, .int .i64 (pairE (bothOf ex) p q).2]) ∧ RdRules w' (fun b => w.heap.size ≤ b) r (pairE (bothOf ex) p q).1.rules ∧ Below w.heap.size w w' := by
  have Hp := Lib.hid hp
  have Hq := Lib.hid hq
  obtain ⟨ap, cp, rfl, _⟩ := Sl.form hp
  obtain ⟨aq, cq, rfl, _⟩ := Sl.form hq
  clear hp hq
  go_enter Tryz.func54, Tryz.ntmps54
  go_wp2_with fail
  refine (rall_any _ [p, q] (fun _ => True) _ (two_pols (blk_at (by simp)) (Hp.out.below (bel_alloc (bel_alloc (bel_alloc (bel_alloc (bel_alloc (Below.refl _ _) _) _) _) _) _)) (Hq.out.below (bel_alloc (bel_alloc (bel_alloc (bel_alloc (bel_alloc (Below.refl _ _) _) _) _) _) _)) trivial)).mono ?_
  rintro e w1 ⟨rfl, hb1⟩
  have HB1 := Lib.hid ((Bx.three.push (by simp) (.cells #[.slice none 0 0, .int .i64 0] 37)).below ((bel_alloc (Below.refl _ _) _).trans (hb1.mono (by simp))))
  clear hb1
  by_cases h0 : polsE [p, q] = 0
  · have hpe : polE p = 0 := by rw [polsE_two] at h0; split at h0 <;> simp_all
    have hqe : polE q = 0 := by rw [polsE_two, if_pos hpe] at h0; exact h0
    have Hpe := Lib.hid hpe
    have Hqe := Lib.hid hqe
    have Hokp := Lib.hid ((okPol_iff p).1 hpe)
    have Hokq := Lib.hid ((okPol_iff q).1 hqe)
    have hlp := Hokp.out.len
    have hlq := Hokq.out.len
    rw [h0]
    clear h0 hpe hqe
    have htop : w.heap.size + 4 ≤ w1.heap.size := HB1.out.top
    obtain ⟨wB, hwB⟩ : ∃ wB, (w1.alloc (.cells #[ofFn (w.heap.size + 1 + 1)] 70)).alloc (.cells #[.slice none 0 0, .int .i64 0] 37) = wB := ⟨_, rfl⟩
    have HBB : Hid (Bx w [.cells #[.slice ap p.rules.length cp, .int .i64 p.dflt] 37, .cells #[.slice aq q.rules.length cq, .int .i64 q.dflt] 37, .cells #[.bool ex] 4, .cells #[.slice none 0 0, .int .i64 0] 37] wB) := by show Bx _ _ _; rw [← hwB]; exact (HB1.out.alloc _).alloc _
    have Hbox : Hid (wB.heap[w1.heap.size + 1]? = some (.cells #[.slice none 0 0, .int .i64 0] 37)) := by show _ = _; rw [← hwB]; exact blk_at (by simp)
    have Hφ : Hid (wB.heap[w1.heap.size]? = some (.cells #[ofFn (w.heap.size + 1 + 1)] 70)) := by show _ = _; rw [← hwB]; exact blk_old (heap_last _ _)
    have hszB : wB.heap.size = w1.heap.size + 2 := by rw [← hwB]; simp
    have HPB : Hid (RdRules wB (fun b => b < w.heap.size) (.slice ap p.rules.length cp) p.rules) := (rules_lt Hp.out).below HBB.out.bel
    have HQB : Hid (RdRules wB (fun b => b < w.heap.size) (.slice aq q.rules.length cq) q.rules) := (rules_lt Hq.out).below HBB.out.bel
    have hc0 := HBB.out.cells0
    go_wp2_with fail
    try rw [hwB]
    clear hc0 hwB
    go_loopw [32] (fun kv wr => ∃ (k : Nat) (pk : Value), kv = .int .i64 k ∧ k ≤ p.rules.length ∧ GatherI wB.heap.size (w1.heap.size + 1) (.int .i64 0) wB (.slice none 0 0) wr pk ((p.rules.take k).flatMap (bothRow (bothOf ex) q))) (fun kv _ => p.rules.length - (intOf kv).toNat)
    case atStart => exact ⟨0, _, rfl, by omega, GatherI.start Hbox.out OwnSl.nil⟩
    case round =>
      obtain ⟨k, pk, rfl, hk, hG⟩ := hrel
      obtain ⟨wk, rfl⟩ : ∃ wk : World, wk = wr := ⟨_, rfl⟩
      have HG := Lib.hid hG
      clear hG
      have hszk := HG.out.size
      have HPk : Hid (RdRules wk (fun b => b < w.heap.size) (.slice ap p.rules.length cp) p.rules) := HPB.out.keep (fun _ h _ => h) (fun b hb hl => HG.out.blk b hl (by have h1 : b < w.heap.size := hb; omega) (by simp [Value.ownBlock])) HG.out.size
      have HQk : Hid (RdRules wk (fun b => b < w.heap.size) (.slice aq q.rules.length cq) q.rules) := HQB.out.keep (fun _ h _ => h) (fun b hb hl => HG.out.blk b hl (by have h1 : b < w.heap.size := hb; omega) (by simp [Value.ownBlock])) HG.out.size
      have HBk : Hid (Bx w [.cells #[.slice ap p.rules.length cp, .int .i64 p.dflt] 37, .cells #[.slice aq q.rules.length cq, .int .i64 q.dflt] 37, .cells #[.bool ex] 4, .cells #[.slice none 0 0, .int .i64 0] 37] wk) := HBB.out.lift (B := w.heap.size + 4) (HG.out.belowB (Below.refl _ _) (by omega) (by omega) (fun g hg => by simp [Value.ownBlock] at hg)) (by simp)
      have Hφk : Hid (wk.heap[w1.heap.size]? = some (.cells #[ofFn (w.heap.size + 1 + 1)] 70)) := (HG.out.blk _ (by omega) (by omega) (by simp [Value.ownBlock])).trans Hφ.out
      have Hpk : Hid (∀ g, pk.ownBlock = some g → g < wk.heap.size ∧ wB.heap.size ≤ g) := fun g hg => by
        obtain ⟨rows, _, ho⟩ := HG.out.own
        exact ⟨(ho.lt g hg).2, (ho.lt g hg).1⟩
      by_cases hlt : k < p.rules.length
      · obtain ⟨ba, oa, rfl, _, _⟩ := Sl.at_ HPk.out (by omega)
        obtain ⟨ca, cca, hca0, hca1, hra, _, _, _⟩ := RdRules.cells HPk.out hlt
        have hcl := (Hokp.out.rules _ (List.getElem_mem hlt)).len
        have Htk := Lib.hid (bothRow_take (of := bothOf ex) (q := q) hlt)
        have Hbs := Lib.hid (both_size (of := bothOf ex) Hokp.out Hokq.out k)
        obtain ⟨ra, hrae⟩ : ∃ ra, p.rules[k] = ra := ⟨_, rfl⟩
        rw [hrae] at hca0 hca1 hra hcl Htk
        obtain ⟨rs, hrs⟩ : ∃ rs, (p.rules.take k).flatMap (bothRow (bothOf ex) q) = rs := ⟨_, rfl⟩
        rw [hrs] at HG Htk Hbs
        obtain ⟨wC, hwC⟩ : ∃ wC, wk.alloc (.cells #[.slice ca ra.conds.length cca, .int .i64 ra.verdict] 80) = wC := ⟨_, rfl⟩
        have HbC : Hid (Below wk.heap.size wk wC) := by show Below _ _ _; rw [← hwC]; exact bel_alloc (Below.refl _ _) _
        have hszC : wC.heap.size = wk.heap.size + 1 := by rw [← hwC]; simp
        have H13 : Hid (wC.heap[wk.heap.size]? = some (.cells #[.slice ca ra.conds.length cca, .int .i64 ra.verdict] 80)) := by show _ = _; rw [← hwC]; exact heap_last _ _
        have HGC := Lib.hid (HG.out.below HbC.out)
        have HraC : Hid (RdConds wC (fun b => b < w.heap.size) (.slice ca ra.conds.length cca) ra.conds) := hra.below HbC.out
        have HQC := Lib.hid (RdRules.below HQk.out HbC.out)
        have HBC := Lib.hid (HBk.out.below HbC.out)
        have HφC := Lib.hid (blk_below Hφk.out HbC.out)
        have hc1 := HBC.out.cells1
        clear hra hrae hrs
        go_wp2_with fail
        try rw [hwC]
        clear hc1 hca0 hca1 hwC
        go_loopw [39] (fun jv wj => ∃ (j : Nat) (pj : Value), jv = .int .i64 j ∧ j ≤ q.rules.length ∧ GatherI wB.heap.size (w1.heap.size + 1) (.int .i64 0) wC pk wj pj (rs ++ (q.rules.take j).map (pairRule (bothOf ex) ra))) (fun jv _ => q.rules.length - (intOf jv).toNat)
        case atStart => exact ⟨0, _, rfl, by omega, by simpa using GatherI.start HGC.out.box HGC.out.own⟩
        case round =>
          obtain ⟨j, pj, rfl, hj, hJ⟩ := hrel
          obtain ⟨wj, rfl⟩ : ∃ wj : World, wj = wr := ⟨_, rfl⟩
          have HJ := Lib.hid hJ
          clear hJ
          have hszj := HJ.out.size
          have H13j : Hid (wj.heap[wk.heap.size]? = some (.cells #[.slice ca ra.conds.length cca, .int .i64 ra.verdict] 80)) := (HJ.out.blk _ (by omega) (by omega) (fun e => by have := (Hpk.out _ e.symm).1; omega)).trans H13.out
          have HBj := Lib.hid (HBC.out.lift (B := w.heap.size + 4) (HJ.out.belowB (Below.refl _ _) (by omega) (by omega) (fun g hg => by have := (Hpk.out _ hg).2; omega)) (by simp))
          have Hφj : Hid (wj.heap[w1.heap.size]? = some (.cells #[ofFn (w.heap.size + 1 + 1)] 70)) := (HJ.out.blk _ (by omega) (by omega) (fun e => by have := (Hpk.out _ e.symm).2; omega)).trans HφC.out
          have HQj : Hid (RdRules wj (fun b => b < w.heap.size) (.slice aq q.rules.length cq) q.rules) := HQC.out.keep (fun _ h _ => h) (fun b hb hl => HJ.out.blk b hl (by have h1 : b < w.heap.size := hb; omega) (fun e => by have h1 : b < w.heap.size := hb; have := (Hpk.out _ e.symm).2; omega)) HJ.out.size
          have Hraj : Hid (RdConds wj (fun b => b < w.heap.size) (.slice ca ra.conds.length cca) ra.conds) := HraC.out.keep (fun _ h _ => h) (fun b hb hl => HJ.out.blk b hl (by have h1 : b < w.heap.size := hb; omega) (fun e => by have h1 : b < w.heap.size := hb; have := (Hpk.out _ e.symm).2; omega)) HJ.out.size
          by_cases hjt : j < q.rules.length
          · obtain ⟨bb, ob, rfl, _, _⟩ := Sl.at_ HQj.out (by omega)
            obtain ⟨cb, ccb, hcb0, hcb1, hrb, _, _, _⟩ := RdRules.cells HQj.out hjt
            have hcm := (Hokq.out.rules _ (List.getElem_mem hjt)).len
            have Htj := Lib.hid (map_take_succ (pairRule (bothOf ex) ra) hjt)
            obtain ⟨rb, hrbe⟩ : ∃ rb, q.rules[j] = rb := ⟨_, rfl⟩
            rw [hrbe] at hcb0 hcb1 hrb hcm Htj
            have HbS : Hid (Below wj.heap.size wj (wj.alloc (.cells #[.slice cb rb.conds.length ccb, .int .i64 rb.verdict] 80))) := bel_alloc (Below.refl _ _) _
            have hc13 : ∀ i, (wj.alloc (.cells #[.slice cb rb.conds.length ccb, .int .i64 rb.verdict] 80)).cell? ⟨wk.heap.size, i, none⟩ = _ := cells_of (blk_below H13j.out HbS.out)
            have Hrb := Lib.hid hrb
            have hlen : (rs ++ (q.rules.take j).map (pairRule (bothOf ex) ra)).length ≤ 20000 := by
              rw [List.length_append, List.length_map, List.length_take]
              have := Hbs.out
              omega
            have Hlen := Lib.hid hlen
            clear hrb hrbe hlen
            go_wp2_with (go_at_call 89; refine (rrule_any ex ra rb ca cb cca ccb _ (HJ.out.below HbS.out) (by omega) (by simp; omega) (by simp; omega) (blk_below (HBj.out.at_ 2 _ rfl) HbS.out) (by omega) (blk_below Hφj.out HbS.out) (by omega) ((Hraj.out.below HbS.out).keep (fun b hb _ => by have h1 : b < w.heap.size := hb; show b ≠ _; omega) (fun _ _ _ => rfl) (Nat.le_refl _)) ((Hrb.out.below HbS.out).keep (fun b hb _ => by have h1 : b < w.heap.size := hb; show b ≠ _; omega) (fun _ _ _ => rfl) (Nat.le_refl _)) hcl hcm Hlen.out).mono ?_; rintro e w5 ⟨rfl, pv5, hG5⟩; have HG5 := Lib.hid hG5; clear hG5)
            go_roundw
            case rel => first | exact ⟨j + 1, pv5, by go_num, by omega, by rw [Htj.out, ← List.append_assoc]; exact HG5.out⟩ | ((repeat apply Exists.intro); exact ⟨⟨j + 1, pv5, by go_num, by omega, by rw [Htj.out, ← List.append_assoc]; exact HG5.out⟩, rfl⟩)
            case measure => simp [intOf]; omega
          · obtain rfl : j = q.rules.length := by omega
            have hc13 := cells_of H13j.out
            have hc1 := HBj.out.cells1
            have hlen : (rs ++ (q.rules.take q.rules.length).map (pairRule (bothOf ex) ra)).length ≤ 20000 := by
              rw [List.length_append, List.length_map, List.length_take]
              have := Hbs.out
              omega
            have Hlen := Lib.hid hlen
            clear hlen
            go_wp2_with (go_at_call 89; refine (rrule_any ex ra ⟨[], q.dflt⟩ ca none cca 0 _ HJ.out (by omega) (by omega) (by omega) (HBj.out.at_ 2 _ rfl) (by omega) Hφj.out (by omega) (Hraj.out.keep (fun b hb _ => by have h1 : b < w.heap.size := hb; show b ≠ _; omega) (fun _ _ _ => rfl) (Nat.le_refl _)) (nil_conds' _ _) hcl (by simp) Hlen.out).mono ?_; rintro e w5 ⟨rfl, pv5, hG5⟩; have HG5 := Lib.hid hG5; clear hG5)
            have HN := Lib.hid (HGC.out.trans HG5.out)
            go_roundw
            case rel => first | exact ⟨k + 1, pv5, by go_num, by omega, by rw [Htk.out]; have := HN.out; rw [List.take_length] at this; exact this⟩ | ((repeat apply Exists.intro); exact ⟨⟨k + 1, pv5, by go_num, by omega, by rw [Htk.out]; have := HN.out; rw [List.take_length] at this; exact this⟩, rfl⟩)
            case measure => simp [intOf]; omega
      · obtain rfl : k = p.rules.length := by omega
        obtain ⟨rs, hrs⟩ : ∃ rs, (p.rules.take p.rules.length).flatMap (bothRow (bothOf ex) q) = rs := ⟨_, rfl⟩
        have Hbs := Lib.hid (both_size (of := bothOf ex) Hokp.out Hokq.out p.rules.length)
        rw [hrs] at HG Hbs
        have Hrs : Hid (p.rules.flatMap (bothRow (bothOf ex) q) = rs) := by show _ = _; rw [← hrs, List.take_length]
        clear hrs
        have hc1 := HBk.out.cells1
        go_wp2_with fail
        clear hc1
        go_loopw [58] (fun jv wj => ∃ (j : Nat) (pj : Value), jv = .int .i64 j ∧ j ≤ q.rules.length ∧ GatherI wB.heap.size (w1.heap.size + 1) (.int .i64 0) wk pk wj pj (rs ++ (q.rules.take j).map (pairRule (bothOf ex) ⟨[], p.dflt⟩))) (fun jv _ => q.rules.length - (intOf jv).toNat)
        case atStart => exact ⟨0, _, rfl, by omega, by simpa using GatherI.start HG.out.box HG.out.own⟩
        case round =>
          obtain ⟨j, pj, rfl, hj, hJ⟩ := hrel
          obtain ⟨wj, rfl⟩ : ∃ wj : World, wj = wr := ⟨_, rfl⟩
          have HJ := Lib.hid hJ
          clear hJ
          have hszj := HJ.out.size
          have HBj := Lib.hid (HBk.out.lift (B := w.heap.size + 4) (HJ.out.belowB (Below.refl _ _) (by omega) (by omega) (fun g hg => by have := (Hpk.out _ hg).2; omega)) (by simp))
          have Hφj : Hid (wj.heap[w1.heap.size]? = some (.cells #[ofFn (w.heap.size + 1 + 1)] 70)) := (HJ.out.blk _ (by omega) (by omega) (fun e => by have := (Hpk.out _ e.symm).2; omega)).trans Hφk.out
          have HQj : Hid (RdRules wj (fun b => b < w.heap.size) (.slice aq q.rules.length cq) q.rules) := HQk.out.keep (fun _ h _ => h) (fun b hb hl => HJ.out.blk b hl (by have h1 : b < w.heap.size := hb; omega) (fun e => by have h1 : b < w.heap.size := hb; have := (Hpk.out _ e.symm).2; omega)) HJ.out.size
          by_cases hjt : j < q.rules.length
          · obtain ⟨bb, ob, rfl, _, _⟩ := Sl.at_ HQj.out (by omega)
            obtain ⟨cb, ccb, hcb0, hcb1, hrb, _, _, _⟩ := RdRules.cells HQj.out hjt
            have hcm := (Hokq.out.rules _ (List.getElem_mem hjt)).len
            have Htj := Lib.hid (map_take_succ (pairRule (bothOf ex) ⟨[], p.dflt⟩) hjt)
            obtain ⟨rb, hrbe⟩ : ∃ rb, q.rules[j] = rb := ⟨_, rfl⟩
            rw [hrbe] at hcb0 hcb1 hrb hcm Htj
            have HbS : Hid (Below wj.heap.size wj (wj.alloc (.cells #[.slice cb rb.conds.length ccb, .int .i64 rb.verdict] 80))) := bel_alloc (Below.refl _ _) _
            have hc0 : ∀ i, (wj.alloc (.cells #[.slice cb rb.conds.length ccb, .int .i64 rb.verdict] 80)).cell? ⟨w.heap.size, i, none⟩ = _ := (HBj.out.below HbS.out).cells0
            have Hrb := Lib.hid hrb
            have hlen : (rs ++ (q.rules.take j).map (pairRule (bothOf ex) ⟨[], p.dflt⟩)).length ≤ 20000 := by
              rw [List.length_append, List.length_map, List.length_take]
              have := Hbs.out
              omega
            have Hlen := Lib.hid hlen
            clear hrb hrbe hlen
            go_wp2_with (go_at_call 89; refine (rrule_any ex ⟨[], p.dflt⟩ rb none cb 0 ccb _ (HJ.out.below HbS.out) (by omega) (by simp; omega) (by simp; omega) (blk_below (HBj.out.at_ 2 _ rfl) HbS.out) (by omega) (blk_below Hφj.out HbS.out) (by omega) (nil_conds' _ _) ((Hrb.out.below HbS.out).keep (fun b hb _ => by have h1 : b < w.heap.size := hb; show b ≠ _; omega) (fun _ _ _ => rfl) (Nat.le_refl _)) (by simp) hcm Hlen.out).mono ?_; rintro e w5 ⟨rfl, pv5, hG5⟩; have HG5 := Lib.hid hG5; clear hG5)
            go_roundw
            case rel => first | exact ⟨j + 1, pv5, by go_num, by omega, by rw [Htj.out, ← List.append_assoc]; exact HG5.out⟩ | ((repeat apply Exists.intro); exact ⟨⟨j + 1, pv5, by go_num, by omega, by rw [Htj.out, ← List.append_assoc]; exact HG5.out⟩, rfl⟩)
            case measure => simp [intOf]; omega
          · obtain rfl : j = q.rules.length := by omega
            obtain ⟨P, hP⟩ : ∃ P, pairPol (bothOf ex) p q = P := ⟨_, rfl⟩
            obtain ⟨vD, hvD⟩ : ∃ vD, bothOf ex p.dflt q.dflt = vD := ⟨_, rfl⟩
            have hPb := both_pairs (bothOf ex) p q
            rw [hP, hvD] at hPb
            have hPd : P.dflt = vD := by rw [hPb]
            have HGf := Lib.hid (HG.out.trans HJ.out)
            have HL : Hid (RdRules wj (fun b => wB.heap.size ≤ b ∧ NotPol wj b) pj P.rules) := by
              have := HGf.out.rules
              rw [List.take_length, ← Hrs.out] at this
              rw [hPb]
              exact this
            have HPE : Hid (pairE (bothOf ex) p q = if polE P = 0 then (P, 0) else (zeroPol, polE P)) := by
              show pairE _ p q = _
              unfold pairE
              rw [polsE_two, if_pos Hpe.out, Hqe.out, if_neg (by simp), hP]
              by_cases h : polE P = 0
              · rw [if_neg (by simp [h]), if_pos h]
              · rw [if_pos h, if_neg h]
            have HvD := Lib.hid hvD
            have Hpd := Lib.hid hPd
            obtain ⟨aP, cP, rfl, _⟩ := Sl.form HL.out
            have hc0 := HBj.out.cells0
            have hc1 := HBj.out.cells1
            have hcφ := cells_of Hφj.out
            have hcβ := cells_of HGf.out.box
            have hfβ := not_frozen HGf.out.box
            have Hst : Hid ((wj.setCell ⟨w1.heap.size + 1, 1, none⟩ (.int .i64 vD)).heap[w1.heap.size + 1]? = some (.cells #[.slice aP P.rules.length cP, .int .i64 vD] 37)) := set_at HGf.out.box
            have hsβ := cells_of Hst.out
            have HR2 : Hid (RdRules (wj.setCell ⟨w1.heap.size + 1, 1, none⟩ (.int .i64 vD)) (fun b => wB.heap.size ≤ b) (.slice aP P.rules.length cP) P.rules) := HL.out.keep (fun b h _ => h.1) (fun b hb _ => set_other (by show b ≠ w1.heap.size + 1; have := hb.1; omega)) (by rw [set_size]; exact Nat.le_refl _)
            have HB2 := Lib.hid (HBj.out.lift (B := w.heap.size + 4) (set_below (a := ⟨w1.heap.size + 1, 1, none⟩) (v := .int .i64 vD) (Below.refl _ _) (by show w.heap.size + 4 ≤ w1.heap.size + 1; omega)) (by simp))
            clear hP hvD hPb hPd
            go_wp2_with (go_at_call 88; refine (rof_any ex p.dflt q.dflt (w.heap.size + 1 + 1) _ (HBj.out.cells2 0)).mono ?_; rw [HvD.out]; rintro e w5 ⟨rfl, rfl⟩)
            clear hc0 hc1 hcφ hcβ hfβ hsβ
            revert Hst HR2 HB2
            generalize (wj.setCell ⟨w1.heap.size + 1, 1, none⟩ (.int .i64 vD)) = wz
            intro Hst HR2 HB2
            have HC : Hid (Calls Tryz.prog 74 #[polV (.slice aP P.rules.length cP) vD] wz fun e w' => e = .returned (.int .i64 (polE P)) ∧ Below wz.heap.size wz w') := by
              have := rpolcheck_any (.slice aP P.rules.length cP) P _ wz HR2.out
              rw [Hpd.out] at this
              exact this
            refine HC.out.mono ?_
            rintro e w6 ⟨rfl, hb6⟩
            have HB6 := Lib.hid (HB2.out.below hb6)
            have Hst6 := Lib.hid (blk_below Hst.out hb6)
            have HR6 := Lib.hid (RdRules.below HR2.out hb6)
            clear hb6
            have hc3 : ∀ i, w6.cell? ⟨w.heap.size + 1 + 1 + 1, i, none⟩ = _ := cells_of (HB6.out.at_ 3 _ rfl)
            have hf3 : ∀ i, w6.frozen? ⟨w.heap.size + 1 + 1 + 1, i, none⟩ = false := not_frozen (HB6.out.at_ 3 _ rfl)
            by_cases h0 : polE P = 0
            · have HE : Hid (pairE (bothOf ex) p q = (P, 0)) := by show pairE _ p q = _; rw [HPE.out, if_pos h0]
              rw [h0]
              have hcb := cells_of Hst6.out
              have HB7 := Lib.hid (HB6.out.set (i := 3) rfl 0 (.slice aP P.rules.length cP))
              have HB8 := Lib.hid (HB7.out.set (i := 3) rfl 1 (.int .i64 vD))
              have hc8 : ∀ i, ((w6.setCell ⟨w.heap.size + 1 + 1 + 1, 0, none⟩ (.slice aP P.rules.length cP)).setCell ⟨w.heap.size + 1 + 1 + 1, 1, none⟩ (.int .i64 vD)).cell? ⟨w.heap.size + 1 + 1 + 1, i, none⟩ = _ := cells_of (HB8.out.at_ 3 _ rfl)
              have HR8 : Hid (RdRules ((w6.setCell ⟨w.heap.size + 3, 0, none⟩ (.slice aP P.rules.length cP)).setCell ⟨w.heap.size + 3, 1, none⟩ (.int .i64 vD)) (fun b => w.heap.size ≤ b) (.slice aP P.rules.length cP) P.rules) :=
                HR6.out.keep (fun b h _ => by have h1 : wB.heap.size ≤ b := h; show _ ≤ b; omega) (fun b hb _ => by have h1 : wB.heap.size ≤ b := hb; rw [set_other (by show b ≠ w.heap.size + 3; omega), set_other (by show b ≠ w.heap.size + 3; omega)]) (by rw [set_size, set_size]; exact Nat.le_refl _)
              clear h0
              go_wp2
              refine bodyPost_ret (v := .tuple #[polV (.slice aP P.rules.length cP) vD, .int .i64 0]) ?_ rfl (by rw [HE.out]; exact ⟨_, by rw [Hpd.out], HR8.out, HB8.out.bel⟩)
              rw [results_cell_tmp rfl]
              go_simp
            · have hb0 : (polE P != 0) = true := bne_iff_ne.2 h0
              have HE : Hid (pairE (bothOf ex) p q = (zeroPol, polE P)) := by show pairE _ p q = _; rw [HPE.out, if_neg h0]
              have HB7 := Lib.hid (HB6.out.set (i := 3) rfl 0 (.slice none 0 0))
              have HB8 := Lib.hid (HB7.out.set (i := 3) rfl 1 (.int .i64 0))
              have hc8 : ∀ i, ((w6.setCell ⟨w.heap.size + 1 + 1 + 1, 0, none⟩ (.slice none 0 0)).setCell ⟨w.heap.size + 1 + 1 + 1, 1, none⟩ (.int .i64 0)).cell? ⟨w.heap.size + 1 + 1 + 1, i, none⟩ = _ := cells_of (HB8.out.at_ 3 _ rfl)
              clear h0
              go_wp2
              refine bodyPost_ret (v := .tuple #[polV (.slice none 0 0) 0, .int .i64 (polE P)]) ?_ rfl (by rw [HE.out]; exact ⟨_, rfl, nil_rules _ _, HB8.out.bel⟩)
              rw [results_cell_tmp rfl]
              go_simp
  · have hb0 : (polsE [p, q] != 0) = true := bne_iff_ne.2 h0
    have HE : Hid (pairE (bothOf ex) p q = (zeroPol, polsE [p, q])) := by show pairE _ p q = _; unfold pairE; rw [if_pos h0]
    have hc3 : ∀ i, w1.cell? ⟨w.heap.size + 1 + 1 + 1, i, none⟩ = _ := cells_of (HB1.out.at_ 3 _ rfl)
    have hf3 : ∀ i, w1.frozen? ⟨w.heap.size + 1 + 1 + 1, i, none⟩ = false := not_frozen (HB1.out.at_ 3 _ rfl)
    have HB7 := Lib.hid (HB1.out.set (i := 3) rfl 0 (.slice none 0 0))
    have HB8 := Lib.hid (HB7.out.set (i := 3) rfl 1 (.int .i64 0))
    have hc8 : ∀ i, ((w1.setCell ⟨w.heap.size + 1 + 1 + 1, 0, none⟩ (.slice none 0 0)).setCell ⟨w.heap.size + 1 + 1 + 1, 1, none⟩ (.int .i64 0)).cell? ⟨w.heap.size + 1 + 1 + 1, i, none⟩ = _ := cells_of (HB8.out.at_ 3 _ rfl)
    generalize polsE [p, q] = E at *
    clear h0
    go_wp2
    refine bodyPost_ret (v := .tuple #[polV (.slice none 0 0) 0, .int .i64 E]) ?_ rfl (by rw [HE.out]; exact ⟨_, rfl, nil_rules _ _, HB8.out.bel⟩)
    rw [results_cell_tmp rfl]
    go_simp
end Go.Proofs.YtkiipnbjckdlbaaGreatDoor
namespace Go.Proofs.YtkiipnbjckdlbaaGreatDoor
open Go.RowKit Go.Maps

/-- block r is a loop over the map at b, that says f; left: what is still to come. -/
def BoolRange (w : World) (b r n : Nat) (f left : Int → Bool) (cnt : Nat) : Prop :=
  ∃ (D : DataW Unit) (lf : Lit → Bool), w.ranges Tryz.prog 3 (plainElem Tryz.prog 4) b r n D lf cnt ∧ (∀ z : Int, D.atKey (.int .i64 z) (.lit (.bool false)) = .lit (.bool (f z))) ∧ ∀ z : Int, lf (.int .i64 z) = left z
theorem BoolRange.kept {w w' : World} {b r n cnt : Nat} {f left : Int → Bool} {row : Option Nat} (h : BoolRange w b r n f left cnt) (hg : w.grownBy w' row) (h1 : some b ≠ row) (h2 : some r ≠ row) : BoolRange w' b r n f left cnt := by
  obtain ⟨D, lf, hr, h3, h4⟩ := h
  exact ⟨D, lf, hr.kept hg h1 h2, h3, h4⟩
theorem BoolRange.left_eq {w : World} {b r n cnt : Nat} {f left : Int → Bool} (h : BoolRange w b r n f left cnt) : w.rangeLeft b r = cnt := by
  obtain ⟨D, lf, hr, _⟩ := h
  exact hr.left_eq
theorem BoolRange.lt {w : World} {b r n cnt : Nat} {f left : Int → Bool} (h : BoolRange w b r n f left cnt) : r < w.heap.size ∧ b < w.heap.size := by
  obtain ⟨D, lf, hr, _⟩ := h
  exact ⟨hr.lt, hr.owns.lt⟩
section
variable {w : World} {ops : Array Oper} {rest : List Oper} {o : Oper} {a : Act} {Q : Exit → Act → World → Prop}
theorem wpList_rangeBool (hg : o.guard = none) (m : Operand) (hop : o.op = Op.range 113 m) (b n : Nat) (f : Int → Bool) (hm : a.eval m = .map (some b)) (hown : BoolMap w b n f)
    (hK : ∀ w' left cnt, BoolRange w' b w.heap.size n f left cnt → (∀ z : Int, f z = true → left z = true) → cnt ≤ n → w.grownBy w' none → w'.heap.size = w.heap.size + 1 → wpList Tryz.prog ops Q rest (a.put o.dst (.pointer (some ⟨w.heap.size, 0, none⟩))) w') :
    wpList Tryz.prog ops Q (o :: rest) a w := by
  obtain ⟨D, ho, hat⟩ := hown
  refine wpList_range_own w hg m _ hop _ _ keyInt Tryz.underlying113 _ b n D hm ho fun w' hr hgr hs => hK w' (fun z => Maps.has D (.int .i64 z)) (Maps.size D) ⟨D, _, hr, hat, fun _ => rfl⟩ (fun z hz => ?_) ?_ hgr hs
  · cases h : Maps.has D (.int .i64 z) with
    | true => rfl
    | false =>
      have := hat z
      rw [Maps.atKey_of_not_has h, hz] at this
      cases this
  · obtain ⟨es, clock, _, _, hsz, hD⟩ := ho
    rw [hD]
    show List.length _ ≤ n
    rw [length_sorted]
    simpa using hsz
theorem wpList_nextBool (hg : o.guard = none) (it : Operand) (hop : o.op = Op.next it false) (b r n : Nat) (f left : Int → Bool) (cnt : Nat) (hit : a.eval it = .pointer (some ⟨r, 0, none⟩)) (h : BoolRange w b r n f left cnt)
    (hDone : (∀ z, left z = false) → wpList Tryz.prog ops Q rest (a.put o.dst (.tuple #[.bool false])) w)
    (hMore : ∀ (x : Int) (w' : World) (cnt' : Nat), left x = true → BoolRange w' b r n f (fun z => left z && !decide (z = x)) cnt' → cnt' < cnt → w.grownBy w' (some r) → w'.heap.size = w.heap.size →
      (Instr.entry (.pointer (some ⟨r, 0, none⟩))).run Tryz.prog w' = .ok (.tuple #[.int .i64 x, .bool (f x)]) w' → wpList Tryz.prog ops Q rest (a.put o.dst (.tuple #[.bool true, .int .i64 x, .bool (f x)])) w') :
    wpList Tryz.prog ops Q (o :: rest) a w := by
  obtain ⟨D, lf, hr, hat, hlf⟩ := h
  refine wpList_next_ranges w hg it hop 3 keyInt (plainElem Tryz.prog 4) (Value.int .i64) Value.bool (fun key kl hkey => by obtain ⟨x, rfl, _⟩ := Maps.keyOf_int_inv Tryz.underlying3 hkey; exact ⟨x, rfl⟩) (fun v y hv => ?_) b r n D lf cnt hit hr (fun _ hl => hDone fun z => by rw [← hlf z]; exact hl _) fun x c kl y w' cnt' hkey hlk hv hat' hrg hlt hgr hsz hen => ?_
  · have hu := Tryz.underlying4
    unfold plainElem at hv
    generalize Tryz.prog.underlying 4 = u at hv hu
    subst hu
    cases v <;> first | exact ⟨_, rfl⟩ | (cases hv)
  · obtain ⟨x', ex, rfl, _⟩ := Maps.keyOf_int_inv Tryz.underlying3 hkey
    cases ex
    have hy : y.1 = .lit (.bool (f x)) := by rw [← hat x]; exact (hat' _).symm
    obtain ⟨y1, y2⟩ := y
    subst hy
    have hc := plainElem_bool_inv hv
    injection hc with hc
    subst hc
    refine hMore x w' cnt' (by rw [← hlf]; exact hlk) ⟨D, _, hrg, hat, fun z => ?_⟩ hlt hgr hsz hen
    show (lf (.int .i64 z) && !(Lit.int .i64 z).sameKey (.int .i64 x)) = _
    rw [hlf]
    unfold Lit.sameKey
    simp
end
end Go.Proofs.YtkiipnbjckdlbaaGreatDoor
namespace Go.Proofs.YtkiipnbjckdlbaaGreatDoor

/-! ### the map of cuts -/
/-- what a condition makes of the map. -/
def atCond (f : Int) (g : Int → Bool) (c : TCond) : Int → Bool :=
  if c.f = f then fun t => if t = c.v + 1 then (if c.v + 1 = c.v then true else g (c.v + 1)) || decide (c.op = 1 ∨ c.op = 2) else if t = c.v then true else g t else g
def atStart : Int → Bool := fun t => if t = 0 then true else false
def atAll (f : Int) (cs : List TCond) : Int → Bool := cs.foldl (atCond f) atStart
theorem atCond_true {f : Int} {g : Int → Bool} {c : TCond} {t : Int} : atCond f g c t = true ↔ g t = true ∨ t ∈ condCuts f c := by
  rw [mem_condCuts]
  unfold atCond
  by_cases h : c.f = f
  · rw [if_pos h]
    by_cases h1 : t = c.v + 1
    · rw [if_pos h1, if_neg (by omega), Bool.or_eq_true, decide_eq_true_eq, ← h1]
      constructor
      · rintro (h2 | h2)
        · exact .inl h2
        · exact .inr ⟨h, .inr ⟨h2, rfl⟩⟩
      · rintro (h2 | ⟨_, h2 | ⟨h2, _⟩⟩)
        · exact .inl h2
        · omega
        · exact .inr h2
    · rw [if_neg h1]
      by_cases h2 : t = c.v
      · simp [h2, h]
      · rw [if_neg h2]
        constructor
        · exact .inl
        · rintro (h3 | ⟨_, h3 | ⟨_, h3⟩⟩)
          · exact h3
          · exact absurd h3 h2
          · exact absurd h3 h1
  · rw [if_neg h]
    constructor
    · exact .inl
    · rintro (h1 | ⟨h1, _⟩)
      · exact h1
      · exact absurd h1 h
theorem foldl_at {f t : Int} : ∀ (cs : List TCond) (g : Int → Bool), cs.foldl (atCond f) g t = true ↔ g t = true ∨ t ∈ cs.flatMap (condCuts f)
  | [], g => by simp
  | c :: cs, g => by
    rw [List.foldl_cons, foldl_at cs, atCond_true, List.flatMap_cons, List.mem_append, or_assoc]
def polConds (p : TPol) : List TCond := p.rules.flatMap fun r => r.conds
theorem atAll_true {f t : Int} {l : List TPol} : atAll f (l.flatMap polConds) t = true ↔ t ∈ cutVals l f := by
  unfold atAll
  rw [foldl_at, mem_vals]
  unfold atStart polConds
  simp only [List.mem_flatMap]
  constructor
  · rintro (h | ⟨c, ⟨p, hp, r, hr, hc⟩, h⟩)
    · left
      by_cases e : t = 0
      · exact e
      · simp [e] at h
    · exact .inr ⟨p, hp, r, hr, c, hc, h⟩
  · rintro (h | ⟨p, hp, r, hr, c, hc, h⟩)
    · left; simp [h]
    · exact .inr ⟨c, ⟨p, hp, r, hr, hc⟩, h⟩
theorem atAll_snoc (f : Int) (cs : List TCond) (c : TCond) : atAll f (cs ++ [c]) = atCond f (atAll f cs) c := by
  unfold atAll
  rw [List.foldl_append]
  rfl

/-! ### points by number -/
theorem fm_get {α β γ : Type} (M : List β) (hm : 0 < M.length) (g : α → β → γ) : ∀ (L : List α) (i : Nat), (L.flatMap fun x => M.map (g x))[i]? = (L[i / M.length]?).bind fun x => (M[i % M.length]?).map (g x)
  | [], i => by simp
  | x :: L, i => by
    rw [List.flatMap_cons, List.getElem?_append, List.length_map]
    by_cases h : i < M.length
    · rw [if_pos h, Nat.div_eq_of_lt h, Nat.mod_eq_of_lt h, List.getElem?_map]
      rfl
    · obtain ⟨j, rfl⟩ : ∃ j, i = j + M.length := ⟨i - M.length, by omega⟩
      rw [if_neg h, Nat.add_sub_cancel, fm_get M hm g L, Nat.add_div_right _ hm, Nat.add_mod_right, List.getElem?_cons_succ]
theorem stage_get (l : List TPol) (k i : Nat) : (stage l (k + 1))[i]? = ((stage l k)[i / (cutsOf l k).length]?).bind fun x => ((cutsOf l k)[i % (cutsOf l k).length]?).map fun n => x.set k n :=
  fm_get (cutsOf l k) (cuts_pos l k) (fun (x : TCall) (n : Int) => x.set k n) (stage l k) i
/-- a cut by its number. -/
def cutAt (l : List TPol) (k i : Nat) : Int := (cutsOf l k)[i % (cutsOf l k).length]?.getD 0
theorem cutAt_get (l : List TPol) (k i : Nat) : (cutsOf l k)[i % (cutsOf l k).length]? = some (cutAt l k i) := by
  unfold cutAt
  rw [List.getElem?_eq_getElem (Nat.mod_lt _ (cuts_pos l k))]
  rfl
/-- what is left of a number when the fields from k on have been told. -/
def leftOf (l : List TPol) (i : Nat) : Nat → Nat
  | 0 => i
  | j + 1 => leftOf l i j / (cutsOf l (4 - j : Nat)).length
/-- a point when j fields have been told, the last ones first. -/
def tellOf (l : List TPol) (i : Nat) : Nat → TCall
  | 0 => ⟨0, 0, 0, 0, 0⟩
  | j + 1 => (tellOf l i j).set (4 - j) (cutAt l (4 - j) (leftOf l i j))
theorem left_lt {l : List TPol} {i : Nat} (h : i < sizes l 5) : leftOf l i 5 = 0 ∧ ∀ j, j ≤ 5 → leftOf l i j < sizes l (5 - j) := by
  have step : ∀ j, j < 5 → leftOf l i j < sizes l (5 - j) → leftOf l i (j + 1) < sizes l (5 - (j + 1)) := fun j hj h => by
    show leftOf l i j / _ < _
    rw [Nat.div_lt_iff_lt_mul (cuts_pos l _)]
    have e : 5 - j = (4 - j) + 1 := by omega
    rw [e] at h
    have e' : 5 - (j + 1) = 4 - j := by omega
    rw [e']
    exact h
  have all : ∀ j, j ≤ 5 → leftOf l i j < sizes l (5 - j) := fun j => by
    induction j with
    | zero => intro _; exact h
    | succ j ih => intro hj; exact step j (by omega) (ih (by omega))
  have h5 := all 5 (by omega)
  simp only [Nat.sub_self, sizes] at h5
  exact ⟨by omega, all⟩
theorem tell_stage {l : List TPol} {i : Nat} (h : i < sizes l 5) : (stage l 5)[i]? = some (tellOf l i 5) := by
  obtain ⟨h0, _⟩ := left_lt h
  have e5 : leftOf l i 5 = leftOf l i 4 / (cutsOf l (0 : Nat)).length := rfl
  have e4 : leftOf l i 4 = leftOf l i 3 / (cutsOf l (1 : Nat)).length := rfl
  have e3 : leftOf l i 3 = leftOf l i 2 / (cutsOf l (2 : Nat)).length := rfl
  have e2 : leftOf l i 2 = leftOf l i 1 / (cutsOf l (3 : Nat)).length := rfl
  have e1 : leftOf l i 1 = i / (cutsOf l (4 : Nat)).length := rfl
  rw [stage_get, cutAt_get, ← e1, stage_get, cutAt_get, ← e2, stage_get, cutAt_get, ← e3, stage_get, cutAt_get, ← e4, stage_get, cutAt_get, ← e5, h0]
  rfl
theorem stage_tell (l : List TPol) : stage l 5 = (List.range (sizes l 5)).map fun i => tellOf l i 5 := by
  apply List.ext_getElem?
  intro i
  rw [List.getElem?_map]
  by_cases h : i < sizes l 5
  · rw [tell_stage h, List.getElem?_range h]
    rfl
  · rw [List.getElem?_eq_none (by rw [stage_length]; omega), List.getElem?_eq_none (by simp; omega)]
    rfl
theorem stage_take {l : List TPol} {i : Nat} (h : i < sizes l 5) : (stage l 5).take (i + 1) = (stage l 5).take i ++ [tellOf l i 5] := by
  have hl : i < (stage l 5).length := by rw [stage_length]; exact h
  rw [List.take_succ_eq_append_getElem hl]
  have := tell_stage h
  rw [List.getElem?_eq_getElem hl] at this
  rw [Option.some.inj this]
end Go.Proofs.YtkiipnbjckdlbaaGreatDoor
