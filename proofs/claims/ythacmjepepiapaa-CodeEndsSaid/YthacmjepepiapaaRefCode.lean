/- Walks: the reference's CheckCode and Ran. No condition (Ran: of a right filter and call). -/
import Derived.Test.YthacmjepepiapaaRun
namespace Go.Proofs.Ythacmjepepiapaa
open Go.RowKit

theorem slice_ext {b o o' n n' c c' : Nat} (h1 : o = o') (h2 : n = n') (h3 : c = c') : Value.slice (some ⟨b, o, none⟩) n c = .slice (some ⟨b, o', none⟩) n' c' := by subst h1 h2 h3; rfl
set_option maxHeartbeats 2000000 in
theorem ran_ok (v : Value) (l : List TIns) (x : TCall) (D : Nat → Prop) (w : World) (h : RdCode w D v l) (hc : codeE l = 0) :
    Calls Try.prog 16 #[v, callV x] w fun e w' => e = .returned (.tuple #[.int .i64 (run l x).1, .int .i64 (run l x).2]) ∧ Below w.heap.size w w' := by
  obtain ⟨hR, hl⟩ := right_of hc
  have hpos : 0 < l.length := List.length_pos_iff.2 hR.ne
  obtain ⟨a, c, rfl, hlc, hcm, hat⟩ := Sl.form h
  obtain ⟨b, o, rfl, hDb, hb⟩ := hat hpos
  have H := Lib.hid h
  have HR := Lib.hid hR
  clear h hR hc hat
  go_enter Try.func16, Try.ntmps16
  go_wp2_with fail
  go_loopw [0, 6, 7] (fun s n d wr => ∃ (k dn : Nat) (nn : Int), k < l.length ∧ dn ≤ k ∧ s = .slice (some ⟨b, o + k * 4, none⟩) (l.length - k) (c - k) ∧ n = .int .i64 nn ∧ d = .int .i64 (dn + 1) ∧ RunAt x l k nn dn ∧ Below (w.heap.size + 1) (w.alloc (.cells #[.int .i64 x.a0, .int .i64 x.a1, .int .i64 x.a2, .int .i64 x.a3, .int .i64 x.a4] 28)) wr) (fun s _ _ _ => match s with | .slice _ n _ => n | _ => 0)
  case atStart => exact ⟨0, 0, 0, hpos, by omega, by simp, rfl, rfl, RunAt.start x l, Below.refl _ _⟩
  case round =>
    obtain ⟨k, dn, nn, hk, hdn, rfl, rfl, rfl, hrun, hbx⟩ := hrel
    have Hrun := Lib.hid hrun
    have hsz := size_box hbx
    obtain ⟨c0, c1, c2, c3⟩ := RdCode.cells (RdCode.below H.out (bel_box hbx)) hk
    have hcell := box_cells hbx
    obtain ⟨hi, hn4⟩ := HR.out.at_ hk
    have Hn4 := Lib.hid hn4
    clear hrun hn4
    rcases insE_cases hi with ⟨h4, h5, h6, h7, h8⟩ | ⟨h1, h5, h6, h7, h8⟩ | ⟨h23, h5, h6, h7, h8, h9, h10⟩
    · rw [h4] at c0
      have Hr := Lib.hid (Hrun.out.ret hk h4)
      clear hi h4 h5 h6 h7 h8
      go_wp2
      all_goals go_ret2
      all_goals exact ⟨by rw [Hr.out]; simp, bel_alloc (bel_box hbx) _⟩
    · obtain ⟨m, hm⟩ := Int.eq_ofNat_of_zero_le h5
      have Hn := Lib.hid (Hrun.out.load hk h1)
      have hk1 := Hn4.out (by omega)
      rw [h1] at c0
      rw [hm] at c1 Hn
      have hm5 : m < 5 := by omega
      have hcm := hcell m
      rw [cell5 x m hm5] at hcm
      have hcm' : ∀ o, (wr.alloc o).cell? ⟨w.heap.size, m, none⟩ = some (.int .i64 (x.get m)) := fun o => (World.cell?_alloc_lt wr o ⟨w.heap.size, m, none⟩ (show w.heap.size < wr.heap.size by omega)).trans hcm
      clear hi h1 h5 h6 h7 h8 hm hcell Hrun
      go_wp2
      go_roundw
      case rel => exact ⟨k + 1, dn + 1, _, hk1, by omega, slice_ext (by omega) (by omega) (by omega), rfl, by go_num, Hn.out, hbx.trans ((Below.refl _ _).alloc (size_box hbx) _)⟩
      case measure => simp; omega
    · obtain ⟨mb, hmb⟩ := Int.eq_ofNat_of_zero_le h7
      obtain ⟨mc, hmc⟩ := Int.eq_ofNat_of_zero_le h9
      have Hn := Lib.hid (Hrun.out.jump hk h23)
      rw [hmb] at c2
      rw [hmc] at c3
      have hx : Hid (insNext l[k] nn = if (l[k].k = 2 ∧ nn = l[k].a) ∨ (l[k].k = 3 ∧ nn < l[k].a) then mb else mc) := by unfold insNext; rw [hmb, hmc]; rfl
      have hb1 : k + 1 + mb < l.length := by omega
      have hb2 : k + 1 + mc < l.length := by omega
      clear hi h5 h6 h7 h8 h9 h10 hmb hmc hcell Hrun
      rcases h23 with h2 | h3
      · rw [h2] at c0
        by_cases he : nn = l[k].a
        · have be : (nn == l[k].a) = true := beq_iff_eq.2 he
          have Hm : Hid (insNext l[k] nn = mb) := by rw [hx.out]; exact if_pos (.inl ⟨h2, he⟩)
          clear he h2 hx
          go_wp2
          go_roundw
          case rel => exact ⟨k + 1 + mb, dn + 1, nn, hb1, by omega, slice_ext (by omega) (by omega) (by omega), rfl, by go_num, by have := Hn.out; rwa [Hm.out] at this, hbx.trans ((Below.refl _ _).alloc (size_box hbx) _)⟩
          case measure => simp; omega
        · have be : (nn == l[k].a) = false := beq_eq_false_iff_ne.2 he
          have Hm : Hid (insNext l[k] nn = mc) := by rw [hx.out]; exact if_neg (by omega)
          clear he h2 hx
          go_wp2
          go_roundw
          case rel => exact ⟨k + 1 + mc, dn + 1, nn, hb2, by omega, slice_ext (by omega) (by omega) (by omega), rfl, by go_num, by have := Hn.out; rwa [Hm.out] at this, hbx.trans ((Below.refl _ _).alloc (size_box hbx) _)⟩
          case measure => simp; omega
      · rw [h3] at c0
        by_cases he : nn < l[k].a
        · have Hm : Hid (insNext l[k] nn = mb) := by rw [hx.out]; exact if_pos (.inr ⟨h3, he⟩)
          clear h3 hx
          go_wp2
          go_roundw
          case rel => exact ⟨k + 1 + mb, dn + 1, nn, hb1, by omega, slice_ext (by omega) (by omega) (by omega), rfl, by go_num, by have := Hn.out; rwa [Hm.out] at this, hbx.trans ((Below.refl _ _).alloc (size_box hbx) _)⟩
          case measure => simp; omega
        · have Hm : Hid (insNext l[k] nn = mc) := by rw [hx.out]; exact if_neg (by omega)
          clear h3 hx
          go_wp2
          go_roundw
          case rel => exact ⟨k + 1 + mc, dn + 1, nn, hb2, by omega, slice_ext (by omega) (by omega) (by omega), rfl, by go_num, by have := Hn.out; rwa [Hm.out] at this, hbx.trans ((Below.refl _ _).alloc (size_box hbx) _)⟩
          case measure => simp; omega

set_option maxHeartbeats 4000000 in
theorem rcheckcode_any (v : Value) (l : List TIns) (D : Nat → Prop) (w : World) (h : RdCode w D v l) : Calls Try.prog 13 #[v] w fun e w' => e = .returned (.int .i64 (codeE l)) ∧ Below w.heap.size w w' := by
  obtain ⟨a, c, rfl, hlc, hcm, hat⟩ := Sl.form h
  have H := Lib.hid h
  clear h
  by_cases h0 : ¬ (1 ≤ (l.length : Int) ∧ (l.length : Int) ≤ 1500)
  · have d := inB_no h0
    have hs : codeE l = 2 := if_pos (by omega)
    rw [hs]; clear hs hat H h0
    go_enter Try.func13, Try.ntmps13
    go_wp2_with (go_at_call 19; refine (in_any _ _ _ _).mono ?_; rintro e w1 ⟨rfl, rfl⟩)
    go_ret
    exact ⟨rfl, Below.refl _ _⟩
  · obtain ⟨b, o, rfl, hDb, hb⟩ := hat (by omega)
    have d := inB_yes (n := (l.length : Int)) (a := 1) (b := 1500) (by omega) (by omega)
    have hE := Lib.hid (show codeE l = if codeGo l ≠ 0 then codeGo l else if lastK l = 4 then 0 else 4 from if_neg (by omega))
    have h1 : 1 ≤ l.length := by omega
    clear hat h0
    go_enter Try.func13, Try.ntmps13
    go_wp2_with (go_at_call 19; refine (in_any _ _ _ _).mono ?_; rintro e w1 ⟨rfl, rfl⟩)
    go_loopw [14] (fun i wr => ∃ k : Nat, k ≤ l.length ∧ i = .int .i64 k ∧ codeGo l = codeGo (l.drop k) ∧ Below w.heap.size w wr) (fun i _ => l.length - (intOf i).toNat)
    case atStart => exact ⟨0, by omega, rfl, rfl, Below.refl _ _⟩
    case round =>
      obtain ⟨k, hk, rfl, hgo, hbw⟩ := hrel
      have Hgo := Lib.hid hgo
      clear hgo d
      by_cases hlt : k < l.length
      · obtain ⟨c0, c1, c2, c3⟩ := RdCode.cells (RdCode.below H.out hbw) hlt
        have hsz := hbw.size
        have bad : ∀ e : Int, insE l[k] ((l.length : Int) - 1 - k) = e → e ≠ 0 → ∀ wz, Below w.heap.size w wz → Ending.returned (.int .i64 e) = .returned (.int .i64 (codeE l)) ∧ Below w.heap.size w wz := fun e he h0 wz hz => by
          refine ⟨ret_int ?_, hz⟩
          rw [hE.out, Hgo.out, codeGo_drop l k hlt, he, if_neg h0, if_pos h0]
        have good : insE l[k] ((l.length : Int) - 1 - k) = 0 → codeGo l = codeGo (l.drop (k + 1)) := fun he => by rw [Hgo.out, codeGo_drop l k hlt, if_pos he]
        have hx := Lib.hid (show insE l[k] ((l.length : Int) - 1 - k) = _ from rfl)
        generalize hX : l[k] = X at *
        clear hX hx
        obtain ⟨xk, xa, xb, xc⟩ := X
        dsimp only at c0 c1 c2 c3
        have Hbad := Lib.hid bad
        have Hgood := Lib.hid good
        clear bad good
        by_cases hA : xk = 1 ∨ xk = 4
        · by_cases hbz : xb = 0
          · subst hbz
            by_cases hcz : xc = 0
            · subst hcz
              by_cases ha : 0 ≤ xa ∧ xa ≤ 4
              · have d := inB_yes ha.1 ha.2
                have Hg := Lib.hid (Hgood.out (by simp [insE, hA]; omega))
                clear Hbad Hgood ha
                rcases hA with rfl | rfl
                · go_wp2_with (go_at_call 19; refine (in_any _ _ _ _).mono ?_; rintro e w1 ⟨rfl, rfl⟩)
                  go_roundw
                  case rel => exact ⟨k + 1, by omega, by go_num, Hg.out, bel_alloc hbw _⟩
                  case measure => simp [intOf]; omega
                · go_wp2_with (go_at_call 19; refine (in_any _ _ _ _).mono ?_; rintro e w1 ⟨rfl, rfl⟩)
                  go_roundw
                  case rel => exact ⟨k + 1, by omega, by go_num, Hg.out, bel_alloc hbw _⟩
                  case measure => simp [intOf]; omega
              · have d := inB_no ha
                have Hb := Lib.hid (Hbad.out 3 (by simp only [insE, hA]; simp; omega) (by decide))
                clear Hbad Hgood ha
                rcases hA with rfl | rfl
                · go_wp2_with (go_at_call 19; refine (in_any _ _ _ _).mono ?_; rintro e w1 ⟨rfl, rfl⟩)
                  go_ret
                  exact Hb.out _ (bel_alloc hbw _)
                · go_wp2_with (go_at_call 19; refine (in_any _ _ _ _).mono ?_; rintro e w1 ⟨rfl, rfl⟩)
                  go_ret
                  exact Hb.out _ (bel_alloc hbw _)
            · have bz : (xc != 0) = true := bne_iff_ne.2 hcz
              have Hb := Lib.hid (Hbad.out 4 (by simp [insE, hA, hcz]) (by decide))
              clear Hbad Hgood hcz
              rcases hA with rfl | rfl
              · go_wp2_with (go_at_call 19; refine (in_any _ _ _ _).mono ?_; rintro e w1 ⟨rfl, rfl⟩)
                go_ret
                exact Hb.out _ (bel_alloc hbw _)
              · go_wp2_with (go_at_call 19; refine (in_any _ _ _ _).mono ?_; rintro e w1 ⟨rfl, rfl⟩)
                go_ret
                exact Hb.out _ (bel_alloc hbw _)
          · have bz : (xb != 0) = true := bne_iff_ne.2 hbz
            have Hb := Lib.hid (Hbad.out 4 (by simp [insE, hA, hbz]) (by decide))
            clear Hbad Hgood hbz
            rcases hA with rfl | rfl
            · go_wp2_with (go_at_call 19; refine (in_any _ _ _ _).mono ?_; rintro e w1 ⟨rfl, rfl⟩)
              go_ret
              exact Hb.out _ (bel_alloc hbw _)
            · go_wp2_with (go_at_call 19; refine (in_any _ _ _ _).mono ?_; rintro e w1 ⟨rfl, rfl⟩)
              go_ret
              exact Hb.out _ (bel_alloc hbw _)
        · by_cases hB : xk = 2 ∨ xk = 3
          · have hA1 : ¬ (xk = 1) := fun e => hA (.inl e)
            have hA4 : ¬ (xk = 4) := fun e => hA (.inr e)
            by_cases ha : 0 ≤ xa ∧ xa ≤ 65535
            · have d := inB_yes ha.1 ha.2
              have Hgood' : Hid (0 ≤ xb ∧ xb < (l.length : Int) - 1 - k → 0 ≤ xc ∧ xc < (l.length : Int) - 1 - k → codeGo l = codeGo (l.drop (k + 1))) := fun h1 h2 => Hgood.out (by simp only [insE, if_neg hA, if_pos hB]; rw [if_neg (by omega), if_neg (by omega)])
              have Hbad' : Hid (¬ (0 ≤ xb ∧ xb < (l.length : Int) - 1 - k) ∨ ¬ (0 ≤ xc ∧ xc < (l.length : Int) - 1 - k) → ∀ wz, Below w.heap.size w wz → Ending.returned (.int .i64 5) = .returned (.int .i64 (codeE l)) ∧ Below w.heap.size w wz) := fun h1 => Hbad.out 5 (by simp only [insE, if_neg hA, if_pos hB]; rw [if_neg (by omega), if_pos (by omega)]) (by decide)
              clear Hbad Hgood ha hA hA1 hA4
              rcases hB with rfl | rfl
              · go_wp2_with (go_at_call 19; refine (in_any _ _ _ _).mono ?_; rintro e w1 ⟨rfl, rfl⟩)
                go_loop [54] (fun i => ∃ j : Nat, j ≤ 2 ∧ i = .int .i64 j ∧ Hid (1 ≤ j → 0 ≤ xb ∧ xb < (l.length : Int) - 1 - k) ∧ Hid (2 ≤ j → 0 ≤ xc ∧ xc < (l.length : Int) - 1 - k)) (fun i => 2 - (intOf i).toNat)
                case atStart => exact ⟨0, by omega, rfl, fun h => absurd h (by omega), fun h => absurd h (by omega)⟩
                case round =>
                  obtain ⟨j, hj, rfl, hj1, hj2⟩ := hrel
                  have hjj : j = 0 ∨ j = 1 ∨ j = 2 := by omega
                  rcases hjj with rfl | rfl | rfl
                  · by_cases hq : 0 ≤ xb ∧ xb < (l.length : Int) - 1 - k
                    · have Hq := Lib.hid hq
                      obtain ⟨hq1, hq2⟩ := hq
                      go_wp2
                      go_round
                      case rel => exact ⟨1, by omega, rfl, fun _ => Hq.out, fun h => absurd h (by omega)⟩
                      case measure => simp [intOf]
                    · have Hf := Lib.hid (Hbad'.out (.inl hq))
                      by_cases hq1 : xb < 0
                      · clear hq
                        go_wp2
                        go_ret
                        exact Hf.out _ (bel_alloc (bel_alloc hbw _) _)
                      · have hq2 : (l.length : Int) - 1 - k ≤ xb := by omega
                        clear hq
                        go_wp2
                        go_ret
                        exact Hf.out _ (bel_alloc (bel_alloc hbw _) _)
                  · by_cases hq : 0 ≤ xc ∧ xc < (l.length : Int) - 1 - k
                    · have Hq := Lib.hid hq
                      obtain ⟨hq1, hq2⟩ := hq
                      go_wp2
                      go_round
                      case rel => exact ⟨2, by omega, rfl, fun _ => hj1.out (by omega), fun _ => Hq.out⟩
                      case measure => simp [intOf]
                    · have Hf := Lib.hid (Hbad'.out (.inr hq))
                      by_cases hq1 : xc < 0
                      · clear hq
                        go_wp2
                        go_ret
                        exact Hf.out _ (bel_alloc (bel_alloc hbw _) _)
                      · have hq2 : (l.length : Int) - 1 - k ≤ xc := by omega
                        clear hq
                        go_wp2
                        go_ret
                        exact Hf.out _ (bel_alloc (bel_alloc hbw _) _)
                  · have Hg := Lib.hid (Hgood'.out (hj1.out (by omega)) (hj2.out (by omega)))
                    go_wp2
                    go_roundw
                    case rel => exact ⟨k + 1, by omega, by go_num, Hg.out, bel_alloc (bel_alloc hbw _) _⟩
                    case measure => simp [intOf]; omega
              · go_wp2_with (go_at_call 19; refine (in_any _ _ _ _).mono ?_; rintro e w1 ⟨rfl, rfl⟩)
                go_loop [54] (fun i => ∃ j : Nat, j ≤ 2 ∧ i = .int .i64 j ∧ Hid (1 ≤ j → 0 ≤ xb ∧ xb < (l.length : Int) - 1 - k) ∧ Hid (2 ≤ j → 0 ≤ xc ∧ xc < (l.length : Int) - 1 - k)) (fun i => 2 - (intOf i).toNat)
                case atStart => exact ⟨0, by omega, rfl, fun h => absurd h (by omega), fun h => absurd h (by omega)⟩
                case round =>
                  obtain ⟨j, hj, rfl, hj1, hj2⟩ := hrel
                  have hjj : j = 0 ∨ j = 1 ∨ j = 2 := by omega
                  rcases hjj with rfl | rfl | rfl
                  · by_cases hq : 0 ≤ xb ∧ xb < (l.length : Int) - 1 - k
                    · have Hq := Lib.hid hq
                      obtain ⟨hq1, hq2⟩ := hq
                      go_wp2
                      go_round
                      case rel => exact ⟨1, by omega, rfl, fun _ => Hq.out, fun h => absurd h (by omega)⟩
                      case measure => simp [intOf]
                    · have Hf := Lib.hid (Hbad'.out (.inl hq))
                      by_cases hq1 : xb < 0
                      · clear hq
                        go_wp2
                        go_ret
                        exact Hf.out _ (bel_alloc (bel_alloc hbw _) _)
                      · have hq2 : (l.length : Int) - 1 - k ≤ xb := by omega
                        clear hq
                        go_wp2
                        go_ret
                        exact Hf.out _ (bel_alloc (bel_alloc hbw _) _)
                  · by_cases hq : 0 ≤ xc ∧ xc < (l.length : Int) - 1 - k
                    · have Hq := Lib.hid hq
                      obtain ⟨hq1, hq2⟩ := hq
                      go_wp2
                      go_round
                      case rel => exact ⟨2, by omega, rfl, fun _ => hj1.out (by omega), fun _ => Hq.out⟩
                      case measure => simp [intOf]
                    · have Hf := Lib.hid (Hbad'.out (.inr hq))
                      by_cases hq1 : xc < 0
                      · clear hq
                        go_wp2
                        go_ret
                        exact Hf.out _ (bel_alloc (bel_alloc hbw _) _)
                      · have hq2 : (l.length : Int) - 1 - k ≤ xc := by omega
                        clear hq
                        go_wp2
                        go_ret
                        exact Hf.out _ (bel_alloc (bel_alloc hbw _) _)
                  · have Hg := Lib.hid (Hgood'.out (hj1.out (by omega)) (hj2.out (by omega)))
                    go_wp2
                    go_roundw
                    case rel => exact ⟨k + 1, by omega, by go_num, Hg.out, bel_alloc (bel_alloc hbw _) _⟩
                    case measure => simp [intOf]; omega
            · have d := inB_no ha
              have Hb := Lib.hid (Hbad.out 3 (by simp only [insE, if_neg hA, if_pos hB]; rw [if_pos (by omega)]) (by decide))
              clear Hbad Hgood ha hA hA1 hA4
              rcases hB with rfl | rfl
              · go_wp2_with (go_at_call 19; refine (in_any _ _ _ _).mono ?_; rintro e w1 ⟨rfl, rfl⟩)
                go_ret
                exact Hb.out _ (bel_alloc hbw _)
              · go_wp2_with (go_at_call 19; refine (in_any _ _ _ _).mono ?_; rintro e w1 ⟨rfl, rfl⟩)
                go_ret
                exact Hb.out _ (bel_alloc hbw _)
          · have e1 : (xk == 1) = false := beq_eq_false_iff_ne.2 (by omega)
            have e2 : (xk == 2) = false := beq_eq_false_iff_ne.2 (by omega)
            have e3 : (xk == 3) = false := beq_eq_false_iff_ne.2 (by omega)
            have e4 : (xk == 4) = false := beq_eq_false_iff_ne.2 (by omega)
            have Hb := Lib.hid (Hbad.out 4 (by simp only [insE, if_neg hA, if_neg hB]) (by decide))
            clear Hbad Hgood hA hB
            go_wp2
            go_ret
            exact Hb.out _ (bel_alloc hbw _)
      · obtain rfl : k = l.length := by omega
        have hz : codeGo l = 0 := by rw [Hgo.out, List.drop_length]; rfl
        have Hz := Lib.hid hz
        have hl1 : l.length - 1 < l.length := by omega
        obtain ⟨c0, _, _, _⟩ := RdCode.cells (RdCode.below H.out hbw) hl1
        have Hl := Lib.hid (lastK_eq l (by omega))
        clear hz
        by_cases h4 : l[l.length - 1].k = 4
        · rw [h4] at c0
          have Hf := Lib.hid (show codeE l = 0 by rw [hE.out, Hz.out, Hl.out, h4]; simp)
          clear h4
          go_wp2
          go_ret
          exact ⟨ret_int Hf.out.symm, hbw⟩
        · have b4 : (l[l.length - 1].k != 4) = true := bne_iff_ne.2 h4
          have Hf := Lib.hid (show codeE l = 4 by rw [hE.out, Hz.out, Hl.out, if_neg h4]; simp)
          clear h4
          go_wp2
          go_ret
          exact ⟨ret_int Hf.out.symm, hbw⟩
end Go.Proofs.Ythacmjepepiapaa
