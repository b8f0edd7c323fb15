/- WorldTight returns true at every script, number and call. Condition: Laid. -/
import Derived.Test.YthkgjohhbdipcaaGreatDoorK14
import Derived.Test.YthkgjohhbdipcaaGreatDoorK15
import Derived.Test.YthkgjohhbdipcaaGreatDoorK5
namespace Go.Proofs.YthkgjohhbdipcaaGreatDoor
open Go.RowKit
attribute [local go_sem] gives givesUpon

/-- the loop: the call in the first box, the world in box bw. -/
structure TlI (w wr : World) (bw : Nat) (x : TCall) (t : TWorld) (c u v : Value) : Prop where
  bx : Bx w [.cells #[.int .i64 x.a0, .int .i64 x.a1, .int .i64 x.a2, .int .i64 x.a3, .int .i64 x.a4] 46] wr
  ge : w.heap.size + 1 ≤ bw
  box : wr.heap[bw]? = some (.cells #[c, u, v, .bool t.up] 27)
  rd : RdWorld wr (fun b => b ≠ bw) c u v t
theorem TlI.below {w wr w' : World} {bw : Nat} {x : TCall} {t : TWorld} {c u v : Value} (h : TlI w wr bw x t c u v) (hb : Below wr.heap.size wr w') : TlI w w' bw x t c u v := ⟨h.bx.below hb, h.ge, blk_below h.box hb, RdWorld.below h.rd hb⟩
theorem TlI.put {w wr : World} {bw : Nat} {x : TCall} {t s : TWorld} {c u v c' u' v' : Value} (h : TlI w wr bw x t c u v) (hr : RdWorld wr (fun b => b ≠ bw) c' u' v' s) : TlI w ((((wr.setCell ⟨bw, 0, none⟩ c').setCell ⟨bw, 1, none⟩ u').setCell ⟨bw, 2, none⟩ v').setCell ⟨bw, 3, none⟩ (.bool s.up)) bw x s c' u' v' := by
  have hg := puts4_grow (W := wr) (b := bw) c' u' v' (.bool s.up)
  exact ⟨Bx.grownB h.bx hg (by have := h.ge; simpa using this), h.ge, puts4_at c' u' v' (.bool s.up) h.box, RdWorld.keep hr (fun _ hk _ => hk) (fun k hk hl => grow_keep hg hl hk) hg.size⟩
set_option maxRecDepth 100000 in
set_option maxHeartbeats 32000000 in
theorem worldTight_walk {w : World} (hL : Laid w) (v0 : Value) (l : List THap) (rd0 : RdHaps w (fun _ => True) v0 l) (cl : Int) (x : TCall) :
    Calls Tryz.prog 8 #[v0, .int .i64 cl, callV x] w fun e w' => e = .returned (.bool true) ∧ Below w.heap.size w w' := by
  have HL := Lib.hid hL
  have H := Lib.hid rd0
  obtain ⟨a, c, rfl, hlc, hcm, hat⟩ := Sl.form rd0
  have Hat := Lib.hid hat
  obtain ⟨j, hj⟩ : ∃ j, cl % 4 = j := ⟨_, rfl⟩
  have Hj : Hid (0 ≤ j ∧ j < 4) := by
    have h1 := Int.emod_nonneg cl (show (4 : Int) ≠ 0 by omega)
    have h2 := Int.emod_lt_of_pos cl (show (0 : Int) < 4 by omega)
    exact ⟨by omega, by omega⟩
  have HJ := Lib.hid hj
  clear hL rd0 hat hj
  go_enter Tryz.func8, Tryz.ntmps8
  go_wp2_with fail
  have HB := Lib.hid (Bx.one (w := w) (o := .cells #[.int .i64 x.a0, .int .i64 x.a1, .int .i64 x.a2, .int .i64 x.a3, .int .i64 x.a4] 46))
  refine (right_any x _).mono ?_
  rintro e w1 ⟨rfl, hb1⟩
  replace HB := Lib.hid (HB.out.below hb1)
  have hq0 := HB.out.cells0
  have hfr := HB.out.free0
  have HB1 := Lib.hid (HB.out.put5 (.int .i64 x.right.a0) (.int .i64 x.right.a1) (.int .i64 x.right.a2) (.int .i64 x.right.a3) (.int .i64 x.right.a4) rfl)
  clear hb1
  have hset0 := HB1.out.cells0
  go_wp2_with fail
  clear hq0
  clear hfr hset0 HB
  revert HB1
  generalize (((((w1.setCell ⟨w.heap.size, 0, none⟩ (.int .i64 x.right.a0)).setCell ⟨w.heap.size, 1, none⟩ (.int .i64 x.right.a1)).setCell ⟨w.heap.size, 2, none⟩ (.int .i64 x.right.a2)).setCell ⟨w.heap.size, 3, none⟩ (.int .i64 x.right.a3)).setCell ⟨w.heap.size, 4, none⟩ (.int .i64 x.right.a4)) = w2
  intro HB
  refine (at_any cl 4 _ (by omega) (by omega)).mono ?_
  rw [HJ.out]
  rintro e w3 ⟨rfl, hww⟩
  subst hww
  go_wp2_with fail
  refine (kept_walk _ (HL.out.below HB.out.bel)).mono ?_
  rintro e w4 ⟨rfl, hb4⟩
  replace HB := Lib.hid (HB.out.below hb4)
  clear hb4
  go_wp2_with fail
  refine (wnew_any _).mono ?_
  rintro e w5 ⟨cn, rfl, hr5, hb5⟩
  obtain ⟨n0, m0, rfl, _⟩ := Sl.form hr5.cells
  have HB5 := HB.out.below hb5
  have HI : Hid (TlI w (w5.alloc (.cells #[.slice n0 newWorld.cells.length m0, .slice none 0 0, .slice none 0 0, .bool true] 27)) w5.heap.size x.right newWorld (.slice n0 newWorld.cells.length m0) (.slice none 0 0) (.slice none 0 0)) := ⟨HB5.alloc _, by have := HB5.top; simpa using this, heap_last _ _, RdWorld.below (RdWorld.keep hr5 (fun k _ hl => by show k ≠ _; omega) (fun _ _ _ => rfl) (Nat.le_refl _)) (bel_alloc (Below.refl _ _) _)⟩
  clear hr5 hb5 HB HB5
  obtain ⟨m, hm⟩ : ∃ m, min l.length 20 = m := ⟨_, rfl⟩
  have hmi : min (l.length : Int) 20 = (m : Int) := by omega
  have hml : m ≤ l.length := by omega
  have Hml := Lib.hid hml
  clear hm
  go_wp2_with fail
  revert HI
  generalize (w5.alloc (.cells #[.slice n0 newWorld.cells.length m0, .slice none 0 0, .slice none 0 0, .bool true] 27)) = w6
  generalize w5.heap.size = bw
  intro HI
  go_loopw [8, 27] (fun mv kv wr => ∃ (k : Nat) (t : TWorld) (mo : Int) (c u v : Value), kv = .int .i64 k ∧ mv = .int .i64 mo ∧ k ≤ m ∧ Told t j x.right mo ∧ TlI w wr bw x.right t c u v) (fun _ kv _ => m - (intOf kv).toNat)
  case atStart => exact ⟨0, newWorld, -1, _, _, _, rfl, rfl, by omega, told_new _ _, HI.out⟩
  case round =>
    obtain ⟨k, t, mo, c', u, v, rfl, rfl, hk, htold, hI⟩ := hrel
    clear HI
    have HI := Lib.hid hI
    have HTO := Lib.hid htold
    obtain ⟨b0, g0, rfl, _⟩ := Sl.form hI.rd.cells
    obtain ⟨b1, g1, rfl, _⟩ := Sl.form hI.rd.disk.1
    obtain ⟨b2, g2, rfl, _⟩ := Sl.form hI.rd.disk.2
    clear hI htold
    by_cases hlt : k < m
    · have hlt' : k < l.length := by have := Hml.out; omega
      have Hkm : Hid (k + 1 ≤ m) := hlt
      obtain ⟨b, o, rfl, _, _⟩ := Hat.out (by omega)
      obtain ⟨a3, c3, x0, x1, x2, x3, x4, hp⟩ := RdHaps.cells (H.out.below HI.out.bx.bel) hlt'
      have Hp := Lib.hid hp
      have HA0 := Lib.hid (bel_alloc (Below.refl wr.heap.size wr) (.cells #[.int .i64 l[k].kind, .int .i64 l[k].cell, .int .i64 l[k].from_, .slice a3 l[k].p.rules.length c3, .int .i64 l[k].p.dflt] 40))
      have Hx0 := Lib.hid (heap_last wr (.cells #[.int .i64 l[k].kind, .int .i64 l[k].cell, .int .i64 l[k].from_, .slice a3 l[k].p.rules.length c3, .int .i64 l[k].p.dflt] 40))
      have HI1 := Lib.hid (HI.out.below HA0.out)
      have hqw := cells_of HI1.out.box
      clear hp
      go_wp2_with fail
      refine (wdo_any _ _ _ _ t l[k] _ _ _ HI1.out.rd (RdRules.below Hp.out HA0.out) (HL.out.below HI1.out.bx.bel)).mono ?_
      obtain ⟨⟨s, de⟩, hd⟩ : ∃ E, doE t l[k] = E := ⟨_, rfl⟩
      have HD := Lib.hid hd
      rw [hd]
      rintro e w2 ⟨c', u', v', rfl, hr2, hb2⟩
      dsimp only at hr2
      obtain ⟨z0, q0, rfl, _⟩ := Sl.form hr2.cells
      obtain ⟨z1, q1, rfl, _⟩ := Sl.form hr2.disk.1
      obtain ⟨z2, q2, rfl, _⟩ := Sl.form hr2.disk.2
      dsimp only
      obtain ⟨ub, hub⟩ : ∃ ub, s.up = ub := ⟨_, rfl⟩
      rw [hub]
      have Hu := Lib.hid hub
      clear hub
      have HA2 := Lib.hid (bel_alloc (Below.refl w2.heap.size w2) (.cells #[.slice z0 s.cells.length q0, .slice z1 s.d.safe.length q1, .slice z2 s.d.wait.length q2, .bool ub] 27))
      have HI3 := Lib.hid ((HI1.out.below hb2).below HA2.out)
      have Hx3 := Lib.hid (blk_below (blk_below Hx0.out hb2) HA2.out)
      have Hr3 := Lib.hid (RdWorld.below (RdWorld.keep (D' := fun b => b ≠ bw) hr2 (fun k hk _ => by
        have h1 : _ ≤ k := hk
        have h2 := (Array.getElem?_eq_some_iff.1 HI1.out.box).1
        show k ≠ bw
        omega) (fun _ _ _ => rfl) (Nat.le_refl _)) HA2.out)
      have Hbh : Hid (wr.heap.size ≠ bw) := by
        have h2 := (Array.getElem?_eq_some_iff.1 HI.out.box).1
        show _ ≠ _
        omega
      clear hqw hd hr2 hb2 x0 x1 x2 x3 x4 HA0 HA2
      by_cases h0 : de = 0
      · subst h0
        have HT1 : Hid (Told s j x.right (if l[k].kind = 4 ∧ l[k].cell = j then -1 else mo)) := by
          have := told_next HTO.out Hj.out x.right_ok (y := l[k]) (by rw [HD.out])
          rw [HD.out] at this
          exact this
        have hI4 := HI3.out.put Hr3.out
        rw [Hu.out] at hI4
        have HI4 := Lib.hid hI4
        clear hI4
        have Hx4 := Lib.hid ((grow_keep (puts4_grow (W := w2.alloc (.cells #[.slice z0 s.cells.length q0, .slice z1 s.d.safe.length q1, .slice z2 s.d.wait.length q2, .bool ub] 27)) (b := bw) (.slice z0 s.cells.length q0) (.slice z1 s.d.safe.length q1) (.slice z2 s.d.wait.length q2) (.bool ub)) (Array.getElem?_eq_some_iff.1 Hx3.out).1 Hbh.out).trans Hx3.out)
        have hqo := cells_of HI3.out.box
        have hfo := not_frozen HI3.out.box
        have hqx := cells_of Hx4.out
        have hqw := cells_of HI4.out.box
        rw [Hu.out] at hqw
        have hq0 := HI4.out.bx.cells0
        by_cases h4 : l[k].kind = 4
        · by_cases hc : l[k].cell = j
          · have HT : Hid (Told s j x.right (-1)) := by have := HT1.out; rw [if_pos ⟨h4, hc⟩] at this; exact this
            have hb4 : (l[k].kind == 4) = true := beq_iff_eq.2 h4
            have hbc : (l[k].cell == j) = true := beq_iff_eq.2 hc
            clear h4 hc
            cases ub with
            | false =>
              go_wp2
              go_roundw
              case rel => exact ⟨k + 1, s, (-1), _, _, _, by go_num, rfl, by have := Hkm.out; omega, HT.out, HI4.out⟩
              case measure => simp [intOf]; have := Hkm.out; omega
            | true =>
              have HA := Lib.hid (told_ask HT.out Hj.out x.right_ok Hu.out)
              go_wp2_with fail
              clear hqw hq0
              refine (wask_at _ _ _ s j x.right _ _ Hu.out HI4.out.rd (HL.out.below HI4.out.bx.bel)).mono ?_
              obtain ⟨⟨av, ae⟩, hae⟩ : ∃ E, wAskE s j x.right = E := ⟨_, rfl⟩
              rw [hae] at HA ⊢
              clear hae
              dsimp only at HA
              rintro e w5 ⟨rfl, hb5⟩
              have HI5 := Lib.hid (HI4.out.below hb5)
              clear hb5
              dsimp only
              rcases HA.out with ⟨h6, hmo⟩ | ⟨h6, hle, htold⟩
              · subst h6
                have hmb : ((-1) == -1) = true := by first | rfl | (rw [hmo]; rfl)
                clear hmo
                go_wp2
                go_roundw
                case rel => exact ⟨k + 1, s, (-1), _, _, _, by go_num, rfl, by have := Hkm.out; omega, HT.out, HI5.out⟩
                case measure => simp [intOf]; have := Hkm.out; omega
              · subst h6
                have HT' : Hid (Told s j x.right av) := htold
                by_cases hm0 : (0 : Int) ≤ (-1)
                · have hav : ¬ (-1) < av := by omega
                  clear htold hle
                  go_wp2
                  go_roundw
                  case rel => exact ⟨k + 1, s, av, _, _, _, by go_num, rfl, by have := Hkm.out; omega, HT'.out, HI5.out⟩
                  case measure => simp [intOf]; have := Hkm.out; omega
                · clear htold hle
                  go_wp2
                  go_roundw
                  case rel => exact ⟨k + 1, s, av, _, _, _, by go_num, rfl, by have := Hkm.out; omega, HT'.out, HI5.out⟩
                  case measure => simp [intOf]; have := Hkm.out; omega
          · have HT : Hid (Told s j x.right mo) := by have := HT1.out; rw [if_neg (fun e => hc e.2)] at this; exact this
            have hb4 : (l[k].kind == 4) = true := beq_iff_eq.2 h4
            have hbc : (l[k].cell == j) = false := beq_eq_false_iff_ne.2 hc
            clear h4 hc
            cases ub with
            | false =>
              go_wp2
              go_roundw
              case rel => exact ⟨k + 1, s, mo, _, _, _, by go_num, rfl, by have := Hkm.out; omega, HT.out, HI4.out⟩
              case measure => simp [intOf]; have := Hkm.out; omega
            | true =>
              have HA := Lib.hid (told_ask HT.out Hj.out x.right_ok Hu.out)
              go_wp2_with fail
              clear hqw hq0
              refine (wask_at _ _ _ s j x.right _ _ Hu.out HI4.out.rd (HL.out.below HI4.out.bx.bel)).mono ?_
              obtain ⟨⟨av, ae⟩, hae⟩ : ∃ E, wAskE s j x.right = E := ⟨_, rfl⟩
              rw [hae] at HA ⊢
              clear hae
              dsimp only at HA
              rintro e w5 ⟨rfl, hb5⟩
              have HI5 := Lib.hid (HI4.out.below hb5)
              clear hb5
              dsimp only
              rcases HA.out with ⟨h6, hmo⟩ | ⟨h6, hle, htold⟩
              · subst h6
                have hmb : (mo == -1) = true := by first | rfl | (rw [hmo]; rfl)
                clear hmo
                go_wp2
                go_roundw
                case rel => exact ⟨k + 1, s, mo, _, _, _, by go_num, rfl, by have := Hkm.out; omega, HT.out, HI5.out⟩
                case measure => simp [intOf]; have := Hkm.out; omega
              · subst h6
                have HT' : Hid (Told s j x.right av) := htold
                by_cases hm0 : (0 : Int) ≤ mo
                · have hav : ¬ mo < av := by omega
                  clear htold hle
                  go_wp2
                  go_roundw
                  case rel => exact ⟨k + 1, s, av, _, _, _, by go_num, rfl, by have := Hkm.out; omega, HT'.out, HI5.out⟩
                  case measure => simp [intOf]; have := Hkm.out; omega
                · clear htold hle
                  go_wp2
                  go_roundw
                  case rel => exact ⟨k + 1, s, av, _, _, _, by go_num, rfl, by have := Hkm.out; omega, HT'.out, HI5.out⟩
                  case measure => simp [intOf]; have := Hkm.out; omega
        · have HT : Hid (Told s j x.right mo) := by have := HT1.out; rw [if_neg (fun e => h4 e.1)] at this; exact this
          have hb4 : (l[k].kind == 4) = false := beq_eq_false_iff_ne.2 h4
          clear h4
          cases ub with
          | false =>
            go_wp2
            go_roundw
            case rel => exact ⟨k + 1, s, mo, _, _, _, by go_num, rfl, by have := Hkm.out; omega, HT.out, HI4.out⟩
            case measure => simp [intOf]; have := Hkm.out; omega
          | true =>
            have HA := Lib.hid (told_ask HT.out Hj.out x.right_ok Hu.out)
            go_wp2_with fail
            clear hqw hq0
            refine (wask_at _ _ _ s j x.right _ _ Hu.out HI4.out.rd (HL.out.below HI4.out.bx.bel)).mono ?_
            obtain ⟨⟨av, ae⟩, hae⟩ : ∃ E, wAskE s j x.right = E := ⟨_, rfl⟩
            rw [hae] at HA ⊢
            clear hae
            dsimp only at HA
            rintro e w5 ⟨rfl, hb5⟩
            have HI5 := Lib.hid (HI4.out.below hb5)
            clear hb5
            dsimp only
            rcases HA.out with ⟨h6, hmo⟩ | ⟨h6, hle, htold⟩
            · subst h6
              have hmb : (mo == -1) = true := by first | rfl | (rw [hmo]; rfl)
              clear hmo
              go_wp2
              go_roundw
              case rel => exact ⟨k + 1, s, mo, _, _, _, by go_num, rfl, by have := Hkm.out; omega, HT.out, HI5.out⟩
              case measure => simp [intOf]; have := Hkm.out; omega
            · subst h6
              have HT' : Hid (Told s j x.right av) := htold
              by_cases hm0 : (0 : Int) ≤ mo
              · have hav : ¬ mo < av := by omega
                clear htold hle
                go_wp2
                go_roundw
                case rel => exact ⟨k + 1, s, av, _, _, _, by go_num, rfl, by have := Hkm.out; omega, HT'.out, HI5.out⟩
                case measure => simp [intOf]; have := Hkm.out; omega
              · clear htold hle
                go_wp2
                go_roundw
                case rel => exact ⟨k + 1, s, av, _, _, _, by go_num, rfl, by have := Hkm.out; omega, HT'.out, HI5.out⟩
                case measure => simp [intOf]; have := Hkm.out; omega
      · have hne : (de != 0) = true := bne_iff_ne.2 h0
        clear h0
        go_wp2
        go_roundw
        case rel => exact ⟨k + 1, t, mo, _, _, _, by go_num, rfl, by have := Hkm.out; omega, HTO.out, HI3.out⟩
        case measure => simp [intOf]; have := Hkm.out; omega
    · obtain rfl : k = m := by omega
      go_wp2
      go_ret
      exact ⟨rfl, HI.out.bx.bel⟩
end Go.Proofs.YthkgjohhbdipcaaGreatDoor
