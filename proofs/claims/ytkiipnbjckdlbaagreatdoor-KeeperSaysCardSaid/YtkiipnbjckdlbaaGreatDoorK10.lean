/- Texts laid one behind the other: KCheck, NoteCheck, Mark, PolCopy, Begin, CloneCell, KeepCopy, CellPut. No condition beyond theirs. -/
import Derived.Test.YtkiipnbjckdlbaaGreatDoorK8
import Derived.Test.YtkiipnbjckdlbaaGreatDoorK4
import Derived.Test.YtkiipnbjckdlbaaGreatDoorK2
import Derived.Test.YtkiipnbjckdlbaaGreatDoorK3
import Derived.Test.YtkiipnbjckdlbaaGreatDoorK5
import Derived.Test.YtkiipnbjckdlbaaGreatDoorK7
import Derived.Test.YtkiipnbjckdlbaaGreatDoorK6
import Derived.Test.YtkiipnbjckdlbaaGreatDoorK1
namespace Go.Proofs.YtkiipnbjckdlbaaGreatDoor
open Go.RowKit

set_option maxRecDepth 100000 in
set_option maxHeartbeats 8000000 in
theorem kcheck_any (v : Value) (l : List TCell) (D : Nat → Prop) (w : World) (h : RdCells w D v l) :
    Calls Tryz.prog 33 #[v] w fun e w' => e = .returned (.int .i64 (cellsE l)) ∧ Below w.heap.size w w' := by
  obtain ⟨a, c, rfl, hlc, hcm, hat⟩ := Sl.form h
  have H := Lib.hid h
  clear h
  by_cases h4 : l.length = 4
  · have He := Lib.hid (show cellsE l = cellsGo l by unfold cellsE; rw [if_pos h4])
    have hz : ((l.length : Int) != 4) = false := by simp [h4]
    have H4 := Lib.hid h4
    have hat' := hat (by omega)
    obtain ⟨b, o, rfl, hDb, hb⟩ := hat'
    clear hat h4
    go_enter Tryz.func33, Tryz.ntmps33
    go_wp2_with fail
    go_loopw [12] (fun i wr => ∃ k : Nat, k ≤ l.length ∧ i = .int .i64 k ∧ cellsGo l = cellsGo (l.drop k) ∧ Below w.heap.size w wr) (fun i _ => l.length - (intOf i).toNat)
    case atStart => exact ⟨0, by omega, rfl, rfl, Below.refl _ _⟩
    case round =>
      obtain ⟨k, hk, rfl, hgo, hbw⟩ := hrel
      have Hgo := Lib.hid hgo
      have Hbw := Lib.hid hbw
      clear hgo hbw
      by_cases hlt : k < l.length
      · obtain ⟨a1, a2, c1, c2, k0, k1, k2, k3, hrc, hrp⟩ := RdCells.cells (H.out.below Hbw.out) hlt
        have bad : ∀ e : Int, cellE l[k] = e → e ≠ 0 → ∀ wz, Below w.heap.size w wz → Ending.returned (.int .i64 e) = .returned (.int .i64 (cellsE l)) ∧ Below w.heap.size w wz := fun e he h0 wz hz => by
          refine ⟨ret_int ?_, hz⟩
          rw [He.out, Hgo.out, cellsGo_drop l k hlt, he, if_neg h0]
        have good : cellE l[k] = 0 → cellsGo l = cellsGo (l.drop (k + 1)) := fun he => by rw [Hgo.out, cellsGo_drop l k hlt, if_pos he]
        have Hbad := Lib.hid bad
        have Hgood := Lib.hid good
        clear bad good
        generalize hX : l[k] = X at *
        clear hX
        obtain ⟨op, ch, ⟨rs, d⟩⟩ := X
        dsimp only at k0 k1 k2 k3 hrc hrp
        have Hrc := Lib.hid hrc
        have Hrp := Lib.hid hrp
        have Hsl : Hid (ch.length ≤ 9223372036854775807 ∧ rs.length ≤ 9223372036854775807) := by
          obtain ⟨_, _, hv1, h1, h2, _⟩ := Sl.form hrc
          obtain ⟨_, _, hv2, h3, h4, _⟩ := Sl.form hrp
          exact ⟨by omega, by omega⟩
        clear hrc hrp
        cases op with
        | false =>
          rcases Nat.eq_zero_or_pos ch.length with hc0 | hc0
          · obtain rfl : ch = [] := List.length_eq_zero_iff.1 hc0
            have e1 : ([] : List (List TIns)).length = 0 := rfl
            by_cases hd : d = 0
            · subst hd
              rcases Nat.eq_zero_or_pos rs.length with hr0 | hr0
              · obtain rfl : rs = [] := List.length_eq_zero_iff.1 hr0
                have Hg := Lib.hid (Hgood.out (by unfold cellE; simp [noPol]))
                have e2 : ([] : List TRule).length = 0 := rfl
                go_wp2
                go_roundw
                case rel => exact ⟨k + 1, by omega, by go_num, Hg.out, bel_alloc Hbw.out _⟩
                case measure => simp [intOf]; omega
              · have Hb := Lib.hid (Hbad.out 4 (by unfold cellE; rw [if_neg (by simp), if_neg (by intro h; have := h.2.2; dsimp only at this; rw [this] at hr0; simp at hr0)]) (by decide))
                have z2 : 0 < (rs.length : Int) := by omega
                have z0 : rs ≠ [] := fun e => by rw [e] at hr0; simp at hr0
                clear hc0 hr0
                go_wp2
                go_ret
                exact Hb.out _ (bel_alloc Hbw.out _)
            · have Hb := Lib.hid (Hbad.out 4 (by unfold cellE; rw [if_neg (by simp), if_neg (by intro h; exact hd h.2.1)]) (by decide))
              have z2 : (d != 0) = true := bne_iff_ne.2 hd
              clear hc0 hd
              go_wp2
              go_ret
              exact Hb.out _ (bel_alloc Hbw.out _)
          · have Hb := Lib.hid (Hbad.out 4 (by unfold cellE; rw [if_neg (by simp), if_neg (by intro h; have := h.1; dsimp only at this; rw [this] at hc0; simp at hc0)]) (by decide))
            have z1 : 0 < (ch.length : Int) := by omega
            have z0 : ch ≠ [] := fun e => by rw [e] at hc0; simp at hc0
            clear hc0
            go_wp2
            go_ret
            exact Hb.out _ (bel_alloc Hbw.out _)
        | true =>
          rcases Nat.eq_zero_or_pos ch.length with hc0 | hc0
          · obtain rfl : ch = [] := List.length_eq_zero_iff.1 hc0
            have Hb := Lib.hid (Hbad.out 4 (by unfold cellE; simp) (by decide))
            have e1 : ([] : List (List TIns)).length = 0 := rfl
            clear hc0
            go_wp2
            go_ret
            exact Hb.out _ (bel_alloc Hbw.out _)
          · have hne : ch ≠ [] := fun e => by rw [e] at hc0; simp at hc0
            have Hce : Hid (cellE ⟨true, ch, ⟨rs, d⟩⟩ = if chainE ch ≠ 0 then chainE ch else polE ⟨rs, d⟩) := by show cellE _ = _; unfold cellE; simp [hne]
            have z1 : ((ch.length : Int) == 0) = false := by simpa using (show ¬ (ch.length : Int) = 0 by omega)
            have HC := Lib.hid (Bx.one (w := wr) (o := .cells #[.bool true, .slice a1 ch.length c1, .slice a2 rs.length c2, .int .i64 d] 66))
            have HbC := Lib.hid (bel_call Hbw.out HC.out.bel)
            clear hc0 hne
            go_wp2_with fail
            refine (chcheck_any _ ch D _ (Hrc.out.below HC.out.bel)).mono ?_
            rintro e w1 ⟨rfl, hb1⟩
            have HC1 := Lib.hid (HC.out.below hb1)
            have HbC1 := Lib.hid (bel_call HbC.out hb1)
            have Hrp1 := Lib.hid ((Hrp.out.below HC.out.bel).below hb1)
            clear hb1 HC
            by_cases he : chainE ch = 0
            · rw [he]
              have hq := HC1.out.cells0
              go_wp2_with fail
              refine (polcheck_any _ ⟨rs, d⟩ D _ Hrp1.out).mono ?_
              rintro e w2 ⟨rfl, hb2⟩
              have HbC2 := Lib.hid (bel_call HbC1.out hb2)
              clear hq hb2
              by_cases hp : polE ⟨rs, d⟩ = 0
              · have Hg := Lib.hid (Hgood.out (by rw [Hce.out, if_neg (by simp [he]), hp]))
                rw [hp]
                go_wp2
                go_roundw
                case rel => exact ⟨k + 1, by omega, by go_num, Hg.out, HbC2.out⟩
                case measure => simp [intOf]; omega
              · have Hb := Lib.hid (Hbad.out (polE ⟨rs, d⟩) (by rw [Hce.out, if_neg (by simp [he])]) hp)
                have hp' : (polE ⟨rs, d⟩ != 0) = true := bne_iff_ne.2 hp
                generalize polE ⟨rs, d⟩ = E at Hb hp' ⊢
                clear hp
                go_wp2
                go_ret
                exact Hb.out _ HbC2.out
            · have Hb := Lib.hid (Hbad.out (chainE ch) (by rw [Hce.out, if_pos he]) he)
              have hp' : (chainE ch != 0) = true := bne_iff_ne.2 he
              generalize chainE ch = E at Hb hp' ⊢
              clear he
              go_wp2
              go_ret
              exact Hb.out _ HbC1.out
      · obtain rfl : k = l.length := by omega
        go_wp2
        go_ret
        exact ⟨ret_int (by rw [He.out, Hgo.out, List.drop_length]; rfl), Hbw.out⟩
  · have He := Lib.hid (show cellsE l = 4 by unfold cellsE; rw [if_neg h4])
    have hz : ((l.length : Int) != 4) = true := bne_iff_ne.2 (by omega)
    clear h4 hat
    go_enter Tryz.func33, Tryz.ntmps33
    go_wp2
    go_ret
    exact ⟨ret_int (by rw [He.out]), Below.refl _ _⟩
end Go.Proofs.YtkiipnbjckdlbaaGreatDoor
namespace Go.Proofs.YtkiipnbjckdlbaaGreatDoor
open Go.RowKit

set_option maxRecDepth 100000 in
set_option maxHeartbeats 8000000 in
theorem notecheck_any (v : Value) (r : TRec) (D : Nat → Prop) (w : World) (h : RdRules w D v r.p.rules) :
    Calls Tryz.prog 67 #[recV r v] w fun e w' => e = .returned (.int .i64 (recE r)) ∧ Below w.heap.size w w' := by
  obtain ⟨kd, cl, fr, ⟨rs, d⟩⟩ := r
  dsimp only at h ⊢
  have H := Lib.hid h
  obtain ⟨a, c, rfl, hlc, hcm, hat⟩ := Sl.form h
  clear h
  by_cases k1 : kd < 1
  · have he : recE ⟨kd, cl, fr, ⟨rs, d⟩⟩ = 4 := by unfold recE; dsimp only; rw [if_pos (Or.inl k1)]
    rw [he]; clear he H hat
    go_enter Tryz.func67, Tryz.ntmps67
    go_wp2
    go_ret
    exact ⟨rfl, bel_alloc (Below.refl _ _) _⟩
  · by_cases k2 : 4 < kd
    · have he : recE ⟨kd, cl, fr, ⟨rs, d⟩⟩ = 4 := by unfold recE; dsimp only; rw [if_pos (Or.inr k2)]
      rw [he]; clear he H hat
      go_enter Tryz.func67, Tryz.ntmps67
      go_wp2
      go_ret
      exact ⟨rfl, bel_alloc (Below.refl _ _) _⟩
    · by_cases c1 : cl < 0
      · have he : recE ⟨kd, cl, fr, ⟨rs, d⟩⟩ = 3 := by unfold recE; dsimp only; rw [if_neg (by omega : ¬ (kd < 1 ∨ 4 < kd)), if_pos (by omega)]
        rw [he]; clear he H hat
        go_enter Tryz.func67, Tryz.ntmps67
        go_wp2
        go_ret
        exact ⟨rfl, bel_alloc (Below.refl _ _) _⟩
      · by_cases c2 : 4 ≤ cl
        · have he : recE ⟨kd, cl, fr, ⟨rs, d⟩⟩ = 3 := by unfold recE; dsimp only; rw [if_neg (by omega : ¬ (kd < 1 ∨ 4 < kd)), if_pos (by omega)]
          rw [he]; clear he H hat
          go_enter Tryz.func67, Tryz.ntmps67
          go_wp2
          go_ret
          exact ⟨rfl, bel_alloc (Below.refl _ _) _⟩
        · by_cases c3 : fr < 0
          · have he : recE ⟨kd, cl, fr, ⟨rs, d⟩⟩ = 3 := by unfold recE; dsimp only; rw [if_neg (by omega : ¬ (kd < 1 ∨ 4 < kd)), if_pos (by omega)]
            rw [he]; clear he H hat
            go_enter Tryz.func67, Tryz.ntmps67
            go_wp2
            go_ret
            exact ⟨rfl, bel_alloc (Below.refl _ _) _⟩
          · by_cases c4 : 4 ≤ fr
            · have he : recE ⟨kd, cl, fr, ⟨rs, d⟩⟩ = 3 := by unfold recE; dsimp only; rw [if_neg (by omega : ¬ (kd < 1 ∨ 4 < kd)), if_pos (by omega)]
              rw [he]; clear he H hat
              go_enter Tryz.func67, Tryz.ntmps67
              go_wp2
              go_ret
              exact ⟨rfl, bel_alloc (Below.refl _ _) _⟩
            · by_cases k4 : kd = 3
              · subst k4
                have k3 : (2 : Int) < 3 := by decide
                by_cases d0 : d = 0
                · subst d0
                  rcases Nat.eq_zero_or_pos rs.length with r0 | r0
                  · obtain rfl : rs = [] := List.length_eq_zero_iff.1 r0
                    have e1 : ([] : List TRule).length = 0 := rfl
                    have he : recE ⟨(3 : Int), cl, fr, ⟨[], 0⟩⟩ = 0 := by unfold recE; dsimp only; rw [if_neg (by omega : ¬ ((3 : Int) < 1 ∨ 4 < (3 : Int))), if_neg (by omega : ¬ (cl < 0 ∨ 4 ≤ cl ∨ fr < 0 ∨ 4 ≤ fr)), if_neg (by simp [noPol]; try omega), if_pos k3]
                    rw [he]; clear he H hat
                    go_enter Tryz.func67, Tryz.ntmps67
                    go_wp2
                    go_ret
                    exact ⟨rfl, bel_alloc (Below.refl _ _) _⟩
                  · have z0 : rs ≠ [] := fun e => by rw [e] at r0; simp at r0
                    have z1 : 0 < (rs.length : Int) := by omega
                    clear r0
                    have he : recE ⟨(3 : Int), cl, fr, ⟨rs, 0⟩⟩ = 4 := by unfold recE; dsimp only; rw [if_neg (by omega : ¬ ((3 : Int) < 1 ∨ 4 < (3 : Int))), if_neg (by omega : ¬ (cl < 0 ∨ 4 ≤ cl ∨ fr < 0 ∨ 4 ≤ fr)), if_pos (Or.inr ⟨k3, fun h => z0 h.2⟩)]
                    rw [he]; clear he H hat
                    go_enter Tryz.func67, Tryz.ntmps67
                    go_wp2
                    go_ret
                    exact ⟨rfl, bel_alloc (Below.refl _ _) _⟩
                · have z1 : (d != 0) = true := bne_iff_ne.2 d0
                  have he : recE ⟨(3 : Int), cl, fr, ⟨rs, d⟩⟩ = 4 := by unfold recE; dsimp only; rw [if_neg (by omega : ¬ ((3 : Int) < 1 ∨ 4 < (3 : Int))), if_neg (by omega : ¬ (cl < 0 ∨ 4 ≤ cl ∨ fr < 0 ∨ 4 ≤ fr)), if_pos (Or.inr ⟨k3, fun h => d0 h.1⟩)]
                  rw [he]; clear he H hat
                  go_enter Tryz.func67, Tryz.ntmps67
                  go_wp2
                  go_ret
                  exact ⟨rfl, bel_alloc (Below.refl _ _) _⟩
              · have k4' : (kd != 3) = true := bne_iff_ne.2 k4
                by_cases f0 : fr = 0
                · subst f0
                  by_cases k3 : 2 < kd
                  · by_cases d0 : d = 0
                    · subst d0
                      rcases Nat.eq_zero_or_pos rs.length with r0 | r0
                      · obtain rfl : rs = [] := List.length_eq_zero_iff.1 r0
                        have e1 : ([] : List TRule).length = 0 := rfl
                        have he : recE ⟨kd, cl, (0 : Int), ⟨[], 0⟩⟩ = 0 := by unfold recE; dsimp only; rw [if_neg (by omega : ¬ (kd < 1 ∨ 4 < kd)), if_neg (by omega : ¬ (cl < 0 ∨ 4 ≤ cl ∨ (0 : Int) < 0 ∨ 4 ≤ (0 : Int))), if_neg (by simp [noPol]; try omega), if_pos k3]
                        rw [he]; clear he H hat
                        go_enter Tryz.func67, Tryz.ntmps67
                        go_wp2
                        go_ret
                        exact ⟨rfl, bel_alloc (Below.refl _ _) _⟩
                      · have z0 : rs ≠ [] := fun e => by rw [e] at r0; simp at r0
                        have z1 : 0 < (rs.length : Int) := by omega
                        clear r0
                        have he : recE ⟨kd, cl, (0 : Int), ⟨rs, 0⟩⟩ = 4 := by unfold recE; dsimp only; rw [if_neg (by omega : ¬ (kd < 1 ∨ 4 < kd)), if_neg (by omega : ¬ (cl < 0 ∨ 4 ≤ cl ∨ (0 : Int) < 0 ∨ 4 ≤ (0 : Int))), if_pos (Or.inr ⟨k3, fun h => z0 h.2⟩)]
                        rw [he]; clear he H hat
                        go_enter Tryz.func67, Tryz.ntmps67
                        go_wp2
                        go_ret
                        exact ⟨rfl, bel_alloc (Below.refl _ _) _⟩
                    · have z1 : (d != 0) = true := bne_iff_ne.2 d0
                      have he : recE ⟨kd, cl, (0 : Int), ⟨rs, d⟩⟩ = 4 := by unfold recE; dsimp only; rw [if_neg (by omega : ¬ (kd < 1 ∨ 4 < kd)), if_neg (by omega : ¬ (cl < 0 ∨ 4 ≤ cl ∨ (0 : Int) < 0 ∨ 4 ≤ (0 : Int))), if_pos (Or.inr ⟨k3, fun h => d0 h.1⟩)]
                      rw [he]; clear he H hat
                      go_enter Tryz.func67, Tryz.ntmps67
                      go_wp2
                      go_ret
                      exact ⟨rfl, bel_alloc (Below.refl _ _) _⟩
                  · have he : recE ⟨kd, cl, (0 : Int), ⟨rs, d⟩⟩ = polE ⟨rs, d⟩ := by unfold recE; dsimp only; rw [if_neg (by omega : ¬ (kd < 1 ∨ 4 < kd)), if_neg (by omega : ¬ (cl < 0 ∨ 4 ≤ cl ∨ (0 : Int) < 0 ∨ 4 ≤ (0 : Int))), if_neg (by omega), if_neg k3]
                    have He := Lib.hid he
                    clear he hat
                    have HB := Lib.hid (Bx.one (w := w) (o := .cells #[.int .i64 kd, .int .i64 cl, .int .i64 (0 : Int), .slice a rs.length c, .int .i64 d] 55))
                    go_enter Tryz.func67, Tryz.ntmps67
                    go_wp2_with fail
                    refine (polcheck_any _ ⟨rs, d⟩ D _ (H.out.below HB.out.bel)).mono ?_
                    rintro e w1 ⟨rfl, hb1⟩
                    have HB1 := Lib.hid (HB.out.below hb1)
                    clear hb1
                    go_wp2
                    go_ret
                    exact ⟨ret_int He.out.symm, HB1.out.bel⟩
                · have f0' : (fr != 0) = true := bne_iff_ne.2 f0
                  have he : recE ⟨kd, cl, fr, ⟨rs, d⟩⟩ = 4 := by unfold recE; dsimp only; rw [if_neg (by omega : ¬ (kd < 1 ∨ 4 < kd)), if_neg (by omega : ¬ (cl < 0 ∨ 4 ≤ cl ∨ fr < 0 ∨ 4 ≤ fr)), if_pos (Or.inl ⟨k4, f0⟩)]
                  rw [he]; clear he H hat
                  go_enter Tryz.func67, Tryz.ntmps67
                  go_wp2
                  go_ret
                  exact ⟨rfl, bel_alloc (Below.refl _ _) _⟩
end Go.Proofs.YtkiipnbjckdlbaaGreatDoor
namespace Go.Proofs.YtkiipnbjckdlbaaGreatDoor
open Go.RowKit

section
variable {α β : Type}
/-- the outer k bear t, the others f. -/
def marks (l : List α) (k : Nat) (t f : β) : List (α × β) := (l.take k).map (fun a => (a, t)) ++ (l.drop k).map (fun a => (a, f))
/-- as marks, but that number k bears m. -/
def markm (l : List α) (k : Nat) (x : α) (t m f : β) : List (α × β) := (l.take k).map (fun a => (a, t)) ++ (x, m) :: (l.drop (k + 1)).map (fun a => (a, f))
variable {l : List α} {k : Nat} {x : α} {t m m' f : β}
theorem marks_len (h : k ≤ l.length) : (marks l k t f).length = l.length := by simp [marks]; omega
theorem markm_len (h : k < l.length) : (markm l k x t m f).length = l.length := by simp [markm]; omega
theorem markm_get (h : k < l.length) : (markm l k x t m f)[k]? = some (x, m) := by
  unfold markm
  rw [List.getElem?_append_right (by simp; omega)]
  have : k - ((l.take k).map fun a => (a, t)).length = 0 := by simp; omega
  rw [this]
  rfl
theorem markm_set (h : k < l.length) : (markm l k x t m f).set k (x, m') = markm l k x t m' f := by
  unfold markm
  have e : ((l.take k).map fun a => (a, t)).length = k := by simp; omega
  rw [List.set_append_right _ _ (by rw [e]; exact Nat.le_refl _), e, Nat.sub_self, List.set_cons_zero]
theorem markm_lo (hx : l[k]? = some x) : markm l k x t f f = marks l k t f := by
  obtain ⟨h, rfl⟩ := List.getElem?_eq_some_iff.1 hx
  unfold markm marks
  rw [List.drop_eq_getElem_cons h, List.map_cons]
theorem markm_hi (hx : l[k]? = some x) : markm l k x t t f = marks l (k + 1) t f := by
  obtain ⟨h, rfl⟩ := List.getElem?_eq_some_iff.1 hx
  unfold markm marks
  rw [List.take_succ_eq_append_getElem h, List.map_append]
  simp
theorem marks_zero : marks l 0 t f = l.map fun a => (a, f) := by simp [marks]
theorem marks_all : marks l l.length t f = l.map fun a => (a, t) := by simp [marks]
theorem OwnSl.unmark' {w : World} {base sz : Nat} {e : TypeId} {v : Value} {R' : α × β → List Value → Prop} {R : α → List Value → Prop} (h : OwnSl w base e sz R' v (l.map fun a => (a, t))) (hR : ∀ x cs, R' (x, t) cs → R x cs) : OwnSl w base e sz R v l := by
  obtain ⟨rows, hr, ho⟩ := h
  refine ⟨rows, ⟨by simpa using hr.len, hr.size, fun i x r hx hk => ?_⟩, by simpa using ho⟩
  exact hR _ _ (hr.rel i (x, t) r (by rw [List.getElem?_map, hx]; rfl) hk)
theorem OwnSl.mark' {w : World} {base sz : Nat} {e : TypeId} {v : Value} {R' : α × β → List Value → Prop} {R : α → List Value → Prop} (h : OwnSl w base e sz R v l) (hR : ∀ x cs, R x cs → R' (x, f) cs) : OwnSl w base e sz R' v (l.map fun a => (a, f)) := by
  obtain ⟨rows, hr, ho⟩ := h
  refine ⟨rows, ⟨by simpa using hr.len, hr.size, fun i x r hx hk => ?_⟩, by simpa using ho⟩
  rw [List.getElem?_map] at hx
  cases hy : l[i]? with
  | none => rw [hy] at hx; cases hx
  | some y =>
    rw [hy] at hx
    injection hx with hx
    subst hx
    exact hR _ _ (hr.rel i y r hy hk)
end

theorem OwnSl.kept {α : Type} {w w' : World} {base sz : Nat} {e : TypeId} {R : α → List Value → Prop} {v : Value} {xs : List α} (h : OwnSl w base e sz R v xs) (hb : ∀ b, base ≤ b → b < w.heap.size → w'.heap[b]? = w.heap[b]?) : OwnSl w' base e sz R v xs := by
  obtain ⟨rows, hr, ho⟩ := h
  exact ⟨rows, hr, ownsRow_keep ho hb⟩
theorem grow_below {w0 w w' : World} {g : Option Nat} (h : w0.grownBy w g) (hb : Below w.heap.size w w') : w0.grownBy w' g :=
  ⟨hb.os.trans h.os, hb.tape.trans h.tape, hb.output.trans h.output, Nat.le_trans h.size hb.size, fun k hk hn => (hb.block k (Nat.lt_of_lt_of_le hk h.size)).trans (h.block k hk hn)⟩
theorem below_grow {w w' : World} (hb : Below w.heap.size w w') (g : Option Nat) : w.grownBy w' g := ⟨hb.os, hb.tape, hb.output, hb.size, fun k hk _ => hb.block k hk⟩
theorem grow_set (W : World) (g i : Nat) (v : Value) : W.grownBy (W.setCell ⟨g, i, none⟩ v) (some g) :=
  ⟨rfl, rfl, rfl, by rw [set_size]; exact Nat.le_refl _, fun k _ hn => set_other (fun e => hn (by rw [e]))⟩
theorem grow_trans {w0 w w' : World} {g : Option Nat} (h : w0.grownBy w g) (h' : w.grownBy w' g) : w0.grownBy w' g :=
  ⟨h'.os.trans h.os, h'.tape.trans h.tape, h'.output.trans h.output, Nat.le_trans h.size h'.size, fun k hk hn => (h'.block k (Nat.lt_of_lt_of_le hk h.size) hn).trans (h.block k hk hn)⟩
theorem grow_drew (W : World) (g : Option Nat) : W.grownBy W.drew g := ⟨rfl, rfl, rfl, Nat.le_refl _, fun _ _ _ => rfl⟩
theorem below_of_grow {B g : Nat} {w0 w w' : World} (hb : Below B w0 w) (h : w.grownBy w' (some g)) (hB : B ≤ w.heap.size) (hg : B ≤ g) : Below B w0 w' :=
  hb.grown h hB fun k hk => by injection hk with hk; omega

/-- The worlds of a region that stores into a row of the call's own: what the row reads as, by which operations are done. -/
structure PutInv {α : Type} (w0 : World) (base : Nat) (T : TypeId) (sz g n c : Nat) (R : World → α → List Value → Prop) (A : (Nat → Bool) → List α) (done : Nat → Bool) (W : World) : Prop where
  own : OwnSl W base T sz (R W) (.slice (some ⟨g, 0, none⟩) n c) (A done)
  gr : w0.grownBy W (some g)
section
variable {α : Type} {w0 W W' : World} {base sz g n c k : Nat} {T : TypeId} {R : World → α → List Value → Prop} {A : (Nat → Bool) → List α} {done : Nat → Bool}
theorem PutInv.step (hR : ∀ W W' y cs, Below W.heap.size W W' → R W y cs → R W' y cs) (h : PutInv w0 base T sz g n c R A done W) (hb : Below W.heap.size W W') (hA : A (updDone done k) = A done) : PutInv w0 base T sz g n c R A (updDone done k) W' :=
  ⟨by rw [hA]; exact (h.own.below hb).monoR fun y _ cs hy => hR W W' y cs hb hy, grow_below h.gr hb⟩
theorem PutInv.blk (h : PutInv w0 base T sz g n c R A done W) (hl : 0 < (A done).length) : base ≤ g ∧ g < W.heap.size ∧ ∃ cur, W.heap[g]? = some (.cells cur T) := by
  obtain ⟨b, e, hb, hlt, cur, hc⟩ := OwnSl.addr h.own hl
  injection e with e
  injection e with e
  subst e
  exact ⟨hb, hlt, cur, hc⟩
theorem PutInv.frz (h : PutInv w0 base T sz g n c R A done W) (hl : 0 < (A done).length) (j : Nat) : W.frozen? ⟨g, j, none⟩ = false := by
  obtain ⟨_, _, cur, hc⟩ := h.blk hl
  exact not_frozen hc j
/-- the cells of one element. -/
theorem PutInv.cells (h : PutInv w0 base T sz g n c R A done W) {i : Nat} {y : α} (hi : (A done)[i]? = some y) : ∃ cs, cs.length = sz ∧ R W y cs ∧ ∀ j u, cs[j]? = some u → W.cell? ⟨g, i * sz + j, none⟩ = some u := by
  obtain ⟨hlt, rfl⟩ := List.getElem?_eq_some_iff.1 hi
  have hs := OwnSl.sl h.own (D := fun _ => True) (fun _ _ => trivial)
  obtain ⟨a', c'', hv, hf⟩ := Sl.form hs
  injection hv with h1 h2 h3
  subst h1 h2 h3
  obtain ⟨cs, hl, hr, hc⟩ := Sl.get hs hlt
  exact ⟨cs, hl, hr, fun j u hu => by have := hc j u hu; simpa using this⟩
/-- a store: element i is y from now on y'. -/
theorem PutInv.put (h : PutInv w0 base T sz g n c R A done W) {i j : Nat} (hj : j < sz) {y y' : α} {u : Value} (hi : (A done)[i]? = some y) (hR : ∀ r, R (W.setCell ⟨g, i * sz + j, none⟩ u) y r → R (W.setCell ⟨g, i * sz + j, none⟩ u) y' (r.set j u))
    (hk : ∀ z cs, R W z cs → R (W.setCell ⟨g, i * sz + j, none⟩ u) z cs) {done' : Nat → Bool} (hA : (A done).set i y' = A done') : PutInv w0 base T sz g n c R A done' (W.setCell ⟨g, i * sz + j, none⟩ u) := by
  obtain ⟨hlt, rfl⟩ := List.getElem?_eq_some_iff.1 hi
  have hp := OwnSl.put (y := y') (u := u) (i := i) (j := j) (h.own.monoR (R' := R (W.setCell ⟨g, i * sz + j, none⟩ u)) fun z _ cs hz => hk z cs hz) hlt hj hR
  rw [hA] at hp
  exact ⟨hp, grow_trans h.gr (grow_set W g _ u)⟩
end

/-- facts that stores into block g leave alone. -/
def stableG (g : Nat) (p : Value → World → Prop) : Prop := ∀ v w w', w.grownBy w' (some g) → p v w → p v w'
def stablesG (g : Nat) : List Spec → Prop
  | [] => True
  | s :: r => ((∃ x, s = ex x) ∨ ∃ p, s = pr p ∧ stableG g p) ∧ stablesG g r
theorem stablesG_get {g : Nat} : ∀ (ss : List Spec), stablesG g ss → ∀ s ∈ ss, ∀ v w w', w.grownBy w' (some g) → s.fact v w → s.fact v w'
  | [], _, s, h => by cases h
  | s0 :: r, h, s, hm => by
    rcases List.mem_cons.1 hm with rfl | hm
    · rcases h.1 with ⟨x, rfl⟩ | ⟨p, rfl, hp⟩
      · exact fun _ _ _ _ _ => trivial
      · exact fun v w w' hg hf => hp v w w' hg hf
    · exact stablesG_get r h.2 s hm
/-- THE LAW. -/
theorem wp_region_put {P : Program} {l : List Oper} {Q : Exit → Act → World → Prop} {a : Act} {id : Nat} {w : World} (g : Nat) (ss : List Spec) (Inv : (Nat → Bool) → World → Prop) (hm : P.follows .mixedOrders = true) (hB : monoB2 (l.map prune) a.tmps.size = true)
    (hst : stablesG g ss) (hC : Inv (fun _ => false) w.drew) (bs : List (List Nat)) (hbs : befores (l.map prune) [] = bs) (h : walkP P l.toArray Inv (fun _ W W' => W.grownBy W' (some g)) bs (Q .normal) l.length l ss 0 a [] (fun _ => True)) : (Code.region id l.toArray true).wp P Q a w :=
  wp_region_done3 ss Inv (fun _ W W' => W.grownBy W' (some g)) hm hB (fun _ _ s _ hk v _ w1 w2 _ hT hf => stablesG_get ss hst s (List.mem_of_getElem? hk) v w1 w2 hT hf) hC bs hbs h
end Go.Proofs.YtkiipnbjckdlbaaGreatDoor
namespace Go.Proofs.YtkiipnbjckdlbaaGreatDoor
open Go.RowKit
attribute [local go_sem] gives givesUpon

/-- a rule, and whether its conditions were copied: then they are read from blocks from B on; none is read from the row's own block g. -/
def ruleC (g B : Nat) (W : World) (y : TRule × Bool) (cs : List Value) : Prop := ∃ v, cs = [v, .int .i64 y.1.verdict] ∧ RdConds W (fun b => b ≠ g ∧ (y.2 = true → B ≤ b)) v y.1.conds
theorem ruleC_below {g B : Nat} (W W' : World) (y : TRule × Bool) (cs : List Value) (hb : Below W.heap.size W W') (h : ruleC g B W y cs) : ruleC g B W' y cs := by
  obtain ⟨v, h1, h2⟩ := h
  exact ⟨v, h1, h2.below hb⟩
theorem ruleC_set {g B i : Nat} {u : Value} {W : World} (y : TRule × Bool) (cs : List Value) (h : ruleC g B W y cs) : ruleC g B (W.setCell ⟨g, i, none⟩ u) y cs := by
  obtain ⟨v, h1, h2⟩ := h
  exact ⟨v, h1, h2.keep (fun _ h _ => h) (fun b hb _ => set_other (by exact hb.1)) (by rw [set_size]; exact Nat.le_refl _)⟩
theorem ruleR_oneP {w : World} {D : Nat → Prop} (y : TRule) (cs : List Value) (h : ruleR w D y cs) : ∀ c ∈ cs, c.oneCell' = true := by
  obtain ⟨v, rfl, h⟩ := h
  obtain ⟨a, c, rfl, _⟩ := Sl.form h
  simp [Value.oneCell']
theorem condR_one (y : TCond) (cs : List Value) (h : condR y cs) : ∀ c ∈ cs, c.oneCell' = true := by
  unfold condR at h; subst h; simp [Value.oneCell']
theorem conds_stable {g B : Nat} {cs : List TCond} : stableG g (fun v W => ∃ a c, v = .slice a cs.length c ∧ RdConds W (fun b => B ≤ b ∧ b ≠ g) v cs) := fun _ _ _ hg ⟨a, c, h1, h2⟩ =>
  ⟨a, c, h1, h2.keep (fun _ h _ => h) (fun b hb hl => hg.block b hl (fun e => hb.2 (by injection e))) hg.size⟩

set_option maxRecDepth 100000 in
set_option maxHeartbeats 8000000 in
theorem polcopy_any (v : Value) (p : TPol) (D : Nat → Prop) (w : World) (h : RdRules w D v p.rules) (hn : p.rules.length ≤ 1000000) (hc : ∀ r ∈ p.rules, r.conds.length ≤ 1000000) :
    Calls Tryz.prog 70 #[polV v p.dflt] w fun e w' => ∃ v', e = .returned (polV v' p.dflt) ∧ RdRules w' (fun b => w.heap.size ≤ b) v' p.rules ∧ Below w.heap.size w w' := by
  obtain ⟨rules, dflt⟩ := p
  dsimp only at h hn hc ⊢
  have H := Lib.hid h
  have Hc := Lib.hid hc
  obtain ⟨a, c, rfl, hlc, hcm, hat⟩ := Sl.form h
  clear h hc hat
  go_enter Tryz.func70, Tryz.ntmps70
  go_wp2_with fail
  have HB := Lib.hid (Bx.two (w := w) (o := .cells #[.slice a rules.length c, .int .i64 dflt] 37) (o' := .cells #[.slice none 0 0, .int .i64 0] 37))
  have HbA := Lib.hid HB.out.bel
  obtain ⟨wA, hwA⟩ : ∃ W, ((w.alloc (.cells #[.slice a rules.length c, .int .i64 dflt] 37)).alloc (.cells #[.slice none 0 0, .int .i64 0] 37)) = W := ⟨_, rfl⟩
  rw [hwA] at HB HbA ⊢
  have hsA : wA.heap.size = w.heap.size + 1 + 1 := by rw [← hwA]; simp
  have HsA := Lib.hid hsA
  clear hwA hsA
  have H0 : Hid (Sl wA D 2 (ruleR wA (fun b => b < w.heap.size)) (.slice a rules.length c) rules) := Sl.mono H.out (fun _ h _ => h) (fun b _ hl => HbA.out.block b hl) HbA.out.size (fun _ _ _ ⟨u, h1, h2⟩ => ⟨u, h1, h2.keep (fun _ _ hl => hl) (fun b _ hl => HbA.out.block b hl) HbA.out.size⟩)
  refine (cloneRule_any (ruleR wA (fun b => b < w.heap.size)) (fun y cs h => ruleR_oneP y cs h) _ rules D wA H0.out (by omega)).mono ?_
  rintro e w1 ⟨v1, rfl, ho1, hb1⟩
  have HB1 := Lib.hid (HB.out.below hb1)
  have ho1' : OwnSl w1 wA.heap.size 80 2 (ruleR w1 (fun b => b < w.heap.size)) v1 rules := ho1.monoR fun _ _ _ ⟨u, h1, h2⟩ => ⟨u, h1, h2.below hb1⟩
  have hsz1 := hb1.size
  obtain ⟨a1, c1, rfl⟩ := ho1.slice
  have HB2 : Hid (Bx w [.cells #[.slice a1 rules.length c1, .int .i64 dflt] 37, .cells #[.slice none 0 0, .int .i64 0] 37] (w1.setCell ⟨w.heap.size, 0, none⟩ (.slice a1 rules.length c1))) := HB1.out.set (i := 0) rfl 0 (.slice a1 rules.length c1)
  have Ho2 : Hid (OwnSl (w1.setCell ⟨w.heap.size, 0, none⟩ (.slice a1 rules.length c1)) wA.heap.size 80 2 (ruleR (w1.setCell ⟨w.heap.size, 0, none⟩ (.slice a1 rules.length c1)) (fun b => b < w.heap.size)) (.slice a1 rules.length c1) rules) :=
    (ho1'.kept (fun b hb _ => set_other (by have := HsA.out; show b ≠ w.heap.size; omega))).monoR fun _ _ _ ⟨u, h1, h2⟩ => ⟨u, h1, h2.keep (fun _ h _ => h) (fun b hb _ => set_other (by show b ≠ w.heap.size; omega)) (by rw [set_size]; exact Nat.le_refl _)⟩
  clear ho1 ho1' hb1 hsz1 H0 HbA
  have hq0 := HB1.out.cells0
  have hf0 := HB1.out.free0
  have hq2 := HB2.out.cells0
  rcases Nat.eq_zero_or_pos rules.length with h0 | hpos
  · have hl0 : rules = [] := List.length_eq_zero_iff.1 h0
    subst hl0
    have hlen0 : ([] : List TRule).length = 0 := rfl
    have hRe : ∀ W D', RdRules W D' (.slice a1 0 c1) [] := fun W D' => by
      obtain ⟨a', c', hv, h1, h2, h3, _⟩ := OwnSl.sl Ho2.out (D := fun _ => True) (fun _ _ => trivial)
      injection hv with e1 e2 e3
      subst e1 e3
      exact ⟨_, _, rfl, h1, h2, h3, fun h => by cases h⟩
    have HRe := Lib.hid hRe
    clear hRe
    generalize hw2 : w1.setCell ⟨w.heap.size, 0, none⟩ (.slice a1 0 c1) = w2 at *
    go_wp2_with fail
    clear hw2 hq0 hf0 hq2 HB1 HB Ho2
    go_loopw [12] (fun kv wr => kv = .int .i64 0 ∧ wr = w2) (fun _ _ => 0)
    case atStart => exact ⟨rfl, rfl⟩
    case round =>
      obtain ⟨rfl, rfl⟩ := hrel
      have HS1 : Hid (Bx w [.cells #[.slice a1 0 c1, .int .i64 dflt] 37, .cells #[.slice a1 0 c1, .int .i64 0] 37] (wr.setCell ⟨w.heap.size + 1, 0, none⟩ (.slice a1 0 c1))) := HB2.out.set (i := 1) rfl 0 _
      have HS2 : Hid (Bx w [.cells #[.slice a1 0 c1, .int .i64 dflt] 37, .cells #[.slice a1 0 c1, .int .i64 dflt] 37] ((wr.setCell ⟨w.heap.size + 1, 0, none⟩ (.slice a1 0 c1)).setCell ⟨w.heap.size + 1, 1, none⟩ (.int .i64 dflt))) := HS1.out.set (i := 1) rfl 1 _
      have hq0 := HB2.out.cells0
      have hq1 := HB2.out.cells1
      have hf1 := HB2.out.free1
      have hqs := HS2.out.cells1
      go_wp2
      exact bodyPost_ret (v := polV (.slice a1 0 c1) dflt) (by simp [results, Tryz.results70, go_sem, hqs]) rfl ⟨_, rfl, HRe.out _ _, HS2.out.bel⟩
  · obtain ⟨g, rfl, hgb, hgl, cur, hcur⟩ := OwnSl.addr Ho2.out hpos
    generalize hw2 : w1.setCell ⟨w.heap.size, 0, none⟩ (.slice (some ⟨g, 0, none⟩) rules.length c1) = w2 at *
    have HM : Hid (OwnSl w2 wA.heap.size 80 2 (ruleC g wA.heap.size w2) (.slice (some ⟨g, 0, none⟩) rules.length c1) (marks rules 0 true false)) := by
      show OwnSl _ _ _ _ _ _ _
      rw [marks_zero]
      exact Ho2.out.mark' fun x cs ⟨u, h1, h2⟩ => ⟨u, h1, h2.keep (fun b hb _ => ⟨by have := HsA.out; omega, fun h => by cases h⟩) (fun _ _ _ => rfl) (Nat.le_refl _)⟩
    have Hg := Lib.hid hgb
    clear hcur
    go_wp2_with fail
    clear hw2 hq0 hf0 hq2 HB1 HB Ho2
    go_loopw [12] (fun kv wr => ∃ k : Nat, kv = .int .i64 k ∧ k ≤ rules.length ∧ OwnSl wr wA.heap.size 80 2 (ruleC g wA.heap.size wr) (.slice (some ⟨g, 0, none⟩) rules.length c1) (marks rules k true false) ∧ Bx w [.cells #[.slice (some ⟨g, 0, none⟩) rules.length c1, .int .i64 dflt] 37, .cells #[.slice none 0 0, .int .i64 0] 37] wr) (fun kv _ => rules.length - (intOf kv).toNat)
    case atStart => exact ⟨0, rfl, by omega, HM.out, HB2.out⟩
    case round =>
      obtain ⟨k, rfl, hk, hown, hbx⟩ := hrel
      have Hown := Lib.hid hown
      have Hbx := Lib.hid hbx
      clear hown hbx
      have hqb := Hbx.out.cells0
      by_cases hlt : k < rules.length
      · obtain ⟨r, hr⟩ : ∃ r, rules[k]? = some r := ⟨_, List.getElem?_eq_getElem hlt⟩
        have Hrk := Lib.hid hr
        have Hck := Lib.hid (Hc.out r (List.mem_of_getElem? hr))
        have hown0 : PutInv wr wA.heap.size 80 2 g rules.length c1 (ruleC g wA.heap.size) (fun done => markm rules k r true (done 8) false) (fun _ => false) wr :=
          ⟨by show OwnSl _ _ _ _ _ _ _; rw [markm_lo hr]; exact Hown.out, below_grow (Below.refl _ _) _⟩
        obtain ⟨cs, _, ⟨u, hu, hrd⟩, hcell⟩ := hown0.cells (markm_get hlt)
        have Hrd := Lib.hid hrd
        have Hg2 := Lib.hid (hown0.blk (by rw [markm_len hlt]; omega)).2.1
        obtain ⟨ac, cc, rfl, _⟩ := Sl.form hrd
        subst hu
        have hck0 := hcell 0 _ rfl
        have hck1 := hcell 1 _ rfl
        simp only [Nat.add_zero] at hck0
        clear hcell hrd hown0 hr
        go_wp2_with fail
        have HC := Lib.hid (Bx.one (w := wr) (o := .cells #[.slice ac r.conds.length cc, .int .i64 r.verdict] 80))
        have HBq := Lib.hid (Hbx.out.below HC.out.bel)
        have Hownq : Hid (OwnSl (wr.alloc (.cells #[.slice ac r.conds.length cc, .int .i64 r.verdict] 80)) wA.heap.size 80 2 (ruleC g wA.heap.size (wr.alloc (.cells #[.slice ac r.conds.length cc, .int .i64 r.verdict] 80))) (.slice (some ⟨g, 0, none⟩) rules.length c1) (markm rules k r true false false)) := by
          show OwnSl _ _ _ _ _ _ _
          rw [markm_lo Hrk.out]
          exact (Hown.out.below HC.out.bel).monoR fun _ _ _ hy => ruleC_below _ _ _ _ HC.out.bel hy
        have Hrdq := Lib.hid (RdConds.below Hrd.out HC.out.bel)
        have Hsq : Hid ((wr.alloc (.cells #[.slice ac r.conds.length cc, .int .i64 r.verdict] 80)).heap.size = wr.heap.size + 1) := by show _ = _; simp
        revert HC HBq Hownq Hrdq Hsq
        generalize (wr.alloc (.cells #[.slice ac r.conds.length cc, .int .i64 r.verdict] 80)) = wq
        intro HC HBq Hownq Hrdq Hsq
        clear hck0 hck1 hqb
        have hk0 : (0 : Int) ≤ (k : Int) := by omega
        have hkl : (k : Int) < (rules.length : Int) := by omega
        have hkw : IntKind.i64.wrap (k : Int) = (k : Int) := IntWalk.i64_in _ (by omega)
        have Hlt := Lib.hid hlt
        refine wp_region_put g [ex (.pointer (some ⟨w.heap.size, 0, none⟩)), ex (.slice (some ⟨g, 0, none⟩) rules.length c1), ex (.int .i64 k), ex (.pointer (some ⟨wr.heap.size, 0, none⟩)), ex (.slice ac r.conds.length cc), pr (fun v W => ∃ a c, v = .slice a r.conds.length c ∧ RdConds W (fun b => wA.heap.size ≤ b ∧ b ≠ g) v r.conds), ex (.pointer (some ⟨g, k * 2, none⟩)), ex (.pointer (some ⟨g, k * 2, none⟩)), ex undef]
          (PutInv wq wA.heap.size 80 2 g rules.length c1 (ruleC g wA.heap.size) (fun done => markm rules k r true (done 8) false)) (by kernel_rfl) (by kernel_rfl) ⟨.inl ⟨_, rfl⟩, .inl ⟨_, rfl⟩, .inl ⟨_, rfl⟩, .inl ⟨_, rfl⟩, .inl ⟨_, rfl⟩, .inr ⟨_, rfl, conds_stable⟩, .inl ⟨_, rfl⟩, .inl ⟨_, rfl⟩, .inl ⟨_, rfl⟩, trivial⟩ ⟨(Hownq.out.below (Below.refl _ _).drew).monoR fun _ _ _ hy => ruleC_below _ _ _ _ (Below.refl _ _).drew hy, grow_drew _ _⟩ _ rfl ?_
        (refine walkP_ex (fun K hK => ?_); refine ⟨fun done W hI h0 hd hn hf R hR => ?_, ?_⟩; (clear h0 hd hn hf; go_simp; exact hR _ _ (hI.step ruleC_below (Below.refl _ _) rfl) (below_grow (Below.refl _ _) _) rfl); (go_simp; refine hK _ ?_; clear hK K))
        (refine walkP_ex (fun K hK => ?_); refine ⟨fun done W hI h0 hd hn hf R hR => ?_, ?_⟩; (have hcl : ∀ j, W.cell? ⟨w.heap.size, j, none⟩ = _ := cells_of ((hI.gr.block _ (HBq.out.size (i := 0) (by simp)) (fun e => by injection e with e; have := Hg.out; have := HsA.out; omega)).trans (HBq.out.at_ 0 _ rfl)); clear h0 hd hn hf; go_simp; exact hR _ _ (hI.step ruleC_below (Below.refl _ _) rfl) (below_grow (Below.refl _ _) _) rfl); (go_simp; refine hK _ ?_; clear hK K))
        (refine walkP_ex (fun K hK => ?_); refine ⟨fun done W hI h0 hd hn hf R hR => ?_, ?_⟩; (clear h0 hd hn hf; go_simp; exact hR _ _ (hI.step ruleC_below (Below.refl _ _) rfl) (below_grow (Below.refl _ _) _) rfl); (go_simp; refine hK _ ?_; clear hK K))
        (refine walkP_ex (fun K hK => ?_); refine ⟨fun done W hI h0 hd hn hf R hR => ?_, ?_⟩; (clear h0 hd hn hf; go_simp; exact hR _ _ (hI.step ruleC_below (Below.refl _ _) rfl) (below_grow (Below.refl _ _) _) rfl); (go_simp; refine hK _ ?_; clear hK K))
        (refine walkP_ex (fun K hK => ?_); refine ⟨fun done W hI h0 hd hn hf R hR => ?_, ?_⟩; (have hcl : ∀ j, W.cell? ⟨wr.heap.size, j, none⟩ = _ := cells_of ((hI.gr.block _ (by have := Hsq.out; omega) (fun e => by injection e with e; have := Hg2.out; omega)).trans (HC.out.at_ 0 _ rfl)); clear h0 hd hn hf; go_simp; exact hR _ _ (hI.step ruleC_below (Below.refl _ _) rfl) (below_grow (Below.refl _ _) _) rfl); (go_simp; refine hK _ ?_; clear hK K))
        (refine walkP_pr (fun K hK => ?_); refine ⟨fun done W hI h0 hd hn hf R hR => ?_, fun v5 => ?_⟩; (have Hrw : Hid (RdConds W (fun b => b ≠ g) (.slice ac r.conds.length cc) r.conds) := Hrdq.out.keep (fun _ h _ => h.1) (fun b hb hl => hI.gr.block b hl (fun e => hb.1 (by injection e))) hI.gr.size; have HgW : Hid (g < W.heap.size ∧ wA.heap.size ≤ W.heap.size) := ⟨by have := hI.gr.size; have := Hg2.out; have := Hsq.out; omega, by have := hI.gr.size; have := Hg.out; have := Hg2.out; have := Hsq.out; omega⟩; clear h0 hd hn hf; go_simp; go_at_call 83; refine (cloneCond_any condR condR_one _ r.conds _ W Hrw.out (by have := Hck.out; omega)).mono ?_; rintro e w5 ⟨v6, rfl, ho6, hb6⟩; exact ⟨_, rfl, hR _ _ (hI.step ruleC_below hb6 rfl) (below_grow hb6 _) (by obtain ⟨a6, c6, rfl⟩ := ho6.slice; exact ⟨a6, c6, rfl, ho6.sl fun b hb => ⟨by have := HgW.out.2; omega, by have := HgW.out.1; omega⟩⟩)⟩); (go_simp; refine hK _ _ ?_; clear hK K))
        (refine walkP_ex (fun K hK => ?_); refine ⟨fun done W hI h0 hd hn hf R hR => ?_, ?_⟩; (clear h0 hd hn hf; go_simp; exact hR _ _ (hI.step ruleC_below (Below.refl _ _) rfl) (below_grow (Below.refl _ _) _) rfl); (go_simp; refine hK _ ?_; clear hK K))
        (refine walkP_ex (fun K hK => ?_); refine ⟨fun done W hI h0 hd hn hf R hR => ?_, ?_⟩; (clear h0 hd hn hf; go_simp; exact hR _ _ (hI.step ruleC_below (Below.refl _ _) rfl) (below_grow (Below.refl _ _) _) rfl); (go_simp; refine hK _ ?_; clear hK K))
        (refine walkP_ex (fun K hK => ?_); refine ⟨fun done W hI h0 hd hn hf R hR => ?_, ?_⟩; (have h5 : ∃ a c, v5 = .slice a r.conds.length c ∧ RdConds W (fun b => wA.heap.size ≤ b ∧ b ≠ g) v5 r.conds := hf 5 (by decide); obtain ⟨a5, c5, rfl, hr5⟩ := h5; have hI0 := hI; obtain ⟨_, _, ⟨u9, rfl, hr9⟩, hcell⟩ := hI.cells (by exact markm_get Hlt.out); have hck := hcell 0 _ rfl; simp only [Nat.add_zero] at hck; have hfz := hI.frz (by rw [markm_len Hlt.out]; have := Hlt.out; omega) (k * 2); have HN := Lib.hid (hI.put (done' := updDone done 8) (i := k) (j := 0) (u := .slice a5 r.conds.length c5) (y' := (r, true)) (by decide) (by exact markm_get Hlt.out) (fun cs0 hcs => by obtain ⟨v0, rfl, _⟩ := hcs; exact ⟨_, rfl, hr5.keep (fun b hb _ => ⟨hb.2, fun _ => hb.1⟩) (fun b hb _ => set_other (by exact hb.2)) (by rw [set_size]; exact Nat.le_refl _)⟩) (fun z cs0 hz => ruleC_set z cs0 hz) (by rw [markm_set Hlt.out]; rfl)); have HT := Lib.hid (grow_set W g (k * 2) (.slice a5 r.conds.length c5)); clear h0 hd hn hf hcell hI hI0 hr9 hr5; go_simp; exact hR _ _ HN.out HT.out rfl); (go_simp; refine hK _ ?_; clear hK K))
        intro done W hdone hI _
        have h8 : done 8 = true := hdone 8 (by decide)
        have ho := hI.own
        rw [h8, markm_hi Hrk.out] at ho
        have HO := Lib.hid ho
        have Hbw := Lib.hid (below_of_grow (B := wA.heap.size) (Below.refl _ wq) hI.gr (by have := Hg.out; have := Hg2.out; have := Hsq.out; omega) Hg.out)
        have HBw := Lib.hid (HBq.out.lift Hbw.out (by have := HsA.out; show w.heap.size + 2 ≤ _; omega))
        clear hI hdone h8 ho
        go_wp2
        go_roundw
        case rel => exact ⟨k + 1, by go_num, by omega, HO.out, HBw.out⟩
        case measure => simp [intOf]; omega
      · obtain rfl : k = rules.length := by omega
        have ho := Hown.out
        rw [marks_all] at ho
        have hR : RdRules wr (fun b => wA.heap.size ≤ b) (.slice (some ⟨g, 0, none⟩) rules.length c1) rules := Sl.mono ((ho.unmark' (R := ruleR wr (fun b => wA.heap.size ≤ b)) fun x cs ⟨u, h1, h2⟩ => ⟨u, h1, h2.keep (fun b hb _ => hb.2 rfl) (fun _ _ _ => rfl) (Nat.le_refl _)⟩).sl (D := fun b => wA.heap.size ≤ b) (fun _ h => h)) (fun _ h _ => h) (fun _ _ _ => rfl) (Nat.le_refl _) (fun _ _ _ h => h)
        have HR := Lib.hid hR
        have HS1 : Hid (Bx w [.cells #[.slice (some ⟨g, 0, none⟩) rules.length c1, .int .i64 dflt] 37, .cells #[.slice (some ⟨g, 0, none⟩) rules.length c1, .int .i64 0] 37] (wr.setCell ⟨w.heap.size + 1, 0, none⟩ (.slice (some ⟨g, 0, none⟩) rules.length c1))) := Hbx.out.set (i := 1) rfl 0 _
        have HS2 : Hid (Bx w [.cells #[.slice (some ⟨g, 0, none⟩) rules.length c1, .int .i64 dflt] 37, .cells #[.slice (some ⟨g, 0, none⟩) rules.length c1, .int .i64 dflt] 37] ((wr.setCell ⟨w.heap.size + 1, 0, none⟩ (.slice (some ⟨g, 0, none⟩) rules.length c1)).setCell ⟨w.heap.size + 1, 1, none⟩ (.int .i64 dflt))) := HS1.out.set (i := 1) rfl 1 _
        have HR2 : Hid (RdRules ((wr.setCell ⟨w.heap.size + 1, 0, none⟩ (.slice (some ⟨g, 0, none⟩) rules.length c1)).setCell ⟨w.heap.size + 1, 1, none⟩ (.int .i64 dflt)) (fun b => w.heap.size ≤ b) (.slice (some ⟨g, 0, none⟩) rules.length c1) rules) := HR.out.keep (fun b hb _ => by have h : wA.heap.size ≤ b := hb; have := HsA.out; omega) (fun b hb _ => by have h : wA.heap.size ≤ b := hb; have := HsA.out; rw [set_other (by show b ≠ w.heap.size + 1; omega), set_other (by show b ≠ w.heap.size + 1; omega)]) (by rw [set_size, set_size]; exact Nat.le_refl _)
        have hq1 := Hbx.out.cells1
        have hf1 := Hbx.out.free1
        have hqs := HS2.out.cells1
        clear hR ho
        go_wp2
        exact bodyPost_ret (v := polV (.slice (some ⟨g, 0, none⟩) rules.length c1) dflt) (by simp [results, Tryz.results70, go_sem, hqs]) rfl ⟨_, rfl, HR2.out, HS2.out.bel⟩
end Go.Proofs.YtkiipnbjckdlbaaGreatDoor
namespace Go.Proofs.YtkiipnbjckdlbaaGreatDoor
open Go.RowKit

set_option maxRecDepth 100000 in
set_option maxHeartbeats 4000000 in
theorem begin_any (v : Value) (p : TPol) (D : Nat → Prop) (w : World) (h : RdRules w D v p.rules) :
    Calls Tryz.prog 69 #[polV v p.dflt] w fun e w' => ∃ a1 c1 a2 c2, e = .returned (.tuple #[.agg #[.bool (beginE p).1.open_, .slice a1 (beginE p).1.chain.length c1, .slice a2 (beginE p).1.p.rules.length c2, .int .i64 (beginE p).1.p.dflt], .int .i64 (beginE p).2]) ∧
      RdChain w' (fun b => w.heap.size ≤ b) (.slice a1 (beginE p).1.chain.length c1) (beginE p).1.chain ∧ RdRules w' (fun b => w.heap.size ≤ b) (.slice a2 (beginE p).1.p.rules.length c2) (beginE p).1.p.rules ∧ Below w.heap.size w w' := by
  have H := Lib.hid h
  obtain ⟨a, c, rfl, _⟩ := Sl.form h
  clear h
  obtain ⟨⟨F, fe⟩, hF⟩ : ∃ E, filterE p = E := ⟨_, rfl⟩
  have HF := Lib.hid hF
  go_enter Tryz.func69, Tryz.ntmps69
  go_wp2_with fail
  have HB := Lib.hid (Bx.two (w := w) (o := .cells #[.slice a p.rules.length c, .int .i64 p.dflt] 37) (o' := .cells #[.bool false, .slice none 0 0, .slice none 0 0, .int .i64 0] 66))
  have hq0 := HB.out.cells0
  refine (compile_any _ p D _ (H.out.below HB.out.bel)).mono ?_
  rw [HF.out]
  rintro e w1 ⟨vF, rfl, hrF, hb1⟩
  have HB1 := Lib.hid (HB.out.below hb1)
  have RF := Lib.hid (show RdCode w1 (fun b => w.heap.size + 2 ≤ b) vF F from hrF.keep (fun b hb _ => by have h1 := HB.out.top; have h2 := hb; simp at h1 h2; omega) (fun _ _ _ => rfl) (Nat.le_refl _))
  have H1 := Lib.hid ((H.out.below HB.out.bel).below hb1)
  obtain ⟨aF, cF, rfl, _⟩ := Sl.form hrF
  clear hrF hb1 hq0 HB
  by_cases h0 : fe = 0
  · subst h0
    obtain ⟨hpok, hfe2, _, _⟩ := filterE_ok (p := p) (by rw [hF])
    have hFe : F = filterL p := (Prod.mk.inj (hF.symm.trans hfe2)).1
    have hbe : beginE p = (⟨true, [F], p⟩, 0) := by unfold beginE; rw [hF, ← hFe]; simp
    have Hbe := Lib.hid hbe
    have Hok := Lib.hid hpok
    clear hF hfe2 hFe hbe hpok
    have HC := Lib.hid (Bx.one (w := w1) (o := .cells #[.slice aF F.length cF] 31))
    have HB2 := Lib.hid (HB1.out.below HC.out.bel)
    have H2 := Lib.hid (H1.out.below HC.out.bel)
    have RF2 := Lib.hid (RF.out.below HC.out.bel)
    have HT := Lib.hid HB1.out.top
    have hq0 := HB2.out.cells0
    go_wp2_with fail
    refine (polcopy_any _ p D _ H2.out (by have := Hok.out.len; omega) (fun r hr => by have := (Hok.out.rules r hr).len; omega)).mono ?_
    rintro e w2 ⟨vP, rfl, hrP, hb2⟩
    have HB3 := Lib.hid (HB2.out.below hb2)
    have RF3 := Lib.hid (RF2.out.below hb2)
    have HC3 := Lib.hid (HC.out.below hb2)
    have HrP := Lib.hid hrP
    obtain ⟨aP, cP, rfl, _⟩ := Sl.form hrP
    clear hrP hb2 hq0 HB1 HB2 H1 H2 RF RF2 HC
    have hq1 := HB3.out.cells1
    have hf1 := HB3.out.free1
    have HS1 := Lib.hid (HB3.out.set (i := 1) rfl 0 (.bool true))
    have HS2 := Lib.hid (HS1.out.set (i := 1) rfl 1 (.slice (some ⟨w1.heap.size, 0, none⟩) 1 1))
    have HS3 := Lib.hid (HS2.out.set (i := 1) rfl 2 (.slice aP p.rules.length cP))
    have HS4 := Lib.hid (HS3.out.set (i := 1) rfl 3 (.int .i64 p.dflt))
    have hqs := HS4.out.cells1
    have hoth : ∀ b, b ≠ w.heap.size + 1 → ((((w2.setCell ⟨w.heap.size + 1, 0, none⟩ (.bool true)).setCell ⟨w.heap.size + 1, 1, none⟩ (.slice (some ⟨w1.heap.size, 0, none⟩) 1 1)).setCell ⟨w.heap.size + 1, 2, none⟩ (.slice aP p.rules.length cP)).setCell ⟨w.heap.size + 1, 3, none⟩ (.int .i64 p.dflt)).heap[b]? = w2.heap[b]? := fun b hb => by rw [set_other (by exact hb), set_other (by exact hb), set_other (by exact hb), set_other (by exact hb)]
    have hszs : ((((w2.setCell ⟨w.heap.size + 1, 0, none⟩ (.bool true)).setCell ⟨w.heap.size + 1, 1, none⟩ (.slice (some ⟨w1.heap.size, 0, none⟩) 1 1)).setCell ⟨w.heap.size + 1, 2, none⟩ (.slice aP p.rules.length cP)).setCell ⟨w.heap.size + 1, 3, none⟩ (.int .i64 p.dflt)).heap.size = w2.heap.size := by simp only [set_size]
    have htop : w.heap.size + 2 ≤ w1.heap.size := HT.out
    have HRP : Hid (RdRules ((((w2.setCell ⟨w.heap.size + 1, 0, none⟩ (.bool true)).setCell ⟨w.heap.size + 1, 1, none⟩ (.slice (some ⟨w1.heap.size, 0, none⟩) 1 1)).setCell ⟨w.heap.size + 1, 2, none⟩ (.slice aP p.rules.length cP)).setCell ⟨w.heap.size + 1, 3, none⟩ (.int .i64 p.dflt)) (fun b => w.heap.size ≤ b) (.slice aP p.rules.length cP) p.rules) := HrP.out.keep (fun b hb _ => by have h1 := hb; simp at h1; omega) (fun b hb _ => hoth b (by have h1 := hb; simp at h1; omega)) (by rw [hszs]; exact Nat.le_refl _)
    have HRC : Hid (RdChain ((((w2.setCell ⟨w.heap.size + 1, 0, none⟩ (.bool true)).setCell ⟨w.heap.size + 1, 1, none⟩ (.slice (some ⟨w1.heap.size, 0, none⟩) 1 1)).setCell ⟨w.heap.size + 1, 2, none⟩ (.slice aP p.rules.length cP)).setCell ⟨w.heap.size + 1, 3, none⟩ (.int .i64 p.dflt)) (fun b => w.heap.size ≤ b) (.slice (some ⟨w1.heap.size, 0, none⟩) 1 1) [F]) :=
      sl_block (xs := [F]) (rows := [[.slice aF F.length cF]]) (RowsOf.cons RowsOf.nil ⟨_, rfl, RF3.out.keep (fun b hb _ => by have h1 : w.heap.size + 2 ≤ b := hb; show w.heap.size ≤ b; omega) (fun b hb _ => hoth b (by have h1 : w.heap.size + 2 ≤ b := hb; omega)) (by rw [hszs]; exact Nat.le_refl _)⟩ rfl) ((hoth _ (by omega)).trans (HC3.out.at_ 0 _ rfl)) rfl (by show w.heap.size ≤ w1.heap.size; omega) (by simp [maxLen])
    have HBL : Hid (Below w.heap.size w ((((w2.setCell ⟨w.heap.size + 1, 0, none⟩ (.bool true)).setCell ⟨w.heap.size + 1, 1, none⟩ (.slice (some ⟨w1.heap.size, 0, none⟩) 1 1)).setCell ⟨w.heap.size + 1, 2, none⟩ (.slice aP p.rules.length cP)).setCell ⟨w.heap.size + 1, 3, none⟩ (.int .i64 p.dflt))) := HS4.out.bel
    have hqr : ∀ j, ((((w2.setCell ⟨w.heap.size + 1, 0, none⟩ (.bool true)).setCell ⟨w.heap.size + 1, 1, none⟩ (.slice (some ⟨w1.heap.size, 0, none⟩) 1 1)).setCell ⟨w.heap.size + 1, 2, none⟩ (.slice aP p.rules.length cP)).setCell ⟨w.heap.size + 1, 3, none⟩ (.int .i64 p.dflt)).cell? ⟨w.heap.size + 1, j, none⟩ = (#[Value.bool true, .slice (some ⟨w1.heap.size, 0, none⟩) 1 1, .slice aP p.rules.length cP, .int .i64 p.dflt] : Array Value)[j]? := HS4.out.cells (i := 1) rfl
    clear hoth hszs htop hqs HS1 HS2 HS3 HS4
    go_wp2
    refine bodyPost_ret (v := .tuple #[.agg #[.bool true, .slice (some ⟨w1.heap.size, 0, none⟩) 1 1, .slice aP p.rules.length cP, .int .i64 p.dflt], .int .i64 0]) ?_ rfl (by rw [Hbe.out]; exact ⟨_, _, _, _, rfl, HRC.out, HRP.out, HBL.out⟩)
    rw [results_cell_tmp rfl]
    go_simp
  · have hne : (fe != 0) = true := bne_iff_ne.2 h0
    have hbe : beginE p = (zeroCell, fe) := by unfold beginE; rw [hF]; simp [h0]
    have Hbe := Lib.hid hbe
    clear hF h0 hbe
    have hq1 := HB1.out.cells1
    have hf1 := HB1.out.free1
    have HS4 := Lib.hid ((((HB1.out.set (i := 1) rfl 0 (.bool false)).set (i := 1) rfl 1 (.slice none 0 0)).set (i := 1) rfl 2 (.slice none 0 0)).set (i := 1) rfl 3 (.int .i64 0))
    have HBL : Hid (Below w.heap.size w ((((w1.setCell ⟨w.heap.size + 1, 0, none⟩ (.bool false)).setCell ⟨w.heap.size + 1, 1, none⟩ (.slice none 0 0)).setCell ⟨w.heap.size + 1, 2, none⟩ (.slice none 0 0)).setCell ⟨w.heap.size + 1, 3, none⟩ (.int .i64 0))) := HS4.out.bel
    have hqr : ∀ j, ((((w1.setCell ⟨w.heap.size + 1, 0, none⟩ (.bool false)).setCell ⟨w.heap.size + 1, 1, none⟩ (.slice none 0 0)).setCell ⟨w.heap.size + 1, 2, none⟩ (.slice none 0 0)).setCell ⟨w.heap.size + 1, 3, none⟩ (.int .i64 0)).cell? ⟨w.heap.size + 1, j, none⟩ = (#[Value.bool false, .slice none 0 0, .slice none 0 0, .int .i64 0] : Array Value)[j]? := HS4.out.cells (i := 1) rfl
    clear HS4
    go_wp2
    refine bodyPost_ret (v := .tuple #[.agg #[.bool false, .slice none 0 0, .slice none 0 0, .int .i64 0], .int .i64 fe]) ?_ rfl (by rw [Hbe.out]; exact ⟨none, 0, none, 0, rfl, nil_chain _ _, ⟨none, 0, rfl, Nat.le_refl _, by decide, fun _ => rfl, fun h => by cases h⟩, HBL.out⟩)
    rw [results_cell_tmp rfl]
    go_simp
end Go.Proofs.YtkiipnbjckdlbaaGreatDoor
namespace Go.Proofs.YtkiipnbjckdlbaaGreatDoor
open Go.RowKit

theorem infocCell : (Tryz.prog.info? 66).map (fun i => (i.zero, i.size, i.bytes)) = some (some (.agg #[.bool false, .slice none 0 0, .slice none 0 0, .int .i64 0]), 4, 64) := by kernel_rfl

set_option maxRecDepth 100000 in
set_option maxHeartbeats 1000000 in
theorem cloneCell_any {α : Type} (R : α → List Value → Prop) (h1R : ∀ (y : α) (cs : List Value), R y cs → ∀ c ∈ cs, c.oneCell' = true) (v : Value) (xs : List α) (D : Nat → Prop) (w : World) (h : Sl w D 4 R v xs) (hn : xs.length * 64 ≤ 140737488355328) :
    Calls Tryz.prog 97 #[v] w fun e w' => ∃ v', e = .returned v' ∧ OwnSl w' w.heap.size 66 4 R v' xs ∧ Below w.heap.size w w' := by
  obtain ⟨i0, hi, hz0, hz1, hz2⟩ := info_parts infocCell
  have H := Lib.hid h
  obtain ⟨a, c, rfl, hlc, hcm, hnil, hat⟩ := h
  have Hi := Lib.hid hi
  clear hi
  cases a with
  | none =>
    have hc := hnil rfl
    subst hc
    have hx : xs = [] := List.length_eq_zero_iff.1 (by omega)
    subst hx
    have hq := fun (a : Option Addr) (n c : Nat) (W : World) => Lib.run_eql_slice_nil (P := Tryz.prog) W 53 66 a n c 0 0 Tryz.underlying53
    go_enter Tryz.func97, Tryz.ntmps97
    go_wp2
    go_ret
    exact ⟨_, rfl, OwnSl.nil, Below.refl _ _⟩
  | some ad =>
    have H2 := Lib.hid (H.out.belowR (bel_alloc (Below.refl _ w) (.cells #[] 66)) (fun _ _ _ h => h))
    have Hown : Hid (OwnSl (w.alloc (.cells #[] 66)) w.heap.size 66 4 R (.slice (some ⟨w.heap.size, 0, none⟩) 0 0) ([] : List α)) :=
      ⟨[], RowsOf.nil, by simp, .inr ⟨w.heap.size, 0, #[], rfl, Nat.le_refl _, heap_last _ _, by simp, by simp, by simp, by simp⟩⟩
    clear hat hnil
    have hq := fun (a : Option Addr) (n c : Nat) (W : World) => Lib.run_eql_slice_nil (P := Tryz.prog) W 53 66 a n c 0 0 Tryz.underlying53
    go_enter Tryz.func97, Tryz.ntmps97
    go_wp2_with (at_builtin; refine wpList_app rfl _ _ 53 rfl w.heap.size 66 i0 _ 4 64 Tryz.underlying53 Hi.out hz0 hz1 hz2 rfl (by decide) _ _ rfl Hown.out _ _ rfl H2.out (fun y _ cs h => h1R y cs h) (by show 0 + _ ≤ maxLen; unfold maxLen; omega) (by show (0 + _) * 64 ≤ _; omega) (by simp) ?_; intro v' w3 hown' hg)
    go_ret
    exact ⟨_, rfl, hown', Hown.out.grown (bel_alloc (Below.refl _ _) _) hg (by simp) (Nat.le_refl _)⟩
end Go.Proofs.YtkiipnbjckdlbaaGreatDoor
namespace Go.Proofs.YtkiipnbjckdlbaaGreatDoor
open Go.RowKit
attribute [local go_sem] gives givesUpon

/-- a session that is not too great to be copied. -/
def smallCell (c : TCell) : Prop := (c.chain.length ≤ 1000000 ∧ ∀ f ∈ c.chain, f.length ≤ 1000000) ∧ c.p.rules.length ≤ 1000000 ∧ ∀ r ∈ c.p.rules, r.conds.length ≤ 1000000
/-- a session, and whether its chain and its policy were copied: then they are read from blocks from B on; nothing is read from the row's own block g. -/
def cellC (g B : Nat) (W : World) (y : TCell × (Bool × Bool)) (cs : List Value) : Prop := ∃ u v, cs = [.bool y.1.open_, u, v, .int .i64 y.1.p.dflt] ∧ RdChain W (fun b => b ≠ g ∧ (y.2.1 = true → B ≤ b)) u y.1.chain ∧ RdRules W (fun b => b ≠ g ∧ (y.2.2 = true → B ≤ b)) v y.1.p.rules
theorem cellC_below {g B : Nat} (W W' : World) (y : TCell × (Bool × Bool)) (cs : List Value) (hb : Below W.heap.size W W') (h : cellC g B W y cs) : cellC g B W' y cs := by
  obtain ⟨u, v, h1, h2, h3⟩ := h
  exact ⟨u, v, h1, h2.below hb, h3.below hb⟩
theorem cellC_set {g B i : Nat} {x : Value} {W : World} (y : TCell × (Bool × Bool)) (cs : List Value) (h : cellC g B W y cs) : cellC g B (W.setCell ⟨g, i, none⟩ x) y cs := by
  obtain ⟨u, v, h1, h2, h3⟩ := h
  exact ⟨u, v, h1, h2.keep (fun _ h _ => h) (fun b hb _ => set_other (by exact hb.1)) (by rw [set_size]; exact Nat.le_refl _), h3.keep (fun _ h _ => h) (fun b hb _ => set_other (by exact hb.1)) (by rw [set_size]; exact Nat.le_refl _)⟩
theorem chain_stableG {g B : Nat} {l : List (List TIns)} : stableG g (fun v W => ∃ a c, v = .slice a l.length c ∧ RdChain W (fun b => B ≤ b ∧ b ≠ g) v l) := fun _ _ _ hg ⟨a, c, h1, h2⟩ =>
  ⟨a, c, h1, h2.keep (fun _ h _ => h) (fun b hb hl => hg.block b hl (fun e => hb.2 (by injection e))) hg.size⟩
theorem pol_stableG {g B : Nat} {l : List TRule} {d : Int} : stableG g (fun v W => ∃ a c, v = polV (.slice a l.length c) d ∧ RdRules W (fun b => B ≤ b ∧ b ≠ g) (.slice a l.length c) l) := fun _ _ _ hg ⟨a, c, h1, h2⟩ =>
  ⟨a, c, h1, h2.keep (fun _ h _ => h) (fun b hb hl => hg.block b hl (fun e => hb.2 (by injection e))) hg.size⟩

set_option maxRecDepth 100000 in
set_option maxHeartbeats 8000000 in
theorem keepcopy_any (v : Value) (l : List TCell) (D : Nat → Prop) (w : World) (h : RdCells w D v l) (hn : l.length ≤ 1000000) (hc : ∀ c ∈ l, smallCell c) :
    Calls Tryz.prog 68 #[v] w fun e w' => ∃ v', e = .returned v' ∧ OwnSl w' w.heap.size 66 4 (cellR w' (fun b => w.heap.size ≤ b ∧ v'.ownBlock ≠ some b)) v' l ∧ Below w.heap.size w w' := by
  have H := Lib.hid h
  have Hc := Lib.hid hc
  obtain ⟨a, c, rfl, hlc, hcm, hat⟩ := Sl.form h
  clear h hc hat
  go_enter Tryz.func68, Tryz.ntmps68
  go_wp2_with fail
  have H0 : Hid (Sl w D 4 (cellR w (fun b => b < w.heap.size)) (.slice a l.length c) l) := Sl.mono H.out (fun _ h _ => h) (fun _ _ _ => rfl) (Nat.le_refl _) (fun _ _ _ hy => cellR.keep hy (fun _ _ hl => hl) (fun _ _ _ => rfl) (Nat.le_refl _))
  refine (cloneCell_any (cellR w (fun b => b < w.heap.size)) (fun y cs h => cellR_one y cs h) _ l D w H0.out (by omega)).mono ?_
  rintro e w1 ⟨v1, rfl, ho1, hb1⟩
  have Ho1 : Hid (OwnSl w1 w.heap.size 66 4 (cellR w1 (fun b => b < w.heap.size)) v1 l) := ho1.monoR fun _ _ _ hy => cellR.keep hy (fun _ h _ => h) (fun b _ hl => hb1.block b hl) hb1.size
  have Hb1 := Lib.hid hb1
  obtain ⟨a1, c1, rfl⟩ := ho1.slice
  clear ho1 hb1 H0
  rcases Nat.eq_zero_or_pos l.length with h0 | hpos
  · have hl0 : l = [] := List.length_eq_zero_iff.1 h0
    subst hl0
    have hlen0 : ([] : List TCell).length = 0 := rfl
    go_wp2_with fail
    go_loopw [9] (fun kv wr => kv = .int .i64 0 ∧ wr = w1) (fun _ _ => 0)
    case atStart => exact ⟨rfl, rfl⟩
    case round =>
      obtain ⟨rfl, rfl⟩ := hrel
      go_wp2
      go_ret
      exact ⟨_, rfl, Ho1.out.monoR (fun x hx => by cases hx), Hb1.out⟩
  · obtain ⟨g, rfl, hgb, hgl, cur, hcur⟩ := OwnSl.addr Ho1.out hpos
    have HM : Hid (OwnSl w1 w.heap.size 66 4 (cellC g w.heap.size w1) (.slice (some ⟨g, 0, none⟩) l.length c1) (marks l 0 (true, true) (false, false))) := by
      show OwnSl _ _ _ _ _ _ _
      rw [marks_zero]
      exact Ho1.out.mark' fun x cs ⟨u, v, h1, h2, h3⟩ => ⟨u, v, h1, h2.keep (fun b hb _ => ⟨by omega, fun h => by cases h⟩) (fun _ _ _ => rfl) (Nat.le_refl _), h3.keep (fun b hb _ => ⟨by omega, fun h => by cases h⟩) (fun _ _ _ => rfl) (Nat.le_refl _)⟩
    have Hg := Lib.hid hgb
    clear hcur
    go_wp2_with fail
    go_loopw [9] (fun kv wr => ∃ k : Nat, kv = .int .i64 k ∧ k ≤ l.length ∧ OwnSl wr w.heap.size 66 4 (cellC g w.heap.size wr) (.slice (some ⟨g, 0, none⟩) l.length c1) (marks l k (true, true) (false, false)) ∧ Below w.heap.size w wr) (fun kv _ => l.length - (intOf kv).toNat)
    case atStart => exact ⟨0, rfl, by omega, HM.out, Hb1.out⟩
    case round =>
      obtain ⟨k, rfl, hk, hown, hbx⟩ := hrel
      have Hown := Lib.hid hown
      have Hbx := Lib.hid hbx
      clear hown hbx
      by_cases hlt : k < l.length
      · obtain ⟨c, hr⟩ : ∃ c, l[k]? = some c := ⟨_, List.getElem?_eq_getElem hlt⟩
        have Hrk := Lib.hid hr
        have Hck := Lib.hid (Hc.out c (List.mem_of_getElem? hr))
        have hown0 : PutInv wr w.heap.size 66 4 g l.length c1 (cellC g w.heap.size) (fun done => markm l k c (true, true) (done 12, done 15) (false, false)) (fun _ => false) wr :=
          ⟨by show OwnSl _ _ _ _ _ _ _; rw [markm_lo hr]; exact Hown.out, below_grow (Below.refl _ _) _⟩
        obtain ⟨cs, _, ⟨u, v, hu, hrc, hrp⟩, hcell⟩ := hown0.cells (markm_get hlt)
        have Hrc := Lib.hid hrc
        have Hrp := Lib.hid hrp
        have Hg2 := Lib.hid (hown0.blk (by rw [markm_len hlt]; omega)).2.1
        obtain ⟨ac, cc, rfl, _⟩ := Sl.form hrc
        obtain ⟨ap, cp, rfl, _⟩ := Sl.form hrp
        subst hu
        have hck0 := hcell 0 _ rfl
        have hck1 := hcell 1 _ rfl
        have hck2 := hcell 2 _ rfl
        have hck3 := hcell 3 _ rfl
        simp only [Nat.add_zero] at hck0
        clear hcell hrc hrp hown0 hr
        go_wp2_with fail
        have HC := Lib.hid (Bx.one (w := wr) (o := (.cells #[.bool c.open_, .slice ac c.chain.length cc, .slice ap c.p.rules.length cp, .int .i64 c.p.dflt] 66)))
        have HBq := Lib.hid (bel_call Hbx.out HC.out.bel)
        have Hownq : Hid (OwnSl (wr.alloc (.cells #[.bool c.open_, .slice ac c.chain.length cc, .slice ap c.p.rules.length cp, .int .i64 c.p.dflt] 66)) w.heap.size 66 4 (cellC g w.heap.size (wr.alloc (.cells #[.bool c.open_, .slice ac c.chain.length cc, .slice ap c.p.rules.length cp, .int .i64 c.p.dflt] 66))) (.slice (some ⟨g, 0, none⟩) l.length c1) (markm l k c (true, true) (false, false) (false, false))) := by
          show OwnSl _ _ _ _ _ _ _
          rw [markm_lo Hrk.out]
          exact (Hown.out.below HC.out.bel).monoR fun _ _ _ hy => cellC_below _ _ _ _ HC.out.bel hy
        have HrC := Lib.hid (RdChain.below Hrc.out HC.out.bel)
        have HrP := Lib.hid (RdRules.below Hrp.out HC.out.bel)
        have Hsq : Hid ((wr.alloc (.cells #[.bool c.open_, .slice ac c.chain.length cc, .slice ap c.p.rules.length cp, .int .i64 c.p.dflt] 66)).heap.size = wr.heap.size + 1) := by show _ = _; simp
        revert HC HBq Hownq HrC HrP Hsq
        generalize (wr.alloc (.cells #[.bool c.open_, .slice ac c.chain.length cc, .slice ap c.p.rules.length cp, .int .i64 c.p.dflt] 66)) = wq
        intro HC HBq Hownq HrC HrP Hsq
        clear hck0 hck1 hck2 hck3
        have hk0 : (0 : Int) ≤ (k : Int) := by omega
        have hkl : (k : Int) < (l.length : Int) := by omega
        have hkw : IntKind.i64.wrap (k : Int) = (k : Int) := IntWalk.i64_in _ (by omega)
        have Hlt := Lib.hid hlt
        refine wp_region_put g [ex (.slice (some ⟨g, 0, none⟩) l.length c1), ex (.int .i64 k), ex (.slice (some ⟨g, 0, none⟩) l.length c1), ex (.int .i64 k), ex (.pointer (some ⟨wr.heap.size, 1, none⟩)), ex (.slice ac c.chain.length cc), pr (fun v W => ∃ a c', v = .slice a c.chain.length c' ∧ RdChain W (fun b => w.heap.size ≤ b ∧ b ≠ g) v c.chain), ex (.pointer (some ⟨wr.heap.size, 2, none⟩)), ex (polV (.slice ap c.p.rules.length cp) c.p.dflt),
            pr (fun v W => ∃ a c', v = polV (.slice a c.p.rules.length c') c.p.dflt ∧ RdRules W (fun b => w.heap.size ≤ b ∧ b ≠ g) (.slice a c.p.rules.length c') c.p.rules), ex (.pointer (some ⟨g, k * 4, none⟩)), ex (.pointer (some ⟨g, k * 4 + 1, none⟩)), ex undef, ex (.pointer (some ⟨g, k * 4, none⟩)), ex (.pointer (some ⟨g, k * 4 + 2, none⟩)), ex undef]
          (PutInv wq w.heap.size 66 4 g l.length c1 (cellC g w.heap.size) (fun done => markm l k c (true, true) (done 12, done 15) (false, false))) (by kernel_rfl) (by kernel_rfl) ⟨.inl ⟨_, rfl⟩, .inl ⟨_, rfl⟩, .inl ⟨_, rfl⟩, .inl ⟨_, rfl⟩, .inl ⟨_, rfl⟩, .inl ⟨_, rfl⟩, .inr ⟨_, rfl, chain_stableG⟩, .inl ⟨_, rfl⟩, .inl ⟨_, rfl⟩, .inr ⟨_, rfl, pol_stableG⟩, .inl ⟨_, rfl⟩, .inl ⟨_, rfl⟩, .inl ⟨_, rfl⟩, .inl ⟨_, rfl⟩, .inl ⟨_, rfl⟩, .inl ⟨_, rfl⟩, trivial⟩ ⟨(Hownq.out.below (Below.refl _ _).drew).monoR fun _ _ _ hy => cellC_below _ _ _ _ (Below.refl _ _).drew hy, grow_drew _ _⟩ _ rfl ?_
        (refine walkP_ex (fun K hK => ?_); refine ⟨fun done W hI h0 hd hn hf R hR => ?_, ?_⟩; (clear h0 hd hn hf; go_simp; exact hR _ _ (hI.step cellC_below (Below.refl _ _) rfl) (below_grow (Below.refl _ _) _) rfl); (go_simp; refine hK _ ?_; clear hK K))
        (refine walkP_ex (fun K hK => ?_); refine ⟨fun done W hI h0 hd hn hf R hR => ?_, ?_⟩; (clear h0 hd hn hf; go_simp; exact hR _ _ (hI.step cellC_below (Below.refl _ _) rfl) (below_grow (Below.refl _ _) _) rfl); (go_simp; refine hK _ ?_; clear hK K))
        (refine walkP_ex (fun K hK => ?_); refine ⟨fun done W hI h0 hd hn hf R hR => ?_, ?_⟩; (clear h0 hd hn hf; go_simp; exact hR _ _ (hI.step cellC_below (Below.refl _ _) rfl) (below_grow (Below.refl _ _) _) rfl); (go_simp; refine hK _ ?_; clear hK K))
        (refine walkP_ex (fun K hK => ?_); refine ⟨fun done W hI h0 hd hn hf R hR => ?_, ?_⟩; (clear h0 hd hn hf; go_simp; exact hR _ _ (hI.step cellC_below (Below.refl _ _) rfl) (below_grow (Below.refl _ _) _) rfl); (go_simp; refine hK _ ?_; clear hK K))
        (refine walkP_ex (fun K hK => ?_); refine ⟨fun done W hI h0 hd hn hf R hR => ?_, ?_⟩; (clear h0 hd hn hf; go_simp; exact hR _ _ (hI.step cellC_below (Below.refl _ _) rfl) (below_grow (Below.refl _ _) _) rfl); (go_simp; refine hK _ ?_; clear hK K))
        (refine walkP_ex (fun K hK => ?_); refine ⟨fun done W hI h0 hd hn hf R hR => ?_, ?_⟩; (have hcl : ∀ j, W.cell? ⟨wr.heap.size, j, none⟩ = _ := cells_of ((hI.gr.block _ (by have := Hsq.out; omega) (fun e => by injection e with e; have := Hg2.out; omega)).trans (HC.out.at_ 0 _ rfl)); clear h0 hd hn hf; go_simp; exact hR _ _ (hI.step cellC_below (Below.refl _ _) rfl) (below_grow (Below.refl _ _) _) rfl); (go_simp; refine hK _ ?_; clear hK K))
        (refine walkP_pr (fun K hK => ?_); refine ⟨fun done W hI h0 hd hn hf R hR => ?_, fun v6c => ?_⟩; (have Hrw := Lib.hid (HrC.out.keep (w' := W) (D' := fun b => b ≠ g) (fun _ h _ => h.1) (fun b hb hl => hI.gr.block b hl (fun e => hb.1 (by injection e))) hI.gr.size); have HgW : Hid (g < W.heap.size) := (by have := hI.gr.size; have := Hg2.out; have := Hsq.out; show g < _; omega); have HwW : Hid (w.heap.size ≤ W.heap.size) := Nat.le_trans HBq.out.size hI.gr.size; clear h0 hd hn hf; go_simp; go_at_call 51; refine (copy_any _ c.chain _ W Hrw.out Hck.out.1.1 Hck.out.1.2).mono ?_; rintro e w5 ⟨v6, rfl, ho6, hb6⟩; exact ⟨_, rfl, hR _ _ (hI.step cellC_below hb6 rfl) (below_grow hb6 _) (by obtain ⟨a6, c6, rfl⟩ := ho6.slice; exact ⟨a6, c6, rfl, Sl.mono (ho6.sl (D := fun b => W.heap.size ≤ b) (fun _ h => h)) (fun b hb _ => ⟨Nat.le_trans HwW.out hb, by have h1 : W.heap.size ≤ b := hb; have := HgW.out; omega⟩) (fun _ _ _ => rfl) (Nat.le_refl _) (fun _ _ _ ⟨u, h1, h2⟩ => ⟨u, h1, h2.keep (fun b hb _ => ⟨Nat.le_trans HwW.out hb.1, by have h1 := hb.1; have := HgW.out; omega⟩) (fun _ _ _ => rfl) (Nat.le_refl _)⟩)⟩)⟩); (go_simp; refine hK _ _ ?_; clear hK K))
        (refine walkP_ex (fun K hK => ?_); refine ⟨fun done W hI h0 hd hn hf R hR => ?_, ?_⟩; (clear h0 hd hn hf; go_simp; exact hR _ _ (hI.step cellC_below (Below.refl _ _) rfl) (below_grow (Below.refl _ _) _) rfl); (go_simp; refine hK _ ?_; clear hK K))
        (refine walkP_ex (fun K hK => ?_); refine ⟨fun done W hI h0 hd hn hf R hR => ?_, ?_⟩; (have hcl : ∀ j, W.cell? ⟨wr.heap.size, j, none⟩ = _ := cells_of ((hI.gr.block _ (by have := Hsq.out; omega) (fun e => by injection e with e; have := Hg2.out; omega)).trans (HC.out.at_ 0 _ rfl)); clear h0 hd hn hf; go_simp; exact hR _ _ (hI.step cellC_below (Below.refl _ _) rfl) (below_grow (Below.refl _ _) _) rfl); (go_simp; refine hK _ ?_; clear hK K))
        (refine walkP_pr (fun K hK => ?_); refine ⟨fun done W hI h0 hd hn hf R hR => ?_, fun v9p => ?_⟩; (have Hrw := Lib.hid (HrP.out.keep (w' := W) (D' := fun b => b ≠ g) (fun _ h _ => h.1) (fun b hb hl => hI.gr.block b hl (fun e => hb.1 (by injection e))) hI.gr.size); have HgW : Hid (g < W.heap.size) := (by have := hI.gr.size; have := Hg2.out; have := Hsq.out; show g < _; omega); have HwW : Hid (w.heap.size ≤ W.heap.size) := Nat.le_trans HBq.out.size hI.gr.size; clear h0 hd hn hf; go_simp; go_at_call 70; refine (polcopy_any _ c.p _ W Hrw.out Hck.out.2.1 Hck.out.2.2).mono ?_; rintro e w5 ⟨v6, rfl, ho6, hb6⟩; exact ⟨_, rfl, hR _ _ (hI.step cellC_below hb6 rfl) (below_grow hb6 _) (by obtain ⟨a6, c6, rfl, _⟩ := Sl.form ho6; exact ⟨a6, c6, rfl, ho6.keep (fun b hb _ => ⟨Nat.le_trans HwW.out hb, by have h1 : W.heap.size ≤ b := hb; have := HgW.out; omega⟩) (fun _ _ _ => rfl) (Nat.le_refl _)⟩)⟩); (go_simp; refine hK _ _ ?_; clear hK K))
        (refine walkP_ex (fun K hK => ?_); refine ⟨fun done W hI h0 hd hn hf R hR => ?_, ?_⟩; (clear h0 hd hn hf; go_simp; exact hR _ _ (hI.step cellC_below (Below.refl _ _) rfl) (below_grow (Below.refl _ _) _) rfl); (go_simp; refine hK _ ?_; clear hK K))
        (refine walkP_ex (fun K hK => ?_); refine ⟨fun done W hI h0 hd hn hf R hR => ?_, ?_⟩; (clear h0 hd hn hf; go_simp; exact hR _ _ (hI.step cellC_below (Below.refl _ _) rfl) (below_grow (Below.refl _ _) _) rfl); (go_simp; refine hK _ ?_; clear hK K))
        (refine walkP_ex (fun K hK => ?_); refine ⟨fun done W hI h0 hd hn hf R hR => ?_, ?_⟩; (have h6 : ∃ a c', v6c = .slice a c.chain.length c' ∧ RdChain W (fun b => w.heap.size ≤ b ∧ b ≠ g) v6c c.chain := hf 6 (by decide); obtain ⟨a6, c6, rfl, hr6⟩ := h6; obtain ⟨_, _, ⟨u9, v9, rfl, hr9, hs9⟩, hcell⟩ := hI.cells (by exact markm_get Hlt.out); have hck := hcell 1 _ rfl; have hfz := hI.frz (by rw [markm_len Hlt.out]; have := Hlt.out; omega) (k * 4 + 1); have HN := Lib.hid (hI.put (done' := updDone done 12) (i := k) (j := 1) (u := .slice a6 c.chain.length c6) (y' := (c, (true, done 15))) (by decide) (by exact markm_get Hlt.out) (fun cs0 hcs => by obtain ⟨v0, v1, rfl, _, h3⟩ := hcs; exact ⟨_, _, rfl, hr6.keep (fun b hb _ => ⟨hb.2, fun _ => hb.1⟩) (fun b hb _ => set_other (by exact hb.2)) (by rw [set_size]; exact Nat.le_refl _), h3⟩) (fun z cs0 hz => cellC_set z cs0 hz) (by rw [markm_set Hlt.out]; rfl)); have HT := Lib.hid (grow_set W g (k * 4 + 1) (.slice a6 c.chain.length c6)); clear h0 hd hn hf hcell hI hs9 hr9 hr6; go_simp; exact hR _ _ HN.out HT.out rfl); (go_simp; refine hK _ ?_; clear hK K))
        (refine walkP_ex (fun K hK => ?_); refine ⟨fun done W hI h0 hd hn hf R hR => ?_, ?_⟩; (clear h0 hd hn hf; go_simp; exact hR _ _ (hI.step cellC_below (Below.refl _ _) rfl) (below_grow (Below.refl _ _) _) rfl); (go_simp; refine hK _ ?_; clear hK K))
        (refine walkP_ex (fun K hK => ?_); refine ⟨fun done W hI h0 hd hn hf R hR => ?_, ?_⟩; (clear h0 hd hn hf; go_simp; exact hR _ _ (hI.step cellC_below (Below.refl _ _) rfl) (below_grow (Below.refl _ _) _) rfl); (go_simp; refine hK _ ?_; clear hK K))
        (refine walkP_ex (fun K hK => ?_); refine ⟨fun done W hI h0 hd hn hf R hR => ?_, ?_⟩; (have h9 : ∃ a c', v9p = polV (.slice a c.p.rules.length c') c.p.dflt ∧ RdRules W (fun b => w.heap.size ≤ b ∧ b ≠ g) (.slice a c.p.rules.length c') c.p.rules := hf 9 (by decide); obtain ⟨a6, c6, rfl, hr6⟩ := h9; obtain ⟨_, _, ⟨u9, v9, rfl, hr9, hs9⟩, hcell⟩ := hI.cells (by exact markm_get Hlt.out); have hck := hcell 2 _ rfl; have hck3 := hcell 3 _ rfl; have hfz := hI.frz (by rw [markm_len Hlt.out]; have := Hlt.out; omega); have hN1 := (hI.put (done' := updDone done 15) (i := k) (j := 2) (u := .slice a6 c.p.rules.length c6) (y' := (c, (done 12, true))) (by decide) (by exact markm_get Hlt.out) (fun cs0 hcs => by obtain ⟨v0, v1, rfl, h3, _⟩ := hcs; exact ⟨_, _, rfl, h3, hr6.keep (fun b hb _ => ⟨hb.2, fun _ => hb.1⟩) (fun b hb _ => set_other (by exact hb.2)) (by rw [set_size]; exact Nat.le_refl _)⟩) (fun z cs0 hz => cellC_set z cs0 hz) (by rw [markm_set Hlt.out]; rfl)); have HN := Lib.hid (hN1.put (done' := updDone done 15) (i := k) (j := 3) (u := .int .i64 c.p.dflt) (y' := (c, (done 12, true))) (by decide) (by exact markm_get Hlt.out) (fun cs0 hcs => by obtain ⟨v0, v1, rfl, h3, h4⟩ := hcs; exact ⟨_, _, rfl, h3, h4⟩) (fun z cs0 hz => cellC_set z cs0 hz) (by rw [markm_set Hlt.out]; rfl)); have HT := Lib.hid (grow_trans (grow_set W g (k * 4 + 2) (.slice a6 c.p.rules.length c6)) (grow_set _ g (k * 4 + 3) (.int .i64 c.p.dflt))); clear h0 hd hn hf hcell hI hN1 hs9 hr9 hr6; go_simp; exact hR _ _ HN.out HT.out rfl); (go_simp; refine hK _ ?_; clear hK K))
        intro done W hdone hI _
        have h12 : done 12 = true := hdone 12 (by decide)
        have h15 : done 15 = true := hdone 15 (by decide)
        have ho := hI.own
        rw [h12, h15, markm_hi Hrk.out] at ho
        have HO := Lib.hid ho
        have HBw := Lib.hid (below_of_grow HBq.out hI.gr HBq.out.size Hg.out)
        clear hI hdone h12 h15 ho
        go_wp2
        go_roundw
        case rel => exact ⟨k + 1, by go_num, by omega, HO.out, HBw.out⟩
        case measure => simp [intOf]; omega
      · obtain rfl : k = l.length := by omega
        have ho := Hown.out
        rw [marks_all] at ho
        have HR : Hid (OwnSl wr w.heap.size 66 4 (cellR wr (fun b => w.heap.size ≤ b ∧ (Value.slice (some ⟨g, 0, none⟩) l.length c1).ownBlock ≠ some b)) (.slice (some ⟨g, 0, none⟩) l.length c1) l) :=
          ho.unmark' fun x cs ⟨u, v, h1, h2, h3⟩ => ⟨u, v, h1, h2.keep (fun b hb _ => ⟨hb.2 rfl, fun e => hb.1 (by simpa [Value.ownBlock] using e.symm)⟩) (fun _ _ _ => rfl) (Nat.le_refl _), h3.keep (fun b hb _ => ⟨hb.2 rfl, fun e => hb.1 (by simpa [Value.ownBlock] using e.symm)⟩) (fun _ _ _ => rfl) (Nat.le_refl _)⟩
        clear ho
        go_wp2
        go_ret
        exact ⟨_, rfl, HR.out, Hbx.out⟩
end Go.Proofs.YtkiipnbjckdlbaaGreatDoor
namespace Go.Proofs.YtkiipnbjckdlbaaGreatDoor
open Go.RowKit

/-- blocks from B on, but g. -/
def Dg (B g : Nat) (b : Nat) : Prop := B ≤ b ∧ b ≠ g
theorem cellR_set {W : World} {B g i : Nat} {x : Value} {y : TCell} {cs : List Value} (h : cellR W (Dg B g) y cs) : cellR (W.setCell ⟨g, i, none⟩ x) (Dg B g) y cs :=
  h.keep (fun _ h _ => h) (fun b hb _ => set_other (by exact hb.2)) (by rw [set_size]; exact Nat.le_refl _)
theorem chainD_set {W : World} {B g i : Nat} {x v : Value} {l : List (List TIns)} (h : RdChain W (Dg B g) v l) : RdChain (W.setCell ⟨g, i, none⟩ x) (Dg B g) v l :=
  h.keep (fun _ h _ => h) (fun b hb _ => set_other (by exact hb.2)) (by rw [set_size]; exact Nat.le_refl _)
theorem rulesD_set {W : World} {B g i : Nat} {x v : Value} {l : List TRule} (h : RdRules W (Dg B g) v l) : RdRules (W.setCell ⟨g, i, none⟩ x) (Dg B g) v l :=
  h.keep (fun _ h _ => h) (fun b hb _ => set_other (by exact hb.2)) (by rw [set_size]; exact Nat.le_refl _)
section
variable {W : World} {B B0 g n c k : Nat} {l : List TCell} {u v : Value}
/-- a row of sessions of the call's own. -/
def OwnCells (W : World) (B0 B g n c : Nat) (l : List TCell) : Prop := OwnSl W B0 66 4 (cellR W (Dg B g)) (.slice (some ⟨g, 0, none⟩) n c) l
theorem OwnCells.below {W' : World} (h : OwnCells W B0 B g n c l) (hb : Below W.heap.size W W') : OwnCells W' B0 B g n c l :=
  (OwnSl.below h hb).monoR fun _ _ _ hy => hy.keep (fun _ h _ => h) (fun b _ hl => hb.block b hl) hb.size
/-- the cells of one session. -/
theorem OwnCells.cells (h : OwnCells W B0 B g n c l) {x : TCell} (hk : l[k]? = some x) : ∃ (a1 a2 : Option Addr) (c1 c2 : Nat), W.cell? ⟨g, k * 4, none⟩ = some (.bool x.open_) ∧ W.cell? ⟨g, k * 4 + 1, none⟩ = some (.slice a1 x.chain.length c1) ∧ W.cell? ⟨g, k * 4 + 2, none⟩ = some (.slice a2 x.p.rules.length c2) ∧ W.cell? ⟨g, k * 4 + 3, none⟩ = some (.int .i64 x.p.dflt) ∧
      RdChain W (Dg B g) (.slice a1 x.chain.length c1) x.chain ∧ RdRules W (Dg B g) (.slice a2 x.p.rules.length c2) x.p.rules := by
  obtain ⟨hlt, rfl⟩ := List.getElem?_eq_some_iff.1 hk
  have hs := OwnSl.sl h (D := fun _ => True) (fun _ _ => trivial)
  obtain ⟨cs, hl, ⟨u, v, rfl, hc, hp⟩, hcell⟩ := Sl.get hs hlt
  obtain ⟨a1, c1, hv, _⟩ := Sl.form hc
  obtain ⟨a2, c2, hv2, _⟩ := Sl.form hp
  subst hv hv2
  exact ⟨a1, a2, c1, c2, by have := hcell 0 _ rfl; simpa using this, by have := hcell 1 _ rfl; simpa using this, by have := hcell 2 _ rfl; simpa using this, by have := hcell 3 _ rfl; simpa using this, hc, hp⟩
theorem OwnCells.frz (h : OwnCells W B0 B g n c l) (hl : 0 < l.length) (j : Nat) : W.frozen? ⟨g, j, none⟩ = false := by
  obtain ⟨b, e, _, _, cur, hc⟩ := OwnSl.addr h hl
  injection e with e
  injection e with e
  subst e
  exact not_frozen hc j
theorem OwnCells.lt (h : OwnCells W B0 B g n c l) (hl : 0 < l.length) : B0 ≤ g ∧ g < W.heap.size := by
  obtain ⟨b, e, h1, h2, _⟩ := OwnSl.addr h hl
  injection e with e
  injection e with e
  subst e
  exact ⟨h1, h2⟩
theorem set_set' {α : Type} (l : List α) (k : Nat) (a b : α) : (l.set k a).set k b = l.set k b := by simp
theorem OwnCells.chain (h : OwnCells W B0 B g n c l) {x : TCell} (hk : l[k]? = some x) {ch : List (List TIns)} (hu : RdChain W (Dg B g) u ch) :
    OwnCells (W.setCell ⟨g, k * 4 + 1, none⟩ u) B0 B g n c (l.set k ⟨x.open_, ch, x.p⟩) := by
  obtain ⟨hlt, rfl⟩ := List.getElem?_eq_some_iff.1 hk
  exact OwnSl.put (OwnSl.monoR h fun z _ cs hz => cellR_set hz) hlt (by decide) (fun r ⟨u0, v0, hr, h1, h2⟩ => by subst hr; exact ⟨_, _, rfl, chainD_set hu, h2⟩)
theorem OwnCells.rules (h : OwnCells W B0 B g n c l) {x : TCell} (hk : l[k]? = some x) {rs : List TRule} (hu : RdRules W (Dg B g) u rs) :
    OwnCells (W.setCell ⟨g, k * 4 + 2, none⟩ u) B0 B g n c (l.set k ⟨x.open_, x.chain, ⟨rs, x.p.dflt⟩⟩) := by
  obtain ⟨hlt, rfl⟩ := List.getElem?_eq_some_iff.1 hk
  exact OwnSl.put (OwnSl.monoR h fun z _ cs hz => cellR_set hz) hlt (by decide) (fun r ⟨u0, v0, hr, h1, h2⟩ => by subst hr; exact ⟨_, _, rfl, h1, rulesD_set hu⟩)
theorem OwnCells.dflt (h : OwnCells W B0 B g n c l) {x : TCell} (hk : l[k]? = some x) (d : Int) :
    OwnCells (W.setCell ⟨g, k * 4 + 3, none⟩ (.int .i64 d)) B0 B g n c (l.set k ⟨x.open_, x.chain, ⟨x.p.rules, d⟩⟩) := by
  obtain ⟨hlt, rfl⟩ := List.getElem?_eq_some_iff.1 hk
  exact OwnSl.put (OwnSl.monoR h fun z _ cs hz => cellR_set hz) hlt (by decide) (fun r ⟨u0, v0, hr, h1, h2⟩ => by subst hr; exact ⟨_, _, rfl, h1, h2⟩)
theorem OwnCells.open_ (h : OwnCells W B0 B g n c l) {x : TCell} (hk : l[k]? = some x) (o : Bool) :
    OwnCells (W.setCell ⟨g, k * 4, none⟩ (.bool o)) B0 B g n c (l.set k ⟨o, x.chain, x.p⟩) := by
  obtain ⟨hlt, rfl⟩ := List.getElem?_eq_some_iff.1 hk
  exact OwnSl.put (i := k) (j := 0) (OwnSl.monoR h fun z _ cs hz => cellR_set hz) hlt (by decide) (fun r ⟨u0, v0, hr, h1, h2⟩ => by subst hr; exact ⟨_, _, rfl, h1, h2⟩)
/-- its policy put anew. -/
theorem OwnCells.pol (h : OwnCells W B0 B g n c l) {x : TCell} (hk : l[k]? = some x) {p : TPol} (hu : RdRules W (Dg B g) u p.rules) :
    OwnCells ((W.setCell ⟨g, k * 4 + 2, none⟩ u).setCell ⟨g, k * 4 + 3, none⟩ (.int .i64 p.dflt)) B0 B g n c (l.set k ⟨x.open_, x.chain, p⟩) := by
  have hlt := (List.getElem?_eq_some_iff.1 hk).1
  have := (h.rules hk hu).dflt (x := ⟨x.open_, x.chain, ⟨p.rules, x.p.dflt⟩⟩) (by rw [List.getElem?_set_self hlt]) p.dflt
  rwa [set_set'] at this
/-- all of it put anew. -/
theorem OwnCells.put (h : OwnCells W B0 B g n c l) {x y : TCell} (hk : l[k]? = some x) (hu : RdChain W (Dg B g) u y.chain) (hv : RdRules W (Dg B g) v y.p.rules) :
    OwnCells ((((W.setCell ⟨g, k * 4, none⟩ (.bool y.open_)).setCell ⟨g, k * 4 + 1, none⟩ u).setCell ⟨g, k * 4 + 2, none⟩ v).setCell ⟨g, k * 4 + 3, none⟩ (.int .i64 y.p.dflt)) B0 B g n c (l.set k y) := by
  have hlt := (List.getElem?_eq_some_iff.1 hk).1
  have h1 := (h.open_ hk y.open_).chain (x := ⟨y.open_, x.chain, x.p⟩) (by rw [List.getElem?_set_self hlt]) (chainD_set hu)
  rw [set_set'] at h1
  have h2 := h1.pol (x := ⟨y.open_, y.chain, x.p⟩) (by rw [List.getElem?_set_self hlt]) (p := y.p) (rulesD_set (rulesD_set hv))
  rwa [set_set'] at h2
theorem OwnCells.read {B' : Nat} (h : OwnCells W B0 B g n c l) (h1 : B' ≤ B0) (h2 : B' ≤ B) : RdCells W (fun b => B' ≤ b) (.slice (some ⟨g, 0, none⟩) n c) l :=
  Sl.mono (OwnSl.sl h (D := fun b => B' ≤ b) (fun _ hb => Nat.le_trans h1 hb)) (fun _ h _ => h) (fun _ _ _ => rfl) (Nat.le_refl _) (fun _ _ _ hy => hy.keep (fun _ hb _ => Nat.le_trans h2 hb.1) (fun _ _ _ => rfl) (Nat.le_refl _))
end
theorem cell_small {c : TCell} (h : cellE c = 0) : smallCell c := by
  obtain ⟨o, ch, p⟩ := c
  unfold cellE at h
  unfold smallCell
  dsimp only at h ⊢
  cases o with
  | false =>
    simp only [Bool.false_eq_true, if_false] at h
    split at h
    · rename_i h1
      obtain ⟨h1, h2, h3⟩ := h1
      rw [h1, h3]
      simp
    · cases h
  | true =>
    simp only [if_true] at h
    split at h
    · cases h
    · split at h
      · rename_i h1; exact absurd h h1
      · rename_i h1
        have hc := (chainE_iff ch).1 (by simpa using h1)
        have hp := (okPol_iff p).1 h
        exact ⟨⟨by have := hc.1; omega, fun f hf => by have := codeE_len (hc.2 f hf); omega⟩, by have := hp.len; omega, fun r hr => by have := (hp.rules r hr).len; omega⟩
end Go.Proofs.YtkiipnbjckdlbaaGreatDoor
