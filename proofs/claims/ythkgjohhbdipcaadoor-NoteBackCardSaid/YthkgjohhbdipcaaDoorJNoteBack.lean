/- NoteBack returns true at every two policies and string. Condition: Laid. -/
import Derived.Test.YthkgjohhbdipcaaDoorK10
namespace Go.Proofs.YthkgjohhbdipcaaDoor
open Go.RowKit

theorem nreadE_back {L : List UInt8} {X : TRec} (h : nreadE L = (X, 0)) : L.length ≤ 60000 ∧ recE X = 0 ∧ recW X = L := by
  by_cases hl : 60000 < L.length
  · unfold nreadE at h
    rw [if_pos hl] at h
    simp at h
  · rw [nreadE_short (by omega)] at h
    obtain ⟨h1, h2⟩ := read_recW h
    exact ⟨by omega, h1, h2⟩
set_option maxRecDepth 100000 in
set_option maxHeartbeats 16000000 in
theorem noteBack_walk {w : World} (hL : Laid w) (v0 : Value) (t0 : TRec) (rd0 : RdRec w v0 t0) (v1 : Value) (t1 : TRec) (rd1 : RdRec w v1 t1) (s : ByteArray) (ws : s.size ≤ maxLen) :
    Calls Tryd.prog 4 #[v0, v1, .string s] w fun e w' => e = .returned (.bool true) ∧ Below w.heap.size w w' := by
  have HL := Lib.hid hL
  obtain ⟨u0, rfl, hr0⟩ := rd0
  obtain ⟨u1, rfl, hr1⟩ := rd1
  have H0 := Lib.hid hr0
  have H1 := Lib.hid hr1
  obtain ⟨a0, c0, rfl, _⟩ := Sl.form hr0
  obtain ⟨a1, c1, rfl, _⟩ := Sl.form hr1
  obtain ⟨L, rfl⟩ : ∃ L, s = bsL L := ⟨s.data.toList, by cases s; simp [bsL]⟩
  clear hL hr0 hr1 ws
  go_enter Tryd.func4, Tryd.ntmps4
  go_wp2_with fail
  have HB := Lib.hid (Bx.two (w := w) (o := .cells #[.int .i64 t0.kind, .int .i64 t0.cell, .int .i64 t0.from_, .slice a0 t0.p.rules.length c0, .int .i64 t0.p.dflt] 34) (o' := .cells #[.int .i64 t1.kind, .int .i64 t1.cell, .int .i64 t1.from_, .slice a1 t1.p.rules.length c1, .int .i64 t1.p.dflt] 34))
  refine (nprint_any _ t0 _ _ (RdRules.below H0.out HB.out.bel) (HL.out.below HB.out.bel)).mono ?_
  rintro e w1 ⟨rfl, hb1⟩
  have HB1 := Lib.hid (HB.out.below hb1)
  have hq1 := HB1.out.cells1
  clear hb1 HB
  go_wp2_with fail
  clear hq1
  refine (nprint_any _ t1 _ _ (RdRules.below H1.out HB1.out.bel) (HL.out.below HB1.out.bel)).mono ?_
  rintro e w2 ⟨rfl, hb2⟩
  have HB2 := Lib.hid (HB1.out.below hb2)
  clear hb2 HB1
  by_cases h0 : recE t0 = 0
  · have HP0 : Hid (nprintE t0 = (recW t0, 0)) := if_pos h0
    have HT0 : Hid (nreadE (recW t0) = (t0, 0)) := by show _ = _; rw [nreadE_short (by have := recW_len h0; omega)]; exact recW_read h0
    have Hk0 : Hid (recE t0 = 0) := h0
    have hlen0 : ((bsL (recW t0)).size : Int) ≤ 60000 := by have := recW_len Hk0.out; simp [bsL, ByteArray.size]; omega
    rw [HP0.out]
    dsimp only
    clear h0
    by_cases h1 : recE t1 = 0
    · have HP1 : Hid (nprintE t1 = (recW t1, 0)) := if_pos h1
      obtain ⟨q, hq⟩ : ∃ q, decide (t0 = t1) = q := ⟨_, rfl⟩
      have hcmp : ((bsL (recW t0)).toList == (bsL (recW t1)).toList) = q := by
        rw [ByteArray.toList_eq, ByteArray.toList_eq, bsL_toList, bsL_toList, ← hq, Bool.eq_iff_iff, beq_iff_eq, decide_eq_true_iff]
        exact recW_inj Hk0.out h1
      have Hq := Lib.hid hq
      rw [HP1.out]
      dsimp only
      clear h1 hq
      go_wp2_with fail
      refine (noted_walk _ (HL.out.below HB2.out.bel)).mono ?_
      rintro e w3 ⟨rfl, hb3⟩
      have HB3 := Lib.hid (HB2.out.below hb3)
      have hqa := HB3.out.cells0
      have hqb := HB3.out.cells1
      clear hb3 HB2
      go_wp2_with fail
      clear hqa hqb hcmp
      refine (nsame_any t0 t1 _ _ _ (RdRules.below H0.out HB3.out.bel) (RdRules.below H1.out HB3.out.bel)).mono ?_
      rw [Hq.out]
      rintro e w4 ⟨rfl, hb4⟩
      have HB4 := Lib.hid (HB3.out.below hb4)
      have hqq : (q != q) = false := bne_self_eq_false _
      clear hb4 HB3
      go_wp2_with fail
      clear hqq
      refine (nparse_any (recW t0) _ (HL.out.below HB4.out.bel)).mono ?_
      rw [HT0.out]
      rintro e w5 ⟨v5, rfl, hr5, hb5⟩
      obtain ⟨a5, c5, rfl, _⟩ := Sl.form hr5
      have HB5' := Lib.hid (HB4.out.below hb5)
      have HC5 := Lib.hid (Bx.one (w := w5) (o := .cells #[.int .i64 t0.kind, .int .i64 t0.cell, .int .i64 t0.from_, .slice a5 t0.p.rules.length c5, .int .i64 t0.p.dflt] 34))
      have HB5 := Lib.hid (HB5'.out.below HC5.out.bel)
      have Hr5 := Lib.hid (rules_true (RdRules.below hr5 HC5.out.bel))
      have hqc := HC5.out.cells0
      have hq0 := HB5.out.cells0
      clear hr5 hb5 HB5'
      dsimp only
      go_wp2_with fail
      clear hqc hq0
      refine (nsame_any t0 t0 _ _ _ Hr5.out (RdRules.below H0.out HB5.out.bel)).mono ?_
      rw [decide_eq_true (rfl : t0 = t0)]
      rintro e w6 ⟨rfl, hb6⟩
      have HB6 := Lib.hid (HB5.out.below hb6)
      clear hb6
      go_wp2_with fail
      refine (nparse_any L _ (HL.out.below HB6.out.bel)).mono ?_
      obtain ⟨⟨X, xe⟩, hX⟩ : ∃ E, nreadE L = E := ⟨_, rfl⟩
      have HX := Lib.hid hX
      rw [hX]
      rintro e x1 ⟨vx, rfl, hrx, hbx⟩
      dsimp only at hrx
      obtain ⟨ax, cx, rfl, _⟩ := Sl.form hrx
      have HBx := Lib.hid (HB6.out.below hbx)
      have HC := Lib.hid (Bx.one (w := x1) (o := .cells #[.int .i64 X.kind, .int .i64 X.cell, .int .i64 X.from_, .slice ax X.p.rules.length cx, .int .i64 X.p.dflt] 34))
      have HBy := Lib.hid (HBx.out.below HC.out.bel)
      have Hrx := Lib.hid (RdRules.below hrx HC.out.bel)
      clear hX hrx hbx
      dsimp only
      by_cases hxe : xe = 0
      · subst hxe
        obtain ⟨hlx, hpx, htx⟩ := nreadE_back HX.out
        have HP : Hid (nprintE X = (L, 0)) := by show _ = _; unfold nprintE; rw [if_pos hpx, htx]
        have hqc := HC.out.cells0
        have hcmp : ((bsL L).toList == (bsL L).toList) = true := beq_self_eq_true _
        clear hlx hpx htx
        go_wp2_with fail
        refine (nprint_any _ X _ _ Hrx.out (HL.out.below HBy.out.bel)).mono ?_
        rw [HP.out]
        rintro e x2 ⟨rfl, hb2⟩
        have HBf := Lib.hid (HBy.out.below hb2).bel
        clear hb2 hqc
        dsimp only
        go_wp2
        go_ret
        exact ⟨rfl, HBf.out⟩
      · have hne : (xe != 0) = true := bne_iff_ne.2 hxe
        have HBf := Lib.hid HBy.out.bel
        clear hxe
        go_wp2
        go_ret
        exact ⟨rfl, HBf.out⟩
    · have hne : (recE t1 == 0) = false := beq_eq_false_iff_ne.2 h1
      have HP1 : Hid (nprintE t1 = ([], recE t1)) := if_neg h1
      rw [HP1.out]
      dsimp only
      clear h1
      go_wp2_with fail
      refine (noted_walk _ (HL.out.below HB2.out.bel)).mono ?_
      rintro e w3 ⟨rfl, hb3⟩
      have HB3 := Lib.hid (HB2.out.below hb3)
      clear hb3 HB2
      go_wp2_with fail
      refine (nparse_any (recW t0) _ (HL.out.below HB3.out.bel)).mono ?_
      rw [HT0.out]
      rintro e w5 ⟨v5, rfl, hr5, hb5⟩
      obtain ⟨a5, c5, rfl, _⟩ := Sl.form hr5
      have HB5' := Lib.hid (HB3.out.below hb5)
      have HC5 := Lib.hid (Bx.one (w := w5) (o := .cells #[.int .i64 t0.kind, .int .i64 t0.cell, .int .i64 t0.from_, .slice a5 t0.p.rules.length c5, .int .i64 t0.p.dflt] 34))
      have HB5 := Lib.hid (HB5'.out.below HC5.out.bel)
      have Hr5 := Lib.hid (rules_true (RdRules.below hr5 HC5.out.bel))
      have hqc := HC5.out.cells0
      have hq0 := HB5.out.cells0
      clear hr5 hb5 HB5'
      dsimp only
      go_wp2_with fail
      clear hqc hq0
      refine (nsame_any t0 t0 _ _ _ Hr5.out (RdRules.below H0.out HB5.out.bel)).mono ?_
      rw [decide_eq_true (rfl : t0 = t0)]
      rintro e w6 ⟨rfl, hb6⟩
      have HB6 := Lib.hid (HB5.out.below hb6)
      clear hb6
      go_wp2_with fail
      refine (nparse_any L _ (HL.out.below HB6.out.bel)).mono ?_
      obtain ⟨⟨X, xe⟩, hX⟩ : ∃ E, nreadE L = E := ⟨_, rfl⟩
      have HX := Lib.hid hX
      rw [hX]
      rintro e x1 ⟨vx, rfl, hrx, hbx⟩
      dsimp only at hrx
      obtain ⟨ax, cx, rfl, _⟩ := Sl.form hrx
      have HBx := Lib.hid (HB6.out.below hbx)
      have HC := Lib.hid (Bx.one (w := x1) (o := .cells #[.int .i64 X.kind, .int .i64 X.cell, .int .i64 X.from_, .slice ax X.p.rules.length cx, .int .i64 X.p.dflt] 34))
      have HBy := Lib.hid (HBx.out.below HC.out.bel)
      have Hrx := Lib.hid (RdRules.below hrx HC.out.bel)
      clear hX hrx hbx
      dsimp only
      by_cases hxe : xe = 0
      · subst hxe
        obtain ⟨hlx, hpx, htx⟩ := nreadE_back HX.out
        have HP : Hid (nprintE X = (L, 0)) := by show _ = _; unfold nprintE; rw [if_pos hpx, htx]
        have hqc := HC.out.cells0
        have hcmp : ((bsL L).toList == (bsL L).toList) = true := beq_self_eq_true _
        clear hlx hpx htx
        go_wp2_with fail
        refine (nprint_any _ X _ _ Hrx.out (HL.out.below HBy.out.bel)).mono ?_
        rw [HP.out]
        rintro e x2 ⟨rfl, hb2⟩
        have HBf := Lib.hid (HBy.out.below hb2).bel
        clear hb2 hqc
        dsimp only
        go_wp2
        go_ret
        exact ⟨rfl, HBf.out⟩
      · have hne : (xe != 0) = true := bne_iff_ne.2 hxe
        have HBf := Lib.hid HBy.out.bel
        clear hxe
        go_wp2
        go_ret
        exact ⟨rfl, HBf.out⟩
  · have hne : (recE t0 == 0) = false := beq_eq_false_iff_ne.2 h0
    have HP0 : Hid (nprintE t0 = ([], recE t0)) := if_neg h0
    rw [HP0.out]
    dsimp only
    clear h0
    go_wp2_with fail
    refine (noted_walk _ (HL.out.below HB2.out.bel)).mono ?_
    rintro e w3 ⟨rfl, hb3⟩
    have HB3 := Lib.hid (HB2.out.below hb3)
    clear hb3 HB2
    go_wp2_with fail
    refine (nparse_any L _ (HL.out.below HB3.out.bel)).mono ?_
    obtain ⟨⟨X, xe⟩, hX⟩ : ∃ E, nreadE L = E := ⟨_, rfl⟩
    have HX := Lib.hid hX
    rw [hX]
    rintro e x1 ⟨vx, rfl, hrx, hbx⟩
    dsimp only at hrx
    obtain ⟨ax, cx, rfl, _⟩ := Sl.form hrx
    have HBx := Lib.hid (HB3.out.below hbx)
    have HC := Lib.hid (Bx.one (w := x1) (o := .cells #[.int .i64 X.kind, .int .i64 X.cell, .int .i64 X.from_, .slice ax X.p.rules.length cx, .int .i64 X.p.dflt] 34))
    have HBy := Lib.hid (HBx.out.below HC.out.bel)
    have Hrx := Lib.hid (RdRules.below hrx HC.out.bel)
    clear hX hrx hbx
    dsimp only
    by_cases hxe : xe = 0
    · subst hxe
      obtain ⟨hlx, hpx, htx⟩ := nreadE_back HX.out
      have HP : Hid (nprintE X = (L, 0)) := by show _ = _; unfold nprintE; rw [if_pos hpx, htx]
      have hqc := HC.out.cells0
      have hcmp : ((bsL L).toList == (bsL L).toList) = true := beq_self_eq_true _
      clear hlx hpx htx
      go_wp2_with fail
      refine (nprint_any _ X _ _ Hrx.out (HL.out.below HBy.out.bel)).mono ?_
      rw [HP.out]
      rintro e x2 ⟨rfl, hb2⟩
      have HBf := Lib.hid (HBy.out.below hb2).bel
      clear hb2 hqc
      dsimp only
      go_wp2
      go_ret
      exact ⟨rfl, HBf.out⟩
    · have hne : (xe != 0) = true := bne_iff_ne.2 hxe
      have HBf := Lib.hid HBy.out.bel
      clear hxe
      go_wp2
      go_ret
      exact ⟨rfl, HBf.out⟩
end Go.Proofs.YthkgjohhbdipcaaDoor
