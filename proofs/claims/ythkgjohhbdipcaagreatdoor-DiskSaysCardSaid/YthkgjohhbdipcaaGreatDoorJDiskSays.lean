/- DiskSays returns true at every two disks, record and number. Condition: LaidF. -/
import Derived.Test.YthkgjohhbdipcaaGreatDoorK13
import Derived.Test.YthkgjohhbdipcaaGreatDoorK11
import Derived.Test.YthkgjohhbdipcaaGreatDoorK10
namespace Go.Proofs.YthkgjohhbdipcaaGreatDoor
open Go.RowKit
attribute [local go_sem] gives givesUpon

/-- a disk in a box. -/
structure KBox (W : World) (b : Nat) (u v : Value) (d : TDisk) : Prop where
  box : W.heap[b]? = some (.cells #[u, v] 25)
  rd : RdDisk W (fun _ => True) u v d
theorem KBox.below {W W' : World} {b : Nat} {u v : Value} {d : TDisk} (h : KBox W b u v d) (hb : Below W.heap.size W W') : KBox W' b u v d := ⟨blk_below h.box hb, RdDisk.below h.rd hb⟩
theorem KBox.new {W : World} {D : Nat → Prop} {u v : Value} {d : TDisk} (h : RdDisk W D u v d) : KBox (W.alloc (.cells #[u, v] 25)) W.heap.size u v d := ⟨heap_last _ _, RdDisk.true (RdDisk.below h (bel_alloc (Below.refl _ _) _))⟩
theorem take_disk {W : World} {a1 a2 : Option Addr} {c1 c2 k : Nat} {d e : TDisk} (h : RdDisk W (fun _ => True) (.slice a1 d.safe.length c1) (.slice a2 d.wait.length c2) d) (hk : k ≤ d.wait.length) (he : e = ⟨d.safe, d.wait.take k⟩) : RdDisk W (fun _ => True) (.slice a1 d.safe.length c1) (.slice a2 k c2) e := by
  subst he
  exact ⟨h.1, Sl.take h.2 hk⟩
set_option maxRecDepth 100000 in
set_option maxHeartbeats 32000000 in
theorem diskSays_walk {w : World} (hL : LaidF w) (v0 : Value) (d : TDisk) (rd0 : ∃ u1 u2, v0 = diskV u1 u2 ∧ RdDisk w (fun _ => True) u1 u2 d) (v1 : Value) (r : TRec) (rd1 : RdRec w v1 r) (n : Int) (v3 : Value) (x : TDisk) (rd3 : ∃ u1 u2, v3 = diskV u1 u2 ∧ RdDisk w (fun _ => True) u1 u2 x) :
    Calls Tryz.prog 6 #[v0, v1, .int .i64 n, v3] w fun e w' => e = .returned (.bool true) ∧ Below w.heap.size w w' := by
  have HL := Lib.hid hL
  obtain ⟨u1, u2, rfl, hd⟩ := rd0
  obtain ⟨ur, rfl, hr⟩ := rd1
  obtain ⟨u3, u4, rfl, hx⟩ := rd3
  have Hd0 := Lib.hid hd
  have Hr0 := Lib.hid hr
  have Hx0 := Lib.hid hx
  obtain ⟨a1, c1, rfl, _⟩ := Sl.form hd.1
  obtain ⟨a2, c2, rfl, hc2, _⟩ := Sl.form hd.2
  obtain ⟨a3, c3, rfl, _⟩ := Sl.form hx.1
  obtain ⟨a4, c4, rfl, _⟩ := Sl.form hx.2
  obtain ⟨ar, cr, rfl, _⟩ := Sl.form hr
  have Hc2 : Hid (d.wait.length ≤ c2) := hc2
  clear hL hd hr hx hc2
  obtain ⟨bad, hE⟩ : ∃ E, diskE d = E := ⟨_, rfl⟩
  obtain ⟨⟨PA, pe⟩, hA⟩ : ∃ E, putE d r = E := ⟨_, rfl⟩
  obtain ⟨⟨PB, fe⟩, hB⟩ : ∃ E, syncE d = E := ⟨_, rfl⟩
  obtain ⟨⟨PK, ge⟩, hK⟩ : ∃ E, crashE d n = E := ⟨_, rfl⟩
  obtain ⟨⟨PR, PL, he⟩, hR⟩ : ∃ E, recoverE d = E := ⟨_, rfl⟩
  obtain ⟨sm, hsm⟩ : ∃ b, decide (d = x) = b := ⟨_, rfl⟩
  have HE := Lib.hid hE
  have HPA := Lib.hid hA
  have HPB := Lib.hid hB
  have HPK0 := Lib.hid hK
  have HPR := Lib.hid hR
  have Hsm := Lib.hid hsm
  have Hee : Hid ((bad != bad) = false) := bne_self_eq_false _
  have Hmm : Hid ((sm != sm) = false) := bne_self_eq_false _
  clear hE hA hB hK hR hsm
  have HBW := Lib.hid (Bx.three (w := w) (o := .cells #[.slice a1 d.safe.length c1, .slice a2 d.wait.length c2] 25) (o' := .cells #[.int .i64 r.kind, .int .i64 r.cell, .int .i64 r.from_, .slice ar r.p.rules.length cr, .int .i64 r.p.dflt] 56) (o2 := .cells #[.slice a3 x.safe.length c3, .slice a4 x.wait.length c4] 25))
  go_enter Tryz.func6, Tryz.ntmps6
  have hqa := HBW.out.cells0
  have hqb := HBW.out.cells1
  go_wp2_with fail
  clear hqa hqb
  refine (dput_any _ _ _ d r _ _ _ (RdDisk.below Hd0.out HBW.out.bel) (RdRules.below Hr0.out HBW.out.bel) (HL.out.below HBW.out.bel).base).mono ?_
  rw [HPA.out]
  rintro e w1 ⟨u1, v1, rfl, hr1, hb1⟩
  dsimp only at hr1
  obtain ⟨p1, q1, rfl, _⟩ := Sl.form hr1.1
  obtain ⟨p2, q2, rfl, _⟩ := Sl.form hr1.2
  dsimp only
  have hA := bel_alloc (Below.refl w1.heap.size w1) (.cells #[.slice p1 PA.safe.length q1, .slice p2 PA.wait.length q2] 25)
  have HAn := Lib.hid (KBox.new (u := .slice p1 PA.safe.length q1) (v := .slice p2 PA.wait.length q2) hr1)
  have hAB := bel_call hb1 hA
  replace HBW := Lib.hid (HBW.out.below hAB)
  have HA := HAn
  clear HAn hA hAB
  clear hr1 hb1
  have hqa := HBW.out.cells0
  go_wp2_with fail
  clear hqa
  refine (dsync_any _ _ d _ _ (RdDisk.below Hd0.out HBW.out.bel) (HL.out.below HBW.out.bel).base).mono ?_
  rw [HPB.out]
  rintro e w2 ⟨u2, v2, rfl, hr2, hb2⟩
  dsimp only at hr2
  obtain ⟨r1, s1, rfl, _⟩ := Sl.form hr2.1
  obtain ⟨r2, s2, rfl, _⟩ := Sl.form hr2.2
  dsimp only
  have hA := bel_alloc (Below.refl w2.heap.size w2) (.cells #[.slice r1 PB.safe.length s1, .slice r2 PB.wait.length s2] 25)
  have HBn := Lib.hid (KBox.new (u := .slice r1 PB.safe.length s1) (v := .slice r2 PB.wait.length s2) hr2)
  have hAB := bel_call hb2 hA
  replace HBW := Lib.hid (HBW.out.below hAB)
  replace HA := Lib.hid (HA.out.below hAB)
  have HB := HBn
  clear HBn hA hAB
  clear hr2 hb2
  have hqa := HBW.out.cells0
  go_wp2_with fail
  clear hqa
  refine (dcrash_any _ _ d n _ _ (RdDisk.below Hd0.out HBW.out.bel) (HL.out.below HBW.out.bel).base).mono ?_
  rw [HPK0.out]
  rintro e w3 ⟨u3, v3, rfl, hr3, hb3⟩
  dsimp only at hr3
  obtain ⟨k1, j1, rfl, _⟩ := Sl.form hr3.1
  obtain ⟨k2, j2, rfl, _⟩ := Sl.form hr3.2
  dsimp only
  have hA := bel_alloc (Below.refl w3.heap.size w3) (.cells #[.slice k1 PK.safe.length j1, .slice k2 PK.wait.length j2] 25)
  have HKn := Lib.hid (KBox.new (u := .slice k1 PK.safe.length j1) (v := .slice k2 PK.wait.length j2) hr3)
  have hAB := bel_call hb3 hA
  replace HBW := Lib.hid (HBW.out.below hAB)
  replace HA := Lib.hid (HA.out.below hAB)
  replace HB := Lib.hid (HB.out.below hAB)
  have HK := HKn
  clear HKn hA hAB
  clear hr3 hb3
  have hqa := HBW.out.cells0
  go_wp2_with fail
  clear hqa
  refine (drecover_any _ _ d _ _ (RdDisk.below Hd0.out HBW.out.bel) (HL.out.below HBW.out.bel).base).mono ?_
  rw [HPR.out]
  rintro e w4 ⟨u4, v4, vl, rfl, hr4, hl4, hb4⟩
  dsimp only at hr4 hl4
  obtain ⟨g1, m1, rfl, _⟩ := Sl.form hr4.1
  obtain ⟨g2, m2, rfl, _⟩ := Sl.form hr4.2
  obtain ⟨al, cl, rfl, _⟩ := Sl.form hl4
  dsimp only
  have hA := bel_alloc (Below.refl w4.heap.size w4) (.cells #[.slice g1 PR.safe.length m1, .slice g2 PR.wait.length m2] 25)
  have HRn := Lib.hid (KBox.new (u := .slice g1 PR.safe.length m1) (v := .slice g2 PR.wait.length m2) hr4)
  have hAB := bel_call hb4 hA
  replace HBW := Lib.hid (HBW.out.below hAB)
  replace HA := Lib.hid (HA.out.below hAB)
  replace HB := Lib.hid (HB.out.below hAB)
  replace HK := Lib.hid (HK.out.below hAB)
  have HR := HRn
  clear HRn hA hAB
  have HLs := Lib.hid (recs_true (RdRecs.below hl4 (bel_alloc (Below.refl _ _) (.cells #[.slice g1 PR.safe.length m1, .slice g2 PR.wait.length m2] 25))))
  clear hr4 hb4 hl4
  have hqa := HBW.out.cells0
  go_wp2_with fail
  clear hqa
  refine (rdcheck_any _ _ d _ _ (RdDisk.below Hd0.out HBW.out.bel) (HL.out.below HBW.out.bel).base).mono ?_
  rw [HE.out]
  rintro e w5 ⟨rfl, hb5⟩
  have hA := bel_alloc (Below.refl w5.heap.size w5) (.cells #[.slice none 0 0, .slice none 0 0] 25)
  have HNn := Lib.hid (KBox.new (W := w5) (u := .slice none 0 0) (v := .slice none 0 0) (nil_disk w5 (fun _ => True)))
  have hAB := bel_call hb5 hA
  replace HBW := Lib.hid (HBW.out.below hAB)
  replace HA := Lib.hid (HA.out.below hAB)
  replace HB := Lib.hid (HB.out.below hAB)
  replace HK := Lib.hid (HK.out.below hAB)
  replace HR := Lib.hid (HR.out.below hAB)
  replace HLs := Lib.hid (RdRecs.below HLs.out hAB)
  have HN := HNn
  clear HNn hA hAB hb5
  go_wp2_with fail
  refine wp_region_B [ex (.bool true), ex (.bool false), ex (.bool false), ex (.agg #[.slice a1 d.safe.length c1, .slice a2 d.wait.length c2]), ex (.int .i64 bad), ex (.int .i64 bad), ex (.bool false), ex (.bool false), ex (.bool false), ex (.agg #[.slice a1 d.safe.length c1, .slice a2 d.wait.length c2]), ex (.agg #[.slice a3 x.safe.length c3, .slice a4 x.wait.length c4]), ex (.bool sm), ex (.agg #[.slice a1 d.safe.length c1, .slice a2 d.wait.length c2]), ex (.agg #[.slice a3 x.safe.length c3, .slice a4 x.wait.length c4]), ex (.bool sm), ex (.bool false), ex (.bool false)] _ (Nat.le_refl _) (by kernel_rfl) (by kernel_rfl) ⟨.inl ⟨_, rfl⟩, .inl ⟨_, rfl⟩, .inl ⟨_, rfl⟩, .inl ⟨_, rfl⟩, .inl ⟨_, rfl⟩, .inl ⟨_, rfl⟩, .inl ⟨_, rfl⟩, .inl ⟨_, rfl⟩, .inl ⟨_, rfl⟩, .inl ⟨_, rfl⟩, .inl ⟨_, rfl⟩, .inl ⟨_, rfl⟩, .inl ⟨_, rfl⟩, .inl ⟨_, rfl⟩, .inl ⟨_, rfl⟩, .inl ⟨_, rfl⟩, .inl ⟨_, rfl⟩, trivial⟩ ?_
  (refine walkB_ex (fun K hK => ?_); refine ⟨fun W hC hd R hR => ?_, ?_⟩; (have HLW := Lib.hid (HL.out.below (HBW.out.below hC.2).bel).base; clear hd; go_simp; go_at_call 38; refine (filed_walk _ HLW.out).mono ?_; rintro e w9 ⟨rfl, hb9⟩; exact ⟨_, rfl, hR _ _ hb9 rfl⟩); (go_simp; refine hK _ ?_; clear hK K))
  (refine walkB_ex (fun K hK => ?_); refine ⟨fun W hC hd R hR => ?_, ?_⟩; (clear hd; go_simp; exact hR _ _ (Below.refl _ _) rfl); (go_simp; refine hK _ ?_; clear hK K))
  (refine walkB_ex (fun K hK => ?_); refine ⟨fun W hC hd R hR => ?_, ?_⟩; (clear hd; go_simp; exact hR _ _ (Below.refl _ _) rfl); (go_simp; refine hK _ ?_; clear hK K))
  (refine walkB_ex (fun K hK => ?_); refine ⟨fun W hC hd R hR => ?_, ?_⟩; (have hqa := (HBW.out.below hC.2).cells0; have hqb := (HBW.out.below hC.2).cells2; clear hd; go_simp; exact hR _ _ (Below.refl _ _) rfl); (go_simp; refine hK _ ?_; clear hK K))
  (refine walkB_ex (fun K hK => ?_); refine ⟨fun W hC hd R hR => ?_, ?_⟩; (have HR0 := Lib.hid (RdDisk.below Hd0.out (HBW.out.below hC.2).bel); have HR1 := Lib.hid (RdDisk.below Hx0.out (HBW.out.below hC.2).bel); have HLW := Lib.hid (HL.out.below (HBW.out.below hC.2).bel).base; clear hd; go_simp; go_at_call 39; refine (dcheck_any _ _ d _ _ HR0.out HLW.out).mono ?_; rw [HE.out]; rintro e w9 ⟨rfl, hb9⟩; exact ⟨_, rfl, hR _ _ hb9 rfl⟩); (go_simp; refine hK _ ?_; clear hK K))
  (refine walkB_ex (fun K hK => ?_); refine ⟨fun W hC hd R hR => ?_, ?_⟩; (clear hd; go_simp; exact hR _ _ (Below.refl _ _) rfl); (go_simp; refine hK _ ?_; clear hK K))
  (refine walkB_ex (fun K hK => ?_); refine ⟨fun W hC hd R hR => ?_, ?_⟩; (have hee := Hee.out; clear hd; go_simp; exact hR _ _ (Below.refl _ _) rfl); (go_simp; refine hK _ ?_; clear hK K))
  (refine walkB_ex (fun K hK => ?_); refine ⟨fun W hC hd R hR => ?_, ?_⟩; (clear hd; go_simp; exact hR _ _ (Below.refl _ _) rfl); (go_simp; refine hK _ ?_; clear hK K))
  (refine walkB_ex (fun K hK => ?_); refine ⟨fun W hC hd R hR => ?_, ?_⟩; (clear hd; go_simp; exact hR _ _ (Below.refl _ _) rfl); (go_simp; refine hK _ ?_; clear hK K))
  (refine walkB_ex (fun K hK => ?_); refine ⟨fun W hC hd R hR => ?_, ?_⟩; (have hqa := (HBW.out.below hC.2).cells0; have hqb := (HBW.out.below hC.2).cells2; clear hd; go_simp; exact hR _ _ (Below.refl _ _) rfl); (go_simp; refine hK _ ?_; clear hK K))
  (refine walkB_ex (fun K hK => ?_); refine ⟨fun W hC hd R hR => ?_, ?_⟩; (have hqa := (HBW.out.below hC.2).cells0; have hqb := (HBW.out.below hC.2).cells2; clear hd; go_simp; exact hR _ _ (Below.refl _ _) rfl); (go_simp; refine hK _ ?_; clear hK K))
  (refine walkB_ex (fun K hK => ?_); refine ⟨fun W hC hd R hR => ?_, ?_⟩; (have HR0 := Lib.hid (RdDisk.below Hd0.out (HBW.out.below hC.2).bel); have HR1 := Lib.hid (RdDisk.below Hx0.out (HBW.out.below hC.2).bel); clear hd; go_simp; go_at_call 40; refine (dsame_any _ _ _ _ d x _ HR0.out HR1.out).mono ?_; rw [Hsm.out]; rintro e w9 ⟨rfl, hb9⟩; exact ⟨_, rfl, hR _ _ hb9 rfl⟩); (go_simp; refine hK _ ?_; clear hK K))
  (refine walkB_ex (fun K hK => ?_); refine ⟨fun W hC hd R hR => ?_, ?_⟩; (have hqa := (HBW.out.below hC.2).cells0; have hqb := (HBW.out.below hC.2).cells2; clear hd; go_simp; exact hR _ _ (Below.refl _ _) rfl); (go_simp; refine hK _ ?_; clear hK K))
  (refine walkB_ex (fun K hK => ?_); refine ⟨fun W hC hd R hR => ?_, ?_⟩; (have hqa := (HBW.out.below hC.2).cells0; have hqb := (HBW.out.below hC.2).cells2; clear hd; go_simp; exact hR _ _ (Below.refl _ _) rfl); (go_simp; refine hK _ ?_; clear hK K))
  (refine walkB_ex (fun K hK => ?_); refine ⟨fun W hC hd R hR => ?_, ?_⟩; (have HR0 := Lib.hid (RdDisk.below Hd0.out (HBW.out.below hC.2).bel); have HR1 := Lib.hid (RdDisk.below Hx0.out (HBW.out.below hC.2).bel); clear hd; go_simp; go_at_call 41; refine (rdsame_any _ _ _ _ d x _ HR0.out HR1.out).mono ?_; rw [Hsm.out]; rintro e w9 ⟨rfl, hb9⟩; exact ⟨_, rfl, hR _ _ hb9 rfl⟩); (go_simp; refine hK _ ?_; clear hK K))
  (refine walkB_ex (fun K hK => ?_); refine ⟨fun W hC hd R hR => ?_, ?_⟩; (have hmm := Hmm.out; clear hd; go_simp; exact hR _ _ (Below.refl _ _) rfl); (go_simp; refine hK _ ?_; clear hK K))
  (refine walkB_ex (fun K hK => ?_); refine ⟨fun W hC hd R hR => ?_, ?_⟩; (clear hd; go_simp; exact hR _ _ (Below.refl _ _) rfl); (go_simp; refine hK _ ?_; clear hK K))
  intro w6 hC6 _
  replace HBW := Lib.hid (HBW.out.below hC6.2)
  replace HA := Lib.hid (HA.out.below hC6.2)
  replace HB := Lib.hid (HB.out.below hC6.2)
  replace HK := Lib.hid (HK.out.below hC6.2)
  replace HR := Lib.hid (HR.out.below hC6.2)
  replace HN := Lib.hid (HN.out.below hC6.2)
  replace HLs := Lib.hid (RdRecs.below HLs.out hC6.2)
  clear hC6
  by_cases h0 : bad = 0
  · subst h0
    have HRp : Hid (rputE d r = (PA, pe)) := by show _ = _; rw [rput_eq HE.out]; exact HPA.out
    have HRs : Hid (rsyncE d = (PB, fe)) := by show _ = _; rw [rsync_eq HE.out]; exact HPB.out
    have Hsum : Hid (d.safe.length + d.wait.length ≤ 60000) := (diskE_ok HE.out).1
    have Hhe : Hid (he = 0) := by
      have h1 : (recoverE d).2.2 = 0 := by unfold recoverE; rw [if_neg (by rw [HE.out]; simp)]
      rw [HPR.out] at h1; exact h1
    have hqa := HBW.out.cells0
    have hqb := HBW.out.cells1
    go_wp2_with fail
    clear hqa hqb
    refine (rputon_any _ _ _ d r _ _ _ (RdDisk.below Hd0.out HBW.out.bel) (RdRules.below Hr0.out HBW.out.bel) (HL.out.below HBW.out.bel) Hsum.out).mono ?_
    rw [HRp.out]
    rintro e w7 ⟨u7, v7, rfl, hr7, hb7⟩
    dsimp only at hr7
    obtain ⟨x1, y1, rfl, _⟩ := Sl.form hr7.1
    obtain ⟨x2, y2, rfl, _⟩ := Sl.form hr7.2
    dsimp only
    have hA := bel_alloc (Below.refl w7.heap.size w7) (.cells #[.slice x1 PA.safe.length y1, .slice x2 PA.wait.length y2] 25)
    have HA2n := Lib.hid (KBox.new (u := .slice x1 PA.safe.length y1) (v := .slice x2 PA.wait.length y2) hr7)
    have hAB := bel_call hb7 hA
    replace HBW := Lib.hid (HBW.out.below hAB)
    replace HA := Lib.hid (HA.out.below hAB)
    replace HB := Lib.hid (HB.out.below hAB)
    replace HK := Lib.hid (HK.out.below hAB)
    replace HR := Lib.hid (HR.out.below hAB)
    replace HN := Lib.hid (HN.out.below hAB)
    replace HLs := Lib.hid (RdRecs.below HLs.out hAB)
    have HA2 := HA2n
    clear HA2n hA hAB
    clear hr7 hb7
    have hqa := HBW.out.cells0
    go_wp2_with fail
    clear hqa
    refine (rsynced_any _ _ d _ _ (RdDisk.below Hd0.out HBW.out.bel) (HL.out.below HBW.out.bel).base Hsum.out).mono ?_
    rw [HRs.out]
    rintro e w8 ⟨u8, v8, rfl, hr8, hb8⟩
    dsimp only at hr8
    obtain ⟨x3, y3, rfl, _⟩ := Sl.form hr8.1
    obtain ⟨x4, y4, rfl, _⟩ := Sl.form hr8.2
    dsimp only
    have hA := bel_alloc (Below.refl w8.heap.size w8) (.cells #[.slice x3 PB.safe.length y3, .slice x4 PB.wait.length y4] 25)
    have HB2n := Lib.hid (KBox.new (u := .slice x3 PB.safe.length y3) (v := .slice x4 PB.wait.length y4) hr8)
    have hAB := bel_call hb8 hA
    replace HBW := Lib.hid (HBW.out.below hAB)
    replace HA := Lib.hid (HA.out.below hAB)
    replace HB := Lib.hid (HB.out.below hAB)
    replace HK := Lib.hid (HK.out.below hAB)
    replace HR := Lib.hid (HR.out.below hAB)
    replace HN := Lib.hid (HN.out.below hAB)
    replace HA2 := Lib.hid (HA2.out.below hAB)
    replace HLs := Lib.hid (RdRecs.below HLs.out hAB)
    have HB2 := HB2n
    clear HB2n hA hAB
    clear hr8 hb8
    have hqa := HBW.out.cells0
    go_wp2_with fail
    clear hqa
    refine (rrecovered_any _ _ d _ _ (RdDisk.below Hd0.out HBW.out.bel) (HL.out.below HBW.out.bel).base HE.out).mono ?_
    rw [HPR.out]
    rintro e w9 ⟨u9, v9, vm, rfl, hr9, hl9, hb9⟩
    dsimp only at hr9 hl9
    obtain ⟨x5, y5, rfl, _⟩ := Sl.form hr9.1
    obtain ⟨x6, y6, rfl, _⟩ := Sl.form hr9.2
    obtain ⟨am, cm, rfl, _⟩ := Sl.form hl9
    dsimp only
    have hA := bel_alloc (Below.refl w9.heap.size w9) (.cells #[.slice x5 PR.safe.length y5, .slice x6 PR.wait.length y6] 25)
    have HR2n := Lib.hid (KBox.new (u := .slice x5 PR.safe.length y5) (v := .slice x6 PR.wait.length y6) hr9)
    have hAB := bel_call hb9 hA
    replace HBW := Lib.hid (HBW.out.below hAB)
    replace HA := Lib.hid (HA.out.below hAB)
    replace HB := Lib.hid (HB.out.below hAB)
    replace HK := Lib.hid (HK.out.below hAB)
    replace HR := Lib.hid (HR.out.below hAB)
    replace HN := Lib.hid (HN.out.below hAB)
    replace HA2 := Lib.hid (HA2.out.below hAB)
    replace HB2 := Lib.hid (HB2.out.below hAB)
    replace HLs := Lib.hid (RdRecs.below HLs.out hAB)
    have HR2 := HR2n
    clear HR2n hA hAB
    have HMs := Lib.hid (recs_true (RdRecs.below hl9 (bel_alloc (Below.refl _ _) (.cells #[.slice x5 PR.safe.length y5, .slice x6 PR.wait.length y6] 25))))
    clear hr9 hb9 hl9
    obtain rfl := Hhe.out
    have hpp : (pe != pe) = false := bne_self_eq_false _
    have hff : (fe != fe) = false := bne_self_eq_false _
    have hqx := cells_of HA.out.box
    have hqy := cells_of HA2.out.box
    go_wp2_with fail
    clear hqx hqy
    refine (rdsame_any _ _ _ _ PA PA _ HA.out.rd HA2.out.rd).mono ?_
    rw [decide_eq_true (rfl : PA = PA)]
    rintro e wa ⟨rfl, hbz⟩
    replace HBW := Lib.hid (HBW.out.below hbz)
    replace HA := Lib.hid (HA.out.below hbz)
    replace HB := Lib.hid (HB.out.below hbz)
    replace HK := Lib.hid (HK.out.below hbz)
    replace HR := Lib.hid (HR.out.below hbz)
    replace HN := Lib.hid (HN.out.below hbz)
    replace HA2 := Lib.hid (HA2.out.below hbz)
    replace HB2 := Lib.hid (HB2.out.below hbz)
    replace HR2 := Lib.hid (HR2.out.below hbz)
    replace HLs := Lib.hid (RdRecs.below HLs.out hbz)
    replace HMs := Lib.hid (RdRecs.below HMs.out hbz)
    clear hbz
    have hqx := cells_of HB.out.box
    have hqy := cells_of HB2.out.box
    go_wp2_with fail
    clear hqx hqy
    refine (rdsame_any _ _ _ _ PB PB _ HB.out.rd HB2.out.rd).mono ?_
    rw [decide_eq_true (rfl : PB = PB)]
    rintro e wb ⟨rfl, hbz⟩
    replace HBW := Lib.hid (HBW.out.below hbz)
    replace HA := Lib.hid (HA.out.below hbz)
    replace HB := Lib.hid (HB.out.below hbz)
    replace HK := Lib.hid (HK.out.below hbz)
    replace HR := Lib.hid (HR.out.below hbz)
    replace HN := Lib.hid (HN.out.below hbz)
    replace HA2 := Lib.hid (HA2.out.below hbz)
    replace HB2 := Lib.hid (HB2.out.below hbz)
    replace HR2 := Lib.hid (HR2.out.below hbz)
    replace HLs := Lib.hid (RdRecs.below HLs.out hbz)
    replace HMs := Lib.hid (RdRecs.below HMs.out hbz)
    clear hbz
    have hqx := cells_of HR.out.box
    have hqy := cells_of HR2.out.box
    go_wp2_with fail
    clear hqx hqy
    refine (rdsame_any _ _ _ _ PR PR _ HR.out.rd HR2.out.rd).mono ?_
    rw [decide_eq_true (rfl : PR = PR)]
    rintro e wc ⟨rfl, hbz⟩
    replace HBW := Lib.hid (HBW.out.below hbz)
    replace HA := Lib.hid (HA.out.below hbz)
    replace HB := Lib.hid (HB.out.below hbz)
    replace HK := Lib.hid (HK.out.below hbz)
    replace HR := Lib.hid (HR.out.below hbz)
    replace HN := Lib.hid (HN.out.below hbz)
    replace HA2 := Lib.hid (HA2.out.below hbz)
    replace HB2 := Lib.hid (HB2.out.below hbz)
    replace HR2 := Lib.hid (HR2.out.below hbz)
    replace HLs := Lib.hid (RdRecs.below HLs.out hbz)
    replace HMs := Lib.hid (RdRecs.below HMs.out hbz)
    clear hbz
    go_wp2_with fail
    refine (reqrecs_any _ _ PL PL _ HLs.out HMs.out).mono ?_
    rw [decide_eq_true (rfl : PL = PL)]
    rintro e wd ⟨rfl, hbz⟩
    replace HBW := Lib.hid (HBW.out.below hbz)
    replace HA := Lib.hid (HA.out.below hbz)
    replace HB := Lib.hid (HB.out.below hbz)
    replace HK := Lib.hid (HK.out.below hbz)
    replace HR := Lib.hid (HR.out.below hbz)
    replace HN := Lib.hid (HN.out.below hbz)
    replace HA2 := Lib.hid (HA2.out.below hbz)
    replace HB2 := Lib.hid (HB2.out.below hbz)
    replace HR2 := Lib.hid (HR2.out.below hbz)
    replace HLs := Lib.hid (RdRecs.below HLs.out hbz)
    replace HMs := Lib.hid (RdRecs.below HMs.out hbz)
    clear hbz
    have hqa := HBW.out.cells0
    by_cases hn : n < 0 ∨ (d.wait.length : Int) < n
    · have HG : Hid ((PK, ge) = (zeroDisk, 3)) := by
        show _ = _; rw [← HPK0.out]; unfold crashE; rw [if_neg (by rw [HE.out]; simp), if_pos hn]
      obtain ⟨rfl, rfl⟩ : PK = zeroDisk ∧ ge = 3 := by have := HG.out; simpa using this
      clear HG
      rcases hn with hn0 | hn1
      · have hqx := cells_of HK.out.box
        have hqy := cells_of HN.out.box
        go_wp2_with fail
        clear hqx hqy
        refine (rdsame_any _ _ _ _ zeroDisk zeroDisk _ HK.out.rd HN.out.rd).mono ?_
        rw [decide_eq_true (rfl : zeroDisk = zeroDisk)]
        rintro e we ⟨rfl, hbz⟩
        have HBf := Lib.hid (HBW.out.below hbz).bel
        clear hbz
        go_wp2
        go_ret
        exact ⟨rfl, HBf.out⟩
      · have hn0 : ¬ n < 0 := Int.not_lt.2 (Int.le_of_lt (Int.lt_of_le_of_lt (Int.natCast_nonneg _) hn1))
        have hqx := cells_of HK.out.box
        have hqy := cells_of HN.out.box
        go_wp2_with fail
        clear hqx hqy
        refine (rdsame_any _ _ _ _ zeroDisk zeroDisk _ HK.out.rd HN.out.rd).mono ?_
        rw [decide_eq_true (rfl : zeroDisk = zeroDisk)]
        rintro e we ⟨rfl, hbz⟩
        have HBf := Lib.hid (HBW.out.below hbz).bel
        clear hbz
        go_wp2
        go_ret
        exact ⟨rfl, HBf.out⟩
    · have hn0 : ¬ n < 0 := fun h => hn (.inl h)
      have hn1 : ¬ (d.wait.length : Int) < n := fun h => hn (.inr h)
      have HG : Hid ((PK, ge) = (⟨d.safe, d.wait.take n.toNat⟩, 0)) := by
        show _ = _; rw [← HPK0.out]; unfold crashE; rw [if_neg (by rw [HE.out]; simp), if_neg hn]
      obtain ⟨k, rfl⟩ : ∃ k : Nat, n = k := ⟨n.toNat, (Int.toNat_of_nonneg (Int.not_lt.1 hn0)).symm⟩
      have hkk : k ≤ d.wait.length := Int.ofNat_le.1 (Int.not_lt.1 hn1)
      have HPK : Hid (PK = ⟨d.safe, d.wait.take k⟩) := by have := HG.out; simp at this; exact this.1
      obtain rfl : ge = 0 := by have := HG.out; simp at this; exact this.2
      have Hk := Lib.hid hkk
      have Hkc : Hid ((k : Int) ≤ (c2 : Int) ∧ (0 : Int) ≤ (k : Int)) := by have := Hc2.out; show _ ∧ _; omega
      clear hn HG hkk
      go_wp2_with fail
      clear hqa
      refine wp_region_B [ex (.int .i64 0), ex (.bool true), ex (.bool true), ex (.agg #[.slice k1 PK.safe.length j1, .slice k2 PK.wait.length j2]), ex (.pointer (some ⟨w.heap.size, 0, none⟩)), ex (.slice a1 d.safe.length c1), ex (.pointer (some ⟨w.heap.size, 1, none⟩)), ex (.slice a2 d.wait.length c2), ex (.int .i64 (k : Int)), ex (.slice a2 k c2), ex (.agg #[.slice a1 d.safe.length c1, .slice a2 k c2]), ex (.bool true), ex (.bool true), ex (.bool true)] _ (Nat.le_refl _) (by kernel_rfl) (by kernel_rfl) ⟨.inl ⟨_, rfl⟩, .inl ⟨_, rfl⟩, .inl ⟨_, rfl⟩, .inl ⟨_, rfl⟩, .inl ⟨_, rfl⟩, .inl ⟨_, rfl⟩, .inl ⟨_, rfl⟩, .inl ⟨_, rfl⟩, .inl ⟨_, rfl⟩, .inl ⟨_, rfl⟩, .inl ⟨_, rfl⟩, .inl ⟨_, rfl⟩, .inl ⟨_, rfl⟩, .inl ⟨_, rfl⟩, trivial⟩ ?_
      (refine walkB_ex (fun K hK => ?_); refine ⟨fun W hC hd R hR => ?_, ?_⟩; (clear hd; go_simp; exact hR _ _ (Below.refl _ _) rfl); (go_simp; refine hK _ ?_; clear hK K))
      (refine walkB_ex (fun K hK => ?_); refine ⟨fun W hC hd R hR => ?_, ?_⟩; (clear hd; go_simp; exact hR _ _ (Below.refl _ _) rfl); (go_simp; refine hK _ ?_; clear hK K))
      (refine walkB_ex (fun K hK => ?_); refine ⟨fun W hC hd R hR => ?_, ?_⟩; (clear hd; go_simp; exact hR _ _ (Below.refl _ _) rfl); (go_simp; refine hK _ ?_; clear hK K))
      (refine walkB_ex (fun K hK => ?_); refine ⟨fun W hC hd R hR => ?_, ?_⟩; (have hqk := cells_of (HK.out.below hC.2).box; clear hd; go_simp; exact hR _ _ (Below.refl _ _) rfl); (go_simp; refine hK _ ?_; clear hK K))
      (refine walkB_ex (fun K hK => ?_); refine ⟨fun W hC hd R hR => ?_, ?_⟩; (clear hd; go_simp; exact hR _ _ (Below.refl _ _) rfl); (go_simp; refine hK _ ?_; clear hK K))
      (refine walkB_ex (fun K hK => ?_); refine ⟨fun W hC hd R hR => ?_, ?_⟩; (have hqa := (HBW.out.below hC.2).cells0; have hqb := (HBW.out.below hC.2).cells2; clear hd; go_simp; exact hR _ _ (Below.refl _ _) rfl); (go_simp; refine hK _ ?_; clear hK K))
      (refine walkB_ex (fun K hK => ?_); refine ⟨fun W hC hd R hR => ?_, ?_⟩; (clear hd; go_simp; exact hR _ _ (Below.refl _ _) rfl); (go_simp; refine hK _ ?_; clear hK K))
      (refine walkB_ex (fun K hK => ?_); refine ⟨fun W hC hd R hR => ?_, ?_⟩; (have hqa := (HBW.out.below hC.2).cells0; have hqb := (HBW.out.below hC.2).cells2; clear hd; go_simp; exact hR _ _ (Below.refl _ _) rfl); (go_simp; refine hK _ ?_; clear hK K))
      (refine walkB_ex (fun K hK => ?_); refine ⟨fun W hC hd R hR => ?_, ?_⟩; (clear hd; go_simp; exact hR _ _ (Below.refl _ _) rfl); (go_simp; refine hK _ ?_; clear hK K))
      (refine walkB_ex (fun K hK => ?_); refine ⟨fun W hC hd R hR => ?_, ?_⟩; (have hk1 := Hkc.out.1; have hk2 := Hkc.out.2; clear hd; go_simp; exact hR _ _ (Below.refl _ _) rfl); (go_simp; refine hK _ ?_; clear hK K))
      (refine walkB_ex (fun K hK => ?_); refine ⟨fun W hC hd R hR => ?_, ?_⟩; (clear hd; go_simp; exact hR _ _ (Below.refl _ _) rfl); (go_simp; refine hK _ ?_; clear hK K))
      (refine walkB_ex (fun K hK => ?_); refine ⟨fun W hC hd R hR => ?_, ?_⟩; (have HRk := Lib.hid (take_disk (RdDisk.below Hd0.out (HBW.out.below hC.2).bel) Hk.out HPK.out); clear hd; go_simp; go_at_call 41; refine (rdsame_any _ _ _ _ PK PK _ (HK.out.below hC.2).rd HRk.out).mono ?_; rw [decide_eq_true (rfl : PK = PK)]; rintro e w9 ⟨rfl, hb9⟩; exact ⟨_, rfl, hR _ _ hb9 rfl⟩); (go_simp; refine hK _ ?_; clear hK K))
      (refine walkB_ex (fun K hK => ?_); refine ⟨fun W hC hd R hR => ?_, ?_⟩; (clear hd; go_simp; exact hR _ _ (Below.refl _ _) rfl); (go_simp; refine hK _ ?_; clear hK K))
      (refine walkB_ex (fun K hK => ?_); refine ⟨fun W hC hd R hR => ?_, ?_⟩; (clear hd; go_simp; exact hR _ _ (Below.refl _ _) rfl); (go_simp; refine hK _ ?_; clear hK K))
      intro wf hCf _
      have HBf := Lib.hid (HBW.out.below hCf.2).bel
      clear hCf
      go_wp2
      go_ret
      exact ⟨rfl, HBf.out⟩
  · have hne : (bad != 0) = true := bne_iff_ne.2 h0
    have hbb : (bad == bad) = true := beq_self_eq_true _
    have HA0 : Hid ((PA, pe) = (zeroDisk, bad)) := by show _ = _; rw [← HPA.out]; unfold putE; rw [if_pos (by rw [HE.out]; exact h0), HE.out]
    have HB0 : Hid ((PB, fe) = (zeroDisk, bad)) := by show _ = _; rw [← HPB.out]; unfold syncE; rw [if_pos (by rw [HE.out]; exact h0), HE.out]
    have HK0 : Hid ((PK, ge) = (zeroDisk, bad)) := by show _ = _; rw [← HPK0.out]; unfold crashE; rw [if_pos (by rw [HE.out]; exact h0), HE.out]
    have HR0 : Hid ((PR, PL, he) = (zeroDisk, [], bad)) := by show _ = _; rw [← HPR.out]; unfold recoverE; rw [if_pos (by rw [HE.out]; exact h0), HE.out]
    obtain ⟨rfl, rfl⟩ : PA = zeroDisk ∧ pe = bad := by have := HA0.out; simpa using this
    obtain ⟨rfl, rfl⟩ : PB = zeroDisk ∧ fe = pe := by have := HB0.out; simpa using this
    obtain ⟨rfl, rfl⟩ : PK = zeroDisk ∧ ge = fe := by have := HK0.out; simpa using this
    obtain ⟨rfl, rfl, rfl⟩ : PR = zeroDisk ∧ PL = [] ∧ he = ge := by have := HR0.out; simpa using this
    clear h0 HA0 HB0 HK0 HR0
    have hqx := cells_of HA.out.box
    have hqy := cells_of HN.out.box
    go_wp2_with fail
    clear hqx hqy
    refine (rdsame_any _ _ _ _ zeroDisk zeroDisk _ HA.out.rd HN.out.rd).mono ?_
    rw [decide_eq_true (rfl : zeroDisk = zeroDisk)]
    rintro e wa ⟨rfl, hbz⟩
    replace HBW := Lib.hid (HBW.out.below hbz)
    replace HA := Lib.hid (HA.out.below hbz)
    replace HB := Lib.hid (HB.out.below hbz)
    replace HK := Lib.hid (HK.out.below hbz)
    replace HR := Lib.hid (HR.out.below hbz)
    replace HN := Lib.hid (HN.out.below hbz)
    replace HLs := Lib.hid (RdRecs.below HLs.out hbz)
    clear hbz
    have hqx := cells_of HB.out.box
    have hqy := cells_of HN.out.box
    go_wp2_with fail
    clear hqx hqy
    refine (rdsame_any _ _ _ _ zeroDisk zeroDisk _ HB.out.rd HN.out.rd).mono ?_
    rw [decide_eq_true (rfl : zeroDisk = zeroDisk)]
    rintro e wb ⟨rfl, hbz⟩
    replace HBW := Lib.hid (HBW.out.below hbz)
    replace HA := Lib.hid (HA.out.below hbz)
    replace HB := Lib.hid (HB.out.below hbz)
    replace HK := Lib.hid (HK.out.below hbz)
    replace HR := Lib.hid (HR.out.below hbz)
    replace HN := Lib.hid (HN.out.below hbz)
    replace HLs := Lib.hid (RdRecs.below HLs.out hbz)
    clear hbz
    have hqx := cells_of HK.out.box
    have hqy := cells_of HN.out.box
    go_wp2_with fail
    clear hqx hqy
    refine (rdsame_any _ _ _ _ zeroDisk zeroDisk _ HK.out.rd HN.out.rd).mono ?_
    rw [decide_eq_true (rfl : zeroDisk = zeroDisk)]
    rintro e wc ⟨rfl, hbz⟩
    replace HBW := Lib.hid (HBW.out.below hbz)
    replace HA := Lib.hid (HA.out.below hbz)
    replace HB := Lib.hid (HB.out.below hbz)
    replace HK := Lib.hid (HK.out.below hbz)
    replace HR := Lib.hid (HR.out.below hbz)
    replace HN := Lib.hid (HN.out.below hbz)
    replace HLs := Lib.hid (RdRecs.below HLs.out hbz)
    clear hbz
    have hqx := cells_of HR.out.box
    have hqy := cells_of HN.out.box
    go_wp2_with fail
    clear hqx hqy
    refine (rdsame_any _ _ _ _ zeroDisk zeroDisk _ HR.out.rd HN.out.rd).mono ?_
    rw [decide_eq_true (rfl : zeroDisk = zeroDisk)]
    rintro e wd ⟨rfl, hbz⟩
    have HBf := Lib.hid (HBW.out.below hbz).bel
    clear hbz
    go_wp2
    go_ret
    exact ⟨rfl, HBf.out⟩
end Go.Proofs.YthkgjohhbdipcaaGreatDoor
