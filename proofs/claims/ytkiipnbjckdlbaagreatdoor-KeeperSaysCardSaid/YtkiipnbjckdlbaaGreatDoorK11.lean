/- Texts laid one behind the other: KNext, KNew, KeepSame, Replay, Opened, ForkSpec. No condition beyond theirs. -/
import Derived.Test.YtkiipnbjckdlbaaGreatDoorK10
import Derived.Test.YtkiipnbjckdlbaaGreatDoorK8
import Derived.Laws.MakeOwn
import Derived.Test.YtkiipnbjckdlbaaGreatDoorK7
import Derived.Test.YtkiipnbjckdlbaaGreatDoorK2
import Derived.Test.YtkiipnbjckdlbaaGreatDoorK9
namespace Go.Proofs.YtkiipnbjckdlbaaGreatDoor
open Go.RowKit
attribute [local go_sem] gives givesUpon

theorem tup_tight {g B : Nat} {T : List (List TIns)} {te : Int} : stableG g (fun v W => ∃ a c, v = .tuple #[.slice a T.length c, .int .i64 te] ∧ RdChain W (Dg B g) (.slice a T.length c) T) := fun _ _ _ hg ⟨a, c, h1, h2⟩ =>
  ⟨a, c, h1, h2.keep (fun _ h _ => h) (fun b hb hl => hg.block b hl (fun e => hb.2 (by injection e))) hg.size⟩
theorem chain_stableD {g B : Nat} {l : List (List TIns)} : stableG g (fun v W => ∃ a c, v = .slice a l.length c ∧ RdChain W (Dg B g) v l) := fun _ _ _ hg ⟨a, c, h1, h2⟩ =>
  ⟨a, c, h1, h2.keep (fun _ h _ => h) (fun b hb hl => hg.block b hl (fun e => hb.2 (by injection e))) hg.size⟩
theorem pol_stableD {g B : Nat} {l : List TRule} {d : Int} : stableG g (fun v W => ∃ a c, v = polV (.slice a l.length c) d ∧ RdRules W (Dg B g) (.slice a l.length c) l) := fun _ _ _ hg ⟨a, c, h1, h2⟩ =>
  ⟨a, c, h1, h2.keep (fun _ h _ => h) (fun b hb hl => hg.block b hl (fun e => hb.2 (by injection e))) hg.size⟩
theorem OwnCells.put' {W : World} {B0 B g n c : Nat} {m : List TCell} {A : (Nat → Bool) → List TCell} {done : Nat → Bool} {w0 : World} (h : PutInv w0 B0 66 4 g n c (fun W => cellR W (Dg B g)) A done W) (e : A done = m) : OwnCells W B0 B g n c m := by
  subst e
  exact h.own
theorem cellR_below {B g : Nat} (W W' : World) (y : TCell) (cs : List Value) (hb : Below W.heap.size W W') (h : cellR W (Dg B g) y cs) : cellR W' (Dg B g) y cs := h.keep (fun _ h _ => h) (fun b _ hl => hb.block b hl) hb.size
theorem nil_cells (w : World) (D : Nat → Prop) : RdCells w D (.slice none 0 0) [] := ⟨none, 0, rfl, Nat.le_refl _, by decide, fun _ => rfl, fun h => by cases h⟩

theorem below_put {w W : World} {B g k : Nat} {o : Bool} {u v : Value} {d : Int} (h : Below B w W) (hg : B ≤ g) : Below B w ((((W.setCell ⟨g, k * 4, none⟩ (.bool o)).setCell ⟨g, k * 4 + 1, none⟩ u).setCell ⟨g, k * 4 + 2, none⟩ v).setCell ⟨g, k * 4 + 3, none⟩ (.int .i64 d)) :=
  set_below (set_below (set_below (set_below h hg) hg) hg) hg
theorem nil_rules' (w : World) (D : Nat → Prop) : RdRules w D (.slice none 0 0) [] := ⟨none, 0, rfl, Nat.le_refl _, by decide, fun _ => rfl, fun h => by cases h⟩

set_option maxRecDepth 100000 in
set_option maxHeartbeats 16000000 in
theorem next_any (v u : Value) (l : List TCell) (r : TRec) (D D' : Nat → Prop) (w : World) (h : RdCells w D v l) (h' : RdRules w D' u r.p.rules) :
    Calls Tryz.prog 30 #[v, recV r u] w fun e w' => ∃ a1 c1, e = .returned (.tuple #[.slice a1 (nextE l r).1.length c1, .int .i64 (nextE l r).2]) ∧ RdCells w' (fun b => w.heap.size ≤ b) (.slice a1 (nextE l r).1.length c1) (nextE l r).1 ∧ Below w.heap.size w w' := by
  have H := Lib.hid h
  have Hr : Hid (RdRules w (fun b => b < w.heap.size) u r.p.rules) := h'.keep (fun _ _ hl => hl) (fun _ _ _ => rfl) (Nat.le_refl _)
  obtain ⟨kd, cl, fr, p⟩ := r
  dsimp only at Hr h' ⊢
  obtain ⟨a, c, rfl, _⟩ := Sl.form h
  obtain ⟨ap, cp, rfl, _⟩ := Sl.form h'
  clear h h'
  go_enter Tryz.func30, Tryz.ntmps30
  go_wp2_with fail
  have HB := Lib.hid (Bx.one (w := w) (o := .cells #[.int .i64 kd, .int .i64 cl, .int .i64 fr, .slice ap p.rules.length cp, .int .i64 p.dflt] 55))
  refine (kcheck_any _ l D _ (H.out.below HB.out.bel)).mono ?_
  rintro e w1 ⟨rfl, hb1⟩
  have HB1 := Lib.hid (HB.out.below hb1)
  have H1 := Lib.hid ((H.out.below HB.out.bel).below hb1)
  have Hr1 := Lib.hid (RdRules.below (RdRules.below Hr.out HB.out.bel) hb1)
  clear hb1 HB H Hr
  by_cases h0 : cellsE l = 0
  · rw [h0]
    have H0 := Lib.hid h0
    have hq0 := HB1.out.cells0
    go_wp2_with fail
    refine (notecheck_any _ ⟨kd, cl, fr, p⟩ _ _ Hr1.out).mono ?_
    rintro e w2 ⟨rfl, hb2⟩
    have HB2 := Lib.hid (HB1.out.below hb2)
    have H2 := Lib.hid (H1.out.below hb2)
    have Hr2 := Lib.hid (RdRules.below Hr1.out hb2)
    clear hb2 HB1 H1 Hr1 hq0
    by_cases h3 : recE ⟨kd, cl, fr, p⟩ = 0
    · rw [h3]
      obtain ⟨hk1, hk2, hcl0, hcl1, hfr0, hfr1, hnf, hno, hokp⟩ := recE_ok h3
      dsimp only at hk1 hk2 hcl0 hcl1 hfr0 hfr1 hokp
      clear hnf hno
      obtain ⟨hl4, hce⟩ := (cellsE_iff l).1 h0
      obtain ⟨k, rfl⟩ : ∃ k : Nat, cl = k := ⟨cl.toNat, by omega⟩
      obtain ⟨j, rfl⟩ : ∃ j : Nat, fr = j := ⟨fr.toNat, by omega⟩
      obtain ⟨x, hx⟩ : ∃ x, l[k]? = some x := ⟨_, List.getElem?_eq_getElem (by omega)⟩
      obtain ⟨y, hy⟩ : ∃ y, l[j]? = some y := ⟨_, List.getElem?_eq_getElem (by omega)⟩
      have hxk : cellAt l k = x := by unfold cellAt; rw [Int.toNat_natCast, List.getD_eq_getElem?_getD, hx]; rfl
      have hyj : cellAt l j = y := by unfold cellAt; rw [Int.toNat_natCast, List.getD_eq_getElem?_getD, hy]; rfl
      have HN : Hid (nextE l ⟨kd, k, j, p⟩ = if x.open_ = decide (kd = 1 ∨ kd = 3) then ([], 6) else if (nextCell l ⟨kd, k, j, p⟩).2 ≠ 0 then ([], (nextCell l ⟨kd, k, j, p⟩).2) else (l.set k (nextCell l ⟨kd, k, j, p⟩).1, 0)) := by
        show nextE _ _ = _
        unfold nextE
        rw [if_neg (by rw [h0]; simp), if_neg (by rw [h3]; simp)]
        dsimp only
        rw [hxk, Int.toNat_natCast]
      have Hx := Lib.hid hx
      have Hy := Lib.hid hy
      have Hxk := Lib.hid hxk
      have Hyj := Lib.hid hyj
      have Hsm : Hid (∀ c ∈ l, smallCell c) := fun c hc => cell_small (hce c hc)
      have Hokp := Lib.hid hokp
      have Hl4 := Lib.hid hl4
      have hkl : (k : Int) < (l.length : Int) := by omega
      have hjl : (j : Int) < (l.length : Int) := by omega
      have hk0 : (0 : Int) ≤ (k : Int) := by omega
      have hj0 : (0 : Int) ≤ (j : Int) := by omega
      have hkw : IntKind.i64.wrap (k : Int) = (k : Int) := IntWalk.i64_in _ (by omega)
      have hjw : IntKind.i64.wrap (j : Int) = (j : Int) := IntWalk.i64_in _ (by omega)
      have HT := Lib.hid HB2.out.top
      clear h0 h3 hokp hce hl4 hxk hyj hx hy hcl0 hcl1 hfr0 hfr1
      have hq0 := HB2.out.cells0
      go_wp2_with fail
      refine (keepcopy_any _ l D _ H2.out (by have := Hl4.out; omega) Hsm.out).mono ?_
      rintro e w3 ⟨v3, rfl, ho3, hb3⟩
      have HB3 := Lib.hid (HB2.out.below hb3)
      have Hr3 := Lib.hid (RdRules.below Hr2.out hb3)
      obtain ⟨a3, c3, rfl⟩ := ho3.slice
      obtain ⟨g, rfl, hgb, hgl, _⟩ := OwnSl.addr ho3 (by have := Hl4.out; omega)
      have HO : Hid (OwnCells w3 w2.heap.size w2.heap.size g l.length c3 l) := ho3.monoR fun _ _ _ hy => hy.keep (fun b hb _ => ⟨hb.1, fun e => hb.2 (by rw [e]; rfl)⟩) (fun _ _ _ => rfl) (Nat.le_refl _)
      have Hg : Hid (w2.heap.size ≤ g ∧ w.heap.size + 1 ≤ w2.heap.size) := ⟨hgb, HT.out⟩
      have HBL3 : Hid (Below w.heap.size w w3) := HB3.out.bel
      clear ho3 hb3 hgb hgl hq0 HB2 H2 Hr2 Hsm
      obtain ⟨xa1, xa2, xc1, xc2, x0, x1, x2, x3, hxc, hxp⟩ := HO.out.cells Hx.out
      have Hxc := Lib.hid hxc
      have Hxp := Lib.hid hxp
      clear hxc hxp
      have hq0 := HB3.out.cells0
      have Hc0 : Hid (∀ W, Cls w3.heap.size w3 W → (∀ i, W.cell? ⟨w.heap.size, i, none⟩ = (#[Value.int .i64 kd, .int .i64 k, .int .i64 j, .slice ap p.rules.length cp, .int .i64 p.dflt] : Array Value)[i]?) ∧ W.cell? ⟨g, k * 4, none⟩ = some (.bool x.open_)) := fun W hC => ⟨(HB3.out.below hC.2).cells0, by obtain ⟨_, _, _, _, h, _⟩ := (HO.out.below hC.2).cells Hx.out; exact h⟩
      go_wp2_with fail
      have hkd : kd = 1 ∨ kd = 3 ∨ kd = 2 ∨ kd = 4 := by omega
      clear hk1 hk2
      rcases hkd with rfl | rfl | rfl | rfl
      · cases xo : x.open_ with
        | true =>
          refine wp_region_exact3 w3.heap.size (Nat.le_refl _) (by kernel_rfl) (by kernel_rfl) ?_
          repeat (refine monoE_step (fun K hK => ?_); apply Exists.intro; refine ⟨fun W hC R hR => ?_, ?_⟩; (have hcc := Hc0.out W hC; rw [xo] at hcc; go_simp; exact hR _ _ (Below.refl _ _) rfl); (go_simp; refine hK _ ?_; clear hK K))
          intro w4 hC4
          have HB4 := Lib.hid (HB3.out.below hC4.2)
          have HO4 := Lib.hid (HO.out.below hC4.2)
          have Hr4 := Lib.hid (RdRules.below Hr3.out hC4.2)
          have HBL : Hid (Below w.heap.size w w4) := HB4.out.bel
          clear hC4 Hc0 HB3 HO Hr3 HBL3 Hxc Hxp x0 x1 x2 x3 hq0
          have HE : Hid (nextE l ⟨1, k, j, p⟩ = ([], 6)) := by show nextE _ _ = _; rw [HN.out, if_pos (by rw [xo]; decide)]
          go_wp2
          go_ret2
          rw [HE.out]
          exact ⟨_, _, rfl, nil_cells _ _, HBL.out⟩
        | false =>
          refine wp_region_exact3 w3.heap.size (Nat.le_refl _) (by kernel_rfl) (by kernel_rfl) ?_
          repeat (refine monoE_step (fun K hK => ?_); apply Exists.intro; refine ⟨fun W hC R hR => ?_, ?_⟩; (have hcc := Hc0.out W hC; rw [xo] at hcc; go_simp; exact hR _ _ (Below.refl _ _) rfl); (go_simp; refine hK _ ?_; clear hK K))
          intro w4 hC4
          have HB4 := Lib.hid (HB3.out.below hC4.2)
          have HO4 := Lib.hid (HO.out.below hC4.2)
          have Hr4 := Lib.hid (RdRules.below Hr3.out hC4.2)
          have HBL : Hid (Below w.heap.size w w4) := HB4.out.bel
          clear hC4 Hc0 HB3 HO Hr3 HBL3 Hxc Hxp x0 x1 x2 x3 hq0
          have HN' : Hid (nextE l ⟨1, k, j, p⟩ = if (nextCell l ⟨1, k, j, p⟩).2 ≠ 0 then ([], (nextCell l ⟨1, k, j, p⟩).2) else (l.set k (nextCell l ⟨1, k, j, p⟩).1, 0)) := by show nextE _ _ = _; rw [HN.out, if_neg (by rw [xo]; decide)]
          clear HN
          have HP := Lib.hid (Bx.one (w := w4) (o := (.cells #[.slice ap p.rules.length cp, .int .i64 p.dflt] 37)))
          have HBq := Lib.hid (HB4.out.below HP.out.bel)
          have HOq := Lib.hid (HO4.out.below HP.out.bel)
          have Hrq := Lib.hid (RdRules.below Hr4.out HP.out.bel)
          have hqp := HP.out.cells0
          have hqb := HBq.out.cells0
          have hq4 := HB4.out.cells0
          have HgL := Lib.hid (HO4.out.lt (by have := Hl4.out; omega)).2
          go_wp2_with fail
          refine (begin_any _ p _ _ Hrq.out).mono ?_
          obtain ⟨⟨Y, ye⟩, hY⟩ : ∃ E, beginE p = E := ⟨_, rfl⟩
          have HY := Lib.hid hY
          have HNC : Hid (nextCell l ⟨1, k, j, p⟩ = (Y, ye)) := by show nextCell _ _ = _; unfold nextCell; rw [if_neg (by show ¬ (1 : Int) = 3; decide), if_pos rfl]; exact hY
          clear hY
          rw [HY.out]
          rintro e w5 ⟨ya1, yc1, ya2, yc2, rfl, hyc, hyp, hb5⟩
          dsimp only at hyc hyp
          have HB5 := Lib.hid (HBq.out.below hb5)
          have HO5 := Lib.hid (HOq.out.below hb5)
          have hge : ∀ b, (w4.alloc (.cells #[.slice ap p.rules.length cp, .int .i64 p.dflt] 37)).heap.size ≤ b → Dg w2.heap.size g b := fun b hb => by
            have h1 : w4.heap.size + 1 ≤ b := by simpa using hb
            have h2 := Hg.out
            have h3 := HgL.out
            exact ⟨by omega, by omega⟩
          have HYC : Hid (RdChain w5 (Dg w2.heap.size g) (.slice ya1 Y.chain.length yc1) Y.chain) := hyc.keep (fun b hb _ => hge b hb) (fun _ _ _ => rfl) (Nat.le_refl _)
          have HYP : Hid (RdRules w5 (Dg w2.heap.size g) (.slice ya2 Y.p.rules.length yc2) Y.p.rules) := hyp.keep (fun b hb _ => hge b hb) (fun _ _ _ => rfl) (Nat.le_refl _)
          clear hge
          clear hyc hyp hb5
          obtain ⟨za1, za2, zc1, zc2, z0, z1, z2, z3, _, _⟩ := HO5.out.cells Hx.out
          have hfz := HO5.out.frz (by have := Hl4.out; omega)
          have HOw := Lib.hid (HO5.out.put (y := Y) Hx.out HYC.out HYP.out)
          have HBL5 := Lib.hid (below_put (k := k) (o := Y.open_) (u := .slice ya1 Y.chain.length yc1) (v := .slice ya2 Y.p.rules.length yc2) (d := Y.p.dflt) HB5.out.bel (show w.heap.size ≤ g by have := Hg.out; omega))
          clear hqp hqb hq4
          by_cases hye : ye = 0
          · subst hye
            have HE : Hid (nextE l ⟨1, k, j, p⟩ = (l.set k Y, 0)) := by show nextE _ _ = _; rw [HN'.out, HNC.out]; simp
            have HRD := Lib.hid (HOw.out.read (B' := w.heap.size) (by have := Hg.out; omega) (by have := Hg.out; omega))
            have hls : (l.set k Y).length = l.length := List.length_set
            have Hls := Lib.hid hls
            clear hls
            go_wp2
            go_ret2
            rw [HE.out]
            dsimp only
            rw [Hls.out]
            exact ⟨_, _, rfl, HRD.out, HBL5.out⟩
          · have hne : (ye != 0) = true := bne_iff_ne.2 hye
            have HE : Hid (nextE l ⟨1, k, j, p⟩ = ([], ye)) := by show nextE _ _ = _; rw [HN'.out, HNC.out]; simp [hye]
            clear hye
            go_wp2
            go_ret2
            rw [HE.out]
            exact ⟨_, _, rfl, nil_cells _ _, HBL5.out⟩
      · cases xo : x.open_ with
        | true =>
          refine wp_region_exact3 w3.heap.size (Nat.le_refl _) (by kernel_rfl) (by kernel_rfl) ?_
          repeat (refine monoE_step (fun K hK => ?_); apply Exists.intro; refine ⟨fun W hC R hR => ?_, ?_⟩; (have hcc := Hc0.out W hC; rw [xo] at hcc; go_simp; exact hR _ _ (Below.refl _ _) rfl); (go_simp; refine hK _ ?_; clear hK K))
          intro w4 hC4
          have HB4 := Lib.hid (HB3.out.below hC4.2)
          have HO4 := Lib.hid (HO.out.below hC4.2)
          have Hr4 := Lib.hid (RdRules.below Hr3.out hC4.2)
          have HBL : Hid (Below w.heap.size w w4) := HB4.out.bel
          clear hC4 Hc0 HB3 HO Hr3 HBL3 Hxc Hxp x0 x1 x2 x3 hq0
          have HE : Hid (nextE l ⟨3, k, j, p⟩ = ([], 6)) := by show nextE _ _ = _; rw [HN.out, if_pos (by rw [xo]; decide)]
          go_wp2
          go_ret2
          rw [HE.out]
          exact ⟨_, _, rfl, nil_cells _ _, HBL.out⟩
        | false =>
          refine wp_region_exact3 w3.heap.size (Nat.le_refl _) (by kernel_rfl) (by kernel_rfl) ?_
          repeat (refine monoE_step (fun K hK => ?_); apply Exists.intro; refine ⟨fun W hC R hR => ?_, ?_⟩; (have hcc := Hc0.out W hC; rw [xo] at hcc; go_simp; exact hR _ _ (Below.refl _ _) rfl); (go_simp; refine hK _ ?_; clear hK K))
          intro w4 hC4
          have HB4 := Lib.hid (HB3.out.below hC4.2)
          have HO4 := Lib.hid (HO.out.below hC4.2)
          have Hr4 := Lib.hid (RdRules.below Hr3.out hC4.2)
          have HBL : Hid (Below w.heap.size w w4) := HB4.out.bel
          clear hC4 Hc0 HB3 HO Hr3 HBL3 Hxc Hxp x0 x1 x2 x3 hq0
          have HN' : Hid (nextE l ⟨3, k, j, p⟩ = if (nextCell l ⟨3, k, j, p⟩).2 ≠ 0 then ([], (nextCell l ⟨3, k, j, p⟩).2) else (l.set k (nextCell l ⟨3, k, j, p⟩).1, 0)) := by show nextE _ _ = _; rw [HN.out, if_neg (by rw [xo]; decide)]
          clear HN
          have HP := Lib.hid (Bx.one (w := w4) (o := (.cells #[.slice ap p.rules.length cp, .int .i64 p.dflt] 37)))
          have HBq := Lib.hid (HB4.out.below HP.out.bel)
          have HOq := Lib.hid (HO4.out.below HP.out.bel)
          have Hrq := Lib.hid (RdRules.below Hr4.out HP.out.bel)
          have hqp := HP.out.cells0
          have hqb := HBq.out.cells0
          have hq4 := HB4.out.cells0
          have HgL := Lib.hid (HO4.out.lt (by have := Hl4.out; omega)).2
          obtain ⟨ja1, ja2, jc1, jc2, j0, j1, j2, j3, hjc, hjp⟩ := HOq.out.cells Hy.out
          have Hjp := Lib.hid hjp
          clear hjc hjp
          cases yo : y.open_ with
          | false =>
            have HNC : Hid (nextCell l ⟨3, k, j, p⟩ = (zeroCell, 5)) := by show nextCell _ _ = _; unfold nextCell; rw [if_pos rfl, Hyj.out, if_neg (by rw [yo]; decide)]
            rw [yo] at j0
            have HBLq : Hid (Below w.heap.size w _) := HBq.out.bel
            have HE : Hid (nextE l ⟨3, k, j, p⟩ = ([], 5)) := by show nextE _ _ = _; rw [HN'.out, HNC.out]; simp
            go_wp2
            go_ret2
            rw [HE.out]
            exact ⟨_, _, rfl, nil_cells _ _, HBLq.out⟩
          | true =>
            rw [yo] at j0
            go_wp2_with fail
            refine (begin_any _ y.p _ _ Hjp.out).mono ?_
            clear j0 j1 j2 j3
            obtain ⟨⟨Y, ye⟩, hY⟩ : ∃ E, beginE y.p = E := ⟨_, rfl⟩
            have HY := Lib.hid hY
            have HNC : Hid (nextCell l ⟨3, k, j, p⟩ = (Y, ye)) := by show nextCell _ _ = _; unfold nextCell; rw [if_pos rfl, Hyj.out, if_pos yo]; exact hY
            clear hY
            rw [HY.out]
            rintro e w5 ⟨ya1, yc1, ya2, yc2, rfl, hyc, hyp, hb5⟩
            dsimp only at hyc hyp
            have HB5 := Lib.hid (HBq.out.below hb5)
            have HO5 := Lib.hid (HOq.out.below hb5)
            have hge : ∀ b, (w4.alloc (.cells #[.slice ap p.rules.length cp, .int .i64 p.dflt] 37)).heap.size ≤ b → Dg w2.heap.size g b := fun b hb => by
              have h1 : w4.heap.size + 1 ≤ b := by simpa using hb
              have h2 := Hg.out
              have h3 := HgL.out
              exact ⟨by omega, by omega⟩
            have HYC : Hid (RdChain w5 (Dg w2.heap.size g) (.slice ya1 Y.chain.length yc1) Y.chain) := hyc.keep (fun b hb _ => hge b hb) (fun _ _ _ => rfl) (Nat.le_refl _)
            have HYP : Hid (RdRules w5 (Dg w2.heap.size g) (.slice ya2 Y.p.rules.length yc2) Y.p.rules) := hyp.keep (fun b hb _ => hge b hb) (fun _ _ _ => rfl) (Nat.le_refl _)
            clear hge
            clear hyc hyp hb5
            obtain ⟨za1, za2, zc1, zc2, z0, z1, z2, z3, _, _⟩ := HO5.out.cells Hx.out
            have hfz := HO5.out.frz (by have := Hl4.out; omega)
            have HOw := Lib.hid (HO5.out.put (y := Y) Hx.out HYC.out HYP.out)
            have HBL5 := Lib.hid (below_put (k := k) (o := Y.open_) (u := .slice ya1 Y.chain.length yc1) (v := .slice ya2 Y.p.rules.length yc2) (d := Y.p.dflt) HB5.out.bel (show w.heap.size ≤ g by have := Hg.out; omega))
            clear hqp hqb hq4
            by_cases hye : ye = 0
            · subst hye
              have HE : Hid (nextE l ⟨3, k, j, p⟩ = (l.set k Y, 0)) := by show nextE _ _ = _; rw [HN'.out, HNC.out]; simp
              have HRD := Lib.hid (HOw.out.read (B' := w.heap.size) (by have := Hg.out; omega) (by have := Hg.out; omega))
              have hls : (l.set k Y).length = l.length := List.length_set
              have Hls := Lib.hid hls
              clear hls
              go_wp2
              go_ret2
              rw [HE.out]
              dsimp only
              rw [Hls.out]
              exact ⟨_, _, rfl, HRD.out, HBL5.out⟩
            · have hne : (ye != 0) = true := bne_iff_ne.2 hye
              have HE : Hid (nextE l ⟨3, k, j, p⟩ = ([], ye)) := by show nextE _ _ = _; rw [HN'.out, HNC.out]; simp [hye]
              clear hye
              go_wp2
              go_ret2
              rw [HE.out]
              exact ⟨_, _, rfl, nil_cells _ _, HBL5.out⟩
      · cases xo : x.open_ with
        | false =>
          refine wp_region_exact3 w3.heap.size (Nat.le_refl _) (by kernel_rfl) (by kernel_rfl) ?_
          repeat (refine monoE_step (fun K hK => ?_); apply Exists.intro; refine ⟨fun W hC R hR => ?_, ?_⟩; (have hcc := Hc0.out W hC; rw [xo] at hcc; go_simp; exact hR _ _ (Below.refl _ _) rfl); (go_simp; refine hK _ ?_; clear hK K))
          intro w4 hC4
          have HB4 := Lib.hid (HB3.out.below hC4.2)
          have HO4 := Lib.hid (HO.out.below hC4.2)
          have Hr4 := Lib.hid (RdRules.below Hr3.out hC4.2)
          have HBL : Hid (Below w.heap.size w w4) := HB4.out.bel
          clear hC4 Hc0 HB3 HO Hr3 HBL3 Hxc Hxp x0 x1 x2 x3 hq0
          have HE : Hid (nextE l ⟨2, k, j, p⟩ = ([], 6)) := by show nextE _ _ = _; rw [HN.out, if_pos (by rw [xo]; decide)]
          go_wp2
          go_ret2
          rw [HE.out]
          exact ⟨_, _, rfl, nil_cells _ _, HBL.out⟩
        | true =>
          refine wp_region_exact3 w3.heap.size (Nat.le_refl _) (by kernel_rfl) (by kernel_rfl) ?_
          repeat (refine monoE_step (fun K hK => ?_); apply Exists.intro; refine ⟨fun W hC R hR => ?_, ?_⟩; (have hcc := Hc0.out W hC; rw [xo] at hcc; go_simp; exact hR _ _ (Below.refl _ _) rfl); (go_simp; refine hK _ ?_; clear hK K))
          intro w4 hC4
          have HB4 := Lib.hid (HB3.out.below hC4.2)
          have HO4 := Lib.hid (HO.out.below hC4.2)
          have Hr4 := Lib.hid (RdRules.below Hr3.out hC4.2)
          have HBL : Hid (Below w.heap.size w w4) := HB4.out.bel
          clear hC4 Hc0 HB3 HO Hr3 HBL3 Hxc Hxp x0 x1 x2 x3 hq0
          have HN' : Hid (nextE l ⟨2, k, j, p⟩ = if (nextCell l ⟨2, k, j, p⟩).2 ≠ 0 then ([], (nextCell l ⟨2, k, j, p⟩).2) else (l.set k (nextCell l ⟨2, k, j, p⟩).1, 0)) := by show nextE _ _ = _; rw [HN.out, if_neg (by rw [xo]; decide)]
          clear HN
          have HP := Lib.hid (Bx.one (w := w4) (o := (.cells #[.slice ap p.rules.length cp, .int .i64 p.dflt] 37)))
          have HBq := Lib.hid (HB4.out.below HP.out.bel)
          have HOq := Lib.hid (HO4.out.below HP.out.bel)
          have Hrq := Lib.hid (RdRules.below Hr4.out HP.out.bel)
          have hqp := HP.out.cells0
          have hqb := HBq.out.cells0
          have hq4 := HB4.out.cells0
          have HgL := Lib.hid (HO4.out.lt (by have := Hl4.out; omega)).2
          go_wp2_with fail
          obtain ⟨⟨T, te⟩, hT⟩ : ∃ E, tightE x.chain x.p p = E := ⟨_, rfl⟩
          have HTt := Lib.hid hT
          clear hT
          revert HP HBq HOq Hrq hqp hqb
          generalize hwq : (w4.alloc (.cells #[.slice ap p.rules.length cp, .int .i64 p.dflt] 37)) = wq
          intro HP HBq HOq Hrq hqp hqb
          have Hsq : Hid (w4.heap.size < wq.heap.size) := by rw [← hwq]; show _ < _; simp
          clear hwq hqp hqb hq4
          refine wp_region_put g [ex (.pointer (some ⟨g, k * 4, none⟩)), ex (.pointer (some ⟨g, k * 4, none⟩)), ex (.pointer (some ⟨g, k * 4, none⟩)), ex (.pointer (some ⟨g, k * 4 + 1, none⟩)), pr (fun v W => ∃ a c, v = .slice a x.chain.length c ∧ RdChain W (Dg w2.heap.size g) v x.chain), ex (.pointer (some ⟨g, k * 4, none⟩)), ex (.pointer (some ⟨g, k * 4, none⟩)), ex (.pointer (some ⟨g, k * 4 + 2, none⟩)), pr (fun v W => ∃ a c, v = polV (.slice a x.p.rules.length c) x.p.dflt ∧ RdRules W (Dg w2.heap.size g) (.slice a x.p.rules.length c) x.p.rules), ex (polV (.slice ap p.rules.length cp) p.dflt),
              pr (fun v W => ∃ a c, v = .tuple #[.slice a T.length c, .int .i64 te] ∧ RdChain W (Dg w2.heap.size g) (.slice a T.length c) T), pr (fun v W => ∃ a c, v = .tuple #[.slice a T.length c, .int .i64 te] ∧ RdChain W (Dg w2.heap.size g) (.slice a T.length c) T), pr (fun v W => ∃ a c, v = .slice a T.length c ∧ RdChain W (Dg w2.heap.size g) v T), ex (.int .i64 te), ex (.pointer (some ⟨g, k * 4, none⟩)), ex (.pointer (some ⟨g, k * 4 + 1, none⟩)), ex undef, ex (.int .i64 te)]
            (PutInv wq w2.heap.size 66 4 g l.length c3 (fun W => cellR W (Dg w2.heap.size g)) (fun done => if done 16 then l.set k ⟨true, T, x.p⟩ else l)) (by kernel_rfl) (by kernel_rfl) ⟨.inl ⟨_, rfl⟩, .inl ⟨_, rfl⟩, .inl ⟨_, rfl⟩, .inl ⟨_, rfl⟩, .inr ⟨_, rfl, chain_stableD⟩, .inl ⟨_, rfl⟩, .inl ⟨_, rfl⟩, .inl ⟨_, rfl⟩, .inr ⟨_, rfl, pol_stableD⟩, .inl ⟨_, rfl⟩, .inr ⟨_, rfl, tup_tight⟩, .inr ⟨_, rfl, tup_tight⟩, .inr ⟨_, rfl, chain_stableD⟩, .inl ⟨_, rfl⟩, .inl ⟨_, rfl⟩, .inl ⟨_, rfl⟩, .inl ⟨_, rfl⟩, .inl ⟨_, rfl⟩, trivial⟩ ⟨HOq.out.below (Below.refl _ _).drew, grow_drew _ _⟩ _ rfl ?_
          (refine walkP_ex (fun K hK => ?_); refine ⟨fun done W hI h0 hd hn hf R hR => ?_, ?_⟩; (clear h0 hd hn hf; go_simp; exact hR _ _ (hI.step cellR_below (Below.refl _ _) rfl) (below_grow (Below.refl _ _) _) rfl); (go_simp; refine hK _ ?_; clear hK K))
          (refine walkP_ex (fun K hK => ?_); refine ⟨fun done W hI h0 hd hn hf R hR => ?_, ?_⟩; (clear h0 hd hn hf; go_simp; exact hR _ _ (hI.step cellR_below (Below.refl _ _) rfl) (below_grow (Below.refl _ _) _) rfl); (go_simp; refine hK _ ?_; clear hK K))
          (refine walkP_ex (fun K hK => ?_); refine ⟨fun done W hI h0 hd hn hf R hR => ?_, ?_⟩; (clear h0 hd hn hf; go_simp; exact hR _ _ (hI.step cellR_below (Below.refl _ _) rfl) (below_grow (Below.refl _ _) _) rfl); (go_simp; refine hK _ ?_; clear hK K))
          (refine walkP_ex (fun K hK => ?_); refine ⟨fun done W hI h0 hd hn hf R hR => ?_, ?_⟩; (clear h0 hd hn hf; go_simp; exact hR _ _ (hI.step cellR_below (Below.refl _ _) rfl) (below_grow (Below.refl _ _) _) rfl); (go_simp; refine hK _ ?_; clear hK K))
          (refine walkP_pr (fun K hK => ?_); refine ⟨fun done W hI h0 hd hn hf R hR => ?_, fun vA => ?_⟩; (have hno16 : done 16 = false := hn 16 (by decide); have hOW : OwnCells W w2.heap.size w2.heap.size g l.length c3 l := OwnCells.put' hI (by rw [hno16]; rfl); obtain ⟨ka1, ka2, kc1, kc2, q0, q1, q2, q3, qc, qp⟩ := hOW.cells Hx.out; have Hqc := Lib.hid qc; have Hqp := Lib.hid qp; clear hOW qc qp hno16; clear h0 hd hn hf; go_simp; exact hR _ _ (hI.step cellR_below (Below.refl _ _) rfl) (below_grow (Below.refl _ _) _) ⟨_, _, rfl, Hqc.out⟩); (go_simp; refine hK _ _ ?_; clear hK K))
          (refine walkP_ex (fun K hK => ?_); refine ⟨fun done W hI h0 hd hn hf R hR => ?_, ?_⟩; (clear h0 hd hn hf; go_simp; exact hR _ _ (hI.step cellR_below (Below.refl _ _) rfl) (below_grow (Below.refl _ _) _) rfl); (go_simp; refine hK _ ?_; clear hK K))
          (refine walkP_ex (fun K hK => ?_); refine ⟨fun done W hI h0 hd hn hf R hR => ?_, ?_⟩; (clear h0 hd hn hf; go_simp; exact hR _ _ (hI.step cellR_below (Below.refl _ _) rfl) (below_grow (Below.refl _ _) _) rfl); (go_simp; refine hK _ ?_; clear hK K))
          (refine walkP_ex (fun K hK => ?_); refine ⟨fun done W hI h0 hd hn hf R hR => ?_, ?_⟩; (clear h0 hd hn hf; go_simp; exact hR _ _ (hI.step cellR_below (Below.refl _ _) rfl) (below_grow (Below.refl _ _) _) rfl); (go_simp; refine hK _ ?_; clear hK K))
          (refine walkP_pr (fun K hK => ?_); refine ⟨fun done W hI h0 hd hn hf R hR => ?_, fun vB => ?_⟩; (have hno16 : done 16 = false := hn 16 (by decide); have hOW : OwnCells W w2.heap.size w2.heap.size g l.length c3 l := OwnCells.put' hI (by rw [hno16]; rfl); obtain ⟨ka1, ka2, kc1, kc2, q0, q1, q2, q3, qc, qp⟩ := hOW.cells Hx.out; have Hqc := Lib.hid qc; have Hqp := Lib.hid qp; clear hOW qc qp hno16; clear h0 hd hn hf; go_simp; exact hR _ _ (hI.step cellR_below (Below.refl _ _) rfl) (below_grow (Below.refl _ _) _) ⟨_, _, rfl, Hqp.out⟩); (go_simp; refine hK _ _ ?_; clear hK K))
          (refine walkP_ex (fun K hK => ?_); refine ⟨fun done W hI h0 hd hn hf R hR => ?_, ?_⟩; (have hcl : ∀ i, W.cell? ⟨w4.heap.size, i, none⟩ = _ := cells_of ((hI.gr.block _ Hsq.out (fun e => by injection e with e; have := HgL.out; omega)).trans (HP.out.at_ 0 _ rfl)); clear h0 hd hn hf; go_simp; exact hR _ _ (hI.step cellR_below (Below.refl _ _) rfl) (below_grow (Below.refl _ _) _) rfl); (go_simp; refine hK _ ?_; clear hK K))
          (refine walkP_pr (fun K hK => ?_); refine ⟨fun done W hI h0 hd hn hf R hR => ?_, fun vC => ?_⟩; (have hA : ∃ a c, vA = .slice a x.chain.length c ∧ RdChain W (Dg w2.heap.size g) vA x.chain := hf 4 (by decide); have hB : ∃ a c, vB = polV (.slice a x.p.rules.length c) x.p.dflt ∧ RdRules W (Dg w2.heap.size g) (.slice a x.p.rules.length c) x.p.rules := hf 8 (by decide); obtain ⟨aA, cA, rfl, hA⟩ := hA; obtain ⟨aB, cB, rfl, hB⟩ := hB; have HA := Lib.hid hA; have HBB := Lib.hid (rules_true hB); have HPW := Lib.hid (rules_true (Hrq.out.keep (w' := W) (D' := fun b => b ≠ g) (fun b hb _ => by have h1 : b < w.heap.size := hb; have := Hg.out; show b ≠ g; omega) (fun b hb hl => hI.gr.block b hl (fun e => by have h1 : b < w.heap.size := hb; injection e with e; have := Hg.out; omega)) hI.gr.size)); have HgW : Hid (g < W.heap.size ∧ w2.heap.size ≤ g) := ⟨by have := hI.gr.size; have := HgL.out; have := Hsq.out; omega, Hg.out.1⟩; clear hA hB; clear h0 hd hn hf; go_simp; go_at_call 18; refine (tighten_any _ _ _ x.chain x.p p _ W HA.out HBB.out HPW.out).mono ?_; rw [HTt.out]; rintro e w9 ⟨v9, rfl, hr9, hb9⟩; obtain ⟨a9, c9, rfl, _⟩ := Sl.form hr9; exact ⟨_, rfl, hR _ _ (hI.step cellR_below hb9 rfl) (below_grow hb9 _) ⟨_, _, rfl, hr9.keep (fun b hb _ => ⟨by have h1 := hb; have := HgW.out; omega, by have h1 := hb; have := HgW.out; omega⟩) (fun _ _ _ => rfl) (Nat.le_refl _)⟩⟩); (go_simp; refine hK _ _ ?_; clear hK K))
          (refine walkP_pr (fun K hK => ?_); refine ⟨fun done W hI h0 hd hn hf R hR => ?_, fun vD => ?_⟩; (have hC : ∃ a c, vC = .tuple #[.slice a T.length c, .int .i64 te] ∧ RdChain W (Dg w2.heap.size g) (.slice a T.length c) T := hf 10 (by decide); have HC := Lib.hid hC; clear hC; clear h0 hd hn hf; go_simp; exact hR _ _ (hI.step cellR_below (Below.refl _ _) rfl) (below_grow (Below.refl _ _) _) HC.out); (go_simp; refine hK _ _ ?_; clear hK K))
          (refine walkP_pr (fun K hK => ?_); refine ⟨fun done W hI h0 hd hn hf R hR => ?_, fun vE => ?_⟩; (have hC : ∃ a c, vD = .tuple #[.slice a T.length c, .int .i64 te] ∧ RdChain W (Dg w2.heap.size g) (.slice a T.length c) T := hf 11 (by decide); obtain ⟨aC, cC, rfl, hC⟩ := hC; have HC := Lib.hid hC; clear hC; clear h0 hd hn hf; go_simp; exact hR _ _ (hI.step cellR_below (Below.refl _ _) rfl) (below_grow (Below.refl _ _) _) ⟨_, _, rfl, HC.out⟩); (go_simp; refine hK _ _ ?_; clear hK K))
          (refine walkP_ex (fun K hK => ?_); refine ⟨fun done W hI h0 hd hn hf R hR => ?_, ?_⟩; (have hC : ∃ a c, vD = .tuple #[.slice a T.length c, .int .i64 te] ∧ RdChain W (Dg w2.heap.size g) (.slice a T.length c) T := hf 11 (by decide); obtain ⟨aC, cC, rfl, hC⟩ := hC; clear hC; clear h0 hd hn hf; go_simp; exact hR _ _ (hI.step cellR_below (Below.refl _ _) rfl) (below_grow (Below.refl _ _) _) rfl); (go_simp; refine hK _ ?_; clear hK K))
          (refine walkP_ex (fun K hK => ?_); refine ⟨fun done W hI h0 hd hn hf R hR => ?_, ?_⟩; (clear h0 hd hn hf; go_simp; exact hR _ _ (hI.step cellR_below (Below.refl _ _) rfl) (below_grow (Below.refl _ _) _) rfl); (go_simp; refine hK _ ?_; clear hK K))
          (refine walkP_ex (fun K hK => ?_); refine ⟨fun done W hI h0 hd hn hf R hR => ?_, ?_⟩; (clear h0 hd hn hf; go_simp; exact hR _ _ (hI.step cellR_below (Below.refl _ _) rfl) (below_grow (Below.refl _ _) _) rfl); (go_simp; refine hK _ ?_; clear hK K))
          (refine walkP_ex (fun K hK => ?_); refine ⟨fun done W hI h0 hd hn hf R hR => ?_, ?_⟩; (have hC : ∃ a c, vE = .slice a T.length c ∧ RdChain W (Dg w2.heap.size g) vE T := hf 12 (by decide); obtain ⟨aC, cC, rfl, hC⟩ := hC; have hOW : OwnCells W w2.heap.size w2.heap.size g l.length c3 l := OwnCells.put' hI (by rw [h0]; rfl); obtain ⟨ka1, ka2, kc1, kc2, q0, q1, q2, q3, _, _⟩ := hOW.cells Hx.out; have hfz := hOW.frz (by have := Hl4.out; omega) (k * 4 + 1); have hON := hOW.chain Hx.out hC; rw [xo] at hON; have HN1 : Hid (PutInv wq w2.heap.size 66 4 g l.length c3 (fun W => cellR W (Dg w2.heap.size g)) (fun done => if done 16 then l.set k ⟨true, T, x.p⟩ else l) (updDone done 16) (W.setCell ⟨g, k * 4 + 1, none⟩ (.slice aC T.length cC))) := ⟨hON, grow_trans hI.gr (grow_set W g _ _)⟩; have HT1 := Lib.hid (grow_set W g (k * 4 + 1) (.slice aC T.length cC)); clear h0 hd hn hf hI hOW hON hC; go_simp; exact hR _ _ HN1.out HT1.out rfl); (go_simp; refine hK _ ?_; clear hK K))
          (refine walkP_ex (fun K hK => ?_); refine ⟨fun done W hI h0 hd hn hf R hR => ?_, ?_⟩; (clear h0 hd hn hf; go_simp; exact hR _ _ (hI.step cellR_below (Below.refl _ _) rfl) (below_grow (Below.refl _ _) _) rfl); (go_simp; refine hK _ ?_; clear hK K))
          intro done w5 hdone hI _
          have h16 : done 16 = true := hdone 16 (by decide)
          have HO5 : Hid (OwnCells w5 w2.heap.size w2.heap.size g l.length c3 (l.set k ⟨true, T, x.p⟩)) := OwnCells.put' hI (by rw [h16]; rfl)
          have Hb5 := Lib.hid (below_of_grow HBq.out.bel hI.gr HBq.out.bel.size (show w.heap.size ≤ g by have := Hg.out; omega))
          have Hr5 : Hid (RdRules w5 (fun b => b ≠ g) (.slice ap p.rules.length cp) p.rules) := Hrq.out.keep (fun b hb _ => by have h1 : b < w.heap.size := hb; have := Hg.out; show b ≠ g; omega) (fun b hb hl => hI.gr.block b hl (fun e => by have h1 : b < w.heap.size := hb; injection e with e; have := Hg.out; omega)) hI.gr.size
          have hcp : ∀ i, w5.cell? ⟨w4.heap.size, i, none⟩ = _ := cells_of ((hI.gr.block _ Hsq.out (fun e => by injection e with e; have := HgL.out; omega)).trans (HP.out.at_ 0 _ rfl))
          clear h16 hdone hI
          by_cases hte : te = 0
          · subst hte
            have HNC : Hid (nextCell l ⟨2, k, j, p⟩ = (⟨true, T, p⟩, 0)) := by show nextCell _ _ = _; unfold nextCell; dsimp only; rw [if_neg (by decide), if_neg (by decide), if_pos rfl, Hxk.out, HTt.out]; simp
            have HE : Hid (nextE l ⟨2, k, j, p⟩ = (l.set k ⟨true, T, p⟩, 0)) := by show nextE _ _ = _; rw [HN'.out, HNC.out]; simp
            go_wp2_with fail
            refine (polcopy_any _ p _ _ Hr5.out (by have := (Hokp.out (by decide)).len; omega) (fun r hr => by have := ((Hokp.out (by decide)).rules r hr).len; omega)).mono ?_
            rintro e w6 ⟨v6, rfl, hp6, hb6⟩
            have HO6 := Lib.hid (HO5.out.below hb6)
            have HBw6 := Lib.hid (bel_call Hb5.out hb6)
            have Hsz5 : Hid (g < w5.heap.size) := (HO5.out.lt (by rw [List.length_set]; have := Hl4.out; omega)).2
            have HP6 : Hid (RdRules w6 (Dg w2.heap.size g) v6 p.rules) := hp6.keep (fun b hb _ => ⟨by have h1 := hb; have := Hg.out; have := Hsz5.out; omega, by have h1 := hb; have := Hsz5.out; omega⟩) (fun _ _ _ => rfl) (Nat.le_refl _)
            obtain ⟨a6, c6, rfl, _⟩ := Sl.form hp6
            clear hp6 hb6
            have hsk : (l.set k ⟨true, T, x.p⟩)[k]? = some ⟨true, T, x.p⟩ := by rw [List.getElem?_set_self (by have := Hl4.out; omega)]
            obtain ⟨za1, za2, zc1, zc2, z0, z1, z2, z3, _, _⟩ := HO6.out.cells hsk
            have hfz := HO6.out.frz (by rw [List.length_set]; have := Hl4.out; omega)
            have hpo := HO6.out.pol hsk HP6.out
            rw [set_set'] at hpo
            have HRD := Lib.hid (OwnCells.read hpo (B' := w.heap.size) (by have := Hg.out; omega) (by have := Hg.out; omega))
            have hls : (l.set k (⟨true, T, p⟩ : TCell)).length = l.length := List.length_set
            have Hls := Lib.hid hls
            have HBL6 := Lib.hid (set_below (a := ⟨g, k * 4 + 3, none⟩) (v := .int .i64 p.dflt) (set_below (a := ⟨g, k * 4 + 2, none⟩) (v := .slice a6 p.rules.length c6) HBw6.out (show w.heap.size ≤ g by have := Hg.out; omega)) (show w.heap.size ≤ g by have := Hg.out; omega))
            clear hls hpo hsk hcp
            go_wp2
            go_ret2
            rw [HE.out]
            dsimp only
            rw [Hls.out]
            exact ⟨_, _, rfl, HRD.out, HBL6.out⟩
          · have hne : (te == 0) = false := by simpa using hte
            have hne' : (te != 0) = true := bne_iff_ne.2 hte
            have HNC : Hid (nextCell l ⟨2, k, j, p⟩ = (zeroCell, te)) := by show nextCell _ _ = _; unfold nextCell; dsimp only; rw [if_neg (by decide), if_neg (by decide), if_pos rfl, Hxk.out, HTt.out]; simp [hte]
            have HE : Hid (nextE l ⟨2, k, j, p⟩ = ([], te)) := by show nextE _ _ = _; rw [HN'.out, HNC.out]; simp [hte]
            clear hte hcp
            go_wp2
            go_ret2
            rw [HE.out]
            exact ⟨_, _, rfl, nil_cells _ _, Hb5.out⟩
      · cases xo : x.open_ with
        | false =>
          refine wp_region_exact3 w3.heap.size (Nat.le_refl _) (by kernel_rfl) (by kernel_rfl) ?_
          repeat (refine monoE_step (fun K hK => ?_); apply Exists.intro; refine ⟨fun W hC R hR => ?_, ?_⟩; (have hcc := Hc0.out W hC; rw [xo] at hcc; go_simp; exact hR _ _ (Below.refl _ _) rfl); (go_simp; refine hK _ ?_; clear hK K))
          intro w4 hC4
          have HB4 := Lib.hid (HB3.out.below hC4.2)
          have HO4 := Lib.hid (HO.out.below hC4.2)
          have Hr4 := Lib.hid (RdRules.below Hr3.out hC4.2)
          have HBL : Hid (Below w.heap.size w w4) := HB4.out.bel
          clear hC4 Hc0 HB3 HO Hr3 HBL3 Hxc Hxp x0 x1 x2 x3 hq0
          have HE : Hid (nextE l ⟨4, k, j, p⟩ = ([], 6)) := by show nextE _ _ = _; rw [HN.out, if_pos (by rw [xo]; decide)]
          go_wp2
          go_ret2
          rw [HE.out]
          exact ⟨_, _, rfl, nil_cells _ _, HBL.out⟩
        | true =>
          refine wp_region_exact3 w3.heap.size (Nat.le_refl _) (by kernel_rfl) (by kernel_rfl) ?_
          repeat (refine monoE_step (fun K hK => ?_); apply Exists.intro; refine ⟨fun W hC R hR => ?_, ?_⟩; (have hcc := Hc0.out W hC; rw [xo] at hcc; go_simp; exact hR _ _ (Below.refl _ _) rfl); (go_simp; refine hK _ ?_; clear hK K))
          intro w4 hC4
          have HB4 := Lib.hid (HB3.out.below hC4.2)
          have HO4 := Lib.hid (HO.out.below hC4.2)
          have Hr4 := Lib.hid (RdRules.below Hr3.out hC4.2)
          have HBL : Hid (Below w.heap.size w w4) := HB4.out.bel
          clear hC4 Hc0 HB3 HO Hr3 HBL3 Hxc Hxp x0 x1 x2 x3 hq0
          have HN' : Hid (nextE l ⟨4, k, j, p⟩ = if (nextCell l ⟨4, k, j, p⟩).2 ≠ 0 then ([], (nextCell l ⟨4, k, j, p⟩).2) else (l.set k (nextCell l ⟨4, k, j, p⟩).1, 0)) := by show nextE _ _ = _; rw [HN.out, if_neg (by rw [xo]; decide)]
          clear HN
          have HP := Lib.hid (Bx.one (w := w4) (o := (.cells #[.slice ap p.rules.length cp, .int .i64 p.dflt] 37)))
          have HBq := Lib.hid (HB4.out.below HP.out.bel)
          have HOq := Lib.hid (HO4.out.below HP.out.bel)
          have Hrq := Lib.hid (RdRules.below Hr4.out HP.out.bel)
          have hqp := HP.out.cells0
          have hqb := HBq.out.cells0
          have hq4 := HB4.out.cells0
          have HgL := Lib.hid (HO4.out.lt (by have := Hl4.out; omega)).2
          have HNC : Hid (nextCell l ⟨4, k, j, p⟩ = (zeroCell, 0)) := by show nextCell _ _ = _; unfold nextCell; simp
          have HE : Hid (nextE l ⟨4, k, j, p⟩ = (l.set k zeroCell, 0)) := by show nextE _ _ = _; rw [HN'.out, HNC.out]; simp
          obtain ⟨za1, za2, zc1, zc2, z0, z1, z2, z3, _, _⟩ := HOq.out.cells Hx.out
          have hfz := HOq.out.frz (by have := Hl4.out; omega)
          have HOw := Lib.hid (HOq.out.put (y := zeroCell) Hx.out (nil_chain _ _) (nil_rules' _ _))
          have HRD := Lib.hid (HOw.out.read (B' := w.heap.size) (by have := Hg.out; omega) (by have := Hg.out; omega))
          have hls : (l.set k zeroCell).length = l.length := List.length_set
          have Hls := Lib.hid hls
          have HBLq := Lib.hid (below_put (k := k) (o := false) (u := .slice none 0 0) (v := .slice none 0 0) (d := 0) HBq.out.bel (show w.heap.size ≤ g by have := Hg.out; omega))
          clear hls
          go_wp2
          go_ret2
          rw [HE.out]
          dsimp only
          rw [Hls.out]
          exact ⟨_, _, rfl, HRD.out, HBLq.out⟩
    · have HE : Hid (nextE l ⟨kd, cl, fr, p⟩ = ([], recE ⟨kd, cl, fr, p⟩)) := by show nextE _ _ = _; unfold nextE; rw [if_neg (by rw [H0.out]; simp), if_pos h3]
      have HBL : Hid (Below w.heap.size w w2) := HB2.out.bel
      have hne : (recE ⟨kd, cl, fr, p⟩ != 0) = true := bne_iff_ne.2 h3
      generalize recE ⟨kd, cl, fr, p⟩ = E at *
      clear h3
      go_wp2
      go_ret2
      rw [HE.out]
      exact ⟨_, _, rfl, nil_cells _ _, HBL.out⟩
  · have HE : Hid (nextE l ⟨kd, cl, fr, p⟩ = ([], cellsE l)) := by show nextE _ _ = _; unfold nextE; rw [if_pos h0]
    have HBL : Hid (Below w.heap.size w w1) := HB1.out.bel
    have hne : (cellsE l != 0) = true := bne_iff_ne.2 h0
    generalize cellsE l = E at *
    clear h0
    go_wp2
    go_ret2
    rw [HE.out]
    exact ⟨_, _, rfl, nil_cells _ _, HBL.out⟩
end Go.Proofs.YtkiipnbjckdlbaaGreatDoor
namespace Go.Proofs.YtkiipnbjckdlbaaGreatDoor
open Go.RowKit
set_option maxRecDepth 100000 in
theorem keepnew_any (w : World) : Calls Tryz.prog 37 #[] w fun e w' => ∃ v, e = .returned v ∧ RdCells w' (fun b => w.heap.size ≤ b) v newCells ∧ Below w.heap.size w w' := by
  obtain ⟨i0, hi, hz0, hz1, hz2⟩ := info_parts infocCell
  have hmk := fun (W : World) => run_make (P := Tryz.prog) W 53 66 i0 (.agg #[.bool false, .slice none 0 0, .slice none 0 0, .int .i64 0]) Tryz.underlying53 hi hz0 .i64 .i64 4 4 (by decide) (by decide) (by rw [hz2]; decide) (by decide)
  have hcs : madeCells (Value.agg #[.bool false, .slice none 0 0, .slice none 0 0, .int .i64 0]).cells ((4 : Int).toNat * i0.size) = #[.bool false, .slice none 0 0, .slice none 0 0, .int .i64 0, .bool false, .slice none 0 0, .slice none 0 0, .int .i64 0, .bool false, .slice none 0 0, .slice none 0 0, .int .i64 0, .bool false, .slice none 0 0, .slice none 0 0, .int .i64 0] := by rw [hz1]; kernel_rfl
  rw [hcs, show (4 : Int).toNat = 4 from rfl] at hmk
  have hrd : ∀ W : World, RdCells (W.alloc (.cells #[.bool false, .slice none 0 0, .slice none 0 0, .int .i64 0, .bool false, .slice none 0 0, .slice none 0 0, .int .i64 0, .bool false, .slice none 0 0, .slice none 0 0, .int .i64 0, .bool false, .slice none 0 0, .slice none 0 0, .int .i64 0] 66)) (fun b => W.heap.size ≤ b) (.slice (some ⟨W.heap.size, 0, none⟩) 4 4) newCells := fun W => by
    have hz : ∀ W' D', cellR W' D' zeroCell [.bool false, .slice none 0 0, .slice none 0 0, .int .i64 0] := fun W' D' => ⟨_, _, rfl, ⟨none, 0, rfl, Nat.le_refl _, by decide, fun _ => rfl, fun h => by cases h⟩, ⟨none, 0, rfl, Nat.le_refl _, by decide, fun _ => rfl, fun h => by cases h⟩⟩
    exact sl_block (xs := newCells) (RowsOf.cons (RowsOf.cons (RowsOf.cons (RowsOf.cons RowsOf.nil (hz _ _) rfl) (hz _ _) rfl) (hz _ _) rfl) (hz _ _) rfl) (heap_last _ _) rfl (Nat.le_refl _) (by simp [maxLen, newCells])
  have Hrd := Lib.hid hrd
  clear hrd hcs hi hz0 hz1 hz2
  go_enter Tryz.func37, Tryz.ntmps37
  go_wp2
  go_ret
  exact ⟨_, rfl, Hrd.out w, bel_alloc (Below.refl _ _) _⟩
end Go.Proofs.YtkiipnbjckdlbaaGreatDoor
namespace Go.Proofs.YtkiipnbjckdlbaaGreatDoor
open Go.RowKit

theorem Below.cell_alloc' {w : World} {ad : Addr} {v : Value} (O : Obj) (h : w.cell? ad = some v) : (w.alloc O).cell? ad = some v := by
  obtain ⟨b, i, s⟩ := ad
  have hlt : b < w.heap.size := by
    apply Classical.byContradiction
    intro hn
    unfold World.cell? at h
    rw [Array.getElem?_eq_none (by show w.heap.size ≤ b; omega)] at h
    cases h
  unfold World.cell? at h ⊢
  rw [show (w.alloc O).heap[b]? = w.heap[b]? from Below.heap_alloc w O b hlt]
  exact h
@[reducible] def cellV (c : TCell) (a1 : Option Addr) (c1 : Nat) (a2 : Option Addr) (c2 : Nat) : Value := .agg #[.bool c.open_, .slice a1 c.chain.length c1, .slice a2 c.p.rules.length c2, .int .i64 c.p.dflt]
theorem cells_true {w : World} {D : Nat → Prop} {v : Value} {l : List TCell} (h : RdCells w D v l) : RdCells w (fun _ => True) v l := h.keep (fun _ _ _ => trivial) (fun _ _ _ => rfl) (Nat.le_refl _)
set_option maxHeartbeats 4000000 in
theorem kksame1_any (x y : TCell) (a1 a2 b1 b2 : Option Addr) (c1 c2 d1 d2 : Nat) (w : World) (h1 : RdChain w (fun _ => True) (.slice a1 x.chain.length c1) x.chain) (h2 : RdRules w (fun _ => True) (.slice a2 x.p.rules.length c2) x.p.rules) (h3 : RdChain w (fun _ => True) (.slice b1 y.chain.length d1) y.chain) (h4 : RdRules w (fun _ => True) (.slice b2 y.p.rules.length d2) y.p.rules) :
    Calls Tryz.prog 76 #[cellV x a1 c1 a2 c2, cellV y b1 d1 b2 d2] w fun e w' => e = .returned (.bool (decide (x = y))) ∧ Below w.heap.size w w' := by
  have H1 := Lib.hid h1
  have H2 := Lib.hid h2
  have H3 := Lib.hid h3
  have H4 := Lib.hid h4
  clear h1 h2 h3 h4
  obtain ⟨ox, cx, px⟩ := x
  obtain ⟨oy, cy, py⟩ := y
  dsimp only at H1 H2 H3 H4 ⊢
  have HB := Lib.hid (Bx.two (w := w) (o := .cells #[.bool ox, .slice a1 cx.length c1, .slice a2 px.rules.length c2, .int .i64 px.dflt] 66) (o' := .cells #[.bool oy, .slice b1 cy.length d1, .slice b2 py.rules.length d2, .int .i64 py.dflt] 66))
  have HD : Hid (decide ((⟨ox, cx, px⟩ : TCell) = ⟨oy, cy, py⟩) = (decide (ox = oy) && decide (cx = cy) && decide (px = py))) := by show _ = _; simp [Bool.and_assoc]
  by_cases ho : ox = oy
  · subst ho
    go_enter Tryz.func76, Tryz.ntmps76
    go_wp2_with fail
    refine (chsame_any _ _ cx cy _ (H1.out.below HB.out.bel) (H3.out.below HB.out.bel)).mono ?_
    rintro e w1 ⟨rfl, hb1⟩
    have HB1 := Lib.hid (HB.out.below hb1)
    clear hb1
    by_cases hc : cx = cy
    · have d1 : decide (cx = cy) = true := decide_eq_true hc
      have HD' : Hid (decide ((⟨ox, cx, px⟩ : TCell) = ⟨ox, cy, py⟩) = decide (px = py)) := by show _ = _; rw [HD.out, d1]; simp
      rw [d1]
      clear hc HD d1
      have hq0 := HB1.out.cells0
      have hq1 := HB1.out.cells1
      go_wp2_with fail
      refine (same_any _ _ px py (fun _ => True) _ (RdRules.below H2.out HB1.out.bel) (RdRules.below H4.out HB1.out.bel)).mono ?_
      rintro e w2 ⟨rfl, hb2⟩
      have HB2 := Lib.hid (HB1.out.below hb2)
      clear hq0 hq1 hb2
      go_wp2
      go_ret
      exact ⟨by rw [HD'.out]; rfl, HB2.out.bel⟩
    · have d1 : decide (cx = cy) = false := decide_eq_false hc
      have HD' : Hid (decide ((⟨ox, cx, px⟩ : TCell) = ⟨ox, cy, py⟩) = false) := by show _ = _; rw [HD.out, d1]; simp
      rw [d1]
      clear hc HD d1
      go_wp2
      go_ret
      exact ⟨by rw [HD'.out]; rfl, HB1.out.bel⟩
  · have d1 : (ox == oy) = false := by simpa using ho
    have HD' : Hid (decide ((⟨ox, cx, px⟩ : TCell) = ⟨oy, cy, py⟩) = false) := by show _ = _; rw [HD.out]; simp [ho]
    clear ho HD
    have HBL : Hid (Below w.heap.size w _) := HB.out.bel
    go_enter Tryz.func76, Tryz.ntmps76
    go_wp2
    go_ret
    exact ⟨by rw [HD'.out]; rfl, HBL.out⟩
set_option maxRecDepth 100000 in
set_option maxHeartbeats 4000000 in
theorem kkeq_any (v u : Value) (xs ys : List TCell) (w : World) (h : RdCells w (fun _ => True) v xs) (h' : RdCells w (fun _ => True) u ys) :
    Calls Tryz.prog 75 #[v, u, .func (.func 76) #[] #[]] w fun e w' => e = .returned (.bool (decide (xs = ys))) ∧ Below w.heap.size w w' := by
  have H := Lib.hid h
  have H' := Lib.hid h'
  obtain ⟨a, c, rfl, hlc, hcm, hat⟩ := Sl.form h
  obtain ⟨a', c', rfl, hlc', hcm', hat'⟩ := Sl.form h'
  clear h h'
  by_cases hl : xs.length = ys.length
  · have Hl := Lib.hid hl
    have hln : ((xs.length : Int) != (ys.length : Int)) = false := by rw [hl]; simp
    clear hl
    go_enter Tryz.func75, Tryz.ntmps75
    go_wp2_with fail
    go_loopw [17] (fun i wr => ∃ k : Nat, k ≤ xs.length ∧ i = .int .i64 k ∧ xs.take k = ys.take k ∧ Below w.heap.size w wr) (fun i _ => xs.length - (intOf i).toNat)
    case atStart => exact ⟨0, by omega, rfl, rfl, Below.refl _ _⟩
    case round =>
      obtain ⟨k, hk, rfl, htk, hbw⟩ := hrel
      have Ht := Lib.hid htk
      have Hb := Lib.hid hbw
      clear htk hbw
      by_cases hlt : k < xs.length
      · obtain ⟨b, o, rfl, _, _⟩ := hat (by omega)
        obtain ⟨b', o', rfl, _, _⟩ := hat' (by rw [← Hl.out]; omega)
        have hlt' : k < ys.length := by rw [← Hl.out]; exact hlt
        obtain ⟨a1, a2, c1, c2, x0, x1, x2, x3, hr1, hp1⟩ := RdCells.cells (H.out.below Hb.out) hlt
        obtain ⟨b1, b2, d1, d2, y0, y1, y2, y3, hr2, hp2⟩ := RdCells.cells (H'.out.below Hb.out) hlt'
        have Hr1 := Lib.hid hr1
        have Hr2 := Lib.hid hr2
        have Hp1 := Lib.hid hp1
        have Hp2 := Lib.hid hp2
        have HC := Lib.hid (Bx.two (w := wr) (o := .cells #[.bool xs[k].open_, .slice a1 xs[k].chain.length c1, .slice a2 xs[k].p.rules.length c2, .int .i64 xs[k].p.dflt] 66) (o' := .cells #[.bool ys[k].open_, .slice b1 ys[k].chain.length d1, .slice b2 ys[k].p.rules.length d2, .int .i64 ys[k].p.dflt] 66))
        have q0 : ∀ O, (wr.alloc O).cell? ⟨b', o' + k * 4, none⟩ = _ := fun O => (Below.cell_alloc' O y0)
        have q1 : ∀ O, (wr.alloc O).cell? ⟨b', o' + k * 4 + 1, none⟩ = _ := fun O => (Below.cell_alloc' O y1)
        have q2 : ∀ O, (wr.alloc O).cell? ⟨b', o' + k * 4 + 2, none⟩ = _ := fun O => (Below.cell_alloc' O y2)
        have q3 : ∀ O, (wr.alloc O).cell? ⟨b', o' + k * 4 + 3, none⟩ = _ := fun O => (Below.cell_alloc' O y3)
        clear hr1 hr2 hp1 hp2
        go_wp2_with fail
        refine (kksame1_any xs[k] ys[k] _ _ _ _ _ _ _ _ _ (Hr1.out.below HC.out.bel) (RdRules.below Hp1.out HC.out.bel) (Hr2.out.below HC.out.bel) (RdRules.below Hp2.out HC.out.bel)).mono ?_
        rintro e w1 ⟨rfl, hb1⟩
        have Hb1 := Lib.hid (bel_call (bel_call Hb.out HC.out.bel) hb1)
        clear hb1 x0 x1 x2 x3 y0 y1 y2 y3 q0 q1 q2 q3 HC
        by_cases he : xs[k] = ys[k]
        · have Hn := Lib.hid (take_eq_step4 hlt hlt' Ht.out he)
          have d : decide (xs[k] = ys[k]) = true := decide_eq_true he
          clear he
          rw [d]
          go_wp2
          go_roundw
          case rel => first | exact ⟨k + 1, by omega, by go_num, Hn.out, Hb1.out⟩ | ((repeat apply Exists.intro); exact ⟨⟨k + 1, by omega, by go_num, Hn.out, Hb1.out⟩, rfl⟩)
          case measure => simp [intOf]; omega
        · have Hn := Lib.hid (ne_of_get4 hlt hlt' he)
          have d : decide (xs[k] = ys[k]) = false := decide_eq_false he
          clear he
          rw [d]
          go_wp2
          go_ret
          exact ⟨by rw [decide_eq_false Hn.out]; rfl, Hb1.out⟩
      · obtain rfl : k = xs.length := by omega
        have Hn : Hid (xs = ys) := by
          have := Ht.out
          rw [List.take_length, Hl.out, List.take_length] at this
          exact this
        go_wp2
        go_ret
        exact ⟨by rw [decide_eq_true Hn.out]; rfl, Hb.out⟩
  · have hn : xs ≠ ys := fun e => hl (by rw [e])
    have hl' : ((xs.length : Int) != (ys.length : Int)) = true := bne_iff_ne.2 (by omega)
    have HD := Lib.hid (decide_eq_false hn)
    clear hn
    go_enter Tryz.func75, Tryz.ntmps75
    go_wp2
    go_ret
    exact ⟨by rw [HD.out]; rfl, Below.refl _ _⟩
set_option maxHeartbeats 1000000 in
theorem keepsame_any (v u : Value) (xs ys : List TCell) (w : World) (h : RdCells w (fun _ => True) v xs) (h' : RdCells w (fun _ => True) u ys) :
    Calls Tryz.prog 35 #[v, u] w fun e w' => e = .returned (.bool (decide (xs = ys))) ∧ Below w.heap.size w w' := by
  have H := Lib.hid h
  have H' := Lib.hid h'
  obtain ⟨a, c, rfl, _⟩ := Sl.form h
  obtain ⟨a', c', rfl, _⟩ := Sl.form h'
  clear h h'
  go_enter Tryz.func35, Tryz.ntmps35
  go_wp2_with fail
  refine (kkeq_any _ _ xs ys w H.out H'.out).mono ?_
  rintro e w1 ⟨rfl, hb1⟩
  go_wp2
  go_ret
  exact ⟨rfl, hb1⟩
end Go.Proofs.YtkiipnbjckdlbaaGreatDoor
namespace Go.Proofs.YtkiipnbjckdlbaaGreatDoor
open Go.RowKit

theorem replayGo_drop (l : List TRec) (k : Nat) (h : k < l.length) (c : List TCell) : replayGo (l.drop k) c = if (nextE c l[k]).2 ≠ 0 then ([], (nextE c l[k]).2) else replayGo (l.drop (k + 1)) (nextE c l[k]).1 := by
  rw [List.drop_eq_getElem_cons h]; rfl
set_option maxRecDepth 100000 in
set_option maxHeartbeats 8000000 in
theorem replay_any (v : Value) (l : List TRec) (D : Nat → Prop) (w : World) (h : RdRecs w D v l) :
    Calls Tryz.prog 38 #[v] w fun e w' => ∃ a1 c1, e = .returned (.tuple #[.slice a1 (replayE l).1.length c1, .int .i64 (replayE l).2]) ∧ RdCells w' (fun b => w.heap.size ≤ b) (.slice a1 (replayE l).1.length c1) (replayE l).1 ∧ Below w.heap.size w w' := by
  have H := Lib.hid h
  obtain ⟨a, c, rfl, hlc, hcm, hat⟩ := Sl.form h
  clear h
  by_cases h40 : 40 < l.length
  · have HE : Hid (replayE l = ([], 2)) := by show replayE l = _; unfold replayE; rw [if_pos h40]
    have hz : 40 < (l.length : Int) := by omega
    clear h40 hat
    go_enter Tryz.func38, Tryz.ntmps38
    go_wp2
    go_ret2
    rw [HE.out]
    exact ⟨_, _, rfl, nil_cells _ _, Below.refl _ _⟩
  · have HE : Hid (replayE l = replayGo l newCells) := by show replayE l = _; unfold replayE; rw [if_neg h40]
    have hz : ¬ 40 < (l.length : Int) := by omega
    clear h40
    go_enter Tryz.func38, Tryz.ntmps38
    go_wp2_with fail
    refine (keepnew_any _).mono ?_
    rintro e w1 ⟨v1, rfl, hr1, hb1⟩
    have Hr1 := Lib.hid hr1
    have Hb1 := Lib.hid hb1
    obtain ⟨a1, c1, rfl, _⟩ := Sl.form hr1
    clear hr1 hb1
    go_wp2_with fail
    go_loopw [4, 14] (fun ov kv wr => ∃ (k : Nat) (ls : List TCell) (a2 : Option Addr) (c2 : Nat), kv = .int .i64 k ∧ ov = .slice a2 ls.length c2 ∧ k ≤ l.length ∧ replayGo l newCells = replayGo (l.drop k) ls ∧ RdCells wr (fun b => w.heap.size ≤ b) (.slice a2 ls.length c2) ls ∧ Below w.heap.size w wr) (fun _ kv _ => l.length - (intOf kv).toNat)
    case atStart => exact ⟨0, newCells, _, _, rfl, rfl, by omega, rfl, Hr1.out, Hb1.out⟩
    case round =>
      obtain ⟨k, ls, a2, c2, rfl, rfl, hk, hgo, hrd, hbw⟩ := hrel
      have Hgo := Lib.hid hgo
      have Hrd := Lib.hid hrd
      have Hb := Lib.hid hbw
      clear hgo hrd hbw
      by_cases hlt : k < l.length
      · obtain ⟨b, o, rfl, _, _⟩ := hat (by omega)
        obtain ⟨a3, c3, x0, x1, x2, x3, x4, hp⟩ := RdRecs.cells (H.out.below Hb.out) hlt
        have Hp := Lib.hid hp
        have Hd := Lib.hid (replayGo_drop l k hlt ls)
        have HC := Lib.hid (Bx.one (w := wr) (o := .cells #[.int .i64 l[k].kind, .int .i64 l[k].cell, .int .i64 l[k].from_, .slice a3 l[k].p.rules.length c3, .int .i64 l[k].p.dflt] 55))
        have hq0 := HC.out.cells0
        clear hp
        go_wp2_with fail
        refine (next_any _ _ ls l[k] _ _ _ (Hrd.out.below HC.out.bel) (RdRules.below Hp.out HC.out.bel)).mono ?_
        obtain ⟨⟨N, ne⟩, hN⟩ : ∃ E, nextE ls l[k] = E := ⟨_, rfl⟩
        have HN := Lib.hid hN
        clear hN
        rw [HN.out]
        rintro e w2 ⟨a4, c4, rfl, hr2, hb2⟩
        have Hr2 : Hid (RdCells w2 (fun b => w.heap.size ≤ b) (.slice a4 N.length c4) N) := hr2.keep (fun b hb _ => Nat.le_trans (bel_call Hb.out HC.out.bel).size hb) (fun _ _ _ => rfl) (Nat.le_refl _)
        have Hb2 := Lib.hid (bel_call (bel_call Hb.out HC.out.bel) hb2)
        clear hr2 hb2 x0 x1 x2 x3 x4 HC hq0
        by_cases h0 : ne = 0
        · subst h0
          have Hn : Hid (replayGo l newCells = replayGo (l.drop (k + 1)) N) := by show replayGo _ _ = _; rw [Hgo.out, Hd.out, HN.out, if_neg (by simp)]
          go_wp2
          go_roundw
          case rel => exact ⟨k + 1, N, a4, c4, by go_num, rfl, by omega, Hn.out, Hr2.out, Hb2.out⟩
          case measure => simp [intOf]; omega
        · have HE2 : Hid (replayE l = ([], ne)) := by show replayE l = _; rw [HE.out, Hgo.out, Hd.out, HN.out, if_pos h0]
          have hne : (ne != 0) = true := bne_iff_ne.2 h0
          clear h0
          go_wp2
          go_ret2
          rw [HE2.out]
          exact ⟨_, _, rfl, nil_cells _ _, Hb2.out⟩
      · obtain rfl : k = l.length := by omega
        have HE2 : Hid (replayE l = (ls, 0)) := by show replayE l = _; rw [HE.out, Hgo.out, List.drop_length]; rfl
        go_wp2
        go_ret2
        rw [HE2.out]
        exact ⟨_, _, rfl, Hrd.out, Hb.out⟩
end Go.Proofs.YtkiipnbjckdlbaaGreatDoor
namespace Go.Proofs.YtkiipnbjckdlbaaGreatDoor
open Go.RowKit
attribute [local go_sem] gives givesUpon

def opRecs : List TRec := [⟨1, 1, 0, madeP⟩, ⟨2, 1, 0, strictP⟩, ⟨3, 2, 1, zeroPol⟩]
def opC1 : TCell := (replayE opRecs).1.getD 1 zeroCell
def opC2 : TCell := (replayE opRecs).1.getD 2 zeroCell
theorem opd_r : replayE opRecs = ([zeroCell, opC1, opC2, zeroCell], 0) := by decide +kernel
theorem opd_n1 : nextE [zeroCell, opC1, opC2, zeroCell] ⟨2, 1, 0, madeP⟩ = ([], 7) := by decide +kernel
theorem opd_n2 : nextE [zeroCell, opC1, opC2, zeroCell] ⟨4, 1, 0, zeroPol⟩ = ([zeroCell, zeroCell, opC2, zeroCell], 0) := by decide +kernel
theorem opd_c : cellsE [zeroCell, opC1, opC2, zeroCell] = 0 := by decide +kernel
theorem opd_1 : opC1.chain.length = 2 := by decide +kernel
theorem opd_2 : opC2.chain.length = 1 := by decide +kernel
theorem opd_p : opC2.p = strictP := by decide +kernel
theorem cell_kept' {w w' : World} {ad : Addr} {v : Value} (h : w.cell? ad = some v) (hb : Below w.heap.size w w') : w'.cell? ad = some v := by
  obtain ⟨b, i, s⟩ := ad
  have hlt : b < w.heap.size := by
    apply Classical.byContradiction
    intro hn
    unfold World.cell? at h
    rw [Array.getElem?_eq_none (by show w.heap.size ≤ b; omega)] at h
    cases h
  unfold World.cell? at h ⊢
  rw [show w'.heap[b]? = w.heap[b]? from hb.block b hlt]
  exact h
theorem strict_stable : stableP (fun v W => ∃ a c, v = polV (.slice a 3 c) 4 ∧ RdRules W (fun _ => True) (.slice a 3 c) strictP.rules) := fun _ _ _ hb ⟨a, c, h1, h2⟩ => ⟨a, c, h1, RdRules.below h2 hb⟩

set_option maxRecDepth 100000 in
set_option maxHeartbeats 16000000 in
theorem opened_walk (w : World) (hL : Laid w) : Calls Tryz.prog 32 #[] w fun e w' => e = .returned (.bool true) ∧ Below w.heap.size w w' := by
  have HL := Lib.hid hL
  clear hL
  obtain ⟨C1, hC1⟩ : ∃ C, opC1 = C := ⟨_, rfl⟩
  obtain ⟨C2, hC2⟩ : ∃ C, opC2 = C := ⟨_, rfl⟩
  have HR := Lib.hid opd_r
  have HN1 := Lib.hid opd_n1
  have HN2 := Lib.hid opd_n2
  have HcL := Lib.hid opd_c
  have Hl1 := Lib.hid opd_1
  have Hl2 := Lib.hid opd_2
  have HpS := Lib.hid opd_p
  rw [hC1, hC2] at HR HN1 HcL
  rw [hC1, hC2] at HN2
  rw [hC1] at Hl1
  rw [hC2] at Hl2 HpS
  clear hC1 hC2
  go_enter Tryz.func32, Tryz.ntmps32
  go_wp2_with fail
  refine (made_any _ HL.out).mono ?_
  rintro e w1 ⟨v1, rfl, hr1, hb1⟩
  have Hb1 := Lib.hid hb1
  have Hr1 := Lib.hid (rules_true hr1)
  obtain ⟨a1, c1, rfl, _⟩ := Sl.form hr1
  clear hr1 hb1
  have hm1 : madeP.rules.length = 2 := rfl
  go_wp2_with fail
  refine (strict_any _ (HL.out.below Hb1.out)).mono ?_
  rintro e w2 ⟨v2, rfl, hr2, hb2⟩
  have Hb2 := Lib.hid (bel_call Hb1.out hb2)
  have Hr12 := Lib.hid (RdRules.below Hr1.out hb2)
  have Hr2 := Lib.hid (rules_true hr2)
  obtain ⟨a2, c2, rfl, _⟩ := Sl.form hr2
  clear hr2 hb2 Hr1
  have hm2 : strictP.rules.length = 3 := rfl
  have HC := Lib.hid (Bx.one (w := w2) (o := .cells #[.int .i64 1, .int .i64 1, .int .i64 0, .slice a1 2 c1, .int .i64 4, .int .i64 2, .int .i64 1, .int .i64 0, .slice a2 3 c2, .int .i64 4, .int .i64 3, .int .i64 2, .int .i64 1, .slice none 0 0, .int .i64 0] 55))
  have HRc : Hid (RdRecs (w2.alloc (.cells #[.int .i64 1, .int .i64 1, .int .i64 0, .slice a1 2 c1, .int .i64 4, .int .i64 2, .int .i64 1, .int .i64 0, .slice a2 3 c2, .int .i64 4, .int .i64 3, .int .i64 2, .int .i64 1, .slice none 0 0, .int .i64 0] 55)) (fun _ => True) (.slice (some ⟨w2.heap.size, 0, none⟩) 3 3) opRecs) :=
    sl_block (xs := opRecs) (rows := [[.int .i64 1, .int .i64 1, .int .i64 0, .slice a1 2 c1, .int .i64 4], [.int .i64 2, .int .i64 1, .int .i64 0, .slice a2 3 c2, .int .i64 4], [.int .i64 3, .int .i64 2, .int .i64 1, .slice none 0 0, .int .i64 0]]) (RowsOf.cons (RowsOf.cons (RowsOf.cons RowsOf.nil ⟨_, rfl, nil_rules _ _⟩ rfl) ⟨_, rfl, RdRules.below Hr2.out HC.out.bel⟩ rfl) ⟨_, rfl, RdRules.below Hr12.out HC.out.bel⟩ rfl) (heap_last _ _) rfl trivial (by simp [maxLen, opRecs])
  go_wp2_with fail
  refine (replay_any _ opRecs _ _ HRc.out).mono ?_
  rw [HR.out]
  rintro e w3 ⟨aL, cL, rfl, hr3, hb3⟩
  have Hb3 := Lib.hid (bel_call (bel_call Hb2.out HC.out.bel) hb3)
  have HL3 := Lib.hid (cells_true hr3)
  clear hr3 hb3 HC HRc Hr12 Hr2 hm1 hm2
  simp only [List.length_cons, List.length_nil, Nat.zero_add, Nat.reduceAdd] at HL3 ⊢
  go_wp2_with fail
  refine (made_any _ (HL.out.below Hb3.out)).mono ?_
  rintro e w4 ⟨v4, rfl, hr4, hb4⟩
  have Hb4 := Lib.hid (bel_call Hb3.out hb4)
  have HL4 := Lib.hid (HL3.out.below hb4)
  have Hr4 := Lib.hid (rules_true hr4)
  obtain ⟨a4, c4, rfl, _⟩ := Sl.form hr4
  clear hr4 hb4 HL3
  have hm1 : madeP.rules.length = 2 := rfl
  go_wp2_with fail
  refine (next_any _ _ [zeroCell, C1, C2, zeroCell] ⟨2, 1, 0, madeP⟩ _ _ _ HL4.out Hr4.out).mono ?_
  rw [HN1.out]
  rintro e w5 ⟨a5, c5, rfl, _, hb5⟩
  have Hb5 := Lib.hid (bel_call Hb4.out hb5)
  have HL5 := Lib.hid (HL4.out.below hb5)
  clear hb5 HL4 Hr4 hm1
  simp only [List.length_nil]
  go_wp2_with fail
  refine (next_any _ _ [zeroCell, C1, C2, zeroCell] ⟨4, 1, 0, zeroPol⟩ _ (fun _ => True) _ HL5.out (nil_rules _ _)).mono ?_
  rw [HN2.out]
  rintro e w6 ⟨aM, cM, rfl, hr6, hb6⟩
  have HB := Lib.hid (bel_call Hb5.out hb6)
  have HrL := Lib.hid (HL5.out.below hb6)
  have HrM := Lib.hid (cells_true hr6)
  clear hr6 hb6 HL5 Hb1 Hb2 Hb3 Hb4 Hb5
  simp only [List.length_cons, List.length_nil, Nat.zero_add, Nat.reduceAdd] at HrM ⊢
  obtain ⟨bL, oL, rfl, _⟩ := Sl.at_ HrL.out (by simp)
  obtain ⟨bM, oM, rfl, _⟩ := Sl.at_ HrM.out (by simp)
  obtain ⟨_, _, _, _, q0, _⟩ := RdCells.cells HrL.out (i := 0) (by simp)
  obtain ⟨a1, _, c1, _, _, q11, _⟩ := RdCells.cells HrL.out (i := 1) (by simp)
  obtain ⟨a2, a3, c2, c3, _, q21, q22, q23, _, hp2⟩ := RdCells.cells HrL.out (i := 2) (by simp)
  obtain ⟨_, _, _, _, qM, _⟩ := RdCells.cells HrM.out (i := 1) (by simp)
  simp only [List.getElem_cons_zero, List.getElem_cons_succ] at q0 q11 q21 q22 q23 hp2 qM
  simp only [Nat.zero_mul, Nat.add_zero] at q0
  rw [Hl1.out] at q11
  rw [Hl2.out] at q21
  rw [HpS.out] at q22 q23 hp2
  have HP2 := Lib.hid (rules_true hp2)
  clear hp2
  go_wp2_with fail
  refine wp_region_B [ex (.int .i64 0), ex (.bool true), ex (.bool true), ex (.int .i64 7), ex (.bool true), ex (.bool true), ex (.bool true), ex (.int .i64 0), ex (.bool true), ex (.bool true), ex (.bool true), ex (.slice (some ⟨bL, oL, none⟩) 4 cL), ex (.int .i64 4), ex (.bool true), ex (.bool true), ex (.bool true), ex (.slice (some ⟨bL, oL, none⟩) 4 cL), ex (.pointer (some ⟨bL, oL + 4, none⟩)), ex (.pointer (some ⟨bL, oL + 4 + 1, none⟩)), ex (.slice a1 2 c1), ex (.int .i64 2), ex (.bool true), ex (.bool true), ex (.bool true), ex (.slice (some ⟨bL, oL, none⟩) 4 cL), ex (.pointer (some ⟨bL, oL + 8, none⟩)), ex (.pointer (some ⟨bL, oL + 8 + 1, none⟩)), ex (.slice a2 1 c2), ex (.int .i64 1), ex (.bool true), ex (.bool true), ex (.bool true), ex (.slice (some ⟨bL, oL, none⟩) 4 cL), ex (.pointer (some ⟨bL, oL + 8, none⟩)), ex (.pointer (some ⟨bL, oL + 8 + 2, none⟩)), ex (polV (.slice a3 3 c3) 4), pr (fun v W => ∃ a c, v = polV (.slice a 3 c) 4 ∧ RdRules W (fun _ => True) (.slice a 3 c) strictP.rules), ex (.bool true), ex (.bool true), ex (.bool true), ex (.slice (some ⟨bM, oM, none⟩) 4 cM), ex (.pointer (some ⟨bM, oM + 4, none⟩)), ex (.pointer (some ⟨bM, oM + 4, none⟩)), ex (.bool false), ex (.bool true), ex (.bool true), ex (.bool true), ex (.slice (some ⟨bL, oL, none⟩) 4 cL), ex (.pointer (some ⟨bL, oL, none⟩)), ex (.pointer (some ⟨bL, oL, none⟩)), ex (.bool false), ex (.bool true), ex (.bool true), ex (.bool true), ex (.slice (some ⟨bL, oL, none⟩) 4 cL), ex (.int .i64 0), ex (.bool true), ex (.bool true), ex (.bool true), ex (.slice (some ⟨bL, oL, none⟩) 4 cL), ex (.slice (some ⟨bL, oL, none⟩) 4 cL), ex (.bool true), ex (.bool true), ex (.bool true)] _ (Nat.le_refl _) (by kernel_rfl) (by kernel_rfl) ⟨.inl ⟨_, rfl⟩, .inl ⟨_, rfl⟩, .inl ⟨_, rfl⟩, .inl ⟨_, rfl⟩, .inl ⟨_, rfl⟩, .inl ⟨_, rfl⟩, .inl ⟨_, rfl⟩, .inl ⟨_, rfl⟩, .inl ⟨_, rfl⟩, .inl ⟨_, rfl⟩, .inl ⟨_, rfl⟩, .inl ⟨_, rfl⟩, .inl ⟨_, rfl⟩, .inl ⟨_, rfl⟩, .inl ⟨_, rfl⟩, .inl ⟨_, rfl⟩, .inl ⟨_, rfl⟩, .inl ⟨_, rfl⟩, .inl ⟨_, rfl⟩, .inl ⟨_, rfl⟩, .inl ⟨_, rfl⟩, .inl ⟨_, rfl⟩, .inl ⟨_, rfl⟩, .inl ⟨_, rfl⟩, .inl ⟨_, rfl⟩, .inl ⟨_, rfl⟩, .inl ⟨_, rfl⟩, .inl ⟨_, rfl⟩, .inl ⟨_, rfl⟩, .inl ⟨_, rfl⟩, .inl ⟨_, rfl⟩, .inl ⟨_, rfl⟩, .inl ⟨_, rfl⟩, .inl ⟨_, rfl⟩, .inl ⟨_, rfl⟩, .inl ⟨_, rfl⟩, .inr ⟨_, rfl, strict_stable⟩, .inl ⟨_, rfl⟩, .inl ⟨_, rfl⟩, .inl ⟨_, rfl⟩, .inl ⟨_, rfl⟩, .inl ⟨_, rfl⟩, .inl ⟨_, rfl⟩, .inl ⟨_, rfl⟩, .inl ⟨_, rfl⟩, .inl ⟨_, rfl⟩, .inl ⟨_, rfl⟩, .inl ⟨_, rfl⟩, .inl ⟨_, rfl⟩, .inl ⟨_, rfl⟩, .inl ⟨_, rfl⟩, .inl ⟨_, rfl⟩, .inl ⟨_, rfl⟩, .inl ⟨_, rfl⟩, .inl ⟨_, rfl⟩, .inl ⟨_, rfl⟩, .inl ⟨_, rfl⟩, .inl ⟨_, rfl⟩, .inl ⟨_, rfl⟩, .inl ⟨_, rfl⟩, .inl ⟨_, rfl⟩, .inl ⟨_, rfl⟩, .inl ⟨_, rfl⟩, .inl ⟨_, rfl⟩, trivial⟩ ?_
  (refine walkB_ex (fun K hK => ?_); refine ⟨fun W hC hd R hR => ?_, ?_⟩; (clear hd; go_simp; exact hR _ _ (Below.refl _ _) rfl); (go_simp; refine hK _ ?_; clear hK K))
  (refine walkB_ex (fun K hK => ?_); refine ⟨fun W hC hd R hR => ?_, ?_⟩; (clear hd; go_simp; exact hR _ _ (Below.refl _ _) rfl); (go_simp; refine hK _ ?_; clear hK K))
  (refine walkB_ex (fun K hK => ?_); refine ⟨fun W hC hd R hR => ?_, ?_⟩; (clear hd; go_simp; exact hR _ _ (Below.refl _ _) rfl); (go_simp; refine hK _ ?_; clear hK K))
  (refine walkB_ex (fun K hK => ?_); refine ⟨fun W hC hd R hR => ?_, ?_⟩; (clear hd; go_simp; exact hR _ _ (Below.refl _ _) rfl); (go_simp; refine hK _ ?_; clear hK K))
  (refine walkB_ex (fun K hK => ?_); refine ⟨fun W hC hd R hR => ?_, ?_⟩; (clear hd; go_simp; exact hR _ _ (Below.refl _ _) rfl); (go_simp; refine hK _ ?_; clear hK K))
  (refine walkB_ex (fun K hK => ?_); refine ⟨fun W hC hd R hR => ?_, ?_⟩; (clear hd; go_simp; exact hR _ _ (Below.refl _ _) rfl); (go_simp; refine hK _ ?_; clear hK K))
  (refine walkB_ex (fun K hK => ?_); refine ⟨fun W hC hd R hR => ?_, ?_⟩; (clear hd; go_simp; exact hR _ _ (Below.refl _ _) rfl); (go_simp; refine hK _ ?_; clear hK K))
  (refine walkB_ex (fun K hK => ?_); refine ⟨fun W hC hd R hR => ?_, ?_⟩; (clear hd; go_simp; exact hR _ _ (Below.refl _ _) rfl); (go_simp; refine hK _ ?_; clear hK K))
  (refine walkB_ex (fun K hK => ?_); refine ⟨fun W hC hd R hR => ?_, ?_⟩; (clear hd; go_simp; exact hR _ _ (Below.refl _ _) rfl); (go_simp; refine hK _ ?_; clear hK K))
  (refine walkB_ex (fun K hK => ?_); refine ⟨fun W hC hd R hR => ?_, ?_⟩; (clear hd; go_simp; exact hR _ _ (Below.refl _ _) rfl); (go_simp; refine hK _ ?_; clear hK K))
  (refine walkB_ex (fun K hK => ?_); refine ⟨fun W hC hd R hR => ?_, ?_⟩; (clear hd; go_simp; exact hR _ _ (Below.refl _ _) rfl); (go_simp; refine hK _ ?_; clear hK K))
  (refine walkB_ex (fun K hK => ?_); refine ⟨fun W hC hd R hR => ?_, ?_⟩; (clear hd; go_simp; exact hR _ _ (Below.refl _ _) rfl); (go_simp; refine hK _ ?_; clear hK K))
  (refine walkB_ex (fun K hK => ?_); refine ⟨fun W hC hd R hR => ?_, ?_⟩; (clear hd; go_simp; exact hR _ _ (Below.refl _ _) rfl); (go_simp; refine hK _ ?_; clear hK K))
  (refine walkB_ex (fun K hK => ?_); refine ⟨fun W hC hd R hR => ?_, ?_⟩; (clear hd; go_simp; exact hR _ _ (Below.refl _ _) rfl); (go_simp; refine hK _ ?_; clear hK K))
  (refine walkB_ex (fun K hK => ?_); refine ⟨fun W hC hd R hR => ?_, ?_⟩; (clear hd; go_simp; exact hR _ _ (Below.refl _ _) rfl); (go_simp; refine hK _ ?_; clear hK K))
  (refine walkB_ex (fun K hK => ?_); refine ⟨fun W hC hd R hR => ?_, ?_⟩; (clear hd; go_simp; exact hR _ _ (Below.refl _ _) rfl); (go_simp; refine hK _ ?_; clear hK K))
  (refine walkB_ex (fun K hK => ?_); refine ⟨fun W hC hd R hR => ?_, ?_⟩; (clear hd; go_simp; exact hR _ _ (Below.refl _ _) rfl); (go_simp; refine hK _ ?_; clear hK K))
  (refine walkB_ex (fun K hK => ?_); refine ⟨fun W hC hd R hR => ?_, ?_⟩; (clear hd; go_simp; exact hR _ _ (Below.refl _ _) rfl); (go_simp; refine hK _ ?_; clear hK K))
  (refine walkB_ex (fun K hK => ?_); refine ⟨fun W hC hd R hR => ?_, ?_⟩; (clear hd; go_simp; exact hR _ _ (Below.refl _ _) rfl); (go_simp; refine hK _ ?_; clear hK K))
  (refine walkB_ex (fun K hK => ?_); refine ⟨fun W hC hd R hR => ?_, ?_⟩; (have hz := cell_kept' q11 hC.2; clear hd; go_simp; exact hR _ _ (Below.refl _ _) rfl); (go_simp; refine hK _ ?_; clear hK K))
  (refine walkB_ex (fun K hK => ?_); refine ⟨fun W hC hd R hR => ?_, ?_⟩; (clear hd; go_simp; exact hR _ _ (Below.refl _ _) rfl); (go_simp; refine hK _ ?_; clear hK K))
  (refine walkB_ex (fun K hK => ?_); refine ⟨fun W hC hd R hR => ?_, ?_⟩; (clear hd; go_simp; exact hR _ _ (Below.refl _ _) rfl); (go_simp; refine hK _ ?_; clear hK K))
  (refine walkB_ex (fun K hK => ?_); refine ⟨fun W hC hd R hR => ?_, ?_⟩; (clear hd; go_simp; exact hR _ _ (Below.refl _ _) rfl); (go_simp; refine hK _ ?_; clear hK K))
  (refine walkB_ex (fun K hK => ?_); refine ⟨fun W hC hd R hR => ?_, ?_⟩; (clear hd; go_simp; exact hR _ _ (Below.refl _ _) rfl); (go_simp; refine hK _ ?_; clear hK K))
  (refine walkB_ex (fun K hK => ?_); refine ⟨fun W hC hd R hR => ?_, ?_⟩; (clear hd; go_simp; exact hR _ _ (Below.refl _ _) rfl); (go_simp; refine hK _ ?_; clear hK K))
  (refine walkB_ex (fun K hK => ?_); refine ⟨fun W hC hd R hR => ?_, ?_⟩; (clear hd; go_simp; exact hR _ _ (Below.refl _ _) rfl); (go_simp; refine hK _ ?_; clear hK K))
  (refine walkB_ex (fun K hK => ?_); refine ⟨fun W hC hd R hR => ?_, ?_⟩; (clear hd; go_simp; exact hR _ _ (Below.refl _ _) rfl); (go_simp; refine hK _ ?_; clear hK K))
  (refine walkB_ex (fun K hK => ?_); refine ⟨fun W hC hd R hR => ?_, ?_⟩; (have hz := cell_kept' q21 hC.2; clear hd; go_simp; exact hR _ _ (Below.refl _ _) rfl); (go_simp; refine hK _ ?_; clear hK K))
  (refine walkB_ex (fun K hK => ?_); refine ⟨fun W hC hd R hR => ?_, ?_⟩; (clear hd; go_simp; exact hR _ _ (Below.refl _ _) rfl); (go_simp; refine hK _ ?_; clear hK K))
  (refine walkB_ex (fun K hK => ?_); refine ⟨fun W hC hd R hR => ?_, ?_⟩; (clear hd; go_simp; exact hR _ _ (Below.refl _ _) rfl); (go_simp; refine hK _ ?_; clear hK K))
  (refine walkB_ex (fun K hK => ?_); refine ⟨fun W hC hd R hR => ?_, ?_⟩; (clear hd; go_simp; exact hR _ _ (Below.refl _ _) rfl); (go_simp; refine hK _ ?_; clear hK K))
  (refine walkB_ex (fun K hK => ?_); refine ⟨fun W hC hd R hR => ?_, ?_⟩; (clear hd; go_simp; exact hR _ _ (Below.refl _ _) rfl); (go_simp; refine hK _ ?_; clear hK K))
  (refine walkB_ex (fun K hK => ?_); refine ⟨fun W hC hd R hR => ?_, ?_⟩; (clear hd; go_simp; exact hR _ _ (Below.refl _ _) rfl); (go_simp; refine hK _ ?_; clear hK K))
  (refine walkB_ex (fun K hK => ?_); refine ⟨fun W hC hd R hR => ?_, ?_⟩; (clear hd; go_simp; exact hR _ _ (Below.refl _ _) rfl); (go_simp; refine hK _ ?_; clear hK K))
  (refine walkB_ex (fun K hK => ?_); refine ⟨fun W hC hd R hR => ?_, ?_⟩; (clear hd; go_simp; exact hR _ _ (Below.refl _ _) rfl); (go_simp; refine hK _ ?_; clear hK K))
  (refine walkB_ex (fun K hK => ?_); refine ⟨fun W hC hd R hR => ?_, ?_⟩; (have hz := cell_kept' q22 hC.2; have hz3 := cell_kept' q23 hC.2; clear hd; go_simp; exact hR _ _ (Below.refl _ _) rfl); (go_simp; refine hK _ ?_; clear hK K))
  (refine walkB_pr (fun K hK => ?_); refine ⟨fun W hC hd R hR => ?_, fun v36 => ?_⟩; (clear hd; have HLW := Lib.hid (HL.out.below (bel_call HB.out hC.2)); go_simp; go_at_call 47; refine (strict_any _ HLW.out).mono ?_; rintro e w9 ⟨v9, rfl, hr9, hb9⟩; obtain ⟨a9, c9, rfl, _⟩ := Sl.form hr9; exact ⟨_, rfl, hR _ _ hb9 ⟨_, _, rfl, rules_true hr9⟩⟩); (go_simp; refine hK _ _ ?_; clear hK K))
  (refine walkB_ex (fun K hK => ?_); refine ⟨fun W hC hd R hR => ?_, ?_⟩; (have hs : ∃ a c, v36 = polV (.slice a 3 c) 4 ∧ RdRules W (fun _ => True) (.slice a 3 c) strictP.rules := hd 36 (by decide); obtain ⟨a9, c9, rfl, hs⟩ := hs; have Hs := Lib.hid hs; have HpW := Lib.hid (RdRules.below HP2.out hC.2); clear hd hs; go_simp; go_at_call 72; refine (same_any _ _ strictP strictP (fun _ => True) _ HpW.out Hs.out).mono ?_; rintro e w9 ⟨rfl, hb9⟩; exact ⟨_, rfl, hR _ _ hb9 (by simp; rfl)⟩); (go_simp; refine hK _ ?_; clear hK K))
  (refine walkB_ex (fun K hK => ?_); refine ⟨fun W hC hd R hR => ?_, ?_⟩; (clear hd; go_simp; exact hR _ _ (Below.refl _ _) rfl); (go_simp; refine hK _ ?_; clear hK K))
  (refine walkB_ex (fun K hK => ?_); refine ⟨fun W hC hd R hR => ?_, ?_⟩; (clear hd; go_simp; exact hR _ _ (Below.refl _ _) rfl); (go_simp; refine hK _ ?_; clear hK K))
  (refine walkB_ex (fun K hK => ?_); refine ⟨fun W hC hd R hR => ?_, ?_⟩; (clear hd; go_simp; exact hR _ _ (Below.refl _ _) rfl); (go_simp; refine hK _ ?_; clear hK K))
  (refine walkB_ex (fun K hK => ?_); refine ⟨fun W hC hd R hR => ?_, ?_⟩; (clear hd; go_simp; exact hR _ _ (Below.refl _ _) rfl); (go_simp; refine hK _ ?_; clear hK K))
  (refine walkB_ex (fun K hK => ?_); refine ⟨fun W hC hd R hR => ?_, ?_⟩; (clear hd; go_simp; exact hR _ _ (Below.refl _ _) rfl); (go_simp; refine hK _ ?_; clear hK K))
  (refine walkB_ex (fun K hK => ?_); refine ⟨fun W hC hd R hR => ?_, ?_⟩; (have hz := cell_kept' qM hC.2; clear hd; go_simp; exact hR _ _ (Below.refl _ _) rfl); (go_simp; refine hK _ ?_; clear hK K))
  (refine walkB_ex (fun K hK => ?_); refine ⟨fun W hC hd R hR => ?_, ?_⟩; (clear hd; go_simp; exact hR _ _ (Below.refl _ _) rfl); (go_simp; refine hK _ ?_; clear hK K))
  (refine walkB_ex (fun K hK => ?_); refine ⟨fun W hC hd R hR => ?_, ?_⟩; (clear hd; go_simp; exact hR _ _ (Below.refl _ _) rfl); (go_simp; refine hK _ ?_; clear hK K))
  (refine walkB_ex (fun K hK => ?_); refine ⟨fun W hC hd R hR => ?_, ?_⟩; (clear hd; go_simp; exact hR _ _ (Below.refl _ _) rfl); (go_simp; refine hK _ ?_; clear hK K))
  (refine walkB_ex (fun K hK => ?_); refine ⟨fun W hC hd R hR => ?_, ?_⟩; (clear hd; go_simp; exact hR _ _ (Below.refl _ _) rfl); (go_simp; refine hK _ ?_; clear hK K))
  (refine walkB_ex (fun K hK => ?_); refine ⟨fun W hC hd R hR => ?_, ?_⟩; (clear hd; go_simp; exact hR _ _ (Below.refl _ _) rfl); (go_simp; refine hK _ ?_; clear hK K))
  (refine walkB_ex (fun K hK => ?_); refine ⟨fun W hC hd R hR => ?_, ?_⟩; (clear hd; go_simp; exact hR _ _ (Below.refl _ _) rfl); (go_simp; refine hK _ ?_; clear hK K))
  (refine walkB_ex (fun K hK => ?_); refine ⟨fun W hC hd R hR => ?_, ?_⟩; (have hz := cell_kept' q0 hC.2; clear hd; go_simp; exact hR _ _ (Below.refl _ _) rfl); (go_simp; refine hK _ ?_; clear hK K))
  (refine walkB_ex (fun K hK => ?_); refine ⟨fun W hC hd R hR => ?_, ?_⟩; (clear hd; go_simp; exact hR _ _ (Below.refl _ _) rfl); (go_simp; refine hK _ ?_; clear hK K))
  (refine walkB_ex (fun K hK => ?_); refine ⟨fun W hC hd R hR => ?_, ?_⟩; (clear hd; go_simp; exact hR _ _ (Below.refl _ _) rfl); (go_simp; refine hK _ ?_; clear hK K))
  (refine walkB_ex (fun K hK => ?_); refine ⟨fun W hC hd R hR => ?_, ?_⟩; (clear hd; go_simp; exact hR _ _ (Below.refl _ _) rfl); (go_simp; refine hK _ ?_; clear hK K))
  (refine walkB_ex (fun K hK => ?_); refine ⟨fun W hC hd R hR => ?_, ?_⟩; (clear hd; go_simp; exact hR _ _ (Below.refl _ _) rfl); (go_simp; refine hK _ ?_; clear hK K))
  (refine walkB_ex (fun K hK => ?_); refine ⟨fun W hC hd R hR => ?_, ?_⟩; (clear hd; have HrW := Lib.hid (HrL.out.below hC.2); go_simp; go_at_call 33; refine (kcheck_any _ [zeroCell, C1, C2, zeroCell] _ _ HrW.out).mono ?_; rw [HcL.out]; rintro e w9 ⟨rfl, hb9⟩; exact ⟨_, rfl, hR _ _ hb9 rfl⟩); (go_simp; refine hK _ ?_; clear hK K))
  (refine walkB_ex (fun K hK => ?_); refine ⟨fun W hC hd R hR => ?_, ?_⟩; (clear hd; go_simp; exact hR _ _ (Below.refl _ _) rfl); (go_simp; refine hK _ ?_; clear hK K))
  (refine walkB_ex (fun K hK => ?_); refine ⟨fun W hC hd R hR => ?_, ?_⟩; (clear hd; go_simp; exact hR _ _ (Below.refl _ _) rfl); (go_simp; refine hK _ ?_; clear hK K))
  (refine walkB_ex (fun K hK => ?_); refine ⟨fun W hC hd R hR => ?_, ?_⟩; (clear hd; go_simp; exact hR _ _ (Below.refl _ _) rfl); (go_simp; refine hK _ ?_; clear hK K))
  (refine walkB_ex (fun K hK => ?_); refine ⟨fun W hC hd R hR => ?_, ?_⟩; (clear hd; go_simp; exact hR _ _ (Below.refl _ _) rfl); (go_simp; refine hK _ ?_; clear hK K))
  (refine walkB_ex (fun K hK => ?_); refine ⟨fun W hC hd R hR => ?_, ?_⟩; (clear hd; go_simp; exact hR _ _ (Below.refl _ _) rfl); (go_simp; refine hK _ ?_; clear hK K))
  (refine walkB_ex (fun K hK => ?_); refine ⟨fun W hC hd R hR => ?_, ?_⟩; (clear hd; have HrW := Lib.hid (cells_true (HrL.out.below hC.2)); go_simp; go_at_call 35; refine (keepsame_any _ _ [zeroCell, C1, C2, zeroCell] [zeroCell, C1, C2, zeroCell] _ HrW.out HrW.out).mono ?_; rw [decide_eq_true rfl]; rintro e w9 ⟨rfl, hb9⟩; exact ⟨_, rfl, hR _ _ hb9 rfl⟩); (go_simp; refine hK _ ?_; clear hK K))
  (refine walkB_ex (fun K hK => ?_); refine ⟨fun W hC hd R hR => ?_, ?_⟩; (clear hd; go_simp; exact hR _ _ (Below.refl _ _) rfl); (go_simp; refine hK _ ?_; clear hK K))
  (refine walkB_ex (fun K hK => ?_); refine ⟨fun W hC hd R hR => ?_, ?_⟩; (clear hd; go_simp; exact hR _ _ (Below.refl _ _) rfl); (go_simp; refine hK _ ?_; clear hK K))
  intro w7 hC _
  have HBf := Lib.hid (bel_call HB.out hC.2)
  clear hC
  go_wp2
  go_ret
  exact ⟨rfl, HBf.out⟩
end Go.Proofs.YtkiipnbjckdlbaaGreatDoor
namespace Go.Proofs.YtkiipnbjckdlbaaGreatDoor

theorem cellAt_of {l : List TCell} {k : Nat} {x : TCell} (h : l[k]? = some x) : cellAt l (k : Int) = x := by unfold cellAt; rw [Int.toNat_natCast, List.getD_eq_getElem?_getD, h]; rfl
theorem fork_cases {C : List TCell} (hm : ∀ s ∈ C, Means s) (hc : cellsE C = 0) {k j : Nat} (hk : k < 4) (hj : j < 4) {x y : TCell} (hx : C[k]? = some x) (hy : C[j]? = some y) :
    (x.open_ = true ∧ nextE C ⟨3, k, j, zeroPol⟩ = ([], 6)) ∨ (x.open_ = false ∧ y.open_ = false ∧ nextE C ⟨3, k, j, zeroPol⟩ = ([], 5)) ∨ (x.open_ = false ∧ y.open_ = true ∧ nextE C ⟨3, k, j, zeroPol⟩ = ([], 2)) ∨
    (x.open_ = false ∧ y.open_ = true ∧ j ≠ k ∧ filterE y.p = (filterL y.p, 0) ∧ codeE (filterL y.p) = 0 ∧ OkPol y.p ∧ chainE y.chain = 0 ∧ (∀ z : TCall, z.ok → asked y.chain z = says y.p z) ∧ nextE C ⟨3, k, j, zeroPol⟩ = (C.set k ⟨true, [filterL y.p], y.p⟩, 0) ∧
      nextE (C.set k ⟨true, [filterL y.p], y.p⟩) ⟨4, j, 0, zeroPol⟩ = ((C.set k ⟨true, [filterL y.p], y.p⟩).set j zeroCell, 0)) := by
  have hl := ((cellsE_iff C).1 hc).1
  have hr : recE ⟨3, k, j, zeroPol⟩ = 0 := by
    unfold recE
    dsimp only
    rw [if_neg (by omega), if_neg (by omega), if_neg (by simp [noPol, zeroPol]), if_pos (by omega)]
  have hxk := cellAt_of hx
  have hyj := cellAt_of hy
  have hN : nextE C ⟨3, k, j, zeroPol⟩ = if x.open_ = true then ([], 6) else if (nextCell C ⟨3, k, j, zeroPol⟩).2 ≠ 0 then ([], (nextCell C ⟨3, k, j, zeroPol⟩).2) else (C.set k (nextCell C ⟨3, k, j, zeroPol⟩).1, 0) := by
    unfold nextE
    rw [if_neg (by rw [hc]; simp), if_neg (by rw [hr]; simp)]
    dsimp only
    rw [hxk, Int.toNat_natCast]
    simp
  have hC : nextCell C ⟨3, k, j, zeroPol⟩ = if y.open_ then beginE y.p else (zeroCell, 5) := by
    unfold nextCell
    dsimp only
    rw [if_pos rfl, hyj]
  cases ho : x.open_ with
  | true => exact .inl ⟨rfl, by rw [hN, ho]; rfl⟩
  | false =>
    rw [ho, if_neg (by simp)] at hN
    cases hp : y.open_ with
    | false => exact .inr (.inl ⟨rfl, rfl, by rw [hN, hC, hp]; simp⟩)
    | true =>
      rw [hp, if_pos rfl] at hC
      obtain ⟨hok, hch, _, hsay⟩ := hm y (List.mem_of_getElem? hy) hp
      by_cases hb : (filterE y.p).2 = 0
      · obtain ⟨_, hf, hcd, _⟩ := filterE_ok hb
        have hB : beginE y.p = (⟨true, [filterL y.p], y.p⟩, 0) := by unfold beginE; rw [hf]; simp
        have hjk : j ≠ k := fun e => by
          subst e
          rw [hx] at hy
          obtain rfl := Option.some.inj hy
          rw [ho] at hp; cases hp
        have hN1 : nextE C ⟨3, k, j, zeroPol⟩ = (C.set k ⟨true, [filterL y.p], y.p⟩, 0) := by rw [hN, hC, hB]; simp
        refine .inr (.inr (.inr ⟨rfl, rfl, hjk, hf, hcd, hok, hch, hsay, hN1, ?_⟩))
        have hall := means_all (l := C) (r := ⟨3, k, j, zeroPol⟩) (by rw [hN1]) hm
        rw [hN1] at hall
        have hr4 : recE ⟨4, j, 0, zeroPol⟩ = 0 := by
          unfold recE
          dsimp only
          rw [if_neg (by omega), if_neg (by omega), if_neg (by simp [noPol, zeroPol]), if_pos (by omega)]
        have hyD : (C.set k (⟨true, [filterL y.p], y.p⟩ : TCell))[j]? = some y := by rw [List.getElem?_set_ne (Ne.symm hjk)]; exact hy
        unfold nextE
        dsimp only at hall
        rw [if_neg (by rw [hall.2]; simp), if_neg (by rw [hr4]; simp)]
        dsimp only
        rw [cellAt_of hyD, hp, if_neg (by simp), Int.toNat_natCast]
        have hz : nextCell (C.set k ⟨true, [filterL y.p], y.p⟩) ⟨4, j, 0, zeroPol⟩ = (zeroCell, 0) := by
          unfold nextCell
          dsimp only
          rw [if_neg (by omega), if_neg (by omega), if_neg (by omega)]
        rw [hz]
        simp
      · have hb2 : (filterE y.p).2 = 2 := by
          unfold filterE at hb ⊢
          rw [if_neg (by rw [(okPol_iff y.p).2 hok]; simp)] at hb ⊢
          split at hb
          · rename_i h; rw [if_pos h]
          · exact absurd rfl hb
        have hB : beginE y.p = (zeroCell, 2) := by unfold beginE; rw [hb2]; simp
        exact .inr (.inr (.inl ⟨rfl, rfl, by rw [hN, hC, hB]; simp⟩))
end Go.Proofs.YtkiipnbjckdlbaaGreatDoor
